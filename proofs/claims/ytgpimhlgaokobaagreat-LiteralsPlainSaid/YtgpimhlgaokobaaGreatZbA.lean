/- Parts of the proof of LiteralsPlain: merged and given short names by a program of ours. -/
import Derived.Orders
import Derived.Below
import Derived.KernelRfl
import Derived.Eval
import Derived.RangeFuncRecord
import Derived.Laws.Sem
import Derived.Scope
import Derived.Test.YtgpimhlgaokobaaGreatRows
set_option linter.unusedVariables false
set_option linter.unusedSimpArgs false
open Array renaming getElem?_eq_getElem → aL3, getD_eq_getD_getElem? → aLI, all_eq_true' → aMF, length_toList → aMJ, getElem?_eq_none → aMY, getElem?_setIfInBounds_self_of_lt → aMn, getElem?_setIfInBounds_ne → aMs, mem_of_getElem? → aNT
open Bool renaming and_eq_true → aLJ, not_true → aLL, false_eq_true → aLu, or_eq_true → aML, not_eq_true' → aMU, or_eq_false_iff → aNk
open List renaming drop_eq_getElem_cons → aL2, length_eq_zero_iff → aL4, map_congr_left → aL7, mem_range → aL8, getElem?_eq_getElem → aLA, getD_eq_getElem?_getD → aLE, getElem?_eq_none → aLH, length_cons → aLP, mem_cons_of_mem → aLQ, getElem?_cons_succ → aLr, mem_cons_self → aM5, mem_map → aMD, map_cons → aME, mem_append_left → aMG, getElem_of_mem → aMX, mem_append → aMb, mem_cons → aMl, all_eq_true → aMw, mem_of_getElem? → aMz, mem_filter → aNH, length_erase_of_mem → aNL, map_nil → aNM, mem_append_right → aNw
open Nat renaming le_refl → aLF, lt_or_ge → aLO, zero_add → aLt, add_assoc → aM1, lt_of_lt_of_le → aM4, le_of_ble_eq_true → aM6, eq_of_beq_eq_true → aMe, le_trans → aMy, lt_trichotomy → aNQ, blt_eq → aNs, mod_lt → aNt
open Option renaming map_some → aMh, getD_some → aNz
open Option.some renaming inj → aLT
namespace Go.En
open Go
abbrev aNX := World
abbrev aNY := Value
abbrev Env := Nat -> aNY
def put (g : Env) (d : Option Tmp) (v : aNY) : Env :=
 match d with
 | some d => fun i => match Nat.beq i d with | true => v | false => g i
 | none => g
def ev (g : Env) : Operand -> aNY
 | .tmp t => g t
 | .const v => v
 | .global b => .pointer (some ⟨b, 0, none⟩)
 | .func f => .func (.func f) #[] #[]
def Ret (P : Program) (f : FuncId) (args : Array aNY) (w : aNX) (v : aNY) (w' : aNX) : Prop :=
 Calls P f args w fun e w'' => e = .returned v /\ w'' = w'
def aS (P : Program) (f : FuncId) (args : Array aNY) (w : aNX) (R : aNY -> aNX -> Prop) : Prop :=
 ∃ v w', Ret P f args w v w' /\ R v w'
theorem aS.mono {P : Program} {f : FuncId} {args : Array aNY} {w : aNX} {R R' : aNY -> aNX -> Prop} (h : aS P f args w R)
 (hr : ∀ v w', R v w' -> R' v w') : aS P f args w R' :=
 let ⟨v, w', a, b⟩ := h; ⟨v, w', a, hr _ _ b⟩
def aKy (P : Program) (l : Nat) (f : FuncId) (tmps : Array aNY) (aLp bd : Code) (w : aNX) (v : aNY) (w' : aNX) : Prop :=
 RoundIn Fence.wide 0 P l f tmps aLp bd w fun e w'' => e = .returned v /\ w'' = w'
def aBn (P : Program) (l : Nat) (f : FuncId) (tmps : Array aNY) (aLp bd : Code) (w : aNX) (R : aNY -> aNX -> Prop) : Prop :=
 ∃ v w', aKy P l f tmps aLp bd w v w' /\ R v w'
def aFc (P : Program) (r : Result Next) (K : aNY -> aNX -> Prop) : Prop :=
 match r with
 | .ok (.value v) w => K v w
 | .ok .skip w => K undef w
 | .ok (.enter f args) w => aS P f args w K
 | .ok (.round l f tmps aLp bd) w => aBn P l f tmps aLp bd w K
 | _ => False
theorem aA (P : Program) (v : aNY) (w : aNX) (K : aNY -> aNX -> Prop) : aFc P (.ok (.value v) w) K = K v w := Eq.trans rfl rfl
theorem stepR_skip (P : Program) (w : aNX) (K : aNY -> aNX -> Prop) : aFc P (.ok .skip w) K = K undef w := Eq.trans rfl rfl
theorem aCJ (P : Program) (l : Nat) (f : FuncId) (tmps : Array aNY) (aLp bd : Code) (w : aNX) (K : aNY -> aNX -> Prop) :
 aFc P (.ok (.round l f tmps aLp bd) w) K = aBn P l f tmps aLp bd w K := Eq.trans rfl rfl
def aD (P : Program) (s : Sem Next) (w : aNX) (K : aNY -> aNX -> Prop) : Prop := aFc P (s.run P w) K
def jH (P : Program) (s : Sem Next) (v : aNY) (w : aNX) : Prop := s.run P w = .ok (.value v) w
def Gd (b : Bool) (s : (aNY -> aNX -> Prop) -> Prop) (w : aNX) (K : aNY -> aNX -> Prop) : Prop :=
 match b with
 | true => s K
 | false => K undef w
def asB (v : aNY) : Option Bool := match v with | .bool b => some b | _ => none
def gQ (v : aNY) (want : Bool) : Bool := asB v == some want
def gU (v : aNY) (A B : Prop) : Prop :=
 match v with
 | .bool b => (match b with | true => A | false => B)
 | _ => False
def Hy (ops : Array Oper) (j : Nat) : Option Tmp := (ops[j]?).bind (·.dst)
def C7 (g : Env) (t : Option Tmp) (want : Bool) : Bool := match t with | some t => gQ (g t) want | none => false
def V (s : Sem aNY) : Sem Next := do pure (.value (<- s))
def U (s : Sem Unit) : Sem Next := do s; pure .skip
def MK (op : BinOp) : Bool := match op with | .eql | .neq => true | _ => false
def aI (op : BinOp) (t : TypeId) (ox oy : Operand) (x y : aNY) : Sem Next :=
 match MK op with
 | true => V (do eqGuard op t ox oy x y; binOp op t x y)
 | false => V (binOp op t x y)
def lI (b : Builtin) (ats : Array TypeId) (ty : TypeId) (args : List aNY) : Sem Next := builtin b ats ty #[] args.toArray
def Oy (f : aNY) (args : List aNY) : Sem Next := do let d <- Deferred.ofValue f args.toArray; invoke d.target d.args
def aDu (fn : Fn) (first captured : List aNY) : Sem Next := V (Instr.makeFunc fn first.toArray captured.toArray)
def fX (t : TypeId) (ps : List (Nat × aNY)) : Sem Next := V (Instr.build t ps.toArray)
def cU (t : TypeId) (n : Nat) (ps : List (Nat × aNY)) : Sem Next := V (Instr.buildSlice t n ps.toArray)
def SB (g : Env) (o : Oper) : Sem Next :=
 match o.op with
 | .binOp op t x y _ => aI op t x y (ev g x) (ev g y)
 | .makeFunc fn first captured => aDu fn (first.toList.map (ev g)) (captured.toList.map (ev g))
 | .build t ps => fX t (ps.toList.map fun p => (p.1, ev g p.2))
 | .buildSlice t n ps => cU t n (ps.toList.map fun p => (p.1, ev g p.2))
 | .call c => (match c.callee with
   | .builtin b => lI b c.argTypes o.type (c.args.toList.map (ev g))
   | .value f => Oy (ev g f) (c.args.toList.map (ev g))
   | _ => execOp (ev g) o)
 | _ => execOp (ev g) o
def Qc (P : Program) (g : Env) (o : Oper) (w : aNX) (K : aNY -> aNX -> Prop) : Prop :=
 match o.op with
 | .move x => K (ev g x) w
 | .assign x => K (ev g x) w
 | .call c => (match c.callee with
   | .value (.func f) => aS P f (c.args.toList.map (ev g)).toArray w K
   | _ => aD P (SB g o) w K)
 | _ => aD P (SB g o) w K
def OQ (P : Program) (ops : Array Oper) (g : Env) (o : Oper) (w : aNX) (K : aNY -> aNX -> Prop) : Prop :=
 match o.guard with
 | none => Qc P g o w K
 | some (j, want) => Gd (C7 g (Hy ops j) want) (Qc P g o w) w K
def awX (P : Program) (ops : Array Oper) : List Oper -> Env -> aNX -> (Env -> aNX -> Prop) -> Prop
 | [], g, w, K => K g w
 | o :: rest, g, w, K => OQ P ops g o w fun v w' => awX P ops rest (put g o.dst v) w' K
structure Rec where
 heavy : Bool
 o : Oper
 g : Env
 w : aNX
 v : aNY
def gOf (ops : Array Oper) (o : Oper) (g : Env) : Bool := match o.guard with | none => true | some (j, want) => C7 g (Hy ops j) want
def Gs (b : Bool) (p : Prop) : Prop := match b with | true => p | false => True
def abI (P : Program) (ops : Array Oper) (q : Rec) (o : Oper) (g : Env) (w' : aNX) (v : aNY) : Prop :=
 match q.heavy with
 | true => Gs (gOf ops o g) (jH P (SB g o) v q.w)
 | false => Gs (gOf ops q.o q.g) (jH P (SB q.g q.o) q.v w')
def awZ (i j : Nat) : List (Nat × Nat) -> Bool
 | [] => false
 | (a, b) :: r => match Nat.beq a i with
   | true => (match Nat.beq b j with | true => true | false => awZ i j r)
   | false => awZ i j r
def wD (i : Nat) : List Nat -> Bool
 | [] => false
 | a :: r => match Nat.beq a i with | true => true | false => wD i r
def aC9 : List Rec -> Nat -> Option Rec
 | [], _ => none
 | q :: _, 0 => some q
 | _ :: r, n + 1 => aC9 r n
def aJe (P : Program) (ops : Array Oper) (o : Oper) (g : Env) (w' : aNX) (v : aNY) (hist : List Rec) : List Nat -> Prop
 | [] => True
 | k :: ks => (match aC9 hist k with
   | some q => abI P ops q o g w' v
   | none => False) /\ aJe P ops o g w' v hist ks
abbrev Ann := List Nat × List (Nat × Nat)
abbrev aDE := List (Bool × List Nat)
def xN (P : Program) (ops : Array Oper) : List Oper -> aDE -> List Rec -> Env -> aNX -> (Env -> aNX -> Prop) -> Prop
 | [], _, _, g, w, K => K g w
 | _ :: _, [], _, _, _, _ => False
 | o :: rest, (hv, ks) :: pl, hist, g, w, K =>
   OQ P ops g o w fun v w' =>
    match hv, ks with
    | true, [] => xN P ops rest pl (⟨true, o, g, w, v⟩ :: hist) (put g o.dst v) w' K
    | true, k :: ks => aJe P ops o g w' v hist (k :: ks) /\ xN P ops rest pl (⟨true, o, g, w, v⟩ :: hist) (put g o.dst v) w' K
    | false, [] => w' = w /\ xN P ops rest pl (⟨false, o, g, w, v⟩ :: hist) (put g o.dst v) w K
    | false, k :: ks => w' = w /\ aJe P ops o g w v hist (k :: ks) /\ xN P ops rest pl (⟨false, o, g, w, v⟩ :: hist) (put g o.dst v) w K
def cR {α : Type} (F : (α -> aNX -> Prop) -> α -> aNX -> Prop) (g : α) (w : aNX) : Prop :=
 ∃ I : Nat -> α -> aNX -> Prop, (∃ n, I n g w) /\ ∀ n g w, I n g w -> F (fun g' w' => ∃ m, m < n /\ I m g' w') g w
def EB (K : Env -> aNX -> Prop) (Q : Exit -> Env -> aNX -> Prop) : Exit -> Env -> aNX -> Prop :=
 fun e g w => (fun (_ : Program -> Sem Next -> aNX -> (aNY -> aNX -> Prop) -> Prop) => match e with | .normal => K g w | e => Q e g w) aD
def blk (id : Nat) (Q : Exit -> Env -> aNX -> Prop) : Exit -> Env -> aNX -> Prop :=
 fun e g w => (fun (_ : Program -> Sem Next -> aNX -> (aNY -> aNX -> Prop) -> Prop) => match e with | .exit i => (match Nat.beq i id with | true => Q .normal g w | false => Q (.exit i) g w) | e => Q e g w) aD
inductive HT where
 | leaf (an : Ann) (pl : aDE)
 | perm (π : List Nat) (es : List (Nat × Nat)) (an : Ann) (pl : aDE)
 | split (a b : Nat) (x y : HT)
structure FA where
 f : FuncId
 t : Nat -> HT
def Bt : List Nat -> Nat -> Nat
 | [], _ => 0
 | a :: r, i => match Nat.beq a i with | true => 0 | false => Bt r i + 1
def MO (π : List Nat) (i : Nat) : List (Nat × Nat) -> List Edge
 | [] => []
 | (a, b) :: r => match Nat.beq b i with | true => ⟨Bt π a, .data⟩ :: MO π i r | false => MO π i r
def RY (π : List Nat) (es : List (Nat × Nat)) (i : Nat) (o : Oper) : Oper :=
 { dst := o.dst, op := o.op, type := o.type, pos := o.pos, after := (o.after.toList.map (fun e => (⟨Bt π e.on, e.ground⟩ : Edge)) ++ MO π i es).toArray,
   guard := match o.guard with | none => none | some (j, b) => some (Bt π j, b) }
def ajI (π : List Nat) (es : List (Nat × Nat)) (l : List Oper) : List Nat -> List Oper
 | [] => []
 | i :: r => match l[i]? with | some o => RY π es i o :: ajI π es l r | none => ajI π es l r
def vX (π : List Nat) (es : List (Nat × Nat)) (ops : Array Oper) : Array Oper := (ajI π es ops.toList π).toArray
def aIr (f : FuncId) (id : Nat) (ops : Array Oper) (a b : Nat) (w : aNX) : Bool :=
 Nat.ble ((Region.schedule true ops (w.tape w.drawn (.order f id))).idxOf a) ((Region.schedule true ops (w.tape w.drawn (.order f id))).idxOf b)
def Ord (b : Bool) (A B : Prop) : Prop := match b with | true => A | false => B
def aDC (P : Program) (f : FuncId) (id : Nat) (ops : Array Oper) : HT -> Env -> aNX -> aNX -> (Env -> aNX -> Prop) -> Prop
 | .leaf _ pl, g, _, w, K => xN P ops ops.toList pl [] g w K
 | .perm π es _ pl, g, _, w, K => xN P (vX π es ops) (vX π es ops).toList pl [] g w K
 | .split a b x y, g, w0, w, K => Ord (aIr f id ops a b w0) (aDC P f id ops x g w0 w K) (aDC P f id ops y g w0 w K)
def DS : Nat := 1000003
def aC0 : aNY -> List Deferred
 | .pointer (some a) => [{ target := .collected a.block, args := #[] }]
 | _ => []
def noMark : aNY -> Bool
 | .pointer _ => false
 | _ => true
def tmpsOf (N : Nat) (g : Env) : Array aNY := Array.ofFn (n := N) fun i => g i.val
def anU (P : Program) (f : FuncId) : Nat := match P.funcs[f]? with | some fn => fn.ntmps | none => 0
def aJU (Q : Exit -> Env -> aNX -> Prop) (g : Env) : Option Code -> aNX -> Prop
 | none, w => Q .normal g w
 | some .ret, w => Q .ret g w
 | some (.exit i), w => Q (.exit i) g w
 | _, _ => False
def aH2 (l : Nat) (Q : Exit -> Env -> aNX -> Prop) (g : Env) (w : aNX) : Prop :=
 ∃ r : Loop, w.heap[l]? = some (.loop r) /\ r.state ≠ .busy /\ aJU Q g r.pending (w.putObj l (.loop { r with state := .exhausted }))
def rfW (f : FuncId) (N : Nat) (ps : Array Tmp) (aLp bd : Code) (g : Env) (w : aNX) : aNX :=
 (w.alloc (.deferred (some []))).alloc (.loop { state := .ready, pending := none, fn := f, tmps := tmpsOf N g, params := ps, assign := aLp, body := bd, defers := w.heap.size })
def aKv (P : Program) (r : Result Next) (K : aNY -> aNX -> Prop) : Prop :=
 match r with
 | .ok (.enter f args) w => aS P f args w K
 | _ => False
def NZ (l : Nat) : aNY := .func (.yield l) #[] #[]
def RF (P : Program) (f : FuncId) (gf : Operand) (ps : Array Tmp) (aLp bd : Code) (Q : Exit -> Env -> aNX -> Prop) (g : Env) (w : aNX) : Prop :=
 match noMark (g DS) with
 | true => aKv P ((Oy (ev g gf) [NZ (w.heap.size + 1)]).run P (rfW f (anU P f) ps aLp bd g w)) fun _ w3 =>
  aH2 (w.heap.size + 1) Q (put g (some DS) (.pointer (some ⟨w.heap.size, 0, none⟩))) w3
 | false => False
def bD (P : Program) (ann : FA) : Code -> (Exit -> Env -> aNX -> Prop) -> Env -> aNX -> Prop
 | .skip, Q, g, w => Q .normal g w
 | .region id ops draw, Q, g, w => match draw with
   | false => awX P ops ops.toList g w (Q .normal)
   | true => aDC P ann.f id ops (ann.t id) g w { w with drawn := w.drawn + 1 } (Q .normal)
 | .seq x y, Q, g, w => bD P ann x (EB (fun g w => bD P ann y Q g w) Q) g w
 | .cond c x y, Q, g, w => gU (ev g c) (bD P ann x Q g w) (bD P ann y Q g w)
 | .block id c, Q, g, w => bD P ann c (blk id Q) g w
 | .loop c, Q, g, w => cR (fun X g w => bD P ann c (EB X Q) g w) g w
 | .scope c, Q, g, w => bD P ann c Q g w
 | .label _, Q, g, w => Q .normal g w
 | .exit id, Q, g, w => Q (.exit id) g w
 | .ret, Q, g, w => Q .ret g w
 | .rangeFunc gf ps aLp bd, Q, g, w => RF P ann.f gf ps aLp bd Q g w
 | _, _, _, _ => False
def aE9 (N : Nat) (o : Oper) : Bool := match o.dst with | some d => Nat.blt d N | none => true
def bef (b : Array Nat) (i j : Nat) : Bool := (b.getD j 0).testBit i
def looks (ops : Array Oper) (o : Oper) : List Tmp :=
 (o.op.operands.toList.filterMap fun | .tmp t => some t | _ => none) ++ (match o.guard with | some (j, _) => (Hy ops j).toList | none => [])
def aGR (ops : Array Oper) (x y : Oper) : Bool :=
 (match x.dst with | some d => (looks ops y).contains d || y.dst == some d | none => false) ||
 (match y.dst with | some d => (looks ops x).contains d | none => false)
def arU (o : Oper) : Bool := match o.op with | .select .. => true | _ => false
def aHV (o : Oper) : Bool := match o.op with | .call { callee := .value (.func _), .. } => true | _ => false
def aAU (o : Oper) : Bool := match o.op with | .defer .. => true | _ => false
def aA4 : Operand -> Bool | .tmp t => Nat.blt t DS | _ => true
def awC (P : Program) (o : Oper) : Bool :=
 match o.op with
 | .call c => (match c.callee with
   | .value (.func f) => (match P.funcs[f]? with | some fn => fn.body.isSome && !(fn.name == "runtime.NumGoroutine") | none => false)
   | .builtin b => (match b with | .print | .println => false | _ => true)
   | _ => true)
 | _ => true
def FP (P : Program) (o : Oper) : Bool := awC P o && (o.op.operands.toList.all aA4 && (!arU o && !aAU o))
def TV (o : Oper) : Bool := match o.op with | .move _ | .assign _ => true | _ => false
def W5 (ops : Array Oper) (b : Array Nat) (an : Ann) (i j : Nat) (x y : Oper) : Bool :=
 bef b i j ||
 (!aGR ops x y &&
   match wD i an.1, wD j an.1 with
   | true, true => false
   | false, false => true
   | true, false => TV y || awZ i j an.2
   | false, true => TV x || awZ i j an.2)
def aDl (ops : Array Oper) (b : Array Nat) (an : Ann) : Bool :=
 (List.range ops.size).all fun j => (List.range j).all fun i =>
  match ops[i]?, ops[j]? with
  | some x, some y => W5 ops b an i j x y
  | _, _ => false
def aAH (ops : Array Oper) : Bool :=
 (List.range ops.size).all fun i => match ops[i]? with
  | some o => o.after.all fun e => !Region.binds .any e || Nat.blt e.on i
  | none => false
def aAD (ops : Array Oper) (b : Array Nat) : Bool :=
 (List.range ops.size).all fun j => (List.range ops.size).all fun i =>
  !bef b i j || (match ops[j]? with
   | some o => o.after.any fun e => Region.binds .any e && (Nat.beq e.on i || bef b i e.on)
   | none => false)
def axD (ops : Array Oper) (an : Ann) : Bool :=
 aAH ops && aAD ops (Region.before ops) && aDl ops (Region.before ops) an && (ops.all fun o => !arU o) &&
  (List.range ops.size).all fun i => match ops[i]? with | some o => !aHV o || wD i an.1 | none => false
def azV (n : Nat) (an : Ann) (pl : aDE) : Bool :=
 (List.range n).all fun i => match pl[i]? with
  | some (h, ks) => h == wD i an.1 && an.2.all fun p => !Nat.beq p.2 i || (Nat.blt p.1 i && ks.contains (i - 1 - p.1))
  | none => false
def aEe (π : List Nat) (ops : Array Oper) : Bool :=
 Nat.beq π.length ops.size && ((List.range ops.size).all fun k => match π[k]? with | some i => Nat.beq (Bt π i) k && Nat.blt i ops.size | none => false) &&
  ((List.range ops.size).all fun i => match π[Bt π i]? with | some j => Nat.beq j i | none => false) &&
  ((List.range ops.size).all fun i => match ops[i]? with
    | some o => (o.after.all fun e => Nat.blt e.on ops.size) && (match o.guard with | some (j, _) => Nat.blt j ops.size | none => true)
    | none => false)
def adW (P : Program) (N : Nat) (ops : Array Oper) : List (Nat × Nat) -> HT -> Bool
 | _, .leaf an pl => axD ops an && azV ops.size an pl
 | path, .perm π es an pl => (es.all fun p => awZ p.1 p.2 path && Nat.blt p.1 ops.size) && aEe π ops && (vX π es ops).all (aE9 N) && (vX π es ops).all (FP P) &&
  axD (vX π es ops) an && azV (vX π es ops).size an pl
 | path, .split a b x y => !Nat.beq a b && adW P N ops ((a, b) :: path) x && adW P N ops ((b, a) :: path) y
def codeOk (P : Program) (N : Nat) (ann : FA) : Code -> Bool
 | .skip | .exit _ | .ret | .label _ => true
 | .scope c => codeOk P N ann c
 | .region id ops draw => ops.all (aE9 N) && ops.all (FP P) && (!draw || adW P N ops [] (ann.t id))
 | .seq x y => codeOk P N ann x && codeOk P N ann y
 | .cond c x y => aA4 c && (codeOk P N ann x && codeOk P N ann y)
 | .block _ c => codeOk P N ann c
 | .loop c => codeOk P N ann c
 | .rangeFunc gf _ _ _ => aA4 gf
 | _ => false
def yU : Code -> Bool
 | .seq x y => yU x && yU y
 | .cond _ x y => yU x && yU y
 | .block _ c => yU c
 | .loop c => yU c
 | .scope c => yU c
 | .rangeFunc .. => false
 | _ => true
def aAJ : ResultVar -> Bool
 | .tmp t => Nat.blt t DS
 | .cell a _ => Nat.blt a DS
theorem Sz (g : Env) (d i : Nat) (v : aNY) : put g (some d) v i = if i = d then v else g i := by
 unfold put
 by_cases h : i = d
 .subst h; simp
 .have : Nat.beq i d = false := by
   cases hb : Nat.beq i d
   .rfl
   .exact absurd (aMe hb) h
  simp [this, h]
theorem aCu {P : Program} {o : Oper} (h : FP P o = true) : awC P o = true := by
 unfold FP at h; simp only [aLJ] at h; exact h.1
theorem aD9 {P : Program} {o : Oper} (h : FP P o = true) : ∀ x ∈ o.op.operands, aA4 x = true := by
 unfold FP at h; simp only [aLJ] at h
 intro x hx
 exact aMw.1 h.2.1 x (by simpa using hx)
theorem aEm {P : Program} {o : Oper} (h : FP P o = true) : arU o = false := by
 unfold FP at h; simp only [aLJ, aMU] at h; exact h.2.2.1
theorem aD6 {P : Program} {o : Oper} (h : FP P o = true) : aAU o = false := by
 unfold FP at h; simp only [aLJ, aMU] at h; exact h.2.2.2
def abF (N : Nat) (ops : Array Oper) : Prop := ∀ (i : Nat) (o : Oper), ops[i]? = some o -> ∀ t, o.dst = some t -> t < N
structure VZ (N : Nat) (g : Env) (a : Act) : Prop where
 le : N <= DS
 defers : a.defers = aC0 (g DS)
 size : a.tmps.size = N
 at_ : ∀ i, i ≠ DS -> a.tmps.getD i undef = g i
theorem VZ.ev {N : Nat} {g : Env} {a : Act} (h : VZ N g a) (x : Operand) (hx : aA4 x = true) : a.eval x = ev g x := by
 cases x with
 | tmp t =>
   have : t < DS := (aNs (x := t) (y := DS)) ▸ hx
   have e := h.at_ t (Nat.ne_of_lt this)
   simp [Act.eval, En.ev, <- e]
 | _ => simp [Act.eval, En.ev]
theorem VZ.put {N : Nat} {g : Env} {a : Act} (h : VZ N g a) (d : Option Tmp) (v : aNY) (hd : ∀ t, d = some t -> t < N) :
 VZ N (put g d v) (a.put d v) := by
 cases d with
 | none => exact h
 | some t =>
   obtain ⟨h0, h1, h2, h3⟩ := h
   have ht := hd t rfl
   refine ⟨h0, ?_, by simp [Act.put, h2], fun i hne => ?_⟩
   .rw [Sz, if_neg (Nat.ne_of_gt (aM4 ht h0))]; exact h1
   .rw [Sz, <- h3 i hne]
    by_cases hi : i = t
    .subst hi; simp [Act.put, h2, ht]
    .have hi' : t ≠ i := fun e => hi e.symm
     simp [Act.put, hi, aMs hi']
theorem VZ.wanted {N : Nat} {g : Env} {a : Act} (h : VZ N g a) (ops : Array Oper) (hd : abF N ops) (o : Oper) :
 Region.wanted o (yielded ops a.tmps) = match o.guard with | none => true | some (j, want) => C7 g (Hy ops j) want := by
 unfold Region.wanted
 cases o.guard with
 | none => rfl
 | some p =>
   obtain ⟨j, want⟩ := p
   simp only [yielded, C7, Hy]
   cases ho : ops[j]? with
   | none => simp
   | some o' =>
     cases hdd : o'.dst with
     | none => simp [hdd]
     | some t =>
       have hlt := hd j o' ho t hdd
       have hle := h.le
       have h3 := h.at_ t (Nat.ne_of_lt (aM4 hlt hle))
       simp only [hdd, Option.bind_some, gQ, asB, <- h3]
       simp only [aLI]
       cases ht : a.tmps[t]? with
       | none => simp [undef]
       | some v => cases v <;> simp
def upX (P : Program) (o : Oper) (a : Act) (next : Act -> aNX -> Prop) : Result Next -> Prop
 | .ok (.value v) w' => next (a.put o.dst v) w'
 | .ok .skip w' => next (a.put o.dst undef) w'
 | .ok (.enter f args) w' => ∃ v w'', Ret P f args w' v w'' /\ next (a.put o.dst v) w''
 | .ok (.round l f tmps aLp bd) w' => ∃ v w'', aKy P l f tmps aLp bd w' v w'' /\ next (a.put o.dst v) w''
 | _ => False
def aEQ (P : Program) (o : Oper) (a : Act) (w : aNX) (next : Act -> aNX -> Prop) : Prop := aAU o = false /\ upX P o a next ((execOp a.eval o).run P w)
def Xt (P : Program) (ops : Array Oper) (i : Nat) (K : Act -> aNX -> Prop) (a : Act) (w : aNX) : Prop :=
 match ops[i]? with
 | none => K a w
 | some o => if Region.wanted o (yielded ops a.tmps) then aEQ P o a w K else K (a.put o.dst undef) w
def HY (P : Program) (ops : Array Oper) (Q : Act -> aNX -> Prop) : List Nat -> Act -> aNX -> Prop
 | [], a, w => Q a w
 | i :: rest, a, w => Xt P ops i (HY P ops Q rest) a w
def ayW (P : Program) (ops : Array Oper) (Q : Act -> aNX -> Prop) : Nat -> Array Bool -> Act -> aNX -> Prop
 | 0, listed, a, w => Region.ready .any ops listed = [] /\ Q a w
 | fuel + 1, listed, a, w =>
   (Region.ready .any ops listed = [] -> Q a w) /\ ∀ i ∈ Region.ready .any ops listed, Xt P ops i (ayW P ops Q fuel (listed.setIfInBounds i true)) a w
theorem aAL {P : Program} {o : Oper} {a : Act} {w : aNX} {K K' : Act -> aNX -> Prop} (h : ∀ a w, K a w -> K' a w) (hh : aEQ P o a w K) : aEQ P o a w K' := by
 refine ⟨hh.1, ?_⟩
 have hh := hh.2
 generalize (execOp a.eval o).run P w = r at *
 cases r with
 | ok x w' =>
   cases x <;> simp only [upX] at hh ⊢ <;> first | exact h _ _ hh | (obtain ⟨v, w'', h1, h2⟩ := hh; exact ⟨v, w'', h1, h _ _ h2⟩) | exact hh
 | halt x w' => exact hh.elim
theorem aEJ {P : Program} {ops : Array Oper} {i : Nat} {a : Act} {w : aNX} {K K' : Act -> aNX -> Prop} (h : ∀ a w, K a w -> K' a w) (hh : Xt P ops i K a w) : Xt P ops i K' a w := by
 unfold Xt at *
 split
 .exact h _ _ (by simpa [*] using hh)
 .rename_i o ho
  simp only [ho] at hh
  split
  .rename_i hw; simp only [hw, if_true] at hh; exact aAL h hh
  .rename_i hw; simp only [hw] at hh; exact h _ _ hh
def aAa (ro : Option Nat) : Fence := { Fence.wide with round := ro }
theorem aFZ {P : Program} {ops : Array Oper} {Q : Act -> aNX -> Prop} (ro : Option Nat) : ∀ (L : List Nat) (a : Act) (w : aNX), HY P ops Q L a w →
 wpOpsIn (aAa ro) 0 P ops (fun e a w => e = .normal /\ Q a w) L a w := by
 intro L
 induction L with
 | nil => intro a w h; exact ⟨rfl, h⟩
 | cons i L ih =>
   intro a w h
   simp only [HY, Xt] at h
   simp only [wpOpsIn]
   cases ho : ops[i]? with
   | none => rw [ho] at h; exact ih _ _ h
   | some o =>
     rw [ho] at h
     simp only at h ⊢
     by_cases hw : Region.wanted o (yielded ops a.tmps) = true
     .rw [if_pos hw] at h ⊢
      obtain ⟨hd, h⟩ := h
      refine ⟨fun _ _ => trivial, ?_⟩
      rw [Oper.semAt_eq _ _ _ (fun c hc => by simp [aAU, hc] at hd)]
      generalize (execOp a.eval o).run P w = r at *
      cases r with
      | halt x w' => exact h.elim
      | ok x w' =>
        cases x <;> simp only [upX] at h <;> simp only [Oper.uponIn] <;> try (exact h.elim)
        .exact ih _ _ h
        .exact ih _ _ h
        .obtain ⟨v, w'', h1, h2⟩ := h
         refine ⟨fun hn => by simp [aAa, Fence.wide] at hn, ?_⟩
         have := callsIn_wide (n := 0).2 h1
         refine CallsIn.mono (F := aAa ro) (n := 0) this ?_
         rintro e w3 ⟨rfl, rfl⟩
         exact ih _ _ h2
        .obtain ⟨v, w'', h1, h2⟩ := h
         refine ⟨fun hn => by simp [aAa, Fence.wide] at hn, ?_⟩
         refine RoundIn.mono (F := aAa ro) (n := 0) h1 ?_
         rintro e w3 ⟨rfl, rfl⟩
         exact ih _ _ h2
     .rw [if_neg hw] at h ⊢
      exact ⟨fun _ _ => trivial, ih _ _ h⟩
section
variable {P : Program} {ops : Array Oper}
def asR (P : Program) (ops : Array Oper) (g : Env) (o : Oper) (w : aNX) (v : aNY) (w' : aNX) : Prop :=
 ∀ K : aNY -> aNX -> Prop, K v w' -> OQ P ops g o w K
theorem aE2 {s : Sem Next} {w : aNX} {K : aNY -> aNX -> Prop} (h : aD P s w K) :
 ∃ v w', (∀ K' : aNY -> aNX -> Prop, K' v w' -> aD P s w K') /\ K v w' := by
 unfold aD at *
 generalize s.run P w = r at *
 match r, h with
 | .ok (.value v) w1, h => exact ⟨v, w1, fun _ h' => h', h⟩
 | .ok .skip w1, h => exact ⟨undef, w1, fun _ h' => h', h⟩
 | .ok (.enter f args) w1, h =>
   obtain ⟨v, w', hr, hk⟩ := h
   exact ⟨v, w', fun _ h' => ⟨v, w', hr, h'⟩, hk⟩
 | .ok (.round l f tmps aLp bd) w1, h =>
   obtain ⟨v, w', hr, hk⟩ := h
   exact ⟨v, w', fun _ h' => ⟨v, w', hr, h'⟩, hk⟩
theorem aA6 {g : Env} {o : Oper} {w : aNX} {K : aNY -> aNX -> Prop} (h : Qc P g o w K) :
 ∃ v w', (∀ K' : aNY -> aNX -> Prop, K' v w' -> Qc P g o w K') /\ K v w' := by
 unfold Qc at *
 split at h
 .exact ⟨_, _, fun _ h' => h', h⟩
 .exact ⟨_, _, fun _ h' => h', h⟩
 .split at h
  .obtain ⟨v, w', a, b⟩ := h
   exact ⟨v, w', fun _ h' => ⟨v, w', a, h'⟩, b⟩
  .exact aE2 h
 .exact aE2 h
theorem aIz (op : BinOp) (t : TypeId) (ox oy : Operand) (x y : aNY) : aI op t ox oy x y = V (do eqGuard op t ox oy x y; binOp op t x y) := by
 cases op <;> simp [aI, MK, eqGuard]
theorem aGO {g : Env} {o : Oper} (ho : FP P o = true) : SB g o = execOp (ev g) o := by
 have ho := aCu ho
 unfold SB
 split
 .rename_i op t x y yt hx
  simp only [execOp, hx, aIz, V]
 .rename_i fn first captured hx
  have e1 : (List.map (ev g) first.toList).toArray = first.map (ev g) := by obtain ⟨l⟩ := first; simp
  have e2 : (List.map (ev g) captured.toList).toArray = captured.map (ev g) := by obtain ⟨l⟩ := captured; simp
  simp only [execOp, hx, aDu, V, e1, e2]
 .rename_i t ps hx
  have e : (List.map (fun p : Nat × Operand => (p.1, ev g p.2)) ps.toList).toArray = ps.map (fun p => (p.1, ev g p.2)) := by obtain ⟨l⟩ := ps; simp
  simp only [execOp, hx, fX, V, e]
 .rename_i t n ps hx
  have e : (List.map (fun p : Nat × Operand => (p.1, ev g p.2)) ps.toList).toArray = ps.map (fun p => (p.1, ev g p.2)) := by obtain ⟨l⟩ := ps; simp
  simp only [execOp, hx, cU, V, e]
 .rename_i c hx
  split
  .rename_i b hb
   simp only [execOp, hx, resolve, hb, pure_bind, invoke, lI]
   unfold awC at ho
   simp only [hx, hb] at ho
   have e : (List.map (ev g) c.args.toList).toArray = c.args.map (ev g) := by obtain ⟨l⟩ := c.args; simp
   rw [e]
   cases b <;> first | rfl | (cases ho)
  .rename_i f hb
   have e : (List.map (ev g) c.args.toList).toArray = c.args.map (ev g) := by obtain ⟨l⟩ := c.args; simp
   simp only [execOp, hx, resolve, hb, Oy, e]
  .rfl
 .rfl
theorem ajP {f : FuncId} {fn : Func} (hf : P.funcs[f]? = some fn) (hb : fn.body.isSome = true) (hn : (fn.name == "runtime.NumGoroutine") = false)
 (args : Array aNY) (w : aNX) : (callFunc f args).run P w = .ok (.enter f args) w := by
 unfold callFunc
 have hb' : fn.body.isNone = false := by cases h : fn.body <;> simp_all
 show Sem.run P (Sem.program fun p => _) w = _
 simp only [Sem.run]
 simp only [bind, Sem.bind, hf, hn, hb', aLu, if_false]
 rfl
theorem T1 {g : Env} {o : Oper} {w : aNX} {K : aNY -> aNX -> Prop} (h : OQ P ops g o w K) :
 ∃ v w', asR P ops g o w v w' /\ K v w' := by
 unfold asR
 unfold OQ at *
 split at h
 .obtain ⟨v, w', h1, h2⟩ := aA6 h
  exact ⟨v, w', h1, h2⟩
 .rename_i j want hg
  unfold Gd at *
  cases hb : C7 g (Hy ops j) want with
  | true =>
    simp only [hb] at h
    obtain ⟨v, w', h1, h2⟩ := aA6 h
    exact ⟨v, w', fun K hk => h1 K hk, h2⟩
  | false =>
    simp only [hb] at h
    exact ⟨_, _, fun K hk => hk, h⟩
theorem asI {N i : Nat} {g : Env} {a : Act} {o : Oper} {w w' : aNX} {v : aNY} {next : Act -> aNX -> Prop}
 (hi : ops[i]? = some o) (hc : FP P o = true) (hd : abF N ops) (hr : VZ N g a) (hy : asR P ops g o w v w') (hn : next (a.put o.dst v) w') : Xt P ops i next a w := by
 have h := hy (fun v2 w2 => v2 = v /\ w2 = w') ⟨rfl, rfl⟩
 unfold Xt
 rw [hi]
 simp only [hr.wanted ops hd]
 have run : Qc P g o w (fun v2 w2 => v2 = v /\ w2 = w') -> aEQ P o a w next := by
  intro h
  refine ⟨aD6 hc, ?_⟩
  have hevs : execOp a.eval o = execOp (ev g) o := execOp_congr o (fun cs b he => by have := aEm hc; simp [arU, he] at this) (fun x hx => hr.ev x (aD9 hc x hx))
  have stp : aD P (SB g o) w (fun v2 w2 => v2 = v /\ w2 = w') -> upX P o a next ((execOp (ev g) o).run P w) := by
   intro h
   rw [aGO hc] at h
   unfold aD at h
   generalize (execOp (ev g) o).run P w = r at *
   match r, h with
   | .ok (.value v) w1, h => obtain ⟨rfl, rfl⟩ := h; exact hn
   | .ok .skip w1, h => obtain ⟨rfl, rfl⟩ := h; exact hn
   | .ok (.enter f args) w1, h =>
     obtain ⟨v2, w2, hret, rfl, rfl⟩ := h
     exact ⟨_, _, hret, hn⟩
   | .ok (.round l f tmps aLp bd) w1, h =>
     obtain ⟨v2, w2, hret, rfl, rfl⟩ := h
     exact ⟨_, _, hret, hn⟩
  rw [hevs]
  unfold Qc at h
  split at h
  .rename_i x hx
   obtain ⟨rfl, rfl⟩ := h
   simp only [execOp, hx]; exact hn
  .rename_i x hx
   obtain ⟨rfl, rfl⟩ := h
   simp only [execOp, hx]; exact hn
  .rename_i c hx
   split at h
   .rename_i f hcal
    obtain ⟨v2, w2, hret, rfl, rfl⟩ := h
    have e : (execOp (ev g) o).run P w = .ok (.enter f (List.map (ev g) c.args.toList).toArray) w := by
     have hc := aCu hc
     unfold awC at hc
     simp only [hx, hcal] at hc
     cases hfn : P.funcs[f]? with
     | none => rw [hfn] at hc; cases hc
     | some fn =>
       rw [hfn] at hc
       simp only [aLJ, aMU] at hc
       have ea : (List.map (ev g) c.args.toList).toArray = c.args.map (ev g) := by obtain ⟨l⟩ := c.args; simp
       rw [ea]
       simp only [execOp, hx, resolve, hcal, ev, Deferred.ofValue, pure_bind, invoke]
       simp only [Array.empty_append, Array.append_empty]
       exact ajP hfn hc.1 hc.2 _ w
    rw [e]
    exact ⟨_, _, hret, hn⟩
   .exact stp h
  .exact stp h
 unfold OQ at h
 cases hg : o.guard with
 | none =>
   rw [hg] at h
   simp only [if_true]
   exact run h
 | some p =>
   obtain ⟨j, want⟩ := p
   simp only [hg] at h
   simp only
   by_cases hb : C7 g (Hy ops j) want = true
   .rw [if_pos hb]
    simp only [hb, Gd] at h
    exact run h
   .rw [if_neg hb]
    have hb' : C7 g (Hy ops j) want = false := by simpa using hb
    simp only [hb', Gd] at h
    obtain ⟨rfl, rfl⟩ := h
    exact hn
def alG (P : Program) (ops : Array Oper) : Prop := ∀ (i : Nat) (o : Oper), ops[i]? = some o -> FP P o = true
theorem aFK {N : Nat} (hd : abF N ops) (hca : alG P ops) {Q : Act -> aNX -> Prop} {K : Env -> aNX -> Prop}
 (hQ : ∀ g a w, VZ N g a -> K g w -> Q a w) :
 ∀ (l : List Oper) (k : Nat) (g : Env) (a : Act) (w : aNX), (∀ j, l[j]? = ops[k + j]?) -> VZ N g a -> awX P ops l g w K →
   HY P ops Q (List.range' k l.length) a w := by
 intro l
 induction l with
 | nil => intro k g a w _ hr h; exact hQ _ _ _ hr h
 | cons o l ih =>
   intro k g a w hl hr h
   have h0 : ops[k]? = some o := by have := hl 0; simpa using this.symm
   obtain ⟨v, w', hy, hk⟩ := T1 h
   rw [aLP, List.range'_succ]
   show Xt P ops k (HY P ops Q _) a w
   refine asI h0 (hca k o h0) hd hr hy ?_
   refine ih (k + 1) _ _ _ (fun j => ?_) (hr.put _ _ (hd k o h0)) hk
   have := hl (j + 1)
   simp only [aLr] at this
   rw [this]; congr 1; omega
def asS (an : Ann) (O : Nat -> Oper) (G : Nat -> Env) (W : Nat -> aNX) (V : Nat -> aNY) (i : Nat) : Rec :=
 ⟨wD i an.1, O i, G i, W i, V i⟩
def aFb (P : Program) (ops : Array Oper) (an : Ann) (O : Nat -> Oper) (G : Nat -> Env) (W : Nat -> aNX) (V : Nat -> aNY) (i j : Nat) : Prop :=
 abI P ops (asS an O G W V i) (O j) (G j) (W (j + 1)) (V j)
structure Run (P : Program) (ops : Array Oper) (an : Ann) (g0 : Env) (w0 : aNX) (n : Nat) (O : Nat -> Oper) (G : Nat -> Env) (W : Nat -> aNX) (V : Nat -> aNY) : Prop where
 g0 : G 0 = g0
 w0 : W 0 = w0
 op : ∀ i, i < n -> ops[i]? = some (O i)
 yld : ∀ i, i < n -> asR P ops (G i) (O i) (W i) (V i) (W (i + 1))
 light : ∀ i, i < n -> wD i an.1 = false -> W (i + 1) = W i
 env : ∀ i, i < n -> G (i + 1) = put (G i) (O i).dst (V i)
 chk : ∀ i j, i < j -> j < n -> awZ i j an.2 = true -> aFb P ops an O G W V i j
theorem aDo {o : Oper} {g : Env} {w' : aNX} {v : aNY} {hist : List Rec} : ∀ {ks : List Nat}, aJe P ops o g w' v hist ks -> ∀ k ∈ ks, ∃ q, aC9 hist k = some q /\ abI P ops q o g w' v := by
 intro ks
 induction ks with
 | nil => intro _ k hk; cases hk
 | cons a ks ih =>
   rintro ⟨h1, h2⟩ k hk
   rcases aMl.1 hk with rfl | hk
   .cases hn : aC9 hist k with
    | none => rw [hn] at h1; exact h1.elim
    | some q => rw [hn] at h1; exact ⟨q, rfl, h1⟩
   .exact ih h2 k hk
theorem aGd {n : Nat} {an : Ann} {pl : aDE} (h : azV n an pl = true) {i : Nat} (hi : i < n) :
 ∃ ks, pl[i]? = some (wD i an.1, ks) /\ ∀ j, awZ j i an.2 = true -> j < i /\ (i - 1 - j) ∈ ks := by
 have := aMw.1 h i (aL8.2 hi)
 cases hp : pl[i]? with
 | none => rw [hp] at this; cases this
 | some p =>
   obtain ⟨hv, ks⟩ := p
   rw [hp] at this
   simp only [aLJ] at this
   obtain ⟨h1, h2⟩ := this
   have h1 : hv = wD i an.1 := by simpa using h1
   refine ⟨ks, by rw [h1], fun j hj => ?_⟩
   have mm : ∀ (l : List (Nat × Nat)), awZ j i l = true -> (j, i) ∈ l := by
    intro l
    induction l with
    | nil => intro h; cases h
    | cons q r ih =>
      obtain ⟨a, b⟩ := q
      intro h
      unfold awZ at h
      cases ha : Nat.beq a j with
      | true =>
        simp only [ha] at h
        cases hb : Nat.beq b i with
        | true =>
          obtain rfl := aMe ha
          obtain rfl := aMe hb
          exact aM5
        | false => simp only [hb] at h; exact aLQ _ (ih h)
      | false => simp only [ha] at h; exact aLQ _ (ih h)
   have := aMw.1 h2 (j, i) (mm _ hj)
   simp only [Nat.beq_refl, aLL, Bool.false_or, aLJ] at this
   refine ⟨?_, by simpa using this.2⟩
   have hlt := this.1
   exact (aNs (x := j) (y := i)) ▸ hlt
theorem aCL {an : Ann} {pl : aDE} {g0 : Env} {w0 : aNX} {K : Env -> aNX -> Prop} (hpl : azV ops.size an pl = true) :
 ∀ (l : List Oper) (m : Nat) (hist : List Rec) (O : Nat -> Oper) (G : Nat -> Env) (W : Nat -> aNX) (V : Nat -> aNY),
   (∀ j, l[j]? = ops[m + j]?) -> m + l.length = ops.size -> Run P ops an g0 w0 m O G W V -> (∀ i, i < m -> aC9 hist (m - 1 - i) = some (asS an O G W V i)) →
   xN P ops l (pl.drop m) hist (G m) (W m) K →
   ∃ (O : Nat -> Oper) (G : Nat -> Env) (W : Nat -> aNX) (V : Nat -> aNY), Run P ops an g0 w0 (m + l.length) O G W V /\ K (G (m + l.length)) (W (m + l.length)) := by
 intro l
 induction l with
 | nil => intro m hist O G W V _ _ hr _ h; exact ⟨O, G, W, V, hr, by unfold xN at h; exact h⟩
 | cons o l ih =>
   intro m hist O G W V hl hlen hr hh h
   have h0 : ops[m]? = some o := by have := hl 0; simpa using this.symm
   have hmn : m < ops.size := by rw [aLP] at hlen; omega
   obtain ⟨ks, hk1, hk2⟩ := aGd hpl hmn
   have hdrop : pl.drop m = (wD m an.1, ks) :: pl.drop (m + 1) := by
    have hlt : m < pl.length := by
     rcases aLO m pl.length with h | h
     .exact h
     .rw [aLH h] at hk1; cases hk1
    rw [aL2 hlt]
    rw [aLA hlt] at hk1
    rw [aLT hk1]
   rw [hdrop] at h
   obtain ⟨v, w', hy, hk⟩ := T1 h
   have key : (wD m an.1 = false -> w' = W m) /\ (∀ k ∈ ks, ∃ q, aC9 hist k = some q /\ abI P ops q o (G m) w' v) /\
       (xN P ops l (pl.drop (m + 1)) (⟨wD m an.1, o, G m, W m, v⟩ :: hist) (put (G m) o.dst v) w' K) := by
    have nil : ∀ w', ∀ k ∈ ([] : List Nat), ∃ q, aC9 hist k = some q /\ abI P ops q o (G m) w' v := fun _ k hk => (by cases hk)
    cases hm : wD m an.1 with
    | true =>
      rw [hm] at hk
      cases ks with
      | nil => exact ⟨fun e => (by cases e), nil _, hk⟩
      | cons k ks => exact ⟨fun e => (by cases e), aDo hk.1, hk.2⟩
    | false =>
      rw [hm] at hk
      cases ks with
      | nil => obtain ⟨rfl, hk⟩ := hk; exact ⟨fun _ => rfl, nil _, hk⟩
      | cons k ks => obtain ⟨rfl, hc, hk⟩ := hk; exact ⟨fun _ => rfl, aDo hc, hk⟩
   obtain ⟨kl, c1, c2⟩ := key
   let O' : Nat -> Oper := fun i => if i = m then o else O i
   let V' : Nat -> aNY := fun i => if i = m then v else V i
   let G' : Nat -> Env := fun i => if i = m + 1 then put (G m) o.dst v else G i
   let W' : Nat -> aNX := fun i => if i = m + 1 then w' else W i
   have eO : ∀ i, i < m -> O' i = O i := fun i hi => if_neg (by omega)
   have eV : ∀ i, i < m -> V' i = V i := fun i hi => if_neg (by omega)
   have eG : ∀ i, i <= m -> G' i = G i := fun i hi => if_neg (by omega)
   have eW : ∀ i, i <= m -> W' i = W i := fun i hi => if_neg (by omega)
   have oO : O' m = o := if_pos rfl
   have oV : V' m = v := if_pos rfl
   have oG : G' (m + 1) = put (G m) o.dst v := if_pos rfl
   have oW : W' (m + 1) = w' := if_pos rfl
   have eR : ∀ i, i < m -> asS an O' G' W' V' i = asS an O G W V i := fun i hi => by
    simp only [asS, eO i hi, eV i hi, eG i (by omega), eW i (by omega)]
   have hr' : Run P ops an g0 w0 (m + 1) O' G' W' V' := by
    refine ⟨by rw [eG 0 (by omega)]; exact hr.g0, by rw [eW 0 (by omega)]; exact hr.w0, fun i hi => ?_, fun i hi => ?_, fun i hi hm => ?_, fun i hi => ?_, fun i j hij hj hm => ?_⟩
    .by_cases hi' : i = m
     .subst hi'; rw [oO]; exact h0
     .rw [eO i (by omega)]; exact hr.op i (by omega)
    .by_cases hi' : i = m
     .subst hi'; rw [oO, oV, oW, eG i (by omega), eW i (by omega)]; exact hy
     .rw [eO i (by omega), eV i (by omega), eG i (by omega), eW i (by omega), eW (i + 1) (by omega)]; exact hr.yld i (by omega)
    .by_cases hi' : i = m
     .subst hi'; rw [oW, eW i (by omega)]; exact kl hm
     .rw [eW i (by omega), eW (i + 1) (by omega)]; exact hr.light i (by omega) hm
    .by_cases hi' : i = m
     .subst hi'; rw [oO, oV, oG, eG i (by omega)]
     .rw [eO i (by omega), eV i (by omega), eG i (by omega), eG (i + 1) (by omega)]; exact hr.env i (by omega)
    .unfold aFb
     by_cases hj' : j = m
     .subst hj'
      rw [eR i (by omega), oO, oV, oW, eG j (by omega)]
      obtain ⟨q, hq, hc⟩ := c1 _ (hk2 i hm).2
      rw [hh i hij] at hq
      obtain rfl := aLT hq
      exact hc
     .rw [eR i (by omega), eO j (by omega), eV j (by omega), eG j (by omega), eW (j + 1) (by omega)]
      exact hr.chk i j hij (by omega) hm
   have := ih (m + 1) (⟨wD m an.1, o, G m, W m, v⟩ :: hist) O' G' W' V' (fun j => by
       have := hl (j + 1)
       simp only [aLr] at this
       rw [this]; congr 1; omega) (by rw [aLP] at hlen; omega) hr' (fun i hi => by
       by_cases hi' : i = m
       .subst hi'
        rw [show i + 1 - 1 - i = 0 from by omega]
        simp only [aC9, asS, oO, oV, eG i (by omega), eW i (by omega)]
       .rw [eR i (by omega), show m + 1 - 1 - i = (m - 1 - i) + 1 from by omega]
        exact hh i (by omega)) (by rw [oG, oW]; exact c2)
   rw [aLP, show m + (l.length + 1) = m + 1 + l.length from by omega]
   exact this
end
section
variable {P : Program} {ops : Array Oper} {an : Ann} {g0 : Env} {w0 : aNX} {O : Nat -> Oper} {G : Nat -> Env} {W : Nat -> aNX} {V : Nat -> aNY}
def Uj (n : Nat) (O : Nat -> Oper) (V : Nat -> aNY) (g0 : Env) (S : Nat -> Prop) (g : Env) : Prop :=
 ∀ s, (∃ j, j < n /\ S j /\ (O j).dst = some s /\ (∀ k, k < n -> S k -> (O k).dst = some s -> k <= j) /\ g s = V j) ∨
   ((∀ j, j < n -> S j -> (O j).dst ≠ some s) /\ g s = g0 s)
theorem Uj.agree {n : Nat} {S T : Nat -> Prop} {g g' : Env} (h : Uj n O V g0 S g) (h' : Uj n O V g0 T g') (s : Nat)
 (hs : ∀ j, j < n -> (O j).dst = some s -> (S j ↔ T j)) : g s = g' s := by
 rcases h s with ⟨j, h1, h2, h3, h4, h5⟩ | ⟨h1, h2⟩ <;> rcases h' s with ⟨k, k1, k2, k3, k4, k5⟩ | ⟨k1, k2⟩
 .have a := h4 k k1 ((hs k k1 k3).2 k2) k3
  have b := k4 j h1 ((hs j h1 h3).1 h2) h3
  have : j = k := by omega
  subst this; rw [h5, k5]
 .exact absurd h3 (k1 j h1 ((hs j h1 h3).1 h2))
 .exact absurd k3 (h1 k k1 ((hs k k1 k3).2 k2))
 .rw [h2, k2]
theorem Uj.step {n : Nat} {S : Nat -> Prop} {g : Env} (h : Uj n O V g0 S g) (i : Nat) (hi : i < n)
 (hw : ∀ s, (O i).dst = some s -> ∀ j, j < n -> j ≠ i -> (O j).dst = some s -> S j -> j < i) :
 Uj n O V g0 (fun j => S j ∨ j = i) (put g (O i).dst (V i)) := by
 intro s
 cases hd : (O i).dst with
 | none =>
   rcases h s with ⟨j, h1, h2, h3, h4, h5⟩ | ⟨h1, h2⟩
   .refine .inl ⟨j, h1, .inl h2, h3, fun k k1 k2 k3 => ?_, h5⟩
    rcases k2 with k2 | rfl
    .exact h4 k k1 k2 k3
    .rw [hd] at k3; cases k3
   .refine .inr ⟨fun j h3 h4 h5 => ?_, h2⟩
    rcases h4 with h4 | rfl
    .exact h1 j h3 h4 h5
    .rw [hd] at h5; cases h5
 | some t =>
   rw [Sz]
   by_cases hst : s = t
   .subst hst
    rw [if_pos rfl]
    refine .inl ⟨i, hi, .inr rfl, hd, fun k k1 k2 k3 => ?_, rfl⟩
    rcases k2 with k2 | rfl
    .by_cases hk : k = i
     .omega
     .have := hw s hd k k1 hk k3 k2; omega
    .omega
   .rw [if_neg hst]
    rcases h s with ⟨j, h1, h2, h3, h4, h5⟩ | ⟨h1, h2⟩
    .refine .inl ⟨j, h1, .inl h2, h3, fun k k1 k2 k3 => ?_, h5⟩
     rcases k2 with k2 | rfl
     .exact h4 k k1 k2 k3
     .rw [hd] at k3; exact absurd (aLT k3).symm hst
    .refine .inr ⟨fun j h3 h4 h5 => ?_, h2⟩
     rcases h4 with h4 | rfl
     .exact h1 j h3 h4 h5
     .rw [hd] at h5; exact absurd (aLT h5).symm hst
theorem Run.envFor {n : Nat} (r : Run P ops an g0 w0 n O G W V) : ∀ i, i <= n -> Uj n O V g0 (fun j => j < i) (G i) := by
 intro i
 induction i with
 | zero => intro _ s; exact .inr ⟨fun j _ h => absurd h (by omega), by rw [r.g0]⟩
 | succ i ih =>
   intro hi
   have h := ih (by omega)
   have := h.step (V := V) i (by omega) (fun s _ j _ _ _ hj => hj)
   rw [<- r.env i (by omega)] at this
   intro s
   rcases this s with ⟨j, h1, h2, h3, h4, h5⟩ | ⟨h1, h2⟩
   .exact .inl ⟨j, h1, by omega, h3, fun k k1 k2 k3 => h4 k k1 (by omega) k3, h5⟩
   .exact .inr ⟨fun j a b => h1 j a (by omega), h2⟩
theorem Run.still {n : Nat} (r : Run P ops an g0 w0 n O G W V) (i : Nat) : ∀ d, i + d <= n -> (∀ h, i <= h -> h < i + d -> wD h an.1 = false) -> W (i + d) = W i := by
 intro d
 induction d with
 | zero => intro _ _; rfl
 | succ d ih =>
   intro h1 h2
   rw [<- aM1, r.light (i + d) (by omega) (h2 _ (by omega) (by omega))]
   exact ih (by omega) (fun h a b => h2 h a (by omega))
theorem Run.still' {n : Nat} (r : Run P ops an g0 w0 n O G W V) {i k : Nat} (hik : i <= k) (hk : k <= n) (hh : ∀ h, i <= h -> h < k -> wD h an.1 = false) : W k = W i := by
 have := r.still i (k - i) (by omega) (fun h a b => hh h a (by omega))
 rwa [show i + (k - i) = k from by omega] at this
theorem aDt {i k : Nat} : (∃ h, i <= h /\ h < k /\ wD h an.1 = true) -> ∃ h, i <= h /\ h < k /\ wD h an.1 = true /\ ∀ h', i <= h' -> h' < h -> wD h' an.1 = false := by
 rintro ⟨h, h1, h2, h3⟩
 induction h using Nat.strongRecOn with
 | _ h ih =>
   by_cases hx : ∃ h', i <= h' /\ h' < h /\ wD h' an.1 = true
   .obtain ⟨h', a, b, c⟩ := hx
    exact ih h' b a (by omega) c
   .refine ⟨h, h1, h2, h3, fun h' a b => ?_⟩
    cases hm : wD h' an.1
    .rfl
    .exact absurd ⟨h', a, b, hm⟩ hx
theorem axX {i k : Nat} : (∃ h, i <= h /\ h < k /\ wD h an.1 = true) -> ∃ h, i <= h /\ h < k /\ wD h an.1 = true /\ ∀ h', h < h' -> h' < k -> wD h' an.1 = false := by
 rintro ⟨h, h1, h2, h3⟩
 induction hd : k - h using Nat.strongRecOn generalizing h with
 | _ d ih =>
   by_cases hx : ∃ h', h < h' /\ h' < k /\ wD h' an.1 = true
   .obtain ⟨h', a, b, c⟩ := hx
    exact ih (k - h') (by omega) h' (by omega) b c rfl
   .refine ⟨h, h1, h2, h3, fun h' a b => ?_⟩
    cases hm : wD h' an.1
    .rfl
    .exact absurd ⟨h', a, b, hm⟩ hx
structure aAg (ops : Array Oper) (an : Ann) (O : Nat -> Oper) (b : Array Nat) : Prop where
 back : ∀ i, i < ops.size -> ∀ e ∈ (O i).after, Region.binds .any e = true -> e.on < i
 closed : ∀ i j, i < ops.size -> j < ops.size -> bef b i j = true -> ∃ e ∈ (O j).after, Region.binds .any e = true /\ (e.on = i ∨ bef b i e.on = true)
 pair : ∀ i j, i < j -> j < ops.size -> W5 ops b an i j (O i) (O j) = true
 sel : ∀ i, i < ops.size -> arU (O i) = false
 fn : ∀ i, i < ops.size -> aHV (O i) = true -> wD i an.1 = true
theorem aGx (h : axD ops an = true) (ho : ∀ i, i < ops.size -> ops[i]? = some (O i)) : aAg ops an O (Region.before ops) := by
 unfold axD at h
 simp only [aLJ] at h
 obtain ⟨⟨⟨⟨h1, h2⟩, h3⟩, h5⟩, h6⟩ := h
 refine ⟨fun i hi e he hb => ?_, fun i j hi hj hb => ?_, fun i j hij hj => ?_, fun i hi => ?_, fun i hi hf => ?_⟩
 .unfold aAH at h1
  have := aMw.1 h1 i (aL8.2 hi)
  rw [ho i hi] at this
  have := aMF.1 this e he
  simp only [hb, aLL, Bool.false_or] at this
  exact (aNs (x := e.on) (y := i)) ▸ this
 .unfold aAD at h2
  have := aMw.1 (aMw.1 h2 j (aL8.2 hj)) i (aL8.2 hi)
  rw [ho j hj] at this
  simp only [hb, aLL, Bool.false_or] at this
  obtain ⟨e, he, h⟩ := Array.any_eq_true'.1 this
  simp only [aLJ, aML] at h
  refine ⟨e, he, h.1, h.2.imp (fun h => aMe h) id⟩
 .unfold aDl at h3
  have := aMw.1 (aMw.1 h3 j (aL8.2 hj)) i (aL8.2 hij)
  rw [ho i (by omega), ho j hj] at this
  exact this
 .have := aMF.1 h5 (O i) (aNT (ho i hi))
  simpa using this
 .have := aMw.1 h6 i (aL8.2 hi)
  rw [ho i hi] at this
  simpa [hf] using this
theorem aHu {i j : Nat} : ∀ {l : List (Nat × Nat)}, awZ i j l = true -> (i, j) ∈ l := by
 intro l
 induction l with
 | nil => intro h; cases h
 | cons p r ih =>
   obtain ⟨a, b⟩ := p
   intro h
   unfold awZ at h
   cases ha : Nat.beq a i with
   | true =>
     simp only [ha] at h
     cases hb : Nat.beq b j with
     | true =>
       obtain rfl := aMe ha
       obtain rfl := aMe hb
       exact aM5
     | false => simp only [hb] at h; exact aLQ _ (ih h)
   | false => simp only [ha] at h; exact aLQ _ (ih h)
theorem aAg.order {b : Array Nat} (st : aAg ops an O b) {S : Nat -> Prop} {i : Nat} (hi : i < ops.size)
 (hdown : ∀ j k, j < ops.size -> k < ops.size -> S k -> bef b j k = true -> S j) (hbi : ∀ j, j < ops.size -> bef b j i = true -> S j) (hni : ¬ S i)
 {s : Nat} (hs : s ∈ looks ops (O i) ∨ (O i).dst = some s) {j : Nat} (hj : j < ops.size) (hji : j ≠ i) (hd : (O j).dst = some s) : S j ↔ j < i := by
 rcases aLO j i with h | h
 .refine ⟨fun _ => h, fun _ => ?_⟩
  have p := st.pair j i h hi
  unfold W5 at p
  simp only [aML, aLJ, aMU] at p
  rcases p with p | p
  .exact hbi j hj p
  .exfalso
   have p1 := p.1
   unfold aGR at p1
   simp only [hd, aNk] at p1
   rcases hs with hs | hs
   .have := p1.1.1; simp [hs] at this
   .have := p1.1.2; simp [hs] at this
 .have h' : i < j := by omega
  refine ⟨fun hS => ?_, fun hh => by omega⟩
  exfalso
  have p := st.pair i j h' hj
  unfold W5 at p
  simp only [aML, aLJ, aMU] at p
  rcases p with p | p
  .exact hni (hdown i j hi hj hS p)
  .have p1 := p.1
   unfold aGR at p1
   simp only [hd, aNk] at p1
   rcases hs with hs | hs
   .have := p1.2; simp [hs] at this
   .have := p1.1; rw [hs] at this; simp at this
theorem S9 {g g' : Env} {o : Oper} (h : ∀ s ∈ looks ops o, g s = g' s) : ∀ x ∈ o.op.operands, ev g x = ev g' x := by
 intro x hx
 cases x with
 | tmp t => exact h t (aMG _ (List.mem_filterMap.2 ⟨.tmp t, by simpa using hx, rfl⟩))
 | _ => rfl
theorem aDF {g g' : Env} {o : Oper} (hs : arU o = false) (h : ∀ s ∈ looks ops o, g s = g' s) : SB g o = SB g' o := by
 have e := execOp_congr o (fun cs b he => by simp [arU, he] at hs) (S9 h)
 have k := S9 h
 unfold SB
 split
 .rename_i op t x y yt hx
  rw [k x (by simp [hx, Op.operands]), k y (by simp [hx, Op.operands])]
 .rename_i fn first captured hx
  have e1 : List.map (ev g) first.toList = List.map (ev g') first.toList := aL7 fun p hp => k p (by simp [hx, Op.operands]; exact .inl (by simpa using hp))
  have e2 : List.map (ev g) captured.toList = List.map (ev g') captured.toList := aL7 fun p hp => k p (by simp [hx, Op.operands]; exact .inr (by simpa using hp))
  rw [e1, e2]
 .rename_i t ps hx
  congr 1
  refine aL7 fun p hp => ?_
  rw [k p.2 (by simp [hx, Op.operands]; exact ⟨p.1, by simpa using hp⟩)]
 .rename_i t n ps hx
  congr 1
  refine aL7 fun p hp => ?_
  rw [k p.2 (by simp [hx, Op.operands]; exact ⟨p.1, by simpa using hp⟩)]
 .rename_i c hx
  split
  .rename_i b hb
   congr 1
   refine aL7 fun p hp => ?_
   exact k p (by simp [hx, Op.operands, Call.operands, hb]; simpa using hp)
  .rename_i f hb
   have : List.map (ev g) c.args.toList = List.map (ev g') c.args.toList := aL7 fun p hp => k p (by simp [hx, Op.operands, Call.operands, hb]; exact .inr (by simpa using hp))
   rw [this, k f (by simp [hx, Op.operands, Call.operands, hb])]
  .exact e
 .exact e
theorem aAw {g g' : Env} {o : Oper} {j : Nat} {want : Bool} (hg : o.guard = some (j, want)) (h : ∀ s ∈ looks ops o, g s = g' s) :
 C7 g (Hy ops j) want = C7 g' (Hy ops j) want := by
 cases hs : Hy ops j with
 | none => rfl
 | some t =>
   have := h t (aNw _ (by simp [hg, hs]))
   simp [C7, this]
theorem ajW {g g' : Env} {o : Oper} {w : aNX} {K : aNY -> aNX -> Prop} (hs : arU o = false) (h : ∀ s ∈ looks ops o, g s = g' s)
 (hk : OQ P ops g o w K) : OQ P ops g' o w K := by
 have e := aDF (ops := ops) hs h
 have run : Qc P g o w = Qc P g' o w := by
  funext K
  unfold Qc
  split
  .rename_i x hx
   have := S9 (ops := ops) h x (by simp [hx, Op.operands])
   rw [this]
  .rename_i x hx
   have := S9 (ops := ops) h x (by simp [hx, Op.operands])
   rw [this]
  .rename_i c hx
   have k := S9 h
   have : List.map (ev g) c.args.toList = List.map (ev g') c.args.toList := aL7 fun p hp => k p (by simp [hx, Op.operands, Call.operands]; exact .inr (by simpa using hp))
   rw [this, e]
  .rw [e]
 unfold OQ at *
 cases hg : o.guard with
 | none => rw [hg] at hk; simp only at hk ⊢; rwa [<- run]
 | some p =>
   obtain ⟨j, want⟩ := p
   simp only [hg] at hk ⊢
   rw [<- run, <- aAw hg h]
   exact hk
theorem aDk {n : Nat} (hn : n = ops.size) {b : Array Nat} (r : Run P ops an g0 w0 n O G W V) (st : aAg ops an O b) {S : Nat -> Prop} {i k : Nat} (hi : i < n) (hk : k <= n)
 (hdown : ∀ j k, j < ops.size -> k < ops.size -> S k -> bef b j k = true -> S j) (hbi : ∀ j, j < ops.size -> bef b j i = true -> S j) (hni : ¬ S i)
 (hS : ∀ h, h < n -> wD h an.1 = true -> (S h ↔ h < k)) (hl : wD i an.1 = false) :
 asR P ops (G i) (O i) (W k) (V i) (W k) := by
 subst hn
 have same : Gs (gOf ops (O i) (G i)) (jH P (SB (G i) (O i)) (V i) (W k)) -> TV (O i) = false -> asR P ops (G i) (O i) (W k) (V i) (W k) := by
  intro hs hm K hK
  have run : jH P (SB (G i) (O i)) (V i) (W k) -> Qc P (G i) (O i) (W k) K := by
   intro hs
   unfold jH at hs
   have stp : aD P (SB (G i) (O i)) (W k) K := by unfold aD; rw [hs]; exact hK
   unfold Qc
   split
   .rename_i x hx; simp [TV, hx] at hm
   .rename_i x hx; simp [TV, hx] at hm
   .rename_i c hx
    have hf : aHV (O i) = false := by
     cases hh : aHV (O i)
     .rfl
     .rw [st.fn i hi hh] at hl; cases hl
    obtain ⟨cal, cargs, cats⟩ := c
    cases cal with
    | value f =>
      cases f with
      | func f => simp [aHV, hx] at hf
      | _ => exact stp
    | _ => exact stp
   .exact stp
  have hy := r.yld i hi (fun v _ => v = V i) rfl
  unfold OQ at hy ⊢
  unfold gOf at hs
  cases hg : (O i).guard with
  | none => rw [hg] at hs; exact run hs
  | some p =>
    obtain ⟨j, want⟩ := p
    rw [hg] at hs
    simp only [hg] at hs hy ⊢
    cases hb : C7 (G i) (Hy ops j) want with
    | true => rw [hb] at hs; exact run hs
    | false =>
      rw [hb] at hy
      have : undef = V i := hy
      show K undef (W k)
      rw [this]; exact hK
 have moved : TV (O i) = true -> asR P ops (G i) (O i) (W k) (V i) (W k) := by
  intro hm K hK
  have hy := r.yld i hi (fun v _ => v = V i) rfl
  unfold OQ at hy ⊢
  have mv : ∀ (K' : aNY -> aNX -> Prop) w, Qc P (G i) (O i) w K' ↔ ∃ x, ((O i).op = .move x ∨ (O i).op = .assign x) /\ K' (ev (G i) x) w := by
   intro K' w
   unfold Qc
   unfold TV at hm
   split
   .rename_i x hx; constructor
    .intro h; exact ⟨x, .inl hx, h⟩
    .rintro ⟨y, h | h, h'⟩
     .rw [hx] at h; cases h; exact h'
     .rw [hx] at h; cases h
   .rename_i x hx; constructor
    .intro h; exact ⟨x, .inr hx, h⟩
    .rintro ⟨y, h | h, h'⟩
     .rw [hx] at h; cases h
     .rw [hx] at h; cases h; exact h'
   .rename_i c hx; simp [hx] at hm
   .rename_i h1 h2 _; split at hm
    .rename_i x hx; exact absurd hx (h1 x)
    .rename_i x hx; exact absurd hx (h2 x)
    .cases hm
  cases hg : (O i).guard with
  | none =>
    rw [hg] at hy
    simp only at hy ⊢
    rw [mv] at hy ⊢
    obtain ⟨x, hx, h⟩ := hy
    exact ⟨x, hx, h ▸ hK⟩
  | some p =>
    obtain ⟨j, want⟩ := p
    simp only [hg] at hy ⊢
    unfold Gd at *
    cases hb : C7 (G i) (Hy ops j) want with
    | true =>
      simp only [hb] at hy ⊢
      rw [mv] at hy ⊢
      obtain ⟨x, hx, h⟩ := hy
      exact ⟨x, hx, h ▸ hK⟩
    | false =>
      simp only [hb] at hy ⊢
      rwa [hy]
 rcases Nat.le_total k i with hki | hki
 .by_cases hx : ∃ h, k <= h /\ h < i /\ wD h an.1 = true
  .obtain ⟨h, h1, h2, h3, h4⟩ := aDt hx
   have e : W h = W k := r.still' h1 (by omega) h4
   have p := st.pair h i h2 hi
   unfold W5 at p
   simp only [aML, aLJ, aMU] at p
   rcases p with p | p
   .have := hbi h (by omega) p
    have := (hS h (by omega) h3).1 this
    omega
   .have p2 := p.2
    rw [h3, hl] at p2
    simp only [aML] at p2
    cases hmv : TV (O i) with
    | true => exact moved hmv
    | false =>
      rcases p2 with p2 | p2
      .rw [hmv] at p2; cases p2
      .refine same ?_ hmv
       have c := r.chk h i h2 hi p2
       unfold aFb abI asS at c
       simp only [h3] at c
       rw [<- e]; exact c
  .have e : W i = W k := r.still' hki (by omega) (fun h a b => by
    cases hm : wD h an.1
    .rfl
    .exact absurd ⟨h, a, b, hm⟩ hx)
   have hy := r.yld i hi
   rw [r.light i hi hl, e] at hy
   exact hy
 .by_cases hx : ∃ h, i <= h /\ h < k /\ wD h an.1 = true
  .obtain ⟨h, h1, h2, h3, h4⟩ := axX hx
   have hne : h ≠ i := fun e => by rw [e, hl] at h3; cases h3
   have e : W k = W (h + 1) := r.still' (by omega) hk (fun h' a b => h4 h' (by omega) b)
   have p := st.pair i h (by omega) (by omega)
   unfold W5 at p
   simp only [aML, aLJ, aMU] at p
   rcases p with p | p
   .exact absurd (hdown i h (by omega) (by omega) ((hS h (by omega) h3).2 h2) p) hni
   .have p2 := p.2
    rw [h3, hl] at p2
    simp only [aML] at p2
    cases hmv : TV (O i) with
    | true => exact moved hmv
    | false =>
      rcases p2 with p2 | p2
      .rw [hmv] at p2; cases p2
      .refine same ?_ hmv
       have c := r.chk i h (by omega) (by omega) p2
       unfold aFb abI asS at c
       simp only [hl] at c
       rw [e]; exact c
  .have e : W k = W i := r.still' hki hk (fun h a b => by
    cases hm : wD h an.1
    .rfl
    .exact absurd ⟨h, a, b, hm⟩ hx)
   have hy := r.yld i hi
   rw [r.light i hi hl, <- e] at hy
   exact hy
def sE (listed : Array Bool) (i : Nat) : Prop := listed.getD i false = true
theorem aHf {N n : Nat} (hn : n = ops.size) (hd : abF N ops) (hca : alG P ops) {b : Array Nat} (r : Run P ops an g0 w0 n O G W V) (st : aAg ops an O b)
 {Q : Act -> aNX -> Prop} (hQ : ∀ a, VZ N (G n) a -> Q a (W n)) :
 ∀ (fuel : Nat) (listed : Array Bool) (g : Env) (a : Act) (k : Nat), listed.size = n -> VZ N g a -> k <= n →
   (∀ j, j < n -> sE listed j -> ∀ e ∈ (O j).after, Region.binds .any e = true -> sE listed e.on) →
   Uj n O V g0 (sE listed) g -> (∀ h, h < n -> wD h an.1 = true -> (sE listed h ↔ h < k)) →
   ((List.range n).filter fun i => !listed.getD i false).length <= fuel →
   ayW P ops Q fuel listed a (W k) := by
 subst hn
 have ready_iff : ∀ (listed : Array Bool), listed.size = ops.size -> ∀ i, i ∈ Region.ready .any ops listed ↔ (i < ops.size /\ ¬ sE listed i /\ ∀ e ∈ (O i).after, Region.binds .any e = true -> sE listed e.on) := by
  intro listed hsz i
  unfold Region.ready sE
  rw [aNH, aL8]
  constructor
  .rintro ⟨h1, h2⟩
   rw [r.op i h1] at h2
   simp only [aLJ, aMh, aNz] at h2
   refine ⟨h1, ?_, fun e he hb => ?_⟩
   .have := h2.1
    rw [aLI] at this ⊢
    rw [aL3 (by omega)] at this ⊢
    simpa using this
   .have := aMF.1 h2.2 e he
    simpa [hb] using this
  .rintro ⟨h1, h2, h3⟩
   refine ⟨h1, ?_⟩
   rw [r.op i h1]
   simp only [aLJ, aMh, aNz]
   refine ⟨?_, aMF.2 fun e he => ?_⟩
   .rw [aLI] at h2 ⊢
    rw [aL3 (by omega)] at h2 ⊢
    simpa using h2
   .by_cases hb : Region.binds .any e = true
    .simp [hb, h3 e he hb]
    .simp [hb]
 have none_ready : ∀ (listed : Array Bool), listed.size = ops.size -> Region.ready .any ops listed = [] -> ∀ i, i < ops.size -> sE listed i := by
  intro listed hsz hr i
  induction i using Nat.strongRecOn with
  | _ i ih =>
    intro hi
    refine Classical.byContradiction fun hl => ?_
    have : i ∈ Region.ready .any ops listed := (ready_iff listed hsz i).2 ⟨hi, hl, fun e he hb => by
     have := st.back i hi e he hb
     exact ih e.on this (by omega)⟩
    rw [hr] at this; cases this
 have all_done : ∀ (listed : Array Bool) (g : Env) (a : Act) (k : Nat), VZ N g a -> k <= ops.size -> Uj ops.size O V g0 (sE listed) g →
     (∀ h, h < ops.size -> wD h an.1 = true -> (sE listed h ↔ h < k)) -> (∀ i, i < ops.size -> sE listed i) -> Q a (W k) := by
  intro listed g a k hr hk he hh hall
  have e : W ops.size = W k := r.still' hk (aLF _) (fun h h1 h2 => by
   cases hm : wD h an.1
   .rfl
   .have := (hh h h2 hm).1 (hall h h2); omega)
  have eg : g = G ops.size := funext fun s => he.agree (r.envFor ops.size (aLF _)) s (fun j hj _ => ⟨fun _ => hj, fun _ => hall j hj⟩)
  rw [<- e]; exact hQ a (eg ▸ hr)
 intro fuel
 induction fuel with
 | zero =>
   intro listed g a k hsz hr hk hdep henv hh hc
   have hall : ∀ i, i < ops.size -> sE listed i := by
    intro i hi
    have hnil : ((List.range ops.size).filter fun i => !listed.getD i false) = [] := aL4.1 (by omega)
    have := List.filter_eq_nil_iff.1 hnil i (aL8.2 hi)
    unfold sE; simpa using this
   refine ⟨?_, all_done listed g a k hr hk henv hh hall⟩
   rw [List.eq_nil_iff_forall_not_mem]
   intro i hi
   have := (ready_iff listed hsz i).1 hi
   exact this.2.1 (hall i this.1)
 | succ fuel ih =>
   intro listed g a k hsz hr hk hdep henv hh hc
   refine ⟨fun hn => all_done listed g a k hr hk henv hh (none_ready listed hsz hn), fun i hi => ?_⟩
   obtain ⟨h1, h2, h3⟩ := (ready_iff listed hsz i).1 hi
   have hdown : ∀ k j, j < ops.size -> k < ops.size -> sE listed k -> bef b j k = true -> sE listed j := by
    intro k
    induction k using Nat.strongRecOn with
    | _ k ihk =>
      intro j hj hk hl hb
      obtain ⟨e, he, hbi, h⟩ := st.closed j k hj hk hb
      have hle := hdep k hk hl e he hbi
      rcases h with h | h
      .exact h ▸ hle
      .have hlt := st.back k hk e he hbi
       exact ihk e.on hlt j hj (by omega) hle h
   have hbi : ∀ j, j < ops.size -> bef b j i = true -> sE listed j := by
    intro j hj hb
    obtain ⟨e, he, hbi, h⟩ := st.closed j i hj h1 hb
    have hle := h3 e he hbi
    rcases h with h | h
    .exact h ▸ hle
    .have hlt := st.back i h1 e he hbi
     exact hdown e.on j hj (by omega) hle h
   have hdown' : ∀ j k, j < ops.size -> k < ops.size -> sE listed k -> bef b j k = true -> sE listed j := fun j k => hdown k j
   have hlooks : ∀ s ∈ looks ops (O i), (G i) s = g s := fun s hs =>
    (r.envFor i (by omega)).agree henv s (fun j hj hd => by
      by_cases hji : j = i
      .subst hji
       exact ⟨fun h => absurd h (by omega), fun h => absurd h h2⟩
      .exact (st.order h1 hdown' hbi h2 (.inl hs) hj hji hd).symm)
   have hl' : ∀ j, sE (listed.setIfInBounds i true) j ↔ (sE listed j ∨ j = i) := by
    intro j
    unfold sE
    rw [aLI, aLI]
    by_cases hji : j = i
    .subst hji
     rw [aMn (by omega)]
     simp
    .rw [aMs (fun e => hji e.symm)]
     simp [hji]
   have next : ∀ k', k' <= ops.size -> (∀ h, h < ops.size -> wD h an.1 = true -> ((sE listed h ∨ h = i) ↔ h < k')) -> asR P ops g (O i) (W k) (V i) (W k') →
       Xt P ops i (ayW P ops Q fuel (listed.setIfInBounds i true)) a (W k) := by
    intro k' hk' hh' hy
    refine asI (r.op i h1) (hca i _ (r.op i h1)) hd hr hy ?_
    refine ih _ (put g (O i).dst (V i)) _ k' (by simp [hsz]) (hr.put _ _ (hd i _ (r.op i h1))) hk' ?_ ?_ ?_ ?_
    .intro j hj hlj e he hb
     rw [hl'] at hlj ⊢
     rcases hlj with hlj | rfl
     .exact .inl (hdep j hj hlj e he hb)
     .exact .inl (h3 e he hb)
    .have := henv.step i h1 (fun s hs j hj hji hd hlj => (st.order h1 hdown' hbi h2 (.inr hs) hj hji hd).1 hlj)
     intro s
     rcases this s with ⟨j, j1, j2, j3, j4, j5⟩ | ⟨j1, j2⟩
     .exact .inl ⟨j, j1, (hl' j).2 j2, j3, fun k k1 k2 k3 => j4 k k1 ((hl' k).1 k2) k3, j5⟩
     .exact .inr ⟨fun j a b => j1 j a ((hl' j).1 b), j2⟩
    .intro h a b; rw [hl']; exact hh' h a b
    .have hin : i ∈ (List.range ops.size).filter fun i => !listed.getD i false :=
      aNH.2 ⟨aL8.2 h1, by unfold sE at h2; simpa using h2⟩
     have e1 : ((List.range ops.size).filter fun j => !(listed.setIfInBounds i true).getD j false) = ((List.range ops.size).filter fun j => !listed.getD j false).filter fun j => j != i := by
      rw [List.filter_filter]
      refine List.filter_congr fun j _ => ?_
      have := hl' j
      unfold sE at this
      by_cases hji : j = i
      .have hh : (listed.setIfInBounds i true).getD j false = true := this.2 (.inr hji)
       rw [hh, hji]; simp
      .have hne : (j != i) = true := by simpa using hji
       rw [hne, Bool.true_and]
       cases ha : listed.getD j false with
       | true => rw [this.2 (.inl ha)]
       | false =>
         cases hb : (listed.setIfInBounds i true).getD j false with
         | false => rfl
         | true => rcases this.1 hb with h | h
                   .rw [ha] at h; cases h
                   .exact absurd h hji
     have hnd : ((List.range ops.size).filter fun j => !listed.getD j false).Nodup := List.nodup_range.filter _
     rw [e1, <- List.Nodup.erase_eq_filter hnd, aNL hin]
     omega
   cases hm : wD i an.1 with
   | true =>
     have hS : ∀ h, h < ops.size -> wD h an.1 = true -> (sE listed h ↔ h < i) := by
      intro h hh1 hhm
      rcases aNQ h i with hlt | heq | hgt
      .refine ⟨fun _ => hlt, fun _ => ?_⟩
       have p := st.pair h i hlt h1
       unfold W5 at p
       rw [hhm, hm] at p
       simp only [aML, aLJ, aLu, and_false, or_false] at p
       exact hbi h hh1 p
      .subst heq; exact ⟨fun hh => absurd hh h2, fun hh => absurd hh (by omega)⟩
      .refine ⟨fun hl => ?_, fun hh => absurd hh (by omega)⟩
       have p := st.pair i h hgt hh1
       unfold W5 at p
       rw [hhm, hm] at p
       simp only [aML, aLJ, aLu, and_false, or_false] at p
       exact absurd (hdown h i h1 hh1 hl p) h2
     have eW : W k = W i := by
      rcases Nat.le_total k i with hki | hki
      .exact (r.still' hki (by omega) (fun h a b => by
        cases hx : wD h an.1
        .rfl
        .have := (hh h (by omega) hx).1 ((hS h (by omega) hx).2 b); omega)).symm
      .exact r.still' hki hk (fun h a b => by
        cases hx : wD h an.1
        .rfl
        .have := (hS h (by omega) hx).1 ((hh h (by omega) hx).2 b); omega)
     refine next (i + 1) (by omega) (fun h a b => ?_) ?_
     .rw [hS h a b]; omega
     .rw [eW]
      intro K hK
      exact ajW (ops := ops) (st.sel i h1) hlooks (r.yld i h1 K hK)
   | false =>
     refine next k hk (fun h a b => ?_) ?_
     .rw [<- hh h a b]
      constructor
      .rintro (h' | rfl)
       .exact h'
       .rw [hm] at b; cases b
      .exact .inl
     .intro K hK
      exact ajW (ops := ops) (st.sel i h1) hlooks (aDk rfl r st h1 hk hdown' hbi h2 hh hm K hK)
end
abbrev axA (P : Program) : Machine -> Prop := Machine.fenced P Fence.wide
def wpF (P : Program) (f : FuncId) (ro : Option Nat) (c : Code) (Q : Exit -> Act -> aNX -> Prop) (a : Act) (w : aNX) : Prop :=
 ∀ (b : Frame) (k : List Item) (cs : List Frame), b.fn = f -> b.roundOf = ro -> ∃ e a' w', Q e a' w' /\ ArrivesIn (axA P) P (lone (b.atR a (.code c :: k)) cs w) b k cs e a' w'
section
variable {P : Program} {f : FuncId} {ro : Option Nat} {Q : Exit -> Act -> aNX -> Prop} {a : Act} {w : aNX}
theorem MV {m m1 : Machine} (h : step P m = .next m1) : StepsIn (axA P) P m m1 := .one (fenced_wide P m) h
theorem UJ {m m1 m2 : Machine} (h : step P m = .next m1) (h' : StepsIn (axA P) P m1 m2) : StepsIn (axA P) P m m2 := .head (fenced_wide P m) h h'
theorem aHG (h : Q .normal a w) : wpF P f ro .skip Q a w := fun _ _ _ _ _ => ⟨.normal, a, w, h, MV Go.stepR_skip⟩
theorem aFF {l : Nat} (h : Q .normal a w) : wpF P f ro (.label l) Q a w := fun _ _ _ _ _ => ⟨.normal, a, w, h, MV stepR_label⟩
theorem aCP {id : Nat} (h : Q (.exit id) a w) : wpF P f ro (.exit id) Q a w :=
 fun _ k _ _ _ => ⟨.exit id, a, w, h, fun _ hk => MV (stepR_exit hk), fun _ hk => ⟨k, hk, .refl _⟩⟩
theorem aE4 (h : Q .ret a w) : wpF P f ro .ret Q a w :=
 fun _ k _ _ _ => ⟨.ret, a, w, h, fun hn => ⟨_, MV (stepR_ret hn)⟩, fun _ => ⟨k, .refl _⟩⟩
theorem aIt {x y : Code} (h : wpF P f ro x (Exit.then (wpF P f ro y Q) Q) a w) : wpF P f ro (.seq x y) Q a w := by
 intro b k cs hb hro
 obtain ⟨e, a1, w1, hq, har⟩ := h b (.code y :: k) cs hb hro
 cases e with
 | normal =>
   obtain ⟨e2, a2, w2, hq2, har2⟩ := hq b k cs hb hro
   exact ⟨e2, a2, w2, hq2, .of_steps (UJ stepR_seq har) har2⟩
 | _ => exact ⟨_, a1, w1, hq, .of_steps (MV stepR_seq) (.pass (x := .code y) rfl (fun _ _ => .inl (by simp)) har)⟩
theorem aGZ {c : Operand} {x y : Code} {t : Bool} (hc : a.eval c = .bool t) (h : wpF P f ro (if t then x else y) Q a w) : wpF P f ro (.cond c x y) Q a w :=
 fun b k cs hb hro => let ⟨e, a1, w1, q, r⟩ := h b k cs hb hro; ⟨e, a1, w1, q, .of_steps (MV (stepR_cond hc)) r⟩
theorem aGl {id : Nat} {c : Code} (h : wpF P f ro c (Exit.inBlock id Q) a w) : wpF P f ro (.block id c) Q a w := by
 intro b k cs hb hro
 obtain ⟨e, a1, w1, hq, har⟩ := h b (.inBlock id :: k) cs hb hro
 cases e with
 | normal => exact ⟨.normal, a1, w1, hq, UJ stepR_block (StepsIn.trans har (MV stepR_inBlock))⟩
 | exit i =>
   by_cases hid : i = id
   .simp only [Exit.inBlock, hid, if_true] at hq
    exact ⟨.normal, a1, w1, hq, UJ stepR_block (har.1 k (by simp [exitTo, hid]))⟩
   .simp only [Exit.inBlock, hid, if_false] at hq
    have this : (id == i) = false := by simp; exact fun h => hid h.symm
    have hx : exitTo i (.inBlock id :: k) = exitTo i k := by simp [exitTo, this]
    exact ⟨.exit i, a1, w1, hq, fun k' hk => UJ stepR_block (har.1 k' (by rw [hx]; exact hk)),
     fun hr' hk => let ⟨k1, h1, h2⟩ := har.2 hr' (by rw [hx]; exact hk); ⟨k1, h1, UJ stepR_block h2⟩⟩
 | goto l =>
   have hx : gotoIn l (.inBlock id :: k) = gotoIn l k := by simp [gotoIn]
   exact ⟨_, a1, w1, hq, fun k' hk => UJ stepR_block (har.1 k' (by rw [hx]; exact hk)),
    fun hr' hk => let ⟨k1, h1, h2⟩ := har.2 hr' (by rw [hx]; exact hk); ⟨k1, h1, UJ stepR_block h2⟩⟩
 | ret => exact ⟨_, a1, w1, hq, .of_steps (MV stepR_block) har⟩
 | panic ch => exact ⟨_, a1, w1, hq, .of_steps (MV stepR_block) har⟩
 | outgrown => exact ⟨_, a1, w1, hq, .of_steps (MV stepR_block) har⟩
theorem EK {b : Frame} {k : List Item} {cs : List Frame} {c : Code} :
 step P (lone (b.atR a (.code (.scope c) :: k)) cs w) = .next (lone (b.atR a (.code c :: .inScope c :: k)) cs w) :=
 step_lone_go (by simp [stepG, stepG.exec, Frame.atR])
theorem aAC {b : Frame} {k : List Item} {cs : List Frame} {c : Code} :
 step P (lone (b.atR a (.inScope c :: k)) cs w) = .next (lone (b.atR a k) cs w) :=
 step_lone_go (by simp [stepG, stepG.exec, Frame.atR])
theorem aFY {c : Code} (h : wpF P f ro c (Exit.noGoto Q) a w) : wpF P f ro (.scope c) Q a w := by
 intro b k cs hb hro
 obtain ⟨e, a1, w1, hq, har⟩ := h b (.inScope c :: k) cs hb hro
 cases e with
 | normal => exact ⟨.normal, a1, w1, hq, UJ EK (StepsIn.trans har (MV aAC))⟩
 | exit id =>
   have hx : exitTo id (.inScope c :: k) = exitTo id k := by simp [exitTo]
   exact ⟨.exit id, a1, w1, hq, fun k' hk => UJ EK (har.1 k' (by rw [hx]; exact hk)),
    fun hr' hk => let ⟨k1, h1, h2⟩ := har.2 hr' (by rw [hx]; exact hk); ⟨k1, h1, UJ EK h2⟩⟩
 | goto l => exact hq.elim
 | ret => exact ⟨_, a1, w1, hq, .of_steps (MV EK) har⟩
 | panic ch => exact ⟨_, a1, w1, hq, .of_steps (MV EK) har⟩
 | outgrown => exact ⟨_, a1, w1, hq, .of_steps (MV EK) har⟩
theorem aHK {c : Code} (I : Act -> aNX -> Prop) (μ : Act -> aNX -> Nat) (h0 : I a w)
 (round : ∀ a w, I a w -> wpF P f ro c (Exit.then (fun a' w' => I a' w' /\ μ a' w' < μ a w) Q) a w) : wpF P f ro (.loop c) Q a w := by
 intro b k cs hb hro
 have key : ∀ n a w, μ a w = n -> I a w →
     ∃ e a' w', Q e a' w' /\ ArrivesIn (axA P) P (lone (b.atR a (.code c :: .inLoop c :: k)) cs w) b k cs e a' w' := by
  intro n
  induction n using Nat.strongRecOn with
  | _ n ih =>
    intro a w hn hI
    obtain ⟨e, a1, w1, hq, har⟩ := round a w hI b (.inLoop c :: k) cs hb hro
    cases e with
    | normal =>
      obtain ⟨hI1, hlt⟩ := hq
      obtain ⟨e2, a2, w2, hq2, har2⟩ := ih (μ a1 w1) (hn ▸ hlt) a1 w1 rfl hI1
      exact ⟨e2, a2, w2, hq2, .of_steps (StepsIn.trans har (MV stepR_inLoop)) har2⟩
    | _ => exact ⟨_, a1, w1, hq, .pass (x := .inLoop c) rfl (fun _ _ => .inl (by simp)) har⟩
 obtain ⟨e, a', w', hq, har⟩ := key _ a w rfl h0
 exact ⟨e, a', w', hq, .of_steps (MV stepR_loop) har⟩
theorem aFg {ops : Array Oper} {L : List Nat} (h : HY P ops (Q .normal) L a w) (b : Frame) (k : List Item) (cs : List Frame) (hro : b.roundOf = ro) :
 ∃ e a' w', Q e a' w' /\ ArrivesIn (axA P) P (lone (b.atR a (.inRegion ops L :: k)) cs w) b k cs e a' w' := by
 obtain ⟨e, a', w', ⟨rfl, hq⟩, hs⟩ := wp_opsIn (F := aAa ro) (n := 0) L a w (aFZ ro L a w h) b k cs hro trivial (fun _ h => by simp [aAa, Fence.wide] at h)
 exact ⟨.normal, a', w', hq, hs⟩
theorem aD4 {id : Nat} {ops : Array Oper} (h : HY P ops (Q .normal) (List.range ops.size) a w) : wpF P f ro (.region id ops false) Q a w := by
 intro b k cs hb hro
 obtain ⟨e, a1, w1, q, r⟩ := aFg h b k cs hro
 exact ⟨e, a1, w1, q, .of_steps (MV stepR_region) r⟩
theorem auU (hm : P.follows .mixedOrders = true) {id : Nat} {ops : Array Oper}
 (h : HY P ops (Q .normal) (Region.schedule true ops (w.tape w.drawn (.order f id))) a { w with drawn := w.drawn + 1 }) : wpF P f ro (.region id ops true) Q a w := by
 intro b k cs hb hro
 obtain ⟨e, a1, w1, q, r⟩ := aFg h b k cs hro
 refine ⟨e, a1, w1, q, .of_steps (MV ?_) r⟩
 have := @stepR_region_draw P b a k cs w ops id
 rw [hm, hb] at this
 exact this
def Hh (v : aNY) (w : aNX) (K : aNX -> Prop) : Prop :=
 match v with
 | .pointer (some a) => w.heap[a.block]? = some (.deferred (some [])) /\ K (w.putObj a.block (.deferred none))
 | _ => K w
def aFN (P : Program) (fn : Func) (R : aNY -> aNX -> Prop) : Exit -> Act -> aNX -> Prop
 | .normal, a, w | .ret, a, w => ∃ m, a.defers = aC0 m /\ Hh m w fun w' => ∃ v, (results fn a.tmps).run P w' = .ok v w' /\ R v w'
 | _, _, _ => False
theorem aCX {fn : Func} {R : aNY -> aNX -> Prop} {fr : Frame} {cs : List Frame} (hm : fr.mode = .returning) (hf : P.funcs[fr.fn]? = some fn) (hk : fr.kind = .normal) {m : aNY} (hd : fr.defers = aC0 m)
 (h : Hh m w fun w' => ∃ v, (results fn fr.tmps).run P w' = .ok v w' /\ R v w') :
 ∃ v w' fr', R v w' /\ Steps P (lone fr cs w) (lone fr' cs w') /\ fr'.fn = fr.fn /\ fr'.leaving P w' (.returned v) := by
 have nil : fr.defers = [] -> (∃ v, (results fn fr.tmps).run P w = .ok v w /\ R v w) →
     ∃ v w' fr', R v w' /\ Steps P (lone fr cs w) (lone fr' cs w') /\ fr'.fn = fr.fn /\ fr'.leaving P w' (.returned v) := by
  rintro hd ⟨v, hv, hR⟩
  exact ⟨v, w, fr, hR, .refl _ _, rfl, hm, hd, hk, fn, hf, hv⟩
 cases m with
 | pointer p =>
   cases p with
   | none => exact nil hd h
   | some a =>
     obtain ⟨h1, v, hv, hR⟩ := h
     have hs := step_collected (P := P) (fr := fr) (cs := cs) (w := w) (d := { target := .collected a.block, args := #[] }) (r := a.block) (ds := []) (calls := [])
      (by rw [hm]; simp) hd rfl (run_takeDeferred h1)
     exact ⟨v, _, { fr with defers := [] }, hR, .head hs (.refl _ _), rfl, hm, rfl, hk, fn, hf, hv⟩
 | _ => exact nil hd h
theorem aB7 {fn : Func} {c : Code} {args : Array aNY} {w : aNX} {R : aNY -> aNX -> Prop}
 (hf : P.funcs[f]? = some fn) (hb : fn.body = some c)
 (h : wpF P f none c (aFN P fn R) { tmps := args ++ Array.replicate (fn.ntmps - args.size) undef, defers := [] } w) : Calls P f args w fun e w' => ∃ v, e = .returned v /\ R v w' := by
 intro cs
 let b : Frame := { (default : Frame) with fn := f, kind := .normal, roundOf := none }
 have henter : Frame.enter P f args .normal = b.atR { tmps := args ++ Array.replicate (fn.ntmps - args.size) undef, defers := [] } [.code c] := by
  simp [Frame.enter, Frame.atR, hf, hb, b]
 obtain ⟨e, a', w', hq, har⟩ := h b [] cs rfl rfl
 rw [<- henter] at har
 cases e with
 | normal =>
   obtain ⟨m, hd, hq⟩ := hq
   obtain ⟨v, w2, fr, hR, hs, hfn, hl⟩ := aCX (P := P) (cs := cs) (fr := { b.atR a' [] with mode := .returning }) rfl hf rfl hd hq
   exact ⟨.returned v, w2, fr, ⟨v, rfl, hR⟩, (StepsIn.steps har).trans (.head (stepR_end rfl) hs), hfn, hl⟩
 | ret =>
   obtain ⟨m, hd, hq⟩ := hq
   obtain ⟨todo, hs0⟩ := har.1 rfl
   obtain ⟨v, w2, fr, hR, hs, hfn, hl⟩ := aCX (P := P) (cs := cs) (fr := { b.atR a' todo with mode := .returning }) rfl hf rfl hd hq
   exact ⟨.returned v, w2, fr, ⟨v, rfl, hR⟩, (StepsIn.steps hs0).trans hs, hfn, hl⟩
 | panic chain => exact hq.elim
 | exit id => exact hq.elim
 | goto l => exact hq.elim
 | outgrown => exact hq.elim
def aJq (P : Program) (f : FuncId) (Q : Exit -> Act -> aNX -> Prop) (a : Act) (w : aNX) : Option Code -> Prop
 | none => Q .normal a w
 | some c => wpF P f none c Q a w
theorem aF9 {gf : Operand} {ps : Array Tmp} {aLp bd : Code} {d : Deferred} {g : FuncId} {args : Array aNY} {w1 : aNX} {l : Nat} {mark : List Deferred} {w2 w3 : aNX} {v : aNY}
 (he : (Instr.enterLoop f a.tmps ps aLp bd none).run P w = .ok (l, mark) w1)
 (hres : (resolve a.eval (rangeCall gf l) 0).run P w1 = .ok d w1) (hinv : (invoke d.target d.args).run P w1 = .ok (.enter g args) w2)
 (hcall : Ret P g args w2 v w3)
 {jump : Option Code} {w4 : aNX} (hend : (Instr.endLoop l).run P w3 = .ok jump w4)
 (hj : aJq P f Q { a with defers := mark ++ a.defers } w4 jump) :
 wpF P f none (.rangeFunc gf ps aLp bd) Q a w := by
 intro b k cs hb hro
 rw [<- hb, <- hro] at he
 have henter := stepR_rangeFunc (P := P) (b := b) (a := a) (k := k) (cs := cs) (w := w) he hres hinv
 obtain ⟨e, w3', fr, ⟨rfl, rfl⟩, hsteps, hfn, hleave⟩ := hcall (b.atR { a with defers := mark ++ a.defers } (.inRangeFunc l :: k) :: cs)
 have sback : StepsIn (axA P) P (lone (b.atR a (.code (.rangeFunc gf ps aLp bd) :: k)) cs w) (lone (b.atR { a with defers := mark ++ a.defers } ((jump.map Item.code).toList ++ k)) cs w4) := by
  refine UJ henter (StepsIn.trans (stepsIn_wide.2 hsteps) (UJ (m1 := lone (b.atR { a with defers := mark ++ a.defers } (.endRangeFunc l :: k)) cs w3') ?_ (MV (stepR_endRangeFunc hend))))
  rw [<- finish_atR_inRangeFunc l v]; exact step_leave_returned hleave
 cases jump with
 | none => exact ⟨.normal, _, w4, hj, sback⟩
 | some c =>
   obtain ⟨e', a'', w5, hq, harr⟩ := hj b k cs hb hro
   exact ⟨e', a'', w5, hq, .of_steps sback harr⟩
def aED (P : Program) (l : Nat) (R : aNY -> aNX -> Prop) : Exit -> Act -> aNX -> Prop
 | .normal, _, w => ∃ v w', (Instr.endRound l none).run P w = .ok v w' /\ R v w'
 | .ret, _, w => ∃ v w', (Instr.endRound l (some .ret)).run P w = .ok v w' /\ R v w'
 | .exit id, _, w => ∃ v w', (Instr.endRound l (some (.exit id))).run P w = .ok v w' /\ R v w'
 | _, _, _ => False
theorem aBY {l : Nat} {tmps : Array aNY} {aLp bd : Code} {R : aNY -> aNX -> Prop}
 (h : wpF P f (some l) aLp (Exit.then (fun a1 w1 => ∃ w2, (Instr.beginRound l).run P w1 = .ok () w2 /\ wpF P f (some l) bd (aED P l R) a1 w2) (fun _ _ _ => False))
   { tmps := tmps, defers := [] } w) :
 RoundIn Fence.wide 0 P l f tmps aLp bd w fun e w' => ∃ v, e = .returned v /\ R v w' := by
 refine ⟨trivial, fun c cs _ => ?_⟩
 let b : Frame := { (default : Frame) with fn := f, kind := .normal, roundOf := some l }
 have hb0 : Frame.round l f tmps aLp bd .normal = b.atR { tmps := tmps, defers := [] } [.code aLp, .beginRound, .code bd] := by
  simp [Frame.round, Frame.atR, b]
 obtain ⟨e, a1, w1, hq, harr⟩ := h b [.beginRound, .code bd] (c :: cs) rfl rfl
 rw [<- hb0] at harr
 cases e with
 | normal =>
   obtain ⟨w2, hbr, hbody⟩ := hq
   have s1 := MV (stepR_beginRound (P := P) (b := b) (a := a1) (k := [.code bd]) (cs := c :: cs) rfl hbr)
   obtain ⟨e2, a2, w3, hq2, harr2⟩ := hbody b [] (c :: cs) rfl rfl
   cases e2 with
   | normal =>
     obtain ⟨v, w4, hend, hR⟩ := hq2
     exact ⟨.returned v, w4, ⟨v, rfl, hR⟩, (StepsIn.trans harr s1).trans (StepsIn.trans harr2 (MV (stepR_round_end rfl rfl hend)))⟩
   | ret =>
     obtain ⟨v, w4, hend, hR⟩ := hq2
     obtain ⟨k1, hs⟩ := harr2.2 rfl
     exact ⟨.returned v, w4, ⟨v, rfl, hR⟩, (StepsIn.trans harr s1).trans (StepsIn.trans hs (MV (stepR_round_ret rfl rfl hend)))⟩
   | exit id =>
     obtain ⟨v, w4, hend, hR⟩ := hq2
     obtain ⟨k1, hk, hs⟩ := harr2.2 rfl rfl
     exact ⟨.returned v, w4, ⟨v, rfl, hR⟩, (StepsIn.trans harr s1).trans (StepsIn.trans hs (MV (stepR_round_exit rfl rfl hk hend)))⟩
   | goto t => exact hq2.elim
   | panic chain => exact hq2.elim
   | outgrown => exact hq2.elim
 | exit id => exact hq.elim
 | goto t => exact hq.elim
 | ret => exact hq.elim
 | panic chain => exact hq.elim
 | outgrown => exact hq.elim
end
def aBG (ops : Array Oper) : Nat -> Array Bool -> List Nat -> Prop
 | 0, _, L => L = []
 | _ + 1, listed, [] => Region.ready .any ops listed = []
 | n + 1, listed, i :: L => i ∈ Region.ready .any ops listed /\ aBG ops n (listed.setIfInBounds i true) L
section
variable {P : Program} {ops : Array Oper} {Q : Act -> aNX -> Prop}
theorem aIL : ∀ (fuel t : Nat) (listed : Array Bool), aBG ops fuel listed (Region.linearise.go .any ops fuel t listed []) := by
 intro fuel
 induction fuel with
 | zero => intro t listed; simp [Region.linearise.go, aBG]
 | succ fuel ih =>
   intro t listed
   simp only [Region.linearise.go]
   change aBG ops (fuel + 1) listed (match (Region.ready .any ops listed)[t % (Region.ready .any ops listed).length]? with
    | some i => Region.linearise.go .any ops fuel (t / (Region.ready .any ops listed).length) (listed.setIfInBounds i true) [i]
    | none => [].reverse)
   cases hi : (Region.ready .any ops listed)[t % (Region.ready .any ops listed).length]? with
   | none =>
     have : Region.ready .any ops listed = [] := by
      cases hr : Region.ready .any ops listed with
      | nil => rfl
      | cons x xs =>
        rw [hr] at hi
        have hlt : t % (x :: xs).length < (x :: xs).length := aNt _ (by simp)
        rw [aLA hlt] at hi
        cases hi
     simpa [aBG] using this
   | some i =>
     simp only []
     rw [linearise_go_acc]
     exact ⟨aMz hi, ih _ _⟩
theorem aiX : ∀ (fuel : Nat) (listed : Array Bool) (L : List Nat) (a : Act) (w : aNX), ayW P ops Q fuel listed a w -> aBG ops fuel listed L -> HY P ops Q L a w := by
 intro fuel
 induction fuel with
 | zero => intro listed L a w h hL; obtain rfl : L = [] := hL; exact h.2
 | succ fuel ih =>
   intro listed L a w h hL
   cases L with
   | nil => exact h.1 hL
   | cons i L =>
     exact aEJ (fun a w hh => ih _ _ a w hh hL.2) (h.2 i hL.1)
end
structure Perm (π : List Nat) (ops : Array Oper) : Prop where
 len : π.length = ops.size
 to : ∀ i, i < ops.size -> Bt π i < ops.size /\ π[Bt π i]? = some i
 back : ∀ k, k < ops.size -> ∃ i, π[k]? = some i /\ Bt π i = k /\ i < ops.size
 after : ∀ (i : Nat) (o : Oper), ops[i]? = some o -> ∀ e ∈ o.after, e.on < ops.size
 guard : ∀ (i : Nat) (o : Oper) (j : Nat) (b : Bool), ops[i]? = some o -> o.guard = some (j, b) -> j < ops.size
theorem aI3 {π : List Nat} {ops : Array Oper} (h : aEe π ops = true) : Perm π ops := by
 unfold aEe at h
 simp only [aLJ] at h
 obtain ⟨⟨⟨h1, h2⟩, h3⟩, h4⟩ := h
 have h1 := aMe h1
 have at4 : ∀ (i : Nat) (o : Oper), ops[i]? = some o -> (o.after.all fun e => Nat.blt e.on ops.size) = true /\ (match o.guard with | some (j, _) => Nat.blt j ops.size | none => true) = true := by
  intro i o ho
  have hi : i < ops.size := by
   rcases aLO i ops.size with h | h
   .exact h
   .rw [aMY h] at ho; cases ho
  have := aMw.1 h4 i (aL8.2 hi)
  rw [ho] at this
  simp only [aLJ] at this
  refine ⟨this.1, ?_⟩
  have h := this.2
  revert h
  cases o.guard <;> exact id
 refine ⟨h1, fun i hi => ?_, fun k hk => ?_, fun i o ho e he => ?_, fun i o j b ho hg => ?_⟩
 .have := aMw.1 h3 i (aL8.2 hi)
  cases hp : π[Bt π i]? with
  | none => rw [hp] at this; cases this
  | some j =>
    rw [hp] at this
    obtain rfl := aMe this
    refine ⟨?_, rfl⟩
    rcases aLO (Bt π j) π.length with h | h
    .omega
    .rw [aLH h] at hp; cases hp
 .have := aMw.1 h2 k (aL8.2 hk)
  cases hp : π[k]? with
  | none => rw [hp] at this; cases this
  | some i =>
    rw [hp] at this
    simp only [aLJ] at this
    exact ⟨i, rfl, aMe this.1, (aNs (x := i) (y := ops.size)) ▸ this.2⟩
 .have := aMF.1 (at4 i o ho).1 e he
  exact (aNs (x := e.on) (y := ops.size)) ▸ this
 .have := (at4 i o ho).2
  rw [hg] at this
  exact (aNs (x := j) (y := ops.size)) ▸ this
theorem aAY {π : List Nat} {es : List (Nat × Nat)} {l : List Oper} : ∀ (r : List Nat), (∀ i ∈ r, i < l.length) -> (ajI π es l r).length = r.length /\ ∀ k i : Nat, r[k]? = some i -> (ajI π es l r)[k]? = (l[i]?).map (RY π es i) := by
 intro r
 induction r with
 | nil => intro _; exact ⟨rfl, fun k i h => by simp at h⟩
 | cons j r ih =>
   intro h
   obtain ⟨h1, h2⟩ := ih fun i hi => h i (aLQ _ hi)
   have hj : j < l.length := h j (by simp)
   simp only [ajI, aLA hj]
   refine ⟨by simp [h1], fun k i hk => ?_⟩
   cases k with
   | zero => simp at hk; subst hk; simp [aLA hj]
   | succ k => simp at hk ⊢; exact h2 k i hk
section
variable {P : Program} {ops : Array Oper} {Q : Act -> aNX -> Prop} {π : List Nat} {es : List (Nat × Nat)}
theorem Perm.mem (p : Perm π ops) : ∀ i ∈ π, i < ops.toList.length := by
 intro i hi
 obtain ⟨k, hk, e⟩ := aMX hi
 obtain ⟨j, h1, _, h2⟩ := p.back k (by rw [<- p.len]; exact hk)
 rw [aLA hk] at h1
 cases h1
 rw [<- e]; simpa using h2
theorem Perm.size (p : Perm π ops) : (vX π es ops).size = ops.size := by
 unfold vX
 rw [List.size_toArray, (aAY (es := es) (π := π) π p.mem).1, p.len]
theorem Perm.get (p : Perm π ops) {i : Nat} (hi : i < ops.size) : (vX π es ops)[Bt π i]? = (ops[i]?).map (RY π es i) := by
 unfold vX
 have := (aAY (es := es) (π := π) π p.mem).2 (Bt π i) i (p.to i hi).2
 rw [Array.getElem?_toList] at this
 simpa using this
theorem aDO {i : Nat} {o : Oper} {a : Act} {w : aNX} {K : Act -> aNX -> Prop} : aEQ P (RY π es i o) a w K ↔ aEQ P o a w K := by
 unfold aEQ
 have h1 : execOp a.eval (RY π es i o) = execOp a.eval o := by
  obtain ⟨d, op, ty, ps, af, g⟩ := o
  cases op <;> rfl
 have h2 : aAU (RY π es i o) = aAU o := rfl
 rw [h1, h2]
 generalize (execOp a.eval o).run P w = r
 cases r with
 | ok n w => cases n <;> exact Iff.rfl
 | halt x w => exact Iff.rfl
theorem aDs (p : Perm π ops) {i : Nat} {o : Oper} (ho : ops[i]? = some o) (tmps : Array aNY) :
 Region.wanted (RY π es i o) (yielded (vX π es ops) tmps) = Region.wanted o (yielded ops tmps) := by
 unfold Region.wanted RY
 simp only
 cases hg : o.guard with
 | none => rfl
 | some q =>
   obtain ⟨j, b⟩ := q
   simp only
   have hj := p.guard i o j b ho hg
   have : (vX π es ops)[Bt π j]?.bind (·.dst) = (ops[j]?).bind (·.dst) := by
    rw [p.get hj]
    cases ops[j]? <;> rfl
   unfold yielded
   rw [this]
theorem aEE (p : Perm π ops) : ∀ (L : List Nat), (∀ i ∈ L, i < ops.size) -> ∀ (a : Act) (w : aNX), HY P (vX π es ops) Q (L.map (Bt π)) a w -> HY P ops Q L a w := by
 intro L
 induction L with
 | nil => intro _ a w h; exact h
 | cons i L ih =>
   intro hL a w h
   rw [aME] at h
   simp only [HY] at h ⊢
   have hi := hL i (by simp)
   have ih := ih fun i hi => hL i (aLQ _ hi)
   unfold Xt at h ⊢
   rw [p.get hi] at h
   rw [aL3 hi] at h ⊢
   simp only [aMh] at h
   rw [aDs p (aL3 hi)] at h
   simp only
   split
   .rename_i hw
    rw [if_pos hw, aDO] at h
    exact aAL (fun a w => ih a w) h
   .rename_i hw
    rw [if_neg hw] at h
    exact ih _ _ h
theorem X0 {ops : Array Oper} {listed : Array Bool} (hsz : listed.size = ops.size) (i : Nat) :
 i ∈ Region.ready .any ops listed ↔ (i < ops.size /\ listed.getD i false = false /\ ∀ o, ops[i]? = some o -> ∀ e ∈ o.after, Region.binds .any e = true -> listed.getD e.on false = true) := by
 unfold Region.ready
 rw [aNH, aL8]
 constructor
 .rintro ⟨h1, h2⟩
  rw [aL3 h1] at h2
  simp only [aLJ, aMh, aNz] at h2
  refine ⟨h1, ?_, fun o ho e he hb => ?_⟩
  .have := h2.1
   rw [aLI] at this ⊢
   rw [aL3 (by omega)] at this ⊢
   simpa using this
  .rw [aL3 h1] at ho
   cases ho
   have := aMF.1 h2.2 e he
   simpa [hb] using this
 .rintro ⟨h1, h2, h3⟩
  refine ⟨h1, ?_⟩
  rw [aL3 h1]
  simp only [aLJ, aMh, aNz]
  refine ⟨?_, aMF.2 fun e he => ?_⟩
  .rw [aLI] at h2 ⊢
   rw [aL3 (by omega)] at h2 ⊢
   simpa using h2
  .by_cases hb : Region.binds .any e = true
   .simp [hb, h3 _ (aL3 h1) e he hb]
   .simp [hb]
theorem aHr {π : List Nat} {i : Nat} : ∀ {es : List (Nat × Nat)} {e : Edge}, e ∈ MO π i es -> ∃ a, (a, i) ∈ es /\ e.on = Bt π a := by
 intro es
 induction es with
 | nil => intro e h; simp [MO] at h
 | cons q r ih =>
   obtain ⟨a, b⟩ := q
   intro e h
   simp only [MO] at h
   cases hb : Nat.beq b i with
   | true =>
     rw [hb] at h
     obtain rfl := aMe hb
     rcases aMl.1 h with rfl | h
     .exact ⟨a, by simp, rfl⟩
     .obtain ⟨a, h1, h2⟩ := ih h; exact ⟨a, aLQ _ h1, h2⟩
   | false => rw [hb] at h; obtain ⟨a, h1, h2⟩ := ih h; exact ⟨a, aLQ _ h1, h2⟩
theorem aGA (p : Perm π ops) {L0 : List Nat} (hes : ∀ q ∈ es, L0.idxOf q.1 <= L0.idxOf q.2 /\ q.1 ≠ q.2 /\ q.1 < ops.size) :
 ∀ (fuel : Nat) (listed listed' : Array Bool) (pre L : List Nat), L0 = pre ++ L -> listed.size = ops.size -> listed'.size = ops.size →
   (∀ j, j < ops.size -> listed'.getD (Bt π j) false = listed.getD j false) -> (∀ j ∈ pre, listed.getD j false = true) -> (∀ j, listed.getD j false = true -> j ∈ pre) →
   aBG ops fuel listed L -> aBG (vX π es ops) fuel listed' (L.map (Bt π)) /\ ∀ i ∈ L, i < ops.size := by
 intro fuel
 induction fuel with
 | zero => intro listed listed' pre L _ _ _ _ _ _ h; obtain rfl : L = [] := h; exact ⟨rfl, by simp⟩
 | succ fuel ih =>
   intro listed listed' pre L hL0 hs hs' hrel hpre hpre' h
   have hsz : (vX π es ops).size = ops.size := p.size
   cases L with
   | nil =>
     refine ⟨?_, by simp⟩
     show Region.ready .any (vX π es ops) listed' = []
     rw [List.eq_nil_iff_forall_not_mem]
     intro k hk
     obtain ⟨h1, h2, h3⟩ := (X0 (by omega) k).1 hk
     obtain ⟨i, hi1, hi2, hi3⟩ := p.back k (by omega)
     have : i ∈ Region.ready .any ops listed := by
      refine (X0 hs i).2 ⟨hi3, ?_, fun o ho e he hb => ?_⟩
      .rw [<- hrel i hi3, hi2]; exact h2
      .have g := p.get (es := es) hi3
       rw [hi2, ho] at g
       have hon := p.after i o ho e he
       have := h3 _ g ⟨Bt π e.on, e.ground⟩ (by
        simp only [RY, List.mem_toArray, aMb, aMD]
        exact .inl ⟨e, by simpa using he, rfl⟩) (by unfold Region.binds at hb ⊢; exact hb)
       rw [<- hrel e.on hon]; exact this
     rw [show Region.ready .any ops listed = [] from h] at this
     cases this
   | cons i L =>
     obtain ⟨h1, h2⟩ := h
     obtain ⟨r1, r2, r3⟩ := (X0 hs i).1 h1
     have hnot : i ∉ pre := fun hm => by rw [hpre i hm] at r2; cases r2
     have hidx : L0.idxOf i = pre.length := by
      rw [hL0, List.idxOf_append, if_neg hnot]; simp
     have ready' : Bt π i ∈ Region.ready .any (vX π es ops) listed' := by
      refine (X0 (by omega) _).2 ⟨by rw [hsz]; exact (p.to i r1).1, by rw [hrel i r1]; exact r2, fun o' ho' e' he' hb => ?_⟩
      rw [p.get r1, aL3 r1] at ho'
      simp only [aMh, Option.some.injEq] at ho'
      subst ho'
      simp only [RY, List.mem_toArray, aMb, aMD] at he'
      rcases he' with ⟨e, he, rfl⟩ | he'
      .have ho := aL3 r1
       have he2 : e ∈ ops[i].after := by simpa using he
       rw [hrel e.on (p.after i _ ho e he2)]
       exact r3 _ ho e he2 (by unfold Region.binds at hb ⊢; exact hb)
      .obtain ⟨a, ha, hon⟩ := aHr he'
       obtain ⟨q1, q2, q3⟩ := hes _ ha
       simp only at q1 q2 q3
       rw [hon, hrel a q3]
       refine hpre a ?_
       rw [hidx] at q1
       rw [hL0, List.idxOf_append] at q1
       by_cases hm : a ∈ pre
       .exact hm
       .rw [if_neg hm] at q1
        exfalso
        have hz : (i :: L).idxOf a = 0 := by omega
        rw [List.idxOf_cons] at hz
        cases hb : (i == a) with
        | true => exact q2 (by simpa using (beq_iff_eq.1 hb).symm)
        | false => rw [hb] at hz; simp at hz
     have hlen' : listed'.size = ops.size := hs'
     obtain ⟨k1, k2⟩ := ih (listed.setIfInBounds i true) (listed'.setIfInBounds (Bt π i) true) (pre ++ [i]) L (by rw [hL0]; simp) (by simp [hs]) (by simp [hs'])
      (fun j hj => by
       by_cases hji : j = i
       .subst hji
        rw [aLI, aLI, aMn (by rw [hs']; exact (p.to j hj).1), aMn (by omega)]
       .have hne : Bt π i ≠ Bt π j := fun e => by
         have a1 := (p.to i r1).2
         have a2 := (p.to j hj).2
         rw [e] at a1
         rw [a1] at a2
         exact hji (aLT a2).symm
        have := hrel j hj
        rw [aLI, aLI] at this ⊢
        rw [aMs hne, aMs (fun e => hji e.symm)]
        exact this)
      (fun j hj => by
       rw [aLI]
       rcases aMb.1 hj with hj | hj
       .by_cases hji : j = i
        .subst hji; rw [aMn (by omega)] <;> rfl
        .rw [aMs (fun e => hji e.symm), <- aLI]; exact hpre j hj
       .have : j = i := by simpa using hj
        subst this
        rw [aMn (by omega)] <;> rfl)
      (fun j hj => by
       by_cases hji : j = i
       .subst hji; simp
       .rw [aLI, aMs (fun e => hji e.symm), <- aLI] at hj
        exact aMG _ (hpre' j hj))
      h2
     exact ⟨⟨ready', k1⟩, fun j hj => (aMl.1 hj).elim (fun e => e ▸ r1) (k2 j)⟩
end
section
variable {P : Program} {ops : Array Oper}
theorem arZ {N : Nat} {an : Ann} {pl : aDE} (hok : axD ops an = true) (hpl : azV ops.size an pl = true) (hd : abF N ops) (hca : alG P ops)
 {K : Env -> aNX -> Prop} {Q : Act -> aNX -> Prop} (hQ : ∀ g a w, VZ N g a -> K g w -> Q a w) {g : Env} {a : Act} {w : aNX} (hr : VZ N g a)
 (h : xN P ops ops.toList pl [] g w K) : ayW P ops Q ops.size (Array.replicate ops.size false) a w := by
 have r0 : Run P ops an g w 0 (fun _ => default) (fun _ => g) (fun _ => w) (fun _ => undef) :=
  ⟨rfl, rfl, fun i hi => by omega, fun i hi => by omega, fun i hi => by omega, fun i hi => by omega, fun i j _ hj => by omega⟩
 obtain ⟨O, G, W, V, r, hk⟩ := aCL hpl ops.toList 0 [] _ _ _ _ (fun j => by simp) (by simp) r0 (fun i hi => by omega) h
 simp only [aLt, aMJ] at r hk
 have st := aGx hok r.op
 have := aHf (Q := Q) (n := ops.size) rfl hd hca r st (fun a hra => hQ _ a _ hra hk) ops.size (Array.replicate ops.size false) g a 0 (by simp) hr (by omega)
  (fun j hj hl => by unfold sE at hl; simp [aLI, hj] at hl)
  (fun s => .inr ⟨fun j hj hl => by unfold sE at hl; simp [aLI, hj] at hl, rfl⟩)
  (fun h hh _ => ⟨fun hl => by unfold sE at hl; simp [aLI, hh] at hl, fun hl => by omega⟩)
  (aMy (List.length_filter_le _ _) (by simp))
 rw [r.w0] at this
 exact this
theorem apG {N : Nat} {ops : Array Oper} (h : ops.all (aE9 N) = true) : abF N ops := by
 intro i o ho t ht
 have := aMF.1 h o (aNT ho)
 unfold aE9 at this
 rw [ht] at this
 exact (aNs (x := t) (y := N)) ▸ this
theorem azC {ops : Array Oper} (h : ops.all (FP P) = true) : alG P ops :=
 fun _ o ho => aMF.1 h o (aNT ho)
theorem aES {N : Nat} {f : FuncId} {id : Nat} (hd : abF N ops) (hca : alG P ops)
 {K : Env -> aNX -> Prop} {Q : Act -> aNX -> Prop} (hQ : ∀ g a w, VZ N g a -> K g w -> Q a w) {g : Env} {a : Act} {w0 w : aNX} (hr : VZ N g a) :
 ∀ (T : HT) (path : List (Nat × Nat)), adW P N ops path T = true →
   (∀ q ∈ path, (Region.schedule true ops (w0.tape w0.drawn (.order f id))).idxOf q.1 <= (Region.schedule true ops (w0.tape w0.drawn (.order f id))).idxOf q.2 /\ q.1 ≠ q.2) →
   aDC P f id ops T g w0 w K -> HY P ops Q (Region.schedule true ops (w0.tape w0.drawn (.order f id))) a w := by
 have lin : aBG ops ops.size (Array.replicate ops.size false) (Region.schedule true ops (w0.tape w0.drawn (.order f id))) := by
  unfold Region.schedule
  simp only [Bool.true_or, if_true]
  exact aIL _ _ _
 generalize hL : Region.schedule true ops (w0.tape w0.drawn (.order f id)) = L at lin ⊢
 intro T
 induction T with
 | leaf an pl =>
   intro path hok _ h
   simp only [adW, aLJ] at hok
   exact aiX _ _ _ _ _ (arZ hok.1 hok.2 hd hca hQ hr h) lin
 | perm π es an pl =>
   intro path hok hpath h
   simp only [adW, aLJ] at hok
   obtain ⟨⟨⟨⟨⟨h1, h2⟩, h3⟩, h4⟩, h5⟩, h6⟩ := hok
   have p := aI3 h2
   have hes : ∀ q ∈ es, L.idxOf q.1 <= L.idxOf q.2 /\ q.1 ≠ q.2 /\ q.1 < ops.size := fun q hq => by
    have := aMw.1 h1 q hq
    simp only [aLJ] at this
    have hp := hpath q (aHu this.1)
    exact ⟨hp.1, hp.2, (aNs (x := q.1) (y := ops.size)) ▸ this.2⟩
   obtain ⟨k1, k2⟩ := aGA (es := es) p hes ops.size (Array.replicate ops.size false) (Array.replicate ops.size false) [] L rfl (by simp) (by simp)
    (fun j hj => by simp [aLI, hj, (p.to j hj).1]) (by simp)
    (fun j hj => by rw [aLI] at hj; by_cases hh : j < ops.size <;> simp [hh] at hj) lin
   have hw := arZ h5 h6 (apG h3) (azC h4) hQ hr h
   rw [p.size] at hw
   exact aEE (es := es) p L k2 a w (aiX _ _ _ _ _ hw k1)
 | split x y A B ihA ihB =>
   intro path hok hpath h
   simp only [adW, aLJ] at hok
   have hne : x ≠ y := by
    intro e
    have := hok.1.1
    rw [e] at this
    simp at this
   simp only [aDC] at h
   unfold Ord aIr at h
   rw [hL] at h
   cases hb : Nat.ble (L.idxOf x) (L.idxOf y) with
   | true =>
     rw [hb] at h
     refine ihA _ hok.1.2 (fun q hq => ?_) h
     rcases aMl.1 hq with rfl | hq
     .exact ⟨aM6 hb, hne⟩
     .exact hpath q hq
   | false =>
     rw [hb] at h
     refine ihB _ hok.2 (fun q hq => ?_) h
     rcases aMl.1 hq with rfl | hq
     .refine ⟨?_, hne.symm⟩
      simp only
      rcases aLO (L.idxOf y) (L.idxOf x) with hh | hh
      .omega
      .have := Nat.ble_eq_true_of_le hh; rw [this] at hb; cases hb
     .exact hpath q hq
end
section
variable {P : Program} {ann : FA}
def uJ : List Oper -> List Nat
 | [] => []
 | o :: r => match o.dst with | some d => d :: uJ r | none => uJ r
def Y0 : Code -> List Nat
 | .region _ ops _ => uJ ops.toList
 | .seq x y => Y0 x ++ Y0 y
 | .cond _ x y => Y0 x ++ Y0 y
 | .block _ c => Y0 c
 | .scope c => Y0 c
 | .loop c => Y0 c
 | .rangeFunc .. => [DS]
 | _ => []
def rW (l : List Nat) (g g' : Env) : Prop := ∀ s, s ∉ l -> g' s = g s
theorem rW.refl (l : List Nat) (g : Env) : rW l g g := fun _ _ => rfl
theorem rW.trans {l l1 l2 : List Nat} {a b c : Env} (h : rW l1 a b) (k : rW l2 b c) (h1 : ∀ s, s ∈ l1 -> s ∈ l) (h2 : ∀ s, s ∈ l2 -> s ∈ l) : rW l a c :=
 fun s hs => (k s fun h => hs (h2 s h)).trans (h s fun h => hs (h1 s h))
theorem rW.mono {l l1 : List Nat} {a b : Env} (h : rW l1 a b) (h1 : ∀ s, s ∈ l1 -> s ∈ l) : rW l a b := fun s hs => h s fun hh => hs (h1 s hh)
theorem rW.put {l : List Nat} {a : Env} (d : Option Tmp) (v : aNY) (h : ∀ t, d = some t -> t ∈ l) : rW l a (put a d v) := by
 intro s hs
 cases d with
 | none => rfl
 | some t =>
   rw [Sz, if_neg (fun e => hs (by rw [e]; exact h t rfl))]
theorem aEW {ops : Array Oper} {K : Env -> aNX -> Prop} : ∀ (l : List Oper) (g : Env) (w : aNX), awX P ops l g w K →
 ∃ g' w', K g' w' /\ rW (uJ l) g g' /\ ∀ K' : Env -> aNX -> Prop, K' g' w' -> awX P ops l g w K' := by
 intro l
 induction l with
 | nil => intro g w h; exact ⟨g, w, h, rW.refl _ _, fun _ h => h⟩
 | cons o l ih =>
   intro g w h
   obtain ⟨v, w1, hy, h1⟩ := T1 h
   obtain ⟨g', w', hk, ha, hall⟩ := ih _ _ h1
   refine ⟨g', w', hk, ?_, fun K' hk' => hy _ (hall K' hk')⟩
   refine rW.trans (rW.put o.dst v (l := uJ (o :: l)) fun t ht => by simp [uJ, ht]) ha (fun _ h => h) (fun s hs => ?_)
   unfold uJ
   split
   .exact aLQ _ hs
   .exact hs
theorem asC {ops : Array Oper} {K : Env -> aNX -> Prop} : ∀ (l : List Oper) (pl : aDE) (hist : List Rec) (g : Env) (w : aNX), xN P ops l pl hist g w K →
 ∃ g' w', K g' w' /\ rW (uJ l) g g' /\ ∀ K' : Env -> aNX -> Prop, K' g' w' -> xN P ops l pl hist g w K' := by
 intro l
 induction l with
 | nil => intro pl hist g w h; unfold xN at h; exact ⟨g, w, h, rW.refl _ _, fun _ h => (by unfold xN; exact h)⟩
 | cons o l ih =>
   intro pl hist g w h
   cases pl with
   | nil => exact h.elim
   | cons p pl =>
     obtain ⟨hv, ks⟩ := p
     obtain ⟨v, w1, hy, h1⟩ := T1 h
     have tail : ∀ (w2 : aNX) (hist' : List Rec), xN P ops l pl hist' (put g o.dst v) w2 K →
         ∃ g' w', K g' w' /\ rW (uJ (o :: l)) g g' /\ ∀ K' : Env -> aNX -> Prop, K' g' w' -> xN P ops l pl hist' (put g o.dst v) w2 K' := by
      intro w2 hist' c2
      obtain ⟨g', w', hk, ha, hall⟩ := ih _ _ _ _ c2
      refine ⟨g', w', hk, ?_, hall⟩
      refine rW.trans (rW.put o.dst v (l := uJ (o :: l)) fun t ht => by simp [uJ, ht]) ha (fun _ h => h) (fun s hs => ?_)
      unfold uJ
      split
      .exact aLQ _ hs
      .exact hs
     cases hv with
     | true =>
       cases ks with
       | nil =>
         obtain ⟨g', w', hk, ha, hall⟩ := tail w1 _ h1
         exact ⟨g', w', hk, ha, fun K' hk' => hy _ (hall K' hk')⟩
       | cons k ks =>
         obtain ⟨hc, h1⟩ := h1
         obtain ⟨g', w', hk, ha, hall⟩ := tail w1 _ h1
         exact ⟨g', w', hk, ha, fun K' hk' => hy _ ⟨hc, hall K' hk'⟩⟩
     | false =>
       cases ks with
       | nil =>
         obtain ⟨rfl, h1⟩ := h1
         obtain ⟨g', w', hk, ha, hall⟩ := tail w1 _ h1
         exact ⟨g', w', hk, ha, fun K' hk' => hy _ ⟨rfl, hall K' hk'⟩⟩
       | cons k ks =>
         obtain ⟨rfl, hc, h1⟩ := h1
         obtain ⟨g', w', hk, ha, hall⟩ := tail w1 _ h1
         exact ⟨g', w', hk, ha, fun K' hk' => hy _ ⟨rfl, hc, hall K' hk'⟩⟩
theorem Qo {l : List Oper} {s : Nat} : s ∈ uJ l ↔ ∃ o ∈ l, o.dst = some s := by
 induction l with
 | nil => simp [uJ]
 | cons o l ih =>
   unfold uJ
   cases hd : o.dst with
   | none => simp [ih, hd]
   | some d => simp [ih, hd, eq_comm]
theorem aEl {π : List Nat} {es : List (Nat × Nat)} {l : List Oper} {s : Nat} : ∀ (r : List Nat), s ∈ uJ (ajI π es l r) -> s ∈ uJ l := by
 intro r
 induction r with
 | nil => intro h; simp [ajI, uJ] at h
 | cons i r ih =>
   intro h
   simp only [ajI] at h
   cases ho : l[i]? with
   | none => rw [ho] at h; exact ih h
   | some o =>
     rw [ho] at h
     obtain ⟨o', h1, h2⟩ := Qo.1 h
     rcases aMl.1 h1 with rfl | h1
     .exact Qo.2 ⟨o, aMz ho, h2⟩
     .exact ih (Qo.2 ⟨o', h1, h2⟩)
theorem aG3 {f : FuncId} {id : Nat} {ops : Array Oper} {K : Env -> aNX -> Prop} {g : Env} {w0 : aNX} : ∀ (T : HT) (w : aNX), aDC P f id ops T g w0 w K →
 ∃ g' w', K g' w' /\ rW (uJ ops.toList) g g' /\ ∀ K' : Env -> aNX -> Prop, K' g' w' -> aDC P f id ops T g w0 w K' := by
 intro T
 induction T with
 | leaf an pl => intro w h; exact asC _ _ _ _ _ h
 | perm π es an pl =>
   intro w h
   obtain ⟨g', w', a, b, c⟩ := asC _ _ _ _ _ h
   exact ⟨g', w', a, b.mono (fun s hs => aEl π (by simpa [vX] using hs)), c⟩
 | split x y A B ihA ihB =>
   intro w h
   simp only [aDC, Ord] at h ⊢
   cases hb : aIr f id ops x y w0 with
   | true => rw [hb] at h; exact ihA w h
   | false => rw [hb] at h; exact ihB w h
theorem cR.head {α : Type} {F : (α -> aNX -> Prop) -> α -> aNX -> Prop} (hmono : ∀ X Y g w, (∀ g w, X g w -> Y g w) -> F X g w -> F Y g w)
 {g : α} {w : aNX} (h : F (fun g' w' => cR F g' w') g w) (hdet : ∃ g' w', cR F g' w' /\ ∀ X : α -> aNX -> Prop, X g' w' -> F X g w) : cR F g w := by
 obtain ⟨g1, w1, ⟨I, ⟨n1, h1⟩, hI⟩, hF⟩ := hdet
 refine ⟨fun n g' w' => I n g' w' ∨ (n = n1 + 1 /\ g' = g /\ w' = w), ⟨n1 + 1, .inr ⟨rfl, rfl, rfl⟩⟩, ?_⟩
 rintro n g' w' (h | ⟨rfl, rfl, rfl⟩)
 .exact hmono _ _ _ _ (fun _ _ ⟨m, hm, hh⟩ => ⟨m, hm, .inl hh⟩) (hI _ _ _ h)
 .exact hF _ ⟨n1, by omega, .inl h1⟩
theorem aJx {f : FuncId} {gf : Operand} {ps : Array Tmp} {aLp bd : Code} {Q : Exit -> Env -> aNX -> Prop} {g : Env} {w : aNX} (h : RF P f gf ps aLp bd Q g w) :
 ∃ e g' w', Q e g' w' /\ rW [DS] g g' /\ ∀ Q' : Exit -> Env -> aNX -> Prop, Q' e g' w' -> RF P f gf ps aLp bd Q' g w := by
 unfold RF at h ⊢
 cases hn : noMark (g DS) with
 | false => rw [hn] at h; exact h.elim
 | true =>
   rw [hn] at h
   simp only at h ⊢
   generalize (Oy (ev g gf) [NZ (w.heap.size + 1)]).run P (rfW f (anU P f) ps aLp bd g w) = r at *
   match r, h with
   | .ok (.enter f2 args) w1, h =>
     obtain ⟨v, w3, hret, r, h1, h2, h3⟩ := h
     have ha : rW [DS] g (put g (some DS) (.pointer (some ⟨w.heap.size, 0, none⟩))) := rW.put _ _ (fun t ht => by cases ht; simp)
     cases hp : r.pending with
     | none =>
       rw [hp] at h3
       exact ⟨.normal, _, _, h3, ha, fun Q' h => ⟨v, w3, hret, r, h1, h2, by rw [hp]; exact h⟩⟩
     | some c =>
       rw [hp] at h3
       cases c <;> first
        | exact h3.elim
        | exact ⟨.ret, _, _, h3, ha, fun Q' h => ⟨v, w3, hret, r, h1, h2, by rw [hp]; exact h⟩⟩
        | exact ⟨.exit _, _, _, h3, ha, fun Q' h => ⟨v, w3, hret, r, h1, h2, by rw [hp]; exact h⟩⟩
theorem awE : ∀ (c : Code) (Q : Exit -> Env -> aNX -> Prop) (g : Env) (w : aNX), bD P ann c Q g w →
 ∃ e g' w', Q e g' w' /\ rW (Y0 c) g g' /\ ∀ Q' : Exit -> Env -> aNX -> Prop, Q' e g' w' -> bD P ann c Q' g w := by
 intro c
 induction c with
 | skip => intro Q g w h; exact ⟨_, _, _, h, rW.refl _ _, fun _ h => h⟩
 | region id ops draw =>
   intro Q g w h
   cases draw with
   | false =>
     obtain ⟨g', w', a, b, c⟩ := aEW _ _ _ h
     exact ⟨.normal, g', w', a, b, fun Q' h => c _ h⟩
   | true =>
     obtain ⟨g', w', a, b, c⟩ := aG3 _ _ h
     exact ⟨.normal, g', w', a, b, fun Q' h => c _ h⟩
 | seq x y ihx ihy =>
   intro Q g w h
   obtain ⟨e, g1, w1, a, b, c⟩ := ihx _ _ _ h
   cases e with
   | normal =>
     obtain ⟨e2, g2, w2, a2, b2, c2⟩ := ihy _ _ _ a
     exact ⟨e2, g2, w2, a2, b.trans b2 (fun s h => aMG _ h) (fun s h => aNw _ h), fun Q' h => c _ (c2 _ h)⟩
   | _ => exact ⟨_, g1, w1, a, b.mono (fun s h => aMG _ h), fun Q' h => c _ h⟩
 | cond c x y ihx ihy =>
   intro Q g w h
   simp only [bD] at h ⊢
   unfold gU at h ⊢
   cases hc : ev g c with
   | bool b =>
     rw [hc] at h
     cases b with
     | true =>
       obtain ⟨e, g', w', a, b, c⟩ := ihx _ _ _ h
       exact ⟨e, g', w', a, b.mono (fun s h => aMG _ h), c⟩
     | false =>
       obtain ⟨e, g', w', a, b, c⟩ := ihy _ _ _ h
       exact ⟨e, g', w', a, b.mono (fun s h => aNw _ h), c⟩
   | _ => rw [hc] at h; exact h.elim
 | block id c ih =>
   intro Q g w h
   obtain ⟨e, g', w', a, b, c⟩ := ih _ _ _ h
   cases e with
   | exit i =>
     simp only [blk] at a
     cases hb : Nat.beq i id with
     | true =>
       simp only [hb] at a
       refine ⟨.normal, g', w', a, b, fun Q' h => c _ ?_⟩
       simp only [blk, hb]; exact h
     | false =>
       simp only [hb] at a
       refine ⟨.exit i, g', w', a, b, fun Q' h => c _ ?_⟩
       simp only [blk, hb]; exact h
   | _ => exact ⟨_, g', w', a, b, fun Q' h => c _ h⟩
 | loop c ih =>
   intro Q g w h
   have hmono : ∀ (Q : Exit -> Env -> aNX -> Prop) (X Y : Env -> aNX -> Prop) g w, (∀ g w, X g w -> Y g w) -> bD P ann c (EB X Q) g w -> bD P ann c (EB Y Q) g w := by
    intro Q X Y g w hxy h
    obtain ⟨e, g', w', a, _, k⟩ := ih _ _ _ h
    refine k _ ?_
    cases e with
    | normal => exact hxy _ _ a
    | _ => exact a
   obtain ⟨I, ⟨n, h0⟩, hI⟩ := h
   have key : ∀ n g w, I n g w -> ∃ e g' w', Q e g' w' /\ rW (Y0 c) g g' /\ ∀ Q' : Exit -> Env -> aNX -> Prop, Q' e g' w' -> cR (fun X g w => bD P ann c (EB X Q') g w) g w := by
    intro n
    induction n using Nat.strongRecOn with
    | _ n ih2 =>
      intro g w hg
      obtain ⟨e, g1, w1, a, b, k⟩ := ih _ _ _ (hI n g w hg)
      have once : ∀ (Q' : Exit -> Env -> aNX -> Prop), (∀ X : Env -> aNX -> Prop, bD P ann c (EB X Q') g w) -> cR (fun X g w => bD P ann c (EB X Q') g w) g w := by
       intro Q' h
       refine ⟨fun n g' w' => g' = g /\ w' = w, ⟨0, rfl, rfl⟩, ?_⟩
       rintro _ g' w' ⟨rfl, rfl⟩
       exact h _
      cases e with
      | normal =>
        obtain ⟨m, hm, hIm⟩ := a
        obtain ⟨e2, g2, w2, a2, b2, k2⟩ := ih2 m hm g1 w1 hIm
        refine ⟨e2, g2, w2, a2, b.trans b2 (fun _ h => h) (fun _ h => h), fun Q' h => ?_⟩
        have hl := k2 Q' h
        exact cR.head (hmono Q') (k _ hl) ⟨g1, w1, hl, fun X hx => k _ hx⟩
      | _ => exact ⟨_, g1, w1, a, b, fun Q' h => once Q' fun X => k _ h⟩
   exact key n g w h0
 | exit id => intro Q g w h; exact ⟨_, _, _, h, rW.refl _ _, fun _ h => h⟩
 | label l => intro Q g w h; exact ⟨_, _, _, h, rW.refl _ _, fun _ h => h⟩
 | scope c ih => intro Q g w h; exact ih Q g w h
 | ret => intro Q g w h; exact ⟨_, _, _, h, rW.refl _ _, fun _ h => h⟩
 | rangeFunc gf ps aLp bd => intro Q g w h; exact aJx h
 | _ => intro Q g w h; exact h.elim
theorem Jp {c : Code} {Q Q' : Exit -> Env -> aNX -> Prop} {g : Env} {w : aNX} (h : bD P ann c Q g w)
 (hq : ∀ e g' w', rW (Y0 c) g g' -> Q e g' w' -> Q' e g' w') : bD P ann c Q' g w :=
 let ⟨_, _, _, a, b, k⟩ := awE c Q g w h
 k _ (hq _ _ _ b a)
def noG (Q : Exit -> Env -> aNX -> Prop) : Exit -> Env -> aNX -> Prop
 | .goto _, _, _ => False
 | e, g, w => Q e g w
theorem aEd : ∀ (c : Code) (Q : Exit -> Env -> aNX -> Prop) (g : Env) (w : aNX), bD P ann c Q g w -> bD P ann c (noG Q) g w := by
 intro c
 induction c with
 | skip => intro Q g w h; exact h
 | region id ops draw => intro Q g w h; cases draw <;> exact h
 | seq x y ihx ihy =>
   intro Q g w h
   show bD P ann x (EB (fun g w => bD P ann y (noG Q) g w) (noG Q)) g w
   refine Jp (ihx _ _ _ h) (fun e g' w' _ hq => ?_)
   cases e with
   | normal => exact ihy _ _ _ hq
   | goto l => exact hq.elim
   | _ => exact hq
 | cond c x y ihx ihy =>
   intro Q g w h
   simp only [bD] at h ⊢
   unfold gU at h ⊢
   cases hc : ev g c with
   | bool b =>
     rw [hc] at h
     cases b with
     | true => exact ihx _ _ _ h
     | false => exact ihy _ _ _ h
   | _ => rw [hc] at h; exact h.elim
 | block id c ih =>
   intro Q g w h
   show bD P ann c (blk id (noG Q)) g w
   refine Jp (ih _ _ _ h) (fun e g' w' _ hq => ?_)
   cases e with
   | exit i =>
     simp only [noG, blk] at hq ⊢
     cases hb : Nat.beq i id with
     | true => rw [hb] at hq; exact hq
     | false => rw [hb] at hq; exact hq
   | goto l => exact hq.elim
   | _ => exact hq
 | loop c ih =>
   intro Q g w h
   obtain ⟨I, h0, hI⟩ := h
   refine ⟨I, h0, fun n g w hi => ?_⟩
   refine Jp (ih _ _ _ (hI n g w hi)) (fun e g' w' _ hq => ?_)
   cases e with
   | normal => exact hq
   | goto l => exact hq.elim
   | _ => exact hq
 | exit id => intro Q g w h; exact h
 | label l => intro Q g w h; exact h
 | scope c ih => intro Q g w h; exact ih Q g w h
 | ret => intro Q g w h; exact h
 | rangeFunc gf ps aLp bd =>
   intro Q g w h
   have h : RF P ann.f gf ps aLp bd Q g w := h
   show RF P ann.f gf ps aLp bd (noG Q) g w
   unfold RF at h ⊢
   cases hn : noMark (g DS) with
   | false => rw [hn] at h; exact h.elim
   | true =>
     rw [hn] at h
     simp only at h ⊢
     generalize (Oy (ev g gf) [NZ (w.heap.size + 1)]).run P (rfW ann.f (anU P ann.f) ps aLp bd g w) = r at *
     match r, h with
     | .ok (.enter f2 args) w1, h =>
       obtain ⟨v, w3, hret, r, h1, h2, h3⟩ := h
       refine ⟨v, w3, hret, r, h1, h2, ?_⟩
       cases hp : r.pending with
       | none => rw [hp] at h3; exact h3
       | some c => rw [hp] at h3; cases c <;> exact h3
 | _ => intro Q g w h; exact h.elim
theorem ayM {N : Nat} {g : Env} {a : Act} (h : VZ N g a) : a.tmps = tmpsOf N g := by
 refine Array.ext (by simp [tmpsOf, h.size]) fun i h1 h2 => ?_
 have hi : i < N := by rw [<- h.size]; exact h1
 have := h.at_ i (Nat.ne_of_lt (aM4 hi h.le))
 rw [aLI, aL3 h1] at this
 simp [tmpsOf] at this ⊢
 exact this
theorem aGX {v : aNY} (h : noMark v = true) : aC0 v = [] := by cases v <;> first | rfl | cases h
theorem arD {N : Nat} (hm : P.follows .mixedOrders = true) {ro : Option Nat} (hN : anU P ann.f = N) : ∀ (c : Code), codeOk P N ann c = true -> ro = none ∨ yU c = true →
 ∀ (Q : Exit -> Env -> aNX -> Prop) (QA : Exit -> Act -> aNX -> Prop) (g : Env) (a : Act) (w : aNX), VZ N g a →
   (∀ e g a w, VZ N g a -> Q e g w -> QA e a w) -> bD P ann c Q g w -> wpF P ann.f ro c QA a w := by
 intro c
 induction c with
 | skip => intro _ _ Q QA g a w hr hq h; exact aHG (hq _ _ _ _ hr h)
 | region id ops draw =>
   intro hok _ Q QA g a w hr hq h
   simp only [codeOk, aLJ, aML, aMU] at hok
   have hd := apG hok.1.1
   have hca := azC hok.1.2
   cases draw with
   | false =>
     refine aD4 ?_
     have := aFK hd hca (P := P) (Q := QA .normal) (K := Q .normal) (fun g a w => hq .normal g a w) ops.toList 0 g a w (fun j => by simp) hr h
     rw [List.range_eq_range']
     simpa using this
   | true =>
     rcases hok.2 with h1 | h1
     .cases h1
     .exact auU hm (aES hd hca (fun g a w => hq .normal g a w) hr _ [] h1 (by simp) h)
 | seq x y ihx ihy =>
   intro hok hfl Q QA g a w hr hq h
   simp only [codeOk, aLJ] at hok
   have hfx : ro = none ∨ yU x = true := hfl.imp id fun h => by simp only [yU, aLJ] at h; exact h.1
   have hfy : ro = none ∨ yU y = true := hfl.imp id fun h => by simp only [yU, aLJ] at h; exact h.2
   refine aIt (ihx hok.1 hfx _ _ g a w hr (fun e g a w hr h => ?_) h)
   cases e with
   | normal => exact ihy hok.2 hfy _ _ g a w hr hq h
   | _ => exact hq _ _ _ _ hr h
 | cond c x y ihx ihy =>
   intro hok hfl Q QA g a w hr hq h
   simp only [codeOk, aLJ] at hok
   have hfx : ro = none ∨ yU x = true := hfl.imp id fun h => by simp only [yU, aLJ] at h; exact h.1
   have hfy : ro = none ∨ yU y = true := hfl.imp id fun h => by simp only [yU, aLJ] at h; exact h.2
   simp only [bD] at h
   unfold gU at h
   have he := hr.ev c hok.1
   cases hc : ev g c with
   | bool b =>
     rw [hc] at h he
     refine aGZ he ?_
     cases b with
     | true => exact ihx hok.2.1 hfx _ _ g a w hr hq h
     | false => exact ihy hok.2.2 hfy _ _ g a w hr hq h
   | _ => rw [hc] at h; exact h.elim
 | block id c ih =>
   intro hok hfl Q QA g a w hr hq h
   refine aGl (ih hok hfl _ _ g a w hr (fun e g a w hr h => ?_) h)
   cases e with
   | exit i =>
     unfold Exit.inBlock
     simp only [blk] at h
     by_cases hi : i = id
     .subst hi
      simp only [if_true]
      simp only [Nat.beq_refl] at h
      exact hq _ _ _ _ hr h
     .simp only [hi, if_false]
      have : Nat.beq i id = false := by
       cases hb : Nat.beq i id
       .rfl
       .exact absurd (aMe hb) hi
      simp only [this] at h
      exact hq _ _ _ _ hr h
   | _ => exact hq _ _ _ _ hr h
 | loop c ih =>
   intro hok hfl Q QA g a w hr hq h
   obtain ⟨I, h0, hround⟩ := h
   have hex : ∀ a w, (∃ n g, VZ N g a /\ I n g w) -> ∃ n, (∃ g, VZ N g a /\ I n g w) /\ ∀ m, (∃ g, VZ N g a /\ I m g w) -> n <= m := by
    rintro a w ⟨n, hn⟩
    induction n using Nat.strongRecOn with
    | _ n ih2 =>
      by_cases hx : ∃ m, m < n /\ ∃ g, VZ N g a /\ I m g w
      .obtain ⟨m, hm, h⟩ := hx; exact ih2 m hm h
      .exact ⟨n, hn, fun m hm => Nat.le_of_not_lt fun hlt => hx ⟨m, hlt, hm⟩⟩
   have hdec : ∀ a w, Decidable (∃ n g, VZ N g a /\ I n g w) := fun a w => Classical.propDecidable _
   let μ : Act -> aNX -> Nat := fun a w => if hh : ∃ n g, VZ N g a /\ I n g w then Classical.choose (hex a w hh) else 0
   have hμ : ∀ a w n g, VZ N g a -> I n g w -> μ a w <= n /\ ∃ g, VZ N g a /\ I (μ a w) g w := by
    intro a w n g hr hI
    have hh : ∃ n g, VZ N g a /\ I n g w := ⟨n, g, hr, hI⟩
    have e : μ a w = Classical.choose (hex a w hh) := dif_pos hh
    have s := Classical.choose_spec (hex a w hh)
    rw [e]
    exact ⟨s.2 n ⟨g, hr, hI⟩, s.1⟩
   obtain ⟨n0, h0⟩ := h0
   refine aHK (fun a w => ∃ n g, VZ N g a /\ I n g w) μ ⟨n0, g, hr, h0⟩ ?_
   rintro a w ⟨n, g, hr, hI⟩
   obtain ⟨_, g', hr', hI'⟩ := hμ a w n g hr hI
   refine ih hok hfl _ _ g' a w hr' (fun e g1 a1 w1 hr1 h => ?_) (hround _ _ _ hI')
   cases e with
   | normal =>
     obtain ⟨m, hm, hIm⟩ := h
     have := hμ a1 w1 m g1 hr1 hIm
     exact ⟨⟨m, g1, hr1, hIm⟩, by omega⟩
   | _ => exact hq _ _ _ _ hr1 h
 | label l => intro _ _ Q QA g a w hr hq h; exact aFF (hq _ _ _ _ hr h)
 | scope c ih =>
   intro hok hfl Q QA g a w hr hq h
   refine aFY (ih hok hfl (noG Q) _ g a w hr (fun e g a w hr h => ?_) (aEd c _ g w h))
   cases e with
   | goto l => exact h.elim
   | _ => exact hq _ _ _ _ hr h
 | exit id => intro _ _ Q QA g a w hr hq h; exact aCP (hq _ _ _ _ hr h)
 | ret => intro _ _ Q QA g a w hr hq h; exact aE4 (hq _ _ _ _ hr h)
 | rangeFunc gf ps aLp bd =>
   intro hok hfl Q QA g a w hr hq h
   have hro : ro = none := hfl.resolve_right (by simp [yU])
   subst hro
   have hok : aA4 gf = true := hok
   have h : RF P ann.f gf ps aLp bd Q g w := h
   unfold RF at h
   cases hn : noMark (g DS) with
   | false => rw [hn] at h; exact h.elim
   | true =>
     rw [hn] at h
     simp only [hN] at h
     have ed : a.defers = [] := by rw [hr.defers, aGX hn]
     have er := run_enterLoop_outer (P := P) (w := w) ann.f a.tmps ps aLp bd
     rw [ayM hr] at er
     have er : (Instr.enterLoop ann.f a.tmps ps aLp bd none).run P w = .ok (w.heap.size + 1, [{ target := .collected w.heap.size, args := #[] }]) (rfW ann.f N ps aLp bd g w) := by rw [ayM hr]; exact er
     generalize rfW ann.f N ps aLp bd g w = w1 at *
     have ee := hr.ev gf hok
     unfold Oy at h
     have hres : resolve a.eval (rangeCall gf (w.heap.size + 1)) 0 = Deferred.ofValue (ev g gf) #[NZ (w.heap.size + 1)] := by
      have : resolve a.eval (rangeCall gf (w.heap.size + 1)) 0 = Deferred.ofValue (a.eval gf) #[NZ (w.heap.size + 1)] := by
       simp only [resolve, List.map_toArray, aME, aNM]; rfl
      rw [this, ee]
     rw [show ([NZ (w.heap.size + 1)] : List aNY).toArray = #[NZ (w.heap.size + 1)] from rfl, <- hres, Sem.run_bind] at h
     cases hv : (resolve a.eval (rangeCall gf (w.heap.size + 1)) 0).run P w1 with
     | halt x wx => rw [hv] at h; exact h.elim
     | ok d wx =>
       have hwx : wx = w1 := by
        rw [hres] at hv
        unfold Deferred.ofValue at hv
        split at hv <;> first | (simp only [Sem.run_pure] at hv; cases hv; rfl) | (simp [stuck] at hv)
       subst hwx
       rw [hv] at h
       simp only [Result.andThen] at h
       cases hi : (invoke d.target d.args).run P wx with
       | halt x w2 => rw [hi] at h; exact h.elim
       | ok nx w2 =>
         rw [hi] at h
         cases nx <;> try (exact h.elim)
         obtain ⟨v, w3, hret, r, h1, h2, h3⟩ := h
         have hrel : ∀ w, VZ N (put g (some DS) (.pointer (some ⟨w, 0, none⟩))) { a with defers := [{ target := .collected w, args := #[] }] ++ a.defers } := fun w => by
          refine ⟨hr.le, ?_, hr.size, fun i hi => ?_⟩
          .rw [Sz, if_pos rfl, ed] <;> rfl
          .rw [Sz, if_neg hi]; exact hr.at_ i hi
         have key : ∀ (j : Option Code) (w5 : aNX), aJU Q (put g (some DS) (.pointer (some ⟨w.heap.size, 0, none⟩))) j w5 →
             aJq P ann.f QA { a with defers := [{ target := .collected w.heap.size, args := #[] }] ++ a.defers } w5 j := by
          intro j w5 h
          cases j with
          | none => exact hq _ _ _ _ (hrel _) h
          | some c =>
            cases c <;> first
             | exact h.elim
             | exact aE4 (hq _ _ _ _ (hrel _) h)
             | exact aCP (hq _ _ _ _ (hrel _) h)
         exact aF9 er hv hi hret (run_endLoop h1 h2) (key _ _ h3)
 | _ => intro hok; simp [codeOk] at hok
def xB (P : Program) : List ResultVar -> Env -> aNX -> (List aNY -> Prop) -> Prop
 | [], _, _, K => K []
 | .tmp t :: r, g, w, K => xB P r g w fun vs => K (g t :: vs)
 | .cell a t :: r, g, w, K => ∃ v, (do loadVar t (<- asAddr (g a)) : Sem aNY).run P w = .ok v w /\ xB P r g w fun vs => K (v :: vs)
def tup : List aNY -> aNY
 | [v] => v
 | vs => .tuple vs.toArray
def aKF (P : Program) (rs : List ResultVar) (R : aNY -> aNX -> Prop) : Exit -> Env -> aNX -> Prop
 | .normal, g, w => xB P rs g w fun vs => R (tup vs) w
 | .ret, g, w => xB P rs g w fun vs => R (tup vs) w
 | _, _, _ => False
theorem aCs {N : Nat} {g : Env} {a : Act} {w : aNX} (hr : VZ N g a) : ∀ (rs : List ResultVar), rs.all aAJ = true -> ∀ (K : List aNY -> Prop), xB P rs g w K →
 ∃ vs, K vs /\ (rs.mapM fun | .tmp t => pure (a.tmps.getD t undef) | .cell b t => do loadVar t (<- asAddr (a.tmps.getD b undef)) : Sem (List aNY)).run P w = .ok vs w := by
 have ne : ∀ t : Nat, Nat.blt t DS = true -> a.tmps.getD t undef = g t := fun t h => hr.at_ t (Nat.ne_of_lt ((aNs (x := t) (y := DS)) ▸ h))
 intro rs
 induction rs with
 | nil => intro _ K h; exact ⟨[], h, by simp⟩
 | cons r rs ih =>
   intro hok K h
   simp only [List.all_cons, aLJ] at hok
   cases r with
   | tmp t =>
     obtain ⟨vs, h1, h2⟩ := ih hok.2 _ h
     refine ⟨_, h1, ?_⟩
     rw [List.mapM_cons]
     rw [pure_bind, Sem.run_bind]
     simp only [h2, Result.andThen, Sem.run_pure, ne t hok.1]
   | cell b t =>
     obtain ⟨v, hv, h⟩ := h
     obtain ⟨vs, h1, h2⟩ := ih hok.2 _ h
     refine ⟨_, h1, ?_⟩
     rw [List.mapM_cons]
     rw [<- ne b hok.1] at hv
     rw [Sem.run_bind]
     simp only [hv, Result.andThen]
     rw [Sem.run_bind]
     simp only [h2, Result.andThen]
     rfl
theorem aJ1 (vs : Array aNY) : (if h : vs.size = 1 then vs[0] else Value.tuple vs) = tup vs.toList := by
 obtain ⟨l⟩ := vs
 match l with
 | [] => rfl
 | [v] => rfl
 | a :: b :: r => simp [tup]
theorem aCG {N : Nat} {g : Env} {a : Act} {w : aNX} (fn : Func) {rs : List ResultVar} (hok : rs.all aAJ = true) (hrs : fn.results = rs.toArray) (hr : VZ N g a) {R : aNY -> aNX -> Prop}
 (h : xB P rs g w fun vs => R (tup vs) w) : ∃ v, (results fn a.tmps).run P w = .ok v w /\ R v w := by
 obtain ⟨vs, h1, h2⟩ := aCs hr rs hok _ h
 refine ⟨tup vs, ?_, h1⟩
 unfold results
 rw [hrs, Array.mapM_eq_mapM_toList, List.toList_toArray]
 simp only [bind_assoc, map_eq_pure_bind]
 rw [Sem.run_bind]
 refine Eq.trans (congrArg (fun r => Result.andThen r _) h2) ?_
 simp only [Result.andThen]
 simp only [pure_bind, Sem.run_pure, aJ1]
def asU (args : List aNY) : Env := fun i => args.getD i undef
def aKb (P : Program) (rs : List ResultVar) (R : aNY -> aNX -> Prop) : Exit -> Env -> aNX -> Prop
 | .normal, g, w => Hh (g DS) w fun w => xB P rs g w fun vs => R (tup vs) w
 | .ret, g, w => Hh (g DS) w fun w => xB P rs g w fun vs => R (tup vs) w
 | _, _, _ => False
theorem aCw {g : Env} {w : aNX} : ∀ (rs : List ResultVar) (K : List aNY -> Prop), xB P rs g w K -> ∃ vs, K vs /\ ∀ K' : List aNY -> Prop, K' vs -> xB P rs g w K' := by
 intro rs
 induction rs with
 | nil => intro K h; exact ⟨_, h, fun _ h => h⟩
 | cons r rs ih =>
   intro K h
   cases r with
   | tmp t =>
     obtain ⟨vs, a, b⟩ := ih _ h
     exact ⟨_, a, fun K' h => b _ h⟩
   | cell b t =>
     obtain ⟨v, hv, h⟩ := h
     obtain ⟨vs, a, b⟩ := ih _ h
     exact ⟨_, a, fun K' h => ⟨v, hv, b _ h⟩⟩
theorem aAT {v : aNY} {w : aNX} {K : aNX -> Prop} (h : Hh v w K) : ∃ w', K w' /\ ∀ K' : aNX -> Prop, K' w' -> Hh v w K' := by
 cases v with
 | pointer p =>
   cases p with
   | none => exact ⟨_, h, fun _ h => h⟩
   | some a => exact ⟨_, h.2, fun _ h' => ⟨h.1, h'⟩⟩
 | _ => exact ⟨_, h, fun _ h => h⟩
theorem aEf {v : aNY} {w : aNX} {K K' : aNX -> Prop} (h : Hh v w K) (hk : ∀ w, K w -> K' w) : Hh v w K' :=
 let ⟨w', a, b⟩ := aAT h; b _ (hk w' a)
theorem aC5 {args : List aNY} {N i : Nat} (hle : args.length <= N) (hi : N <= i) : asU args i = undef := by
 unfold asU
 rw [aLE, aLH (by omega)] <;> rfl
theorem ahK {f : FuncId} {fn : Func} {c : Code} {args : List aNY} {w : aNX} {rs : List ResultVar} {R : aNY -> aNX -> Prop} (hm : P.follows .mixedOrders = true) (hAf : ann.f = f)
 (hf : P.funcs[f]? = some fn) (hb : fn.body = some c) (hrs : fn.results = rs.toArray) {N : Nat} (hN : fn.ntmps = N) (hle : args.length <= N)
 (hok : codeOk P N ann c = true) (hro : rs.all aAJ = true) (hND : Nat.ble N DS = true) (h : bD P ann c (aKb P rs R) (asU args) w) : aS P f args.toArray w R := by
 obtain ⟨e, g', w', hq, _, hall⟩ := awE _ _ _ _ h
 have hND := aM6 hND
 have hNt : anU P ann.f = N := by unfold anU; rw [hAf, hf]; exact hN
 have hrv : Hh (g' DS) w' fun w => xB P rs g' w fun vs => R (tup vs) w := by cases e <;> first | exact hq | exact hq.elim
 obtain ⟨w2, hrv2, hsh⟩ := aAT hrv
 obtain ⟨vs, hv, hrest⟩ := aCw _ _ hrv2
 refine ⟨tup vs, w2, ?_, hv⟩
 have hrel : VZ N (asU args) { tmps := args.toArray ++ Array.replicate (fn.ntmps - args.toArray.size) undef, defers := [] } := by
  refine ⟨hND, by rw [aC5 hle hND] <;> rfl, by simp [hN]; omega, fun i _ => ?_⟩
  simp only [asU, aLI, aLE]
  by_cases hi : i < args.length
  .simp [Array.getElem?_append, hi]
  .simp only [Array.getElem?_append, List.size_toArray, hi, if_false, Array.getElem?_replicate]
   rw [aLH (by omega)]
   split <;> rfl
 have key := aB7 (P := P) (f := f) hf hb (R := fun v3 w3 => v3 = tup vs /\ w3 = w2) (args := args.toArray) (w := w)
  (hAf ▸ arD hm hNt c hok (.inl rfl) (aKb P rs fun v3 w3 => v3 = tup vs /\ w3 = w2) _ _ _ _ hrel (fun e g a w hr h => ?_) (hall _ ?_))
 .refine Calls.mono key ?_
  rintro e w3 ⟨v, rfl, rfl, rfl⟩
  exact ⟨rfl, rfl⟩
 .have hx : ∀ {w}, (Hh (g DS) w fun w => xB P rs g w fun vs' => tup vs' = tup vs /\ w = w2) -> ∃ m, a.defers = aC0 m /\ Hh m w fun w' => ∃ v, (results fn a.tmps).run P w' = .ok v w' /\ (v = tup vs /\ w' = w2) := by
   intro w h
   exact ⟨_, hr.defers, aEf h fun w h => aCG fn hro hrs hr (R := fun v3 w3 => v3 = tup vs /\ w3 = w2) h⟩
  cases e with
  | normal => exact hx h
  | ret => exact hx h
  | _ => exact h.elim
 .have := hsh (fun w => xB P rs g' w fun vs' => tup vs' = tup vs /\ w = w2) (hrest _ ⟨rfl, rfl⟩)
  cases e <;> first | exact this | exact hq.elim
theorem aIO {N : Nat} : ∀ (c : Code), codeOk P N ann c = true -> yU c = true -> ∀ s ∈ Y0 c, s < N := by
 intro c
 induction c with
 | region id ops draw =>
   intro hok _ s hs
   simp only [codeOk, aLJ] at hok
   obtain ⟨o, h1, h2⟩ := Qo.1 hs
   obtain ⟨i, hi, rfl⟩ := aMX h1
   exact apG hok.1.1 i _ (by simp at hi ⊢) s h2
 | seq x y ihx ihy =>
   intro hok hfl s hs
   simp only [codeOk, yU, aLJ] at hok hfl
   rcases aMb.1 hs with hs | hs
   .exact ihx hok.1 hfl.1 s hs
   .exact ihy hok.2 hfl.2 s hs
 | cond c x y ihx ihy =>
   intro hok hfl s hs
   simp only [codeOk, yU, aLJ] at hok hfl
   rcases aMb.1 hs with hs | hs
   .exact ihx hok.2.1 hfl.1 s hs
   .exact ihy hok.2.2 hfl.2 s hs
 | block id c ih => intro hok hfl s hs; exact ih hok hfl s hs
 | loop c ih => intro hok hfl s hs; exact ih hok hfl s hs
 | scope c ih => intro hok hfl s hs; exact ih hok hfl s hs
 | rangeFunc => intro _ hfl; simp [yU] at hfl
 | _ => intro _ _ s hs; simp [Y0] at hs
theorem aCW {f : FuncId} {fn : Func} {c : Code} {args : List aNY} {w : aNX} {rs : List ResultVar} {R : aNY -> aNX -> Prop} (hm : P.follows .mixedOrders = true) (hAf : ann.f = f)
 (hf : P.funcs[f]? = some fn) (hb : fn.body = some c) (hrs : fn.results = rs.toArray) {N : Nat} (hN : fn.ntmps = N) (hle : args.length <= N)
 (hok : codeOk P N ann c = true) (hro : rs.all aAJ = true) (hND : Nat.ble N DS = true) (hfl : yU c = true) (h : bD P ann c (aKF P rs R) (asU args) w) : aS P f args.toArray w R := by
 refine ahK hm hAf hf hb hrs hN hle hok hro hND (Jp h fun e g' w' ha hq => ?_)
 have hND := aM6 hND
 have : g' DS = undef := by
  rw [ha DS (fun hd => absurd (aIO c hok hfl DS hd) (Nat.not_lt.2 hND)), aC5 hle hND]
 cases e with
 | normal => show Hh (g' DS) w' (fun w => xB P rs g' w fun vs => R (tup vs) w); rw [this]; exact hq
 | ret => show Hh (g' DS) w' (fun w => xB P rs g' w fun vs => R (tup vs) w); rw [this]; exact hq
 | _ => exact hq.elim
def Vc (tmps : Array aNY) : Env := fun i => tmps.getD i undef
def aB1 (l : Nat) (R : aNY -> aNX -> Prop) : Exit -> Env -> aNX -> Prop
 | .normal, _, w => ∃ r : Loop, w.heap[l]? = some (.loop r) /\ R (.bool true) (w.putObj l (.loop { r with state := .ready, pending := none }))
 | .ret, _, w => ∃ r : Loop, w.heap[l]? = some (.loop r) /\ R (.bool false) (w.putObj l (.loop { r with state := .done, pending := some .ret }))
 | .exit i, _, w => ∃ r : Loop, w.heap[l]? = some (.loop r) /\ R (.bool false) (w.putObj l (.loop { r with state := .done, pending := some (.exit i) }))
 | _, _, _ => False
def asQ (P : Program) (ann : FA) (l : Nat) (bd : Code) (R : aNY -> aNX -> Prop) : Exit -> Env -> aNX -> Prop
 | .normal, g, w => ∃ r : Loop, w.heap[l]? = some (.loop r) /\ r.state = .ready /\ bD P ann bd (aB1 l R) g (w.putObj l (.loop { r with state := .busy }))
 | _, _, _ => False
theorem aCg {f : FuncId} {l : Nat} {tmps : Array aNY} {aLp bd : Code} {w : aNX} {R : aNY -> aNX -> Prop} (hm : P.follows .mixedOrders = true) (hAf : ann.f = f) {N : Nat} (hN : anU P f = N) (hND : Nat.ble N DS = true)
 (hsz : tmps.size = N) (hok1 : codeOk P N ann aLp = true) (hf1 : yU aLp = true) (hok2 : codeOk P N ann bd = true) (hf2 : yU bd = true)
 (h : bD P ann aLp (asQ P ann l bd R) (Vc tmps) w) : aBn P l f tmps aLp bd w R := by
 subst hAf
 have hND := aM6 hND
 obtain ⟨e, g1, w1, hq, ha, hall⟩ := awE _ _ _ _ h
 cases e with
 | normal =>
   obtain ⟨r, h1, h2, hd⟩ := hq
   obtain ⟨e2, g2, w2, hq2, ha2, hall2⟩ := awE _ _ _ _ hd
   have hx : ∃ v w4, R v w4 /\ ∀ R' : aNY -> aNX -> Prop, R' v w4 -> aB1 l R' e2 g2 w2 := by
    cases e2 with
    | normal => obtain ⟨r2, k1, k2⟩ := hq2; exact ⟨_, _, k2, fun R' h => ⟨r2, k1, h⟩⟩
    | ret => obtain ⟨r2, k1, k2⟩ := hq2; exact ⟨_, _, k2, fun R' h => ⟨r2, k1, h⟩⟩
    | exit i => obtain ⟨r2, k1, k2⟩ := hq2; exact ⟨_, _, k2, fun R' h => ⟨r2, k1, h⟩⟩
    | _ => exact hq2.elim
   obtain ⟨v, w4, hR, hrest⟩ := hx
   refine ⟨v, w4, ?_, hR⟩
   have hrel : VZ N (Vc tmps) { tmps := tmps, defers := [] } := by
    refine ⟨hND, ?_, hsz, fun i _ => rfl⟩
    have : Vc tmps DS = undef := by unfold Vc; rw [aLI, aMY (by omega)] <;> rfl
    rw [this] <;> rfl
   have key : RoundIn Fence.wide 0 P l ann.f tmps aLp bd w fun e w' => ∃ v', e = .returned v' /\ (v' = v /\ w' = w4) := by
    refine aBY (arD hm hN aLp hok1 (.inr hf1) (fun e g w => e = .normal /\ g = g1 /\ w = w1) _ _ _ _ hrel ?_ (hall _ ⟨rfl, rfl, rfl⟩))
    rintro e g a w hra ⟨rfl, rfl, rfl⟩
    refine ⟨_, run_beginRound h1 h2, arD hm hN bd hok2 (.inr hf2) (aB1 l fun v' w' => v' = v /\ w' = w4) _ _ _ _ hra ?_ (hall2 _ (hrest _ ⟨rfl, rfl⟩))⟩
    intro e g a w _ h
    cases e with
    | normal => obtain ⟨r, k1, k2⟩ := h; exact ⟨_, _, run_endRound none k1, k2⟩
    | ret => obtain ⟨r, k1, k2⟩ := h; exact ⟨_, _, run_endRound (some .ret) k1, k2⟩
    | exit i => obtain ⟨r, k1, k2⟩ := h; exact ⟨_, _, run_endRound (some (.exit i)) k1, k2⟩
    | _ => exact h.elim
   refine RoundIn.mono key ?_
   rintro e w' ⟨v', rfl, rfl, rfl⟩
   exact ⟨rfl, rfl⟩
 | _ => exact hq.elim
theorem aAo {f : FuncId} {args : Array aNY} {w : aNX} {R : aNY -> aNX -> Prop} (h : aS P f args w R) :
 Calls P f args w fun e w' => ∃ v, e = .returned v /\ R v w' := by
 obtain ⟨v, w', hr, hR⟩ := h
 refine Calls.mono hr ?_
 rintro e w'' ⟨rfl, rfl⟩
 exact ⟨v, rfl, hR⟩
end
def sA : Code -> Code | .seq a _ => a | c => c
def bI : Code -> Code | .block _ c => c | .loop c => c | .scope c => c | c => c
def dH (f : Func) : Code := match f.body with | some c => c | none => .skip
def aF : Nat -> Code -> Code
 | 0, c => c
 | 1, c => sA c
 | n + 1, .seq a b => .seq a (aF n b)
 | _, c => c
def aB : Nat -> Code -> Code
 | 0, c => c
 | n + 1, .seq _ b => aB n b
 | _, c => c
def aEb : Nat -> Code -> Bool
 | 1, .seq _ _ => true
 | n + 1, .seq _ b => aEb n b
 | _, _ => false
def dr (w : aNX) : aNX := { w with drawn := w.drawn + 1 }
def Ac (P : Program) (t : TypeId) (a : aNY) (w : aNX) (K : aNY -> Prop) : Prop := ∃ v, (do loadVar t (<- asAddr a) : Sem aNY).run P w = .ok v w /\ K v
def exL : List (Nat × (Env -> aNX -> Prop)) -> Nat -> Env -> aNX -> Prop
 | [], _, _, _ => False
 | (j, k) :: r, i, g, w => match Nat.beq i j with | true => k g w | false => exL r i g w
def exQ (kn kr : Env -> aNX -> Prop) (l : List (Nat × (Env -> aNX -> Prop))) : Exit -> Env -> aNX -> Prop
 | .normal, g, w => kn g w
 | .ret, g, w => kr g w
 | .exit i, g, w => exL l i g w
 | _, _, _ => False
def aFh (Q : Exit -> Env -> aNX -> Prop) : List (Nat × (Env -> aNX -> Prop)) -> Prop
 | [] => True
 | (i, k) :: r => (∀ g w, k g w -> Q (.exit i) g w) /\ aFh Q r
def iO (c a b : aNY) : Sem Next := do pure (.value (if <- asBool c then a else b))
def fW (t : TypeId) : Sem Next := V (Instr.alloc t true (.tuple #[]))
def B4 (t : TypeId) (x : aNY) : Sem Next := V (Instr.box t x)
def aL (t : TypeId) (a : aNY) : Sem Next := V (Instr.loadAt t a)
def aT (t : TypeId) (a x : aNY) : Sem Next := U (Instr.storeAt t a x)
def wA (x : aNY) : Sem Next := execOp (fun _ => x) ⟨none, .nilCheck (.tmp 0), 0, default, #[], none⟩
def sUn (op : UnOp) (x : aNY) : Sem Next := V (Op.unary op x)
def jP (s d : TypeId) (x : aNY) : Sem Next := V (convert s d x)
def aEr (t : TypeId) (x : aNY) : Sem Next := V (Instr.makeInterface t x)
def qG (t : TypeId) (l c : aNY) : Sem Next := V (Instr.makeSlice t l c)
def mD (t : TypeId) (x : aNY) (lo hi mx : Option aNY) : Sem Next := V (Instr.sliceAt t x lo hi mx)
def aK (t : TypeId) (x : aNY) (f : Nat) : Sem Next := V (Instr.fieldAt t x f)
def cI (t : TypeId) (x i : aNY) : Sem Next := V (Instr.indexAt t x i)
def CN (t : TypeId) (x i : aNY) : Sem Next := V (Instr.index t x i)
def bP (t : aNY) (i : Nat) : Sem Next := V (Instr.extract t i)
section
variable {P : Program} {ann : FA}
theorem aJ3 {Q : Exit -> Env -> aNX -> Prop} : ∀ {l : List (Nat × (Env -> aNX -> Prop))}, aFh Q l -> ∀ {i : Nat} {g : Env} {w : aNX}, exL l i g w -> Q (.exit i) g w := by
 intro l
 induction l with
 | nil => intro _ i g w h; exact h.elim
 | cons p r ih =>
   obtain ⟨j, k⟩ := p
   rintro ⟨h1, h2⟩ i g w h
   simp only [exL] at h
   cases hb : Nat.beq i j with
   | true =>
     simp only [hb] at h
     obtain rfl := aMe hb
     exact h1 _ _ h
   | false => simp only [hb] at h; exact ih h2 h
theorem aIK {c : Code} {kn kr : Env -> aNX -> Prop} {l : List (Nat × (Env -> aNX -> Prop))} {Q : Exit -> Env -> aNX -> Prop} {g : Env} {w : aNX} {A : Prop}
 (e : A = bD P ann c (exQ kn kr l) g w) (h : A) (hn : ∀ g w, kn g w -> Q .normal g w) (hr : ∀ g w, kr g w -> Q .ret g w) (hl : aFh Q l) : bD P ann c Q g w := by
 rw [e] at h
 refine Jp h (fun e g' w' _ hq => ?_)
 cases e with
 | normal => exact hn _ _ hq
 | ret => exact hr _ _ hq
 | exit i => exact aJ3 hl hq
 | _ => exact hq.elim
theorem aFO {x y z : Code} {Q : Exit -> Env -> aNX -> Prop} {g : Env} {w : aNX} (h : bD P ann (.seq (.seq x y) z) Q g w) : bD P ann (.seq x (.seq y z)) Q g w := by
 show bD P ann x (EB (fun g w => bD P ann y (EB (fun g w => bD P ann z Q g w) Q) g w) Q) g w
 have h : bD P ann x (EB (fun g w => bD P ann y (EB (fun g w => bD P ann z Q g w) Q) g w) (EB (fun g w => bD P ann z Q g w) Q)) g w := h
 refine Jp h (fun e g' w' _ hq => ?_)
 cases e <;> exact hq
theorem aJ {K : Env -> aNX -> Prop} {Q : Exit -> Env -> aNX -> Prop} {g : Env} {w : aNX} (h : K g w) : EB K Q .normal g w := h
theorem aGy {Q : Exit -> Env -> aNX -> Prop} : ∀ (n : Nat) (c : Code) (g : Env) (w : aNX), aEb n c = true -> bD P ann (.seq (aF n c) (aB n c)) Q g w -> bD P ann c Q g w := by
 intro n
 induction n with
 | zero => intro c g w h; simp [aEb] at h
 | succ n ih =>
   intro c g w h hd
   cases c with
   | seq a b =>
     cases n with
     | zero => exact hd
     | succ n =>
       have hb : aEb (n + 1) b = true := by simpa [aEb] using h
       have hd' : bD P ann (.seq (.seq a (aF (n + 1) b)) (aB (n + 1) b)) Q g w := hd
       have := aFO hd'
       show bD P ann a (EB (fun g w => bD P ann b Q g w) Q) g w
       have h2 : bD P ann a (EB (fun g w => bD P ann (.seq (aF (n + 1) b) (aB (n + 1) b)) Q g w) Q) g w := this
       refine Jp h2 (fun e g' w' _ hq => ?_)
       cases e with
       | normal => exact ih b g' w' hb hq
       | _ => exact hq
   | _ => cases n <;> simp [aEb] at h
def aJp (id : Nat) : Code -> Bool | .block i _ => Nat.beq i id | _ => false
def aIi : Code -> Bool | .loop _ => true | _ => false
theorem aIu {Q : Exit -> Env -> aNX -> Prop} (id : Nat) (c : Code) (g : Env) (w : aNX) (h : aJp id c = true) (hd : bD P ann (bI c) (blk id Q) g w) : bD P ann c Q g w := by
 cases c with
 | block i c =>
   obtain rfl := aMe (show Nat.beq i id = true from h)
   exact hd
 | _ => cases h
def aJm : Code -> Bool | .scope _ => true | _ => false
theorem aIN {Q : Exit -> Env -> aNX -> Prop} (c : Code) (g : Env) (w : aNX) (h : aJm c = true) (hd : bD P ann (bI c) Q g w) : bD P ann c Q g w := by
 cases c with
 | scope c => exact hd
 | _ => cases h
theorem aHj {T : Type} (proj : Env -> T) (F : (T -> aNX -> Prop) -> T -> aNX -> Prop) {c : Code} {Q : Exit -> Env -> aNX -> Prop} {g : Env} {w : aNX}
 (hF : ∀ (X : T -> aNX -> Prop) g' w', rW (Y0 c) g g' -> F X (proj g') w' -> bD P ann c (EB (fun g'' w'' => X (proj g'') w'') Q) g' w')
 (h : cR F (proj g) w) : bD P ann (.loop c) Q g w := by
 obtain ⟨I, ⟨n, h0⟩, hI⟩ := h
 refine ⟨fun n g' w' => rW (Y0 c) g g' /\ I n (proj g') w', ⟨n, rW.refl _ _, h0⟩, ?_⟩
 rintro n g' w' ⟨ha, hi⟩
 have := hF _ g' w' ha (hI n _ _ hi)
 refine Jp this (fun e g2 w2 ha2 hq => ?_)
 cases e with
 | normal =>
   obtain ⟨m, hm, hh⟩ := hq
   exact ⟨m, hm, ha.trans ha2 (fun _ h => h) (fun _ h => h), hh⟩
 | _ => exact hq
theorem aF8 {T : Type} (proj : Env -> T) (F : (T -> aNX -> Prop) -> T -> aNX -> Prop) (c : Code) {Q : Exit -> Env -> aNX -> Prop} {g : Env} {w : aNX} (hl : aIi c = true)
 (h : cR F (proj g) w)
 (hF : ∀ (X : T -> aNX -> Prop) g' w', rW (Y0 (bI c)) g g' -> F X (proj g') w' -> bD P ann (bI c) (EB (fun g'' w'' => X (proj g'') w'') Q) g' w') : bD P ann c Q g w := by
 cases c with
 | loop c => exact aHj proj F hF h
 | _ => cases hl
theorem aET {l : List Nat} {s : Nat} (hs : wD s l = false) : s ∉ l := by
 induction l with
 | nil => simp
 | cons a r ih =>
   unfold wD at hs
   cases hb : Nat.beq a s with
   | true => simp only [hb] at hs; cases hs
   | false =>
     simp only [hb] at hs
     intro hm
     rcases aMl.1 hm with e | hm
     .subst e; simp at hb
     .exact ih hs hm
theorem aIn {l : List Nat} {g g' : Env} (h : rW l g g') {s : Nat} (hs : wD s l = false) : g' s = g s := h s (aET hs)
def ZF (id : Nat) : Code -> Array Oper
 | .region i ops _ => match Nat.beq i id with | true => ops | false => #[]
 | .seq a b => match (ZF id a).size with | 0 => ZF id b | _ + 1 => ZF id a
 | .cond _ a b => match (ZF id a).size with | 0 => ZF id b | _ + 1 => ZF id a
 | .block _ c => ZF id c
 | .loop c => ZF id c
 | .scope c => ZF id c
 | _ => #[]
theorem aHd {b : Bool} {A B : Prop} (ha : A) (hb : B) : Ord b A B := by cases b <;> assumption
theorem cR.rule {α : Type} {F : (α -> aNX -> Prop) -> α -> aNX -> Prop} (I : Nat -> α -> aNX -> Prop) {g : α} {w : aNX} (n : Nat) (h0 : I n g w)
 (hr : ∀ n g w, I n g w -> F (fun g' w' => ∃ m, m < n /\ I m g' w') g w) : cR F g w := ⟨I, ⟨n, h0⟩, hr⟩
theorem aG (A B : Prop) : gU (.bool true) A B = A := Eq.trans rfl rfl
theorem aE (A B : Prop) : gU (.bool false) A B = B := Eq.trans rfl rfl
theorem bL (s : (aNY -> aNX -> Prop) -> Prop) (w : aNX) (K : aNY -> aNX -> Prop) : Gd true s w K = s K := Eq.trans rfl rfl
theorem cV (s : (aNY -> aNX -> Prop) -> Prop) (w : aNX) (K : aNY -> aNX -> Prop) : Gd false s w K = K undef w := Eq.trans rfl rfl
theorem zM (p : Prop) : Gs true p = p := Eq.trans rfl rfl
theorem vG (p : Prop) : Gs false p = True := Eq.trans rfl rfl
theorem rC : gQ (.bool true) true = true := Eq.trans rfl rfl
theorem iT : gQ (.bool true) false = false := Eq.trans rfl rfl
theorem uX : gQ (.bool false) true = false := Eq.trans rfl rfl
theorem cW : gQ (.bool false) false = true := Eq.trans rfl rfl
def aM : Operand := .tmp 0
theorem eK {c : Code} {kn kr : Env -> aNX -> Prop} {l : List (Nat × (Env -> aNX -> Prop))} {Q : Exit -> Env -> aNX -> Prop} {g : Env} {w : aNX} {A : Prop}
 (h : A) (hn : ∀ g w, kn g w -> Q .normal g w) (hr : ∀ g w, kr g w -> Q .ret g w) (hl : aFh Q l) (e : A = bD P ann c (exQ kn kr l) g w := by kernel_rfl) : bD P ann c Q g w := aIK e h hn hr hl
theorem jA {Q : Exit -> Env -> aNX -> Prop} (n : Nat) {c : Code} {g : Env} {w : aNX}
 (hd : bD P ann (aF n c) (EB (fun g w => bD P ann (aB n c) Q g w) Q) g w) (h : aEb n c = true := by kernel_rfl) : bD P ann c Q g w := aGy n c g w h hd
theorem xC {Q : Exit -> Env -> aNX -> Prop} (id : Nat) {c : Code} {g : Env} {w : aNX} (hd : bD P ann (bI c) (blk id Q) g w) (h : aJp id c = true := by kernel_rfl) : bD P ann c Q g w := aIu id c g w h hd
theorem scD {Q : Exit -> Env -> aNX -> Prop} {c : Code} {g : Env} {w : aNX} (hd : bD P ann (bI c) Q g w) (h : aJm c = true := by kernel_rfl) : bD P ann c Q g w := aIN c g w h hd
theorem CX {T : Type} (proj : Env -> T) (F : (T -> aNX -> Prop) -> T -> aNX -> Prop) {c : Code} {Q : Exit -> Env -> aNX -> Prop} {g : Env} {w : aNX}
 (h : cR F (proj g) w)
 (hF : ∀ (X : T -> aNX -> Prop) g' w', rW (Y0 (bI c)) g g' -> F X (proj g') w' -> bD P ann (bI c) (EB (fun g'' w'' => X (proj g'') w'') Q) g' w') (hl : aIi c = true := by kernel_rfl) : bD P ann c Q g w := aF8 proj F c hl h hF
theorem kA {l : List Nat} {g g' : Env} (s : Nat) (h : rW l g g') (hs : wD s l = false := by kernel_rfl) : g' s = g s := aIn h hs
theorem uP {ann : FA} (fn : Func) (c : Code) (args : List aNY) (rs : List ResultVar) (N : Nat) {f : FuncId} {w : aNX} {R : aNY -> aNX -> Prop} (hm : P.follows .mixedOrders = true)
 (hf : P.funcs[f]? = some fn) (h : bD P ann c (aKF P rs R) (asU args) w) (hAf : ann.f = f := by kernel_rfl) (hb : fn.body = some c := by kernel_rfl) (hrs : fn.results = rs.toArray := by kernel_rfl) (hN : fn.ntmps = N := by kernel_rfl) (hle : Nat.ble args.length N = true := by kernel_rfl)
 (hok : codeOk P N ann c = true := by kernel_rfl) (hro : rs.all aAJ = true := by kernel_rfl) (hND : Nat.ble N DS = true := by kernel_rfl) (hfl : yU c = true := by kernel_rfl) : aS P f args.toArray w R :=
 aCW hm hAf hf hb hrs hN (aM6 hle) hok hro hND hfl h
def aAu : Code -> Option (Operand × Array Tmp × Code × Code)
 | .rangeFunc g ps aLp bd => some (g, ps, aLp, bd)
 | .seq a b => (match aAu a with | some r => some r | none => aAu b)
 | .cond _ a b => (match aAu a with | some r => some r | none => aAu b)
 | .block _ c => aAu c
 | .loop c => aAu c
 | .scope c => aAu c
 | _ => none
def aHB (c : Code) : Array Tmp := match aAu c with | some (_, ps, _) => ps | none => #[]
def aFV (c : Code) : Code := match aAu c with | some (_, _, aLp, _) => aLp | none => .skip
def aEq (c : Code) : Code := match aAu c with | some (_, _, _, bd) => bd | none => .skip
def Rdy (l : Nat) (w : aNX) (K : aNX -> Prop) : Prop := ∃ r : Loop, w.heap[l]? = some (.loop r) /\ r.state = .ready /\ K (w.putObj l (.loop { r with state := .busy }))
def jSt : Option Code -> LoopState
 | none => .ready
 | some _ => .done
def aDe (l : Nat) (j : Option Code) (R : aNY -> aNX -> Prop) (w : aNX) : Prop :=
 ∃ r : Loop, w.heap[l]? = some (.loop r) /\ R (.bool j.isNone) (w.putObj l (.loop { r with state := jSt j, pending := j }))
def aJR : List ResultVar := []
theorem dsF {ann : FA} (fn : Func) (c : Code) (args : List aNY) (rs : List ResultVar) (N : Nat) {f : FuncId} {w : aNX} {R : aNY -> aNX -> Prop} (hm : P.follows .mixedOrders = true)
 (hf : P.funcs[f]? = some fn) (h : bD P ann c (aKb P rs R) (asU args) w) (hAf : ann.f = f := by kernel_rfl) (hb : fn.body = some c := by kernel_rfl) (hrs : fn.results = rs.toArray := by kernel_rfl) (hN : fn.ntmps = N := by kernel_rfl) (hle : Nat.ble args.length N = true := by kernel_rfl)
 (hok : codeOk P N ann c = true := by kernel_rfl) (hro : rs.all aAJ = true := by kernel_rfl) (hND : Nat.ble N DS = true := by kernel_rfl) : aS P f args.toArray w R :=
 ahK hm hAf hf hb hrs hN (aM6 hle) hok hro hND h
theorem dsR {ann : FA} (N : Nat) {f : FuncId} {l : Nat} {tmps : Array aNY} {aLp bd : Code} {w : aNX} {R : aNY -> aNX -> Prop} (hm : P.follows .mixedOrders = true) (hsz : tmps.size = N)
 (h : bD P ann aLp (asQ P ann l bd R) (Vc tmps) w) (hN : anU P f = N) (hok1 : codeOk P N ann aLp = true) (hok2 : codeOk P N ann bd = true) (hAf : ann.f = f := by kernel_rfl) (hND : Nat.ble N DS = true := by kernel_rfl)
 (hf1 : yU aLp = true := by kernel_rfl) (hf2 : yU bd = true := by kernel_rfl) : aBn P l f tmps aLp bd w R :=
 aCg hm hAf hN hND hsz hok1 hf1 hok2 hf2 h
end
end Go.En
namespace Go.Proofs.YtgpimhlgaokobaaGreat
open Go Go.En
noncomputable abbrev pg : Program := Tryz.prog
theorem TryzM.mixed : pg.follows .mixedOrders = true := Tryz.checked.mixed
abbrev K0 := aNX -> Prop
abbrev K1 := aNY -> K0
abbrev K2 := aNY -> K1
abbrev K3 := aNY -> K2
abbrev K4 := aNY -> K3
abbrev K5 := aNY -> K4
abbrev K6 := aNY -> K5
abbrev K7 := aNY -> K6
abbrev K8 := aNY -> K7
abbrev K9 := aNY -> K8
abbrev K10 := aNY -> K9
abbrev K11 := aNY -> K10
abbrev K12 := aNY -> K11
abbrev K13 := aNY -> K12
abbrev HR (rs : List ResultVar) (R : K1) (Q : Exit -> Env -> aNX -> Prop) : Prop := ∀ g w, (xB pg rs g w fun vs => R (tup vs) w) -> Q .ret g w
abbrev HRF (rs : List ResultVar) (R : K1) (Q : Exit -> Env -> aNX -> Prop) : Prop := ∀ g w, (Hh (g DS) w fun w => xB pg rs g w fun vs => R (tup vs) w) -> Q .ret g w
abbrev no : Env -> aNX -> Prop := fun _ _ => False
theorem gR {Q : Env -> aNX -> Prop} : ∀ g w, no g w -> Q g w := fun _ _ h => h.elim
abbrev sI : FuncId := 4
abbrev CM : FuncId := 6
abbrev Mu : FuncId := 7
abbrev Ds : FuncId := 8
abbrev FE : FuncId := 9
abbrev Bv : FuncId := 10
abbrev tQ : FuncId := 11
abbrev A6 : FuncId := 12
abbrev IZ : FuncId := 13
abbrev vM : FuncId := 14
abbrev AT : FuncId := 15
abbrev jS : FuncId := 16
abbrev wV : FuncId := 17
abbrev BJ : FuncId := 18
abbrev zA : FuncId := 19
abbrev IW : FuncId := 20
abbrev Me : FuncId := 21
abbrev Fb : FuncId := 22
abbrev Dm : FuncId := 23
abbrev xV : FuncId := 24
abbrev An : FuncId := 25
abbrev xO : FuncId := 26
abbrev sQ : FuncId := 27
abbrev lJ : FuncId := 28
abbrev sF : FuncId := 29
abbrev rQ : FuncId := 30
abbrev Jf : FuncId := 31
abbrev CU : FuncId := 32
abbrev F5 : FuncId := 33
abbrev vH : FuncId := 34
abbrev rG : FuncId := 35
abbrev rO : FuncId := 36
abbrev Du : FuncId := 37
abbrev Cf : FuncId := 38
abbrev BY : FuncId := 39
abbrev DC : FuncId := 40
abbrev I1 : FuncId := 41
abbrev FC : FuncId := 42
abbrev EV : FuncId := 43
abbrev EX : FuncId := 44
abbrev IK : FuncId := 45
abbrev Av : FuncId := 46
abbrev BC : FuncId := 47
abbrev Af : FuncId := 48
abbrev Jb : FuncId := 49
abbrev FV : FuncId := 50
abbrev oD : FuncId := 51
abbrev sV : FuncId := 52
abbrev afZ : FuncId := 53
abbrev A4 : FuncId := 54
abbrev I8 : FuncId := 55
abbrev sN : FuncId := 56
abbrev Jz : FuncId := 57
abbrev Qy : FuncId := 58
abbrev qQ : FuncId := 59
abbrev Un : FuncId := 60
abbrev Ak : FuncId := 61
abbrev rT : FuncId := 62
abbrev Aq : FuncId := 63
abbrev tZ : FuncId := 64
abbrev FY : FuncId := 65
abbrev wJ : FuncId := 66
abbrev vT : FuncId := 67
abbrev Mq : FuncId := 68
abbrev EC : FuncId := 69
abbrev I6 : FuncId := 70
abbrev CV : FuncId := 71
abbrev Ci : FuncId := 72
abbrev Mv : FuncId := 73
abbrev Qw : FuncId := 74
abbrev Bc : FuncId := 75
abbrev tS : FuncId := 76
abbrev nF : FuncId := 77
abbrev AR : FuncId := 78
abbrev pV : FuncId := 79
abbrev GC : FuncId := 80
abbrev yF : FuncId := 81
abbrev Ct : FuncId := 82
abbrev xQ : FuncId := 83
abbrev B9 : FuncId := 84
abbrev Fk : FuncId := 85
abbrev G0 : FuncId := 86
abbrev qV : FuncId := 87
abbrev ajS : FuncId := 88
abbrev AZ : FuncId := 89
abbrev GI : FuncId := 90
abbrev zS : FuncId := 91
abbrev Mz : FuncId := 92
abbrev MH : FuncId := 93
abbrev Je : FuncId := 94
abbrev zE : FuncId := 95
abbrev BZ : FuncId := 96
abbrev zY : FuncId := 97
abbrev rP : FuncId := 98
abbrev wM : FuncId := 99
abbrev Jh : FuncId := 100
abbrev Mn : FuncId := 101
abbrev BA : FuncId := 102
abbrev I9 : FuncId := 103
abbrev Qv : FuncId := 104
abbrev pE : FuncId := 105
abbrev N0 (Q : Exit -> Env -> aNX -> Prop) (k : K0) : Prop := ∀ g w, k w -> Q .normal g w
abbrev E0 (Q : Exit -> Env -> aNX -> Prop) (k : K0) (x0 : Nat) : Prop := ∀ g w, k w -> Q (.exit x0) g w
abbrev N1 (Q : Exit -> Env -> aNX -> Prop) (k : K1) (a_ : Nat) : Prop := ∀ g w, k (g a_) w -> Q .normal g w
abbrev E1 (Q : Exit -> Env -> aNX -> Prop) (k : K1) (x0 : Nat) (a_ : Nat) : Prop := ∀ g w, k (g a_) w -> Q (.exit x0) g w
abbrev N2 (Q : Exit -> Env -> aNX -> Prop) (k : K2) (a_ b_ : Nat) : Prop := ∀ g w, k (g a_) (g b_) w -> Q .normal g w
abbrev E2 (Q : Exit -> Env -> aNX -> Prop) (k : K2) (x0 : Nat) (a_ b_ : Nat) : Prop := ∀ g w, k (g a_) (g b_) w -> Q (.exit x0) g w
abbrev N3 (Q : Exit -> Env -> aNX -> Prop) (k : K3) (a_ b_ c_ : Nat) : Prop := ∀ g w, k (g a_) (g b_) (g c_) w -> Q .normal g w
abbrev E3 (Q : Exit -> Env -> aNX -> Prop) (k : K3) (x0 : Nat) (a_ b_ c_ : Nat) : Prop := ∀ g w, k (g a_) (g b_) (g c_) w -> Q (.exit x0) g w
abbrev N4 (Q : Exit -> Env -> aNX -> Prop) (k : K4) (a_ b_ c_ d_ : Nat) : Prop := ∀ g w, k (g a_) (g b_) (g c_) (g d_) w -> Q .normal g w
abbrev E4 (Q : Exit -> Env -> aNX -> Prop) (k : K4) (x0 : Nat) (a_ b_ c_ d_ : Nat) : Prop := ∀ g w, k (g a_) (g b_) (g c_) (g d_) w -> Q (.exit x0) g w
abbrev N5 (Q : Exit -> Env -> aNX -> Prop) (k : K5) (a_ b_ c_ d_ e_ : Nat) : Prop := ∀ g w, k (g a_) (g b_) (g c_) (g d_) (g e_) w -> Q .normal g w
abbrev E5 (Q : Exit -> Env -> aNX -> Prop) (k : K5) (x0 : Nat) (a_ b_ c_ d_ e_ : Nat) : Prop := ∀ g w, k (g a_) (g b_) (g c_) (g d_) (g e_) w -> Q (.exit x0) g w
abbrev N6 (Q : Exit -> Env -> aNX -> Prop) (k : K6) (a_ b_ c_ d_ e_ f_ : Nat) : Prop := ∀ g w, k (g a_) (g b_) (g c_) (g d_) (g e_) (g f_) w -> Q .normal g w
abbrev E6 (Q : Exit -> Env -> aNX -> Prop) (k : K6) (x0 : Nat) (a_ b_ c_ d_ e_ f_ : Nat) : Prop := ∀ g w, k (g a_) (g b_) (g c_) (g d_) (g e_) (g f_) w -> Q (.exit x0) g w
abbrev N7 (Q : Exit -> Env -> aNX -> Prop) (k : K7) (a_ b_ c_ d_ e_ f_ g_ : Nat) : Prop := ∀ g w, k (g a_) (g b_) (g c_) (g d_) (g e_) (g f_) (g g_) w -> Q .normal g w
abbrev E7 (Q : Exit -> Env -> aNX -> Prop) (k : K7) (x0 : Nat) (a_ b_ c_ d_ e_ f_ g_ : Nat) : Prop := ∀ g w, k (g a_) (g b_) (g c_) (g d_) (g e_) (g f_) (g g_) w -> Q (.exit x0) g w
abbrev N8 (Q : Exit -> Env -> aNX -> Prop) (k : K8) (a_ b_ c_ d_ e_ f_ g_ h_ : Nat) : Prop := ∀ g w, k (g a_) (g b_) (g c_) (g d_) (g e_) (g f_) (g g_) (g h_) w -> Q .normal g w
abbrev E8 (Q : Exit -> Env -> aNX -> Prop) (k : K8) (x0 : Nat) (a_ b_ c_ d_ e_ f_ g_ h_ : Nat) : Prop := ∀ g w, k (g a_) (g b_) (g c_) (g d_) (g e_) (g f_) (g g_) (g h_) w -> Q (.exit x0) g w
abbrev N9 (Q : Exit -> Env -> aNX -> Prop) (k : K9) (a_ b_ c_ d_ e_ f_ g_ h_ i_ : Nat) : Prop := ∀ g w, k (g a_) (g b_) (g c_) (g d_) (g e_) (g f_) (g g_) (g h_) (g i_) w -> Q .normal g w
abbrev N10 (Q : Exit -> Env -> aNX -> Prop) (k : K10) (a_ b_ c_ d_ e_ f_ g_ h_ i_ j_ : Nat) : Prop := ∀ g w, k (g a_) (g b_) (g c_) (g d_) (g e_) (g f_) (g g_) (g h_) (g i_) (g j_) w -> Q .normal g w
abbrev E10 (Q : Exit -> Env -> aNX -> Prop) (k : K10) (x0 : Nat) (a_ b_ c_ d_ e_ f_ g_ h_ i_ j_ : Nat) : Prop := ∀ g w, k (g a_) (g b_) (g c_) (g d_) (g e_) (g f_) (g g_) (g h_) (g i_) (g j_) w -> Q (.exit x0) g w
abbrev N11 (Q : Exit -> Env -> aNX -> Prop) (k : K11) (a_ b_ c_ d_ e_ f_ g_ h_ i_ j_ k_ : Nat) : Prop := ∀ g w, k (g a_) (g b_) (g c_) (g d_) (g e_) (g f_) (g g_) (g h_) (g i_) (g j_) (g k_) w -> Q .normal g w
abbrev N13 (Q : Exit -> Env -> aNX -> Prop) (k : K13) (a_ b_ c_ d_ e_ f_ g_ h_ i_ j_ k_ l_ m_ : Nat) : Prop := ∀ g w, k (g a_) (g b_) (g c_) (g d_) (g e_) (g f_) (g g_) (g h_) (g i_) (g j_) (g k_) (g l_) (g m_) w -> Q .normal g w
abbrev aNZ (n_ : Int) : aNY := .int .i64 n_
end Go.Proofs.YtgpimhlgaokobaaGreat
namespace Go.Proofs.YtgpimhlgaokobaaGreat
open Go Go.En
set_option maxRecDepth 20000
attribute [local irreducible] Go.En.bD
variable (Q : Exit -> Env -> aNX -> Prop) (g : Env) (w : aNX)
def jY : FA := ⟨sI, fun i => .leaf ([], []) []⟩
def mO : List ResultVar := [.tmp 8]
noncomputable def jL : Code := dH Tryz.f4
def uI (R : K1)  (w : aNX) : Prop :=
 R (.bool true) w
theorem PZ (R : K1) (hr : HR mO R Q) (h : uI R w) : bD pg jY (aB 1 (aB 4 (aB 1 (aB 9 jL)))) Q g w :=
 eK (kn := no) (l := []) h gR hr trivial
def uM (kn : K3) (k0 : K0) (R : K1) (Mt Ra XG : aNY) (w : aNX) : Prop :=
 aD pg (lI .len #[9] 3 [Ra]) w fun u6 w =>
 aD pg (aI .lss 3 aM aM XG u6) w fun u7 w =>
 gU u7
  (aD pg (CN 9 Ra XG) w fun v2 w =>
  aD pg (aI .neq 5 (.tmp 152) (.tmp 153) v2 Mt) w fun v4 w =>
  gU v4
   (R (.bool false) w)
   (aD pg (aI .add 3 aM aM XG (aNZ 1)) w fun u9 w =>
   kn Mt Ra u9 w))
  (k0 w)
theorem P8 (kn : K3) (k0 : K0) (R : K1) (hn : N3 Q kn 2 19 23) (h0 : E0 Q k0 0) (hr : HR mO R Q) (h : uM kn k0 R (g 2) (g 19) (g 23) w) : bD pg jY (bI (bI (aB 1 (aF 1 (aB 4 (aB 1 (aB 9 jL))))))) Q g w :=
 eK (l := [(0, fun g w => k0 w)]) h hn hr ⟨h0, trivial⟩
def zI (k0 : K0) (R : K1) (Mt Ra XG : aNY) (w : aNX) : Prop :=
 cR (fun (X : aNY -> K0) (t : aNY) (w : aNX) => uM (fun _ _ XG w => X XG w) k0 R Mt Ra t w) XG w
theorem P4 (k0 : K0) (R : K1) (h0 : E0 Q k0 0) (hr : HR mO R Q) (h : zI k0 R (g 2) (g 19) (g 23) w) : bD pg jY (bI (aB 1 (aF 1 (aB 4 (aB 1 (aB 9 jL)))))) Q g w := by
 refine CX (fun g : Env => g 23) (fun X t w => uM (fun _ _ XG w => X XG w) k0 R (g 2) (g 19) t w) h (fun X g1 w1 ha hL => ?_)
 rw [<- kA 2 ha, <- kA 19 ha] at hL
 exact (P8 _ g1 w1 (fun _ _ XG w => X XG w) k0 R (fun _ _ h => h) h0 hr hL)
def zO (kn : K0) (R : K1) (Mt Ra XG : aNY) (w : aNX) : Prop :=
 zI kn R Mt Ra XG w
def zC (kn : K3) (Mt Ra : aNY) (w : aNX) : Prop :=
 kn Mt Ra (aNZ 0) w
theorem P7 (kn : K3) (hn : N3 Q kn 2 19 23) (h : zC kn (g 2) (g 19) w) : bD pg jY (aF 1 (aF 1 (aB 4 (aB 1 (aB 9 jL))))) Q g w :=
 eK (kr := no) (l := []) h hn gR trivial
def zK (kn : K0) (R : K1) (Mt Ra : aNY) (w : aNX) : Prop :=
 zC (fun Mt Ra XG w => zO kn R Mt Ra XG w) Mt Ra w
def uF (R : K1) (Mt Ra : aNY) (w : aNX) : Prop :=
 zK (fun  w => uI R w) R Mt Ra w
theorem Qa (kn : K0) (R : K1) (hn : N0 Q kn) (hr : HR mO R Q) (h : zK kn R (g 2) (g 19) w) : bD pg jY (aF 1 (aB 4 (aB 1 (aB 9 jL)))) Q g w :=
 jA 1 (P7 _ g w (zO kn R) (fun g w h => aJ (xC 0 (P4 _ g w kn R hn hr h))) h)
def zZ (kn : K2) (R : K1) (eX kN Mt AW wB YD Ve XE YR Yl YF Yh vF : aNY) (w : aNX) : Prop :=
 aD pg (aI .neq 27 (.tmp 70) (.const (aNZ 0)) YD (aNZ 0)) w fun l1 w =>
 Gd (gQ l1 false) (fun K => K Yh w) w fun l3 w =>
 Gd (gQ l1 false) (fun K => aD pg (aI .neq 27 (.tmp 73) (.const (aNZ 0)) l3 (aNZ 0)) w K) w fun l4 w =>
 aD pg (iO l1 (.bool true) l4) w fun l5 w =>
 Gd (gQ l5 false) (fun K => K YR w) w fun l7 w =>
 Gd (gQ l5 false) (fun K => K eX w) w fun l8 w =>
 Gd (gQ l5 false) (fun K => aD pg (jP 22 9 l8) w K) w fun l9 w =>
 Gd (gQ l5 false) (fun K => aD pg (aI .neq 9 (.tmp 77) (.tmp 79) l7 l9) w K) w fun m0 w =>
 aD pg (iO l5 (.bool true) m0) w fun m1 w =>
 Gd (gQ m1 false) (fun K => K Yl w) w fun m3 w =>
 Gd (gQ m1 false) (fun K => K AW w) w fun m4 w =>
 Gd (gQ m1 false) (fun K => aD pg (jP 22 9 m4) w K) w fun m5 w =>
 Gd (gQ m1 false) (fun K => aD pg (aI .neq 9 (.tmp 83) (.tmp 85) m3 m5) w K) w fun m6 w =>
 aD pg (iO m1 (.bool true) m6) w fun m7 w =>
 Gd (gQ m7 false) (fun K => K YF w) w fun m9 w =>
 Gd (gQ m7 false) (fun K => K wB w) w fun n0 w =>
 Gd (gQ m7 false) (fun K => aD pg (lI .len #[22] 3 [n0]) w K) w fun n1 w =>
 Gd (gQ m7 false) (fun K => aD pg (aI .neq 3 (.tmp 89) (.tmp 91) m9 n1) w K) w fun n2 w =>
 aD pg (iO m7 (.bool true) n2) w fun n3 w =>
 Gd (gQ n3 false) (fun K => K wB w) w fun n5 w =>
 Gd (gQ n3 false) (fun K => aD pg (lI .len #[22] 3 [n5]) w K) w fun n6 w =>
 Gd (gQ n3 false) (fun K => K eX w) w fun n7 w =>
 Gd (gQ n3 false) (fun K => aD pg (lI .len #[22] 3 [n7]) w K) w fun n8 w =>
 Gd (gQ n3 false) (fun K => K vF w) w fun n9 w =>
 Gd (gQ n3 false) (fun K => aD pg (aI .add 3 aM aM n8 n9) w K) w fun o0 w =>
 Gd (gQ n3 false) (fun K => aD pg (aI .neq 3 (.tmp 96) (.tmp 100) n6 o0) w K) w fun o1 w =>
 aD pg (iO n3 (.bool true) o1) w fun o2 w =>
 gU o2
  (R (.bool false) w)
  (aD pg (aI .lss 3 aM aM kN (aNZ 0)) w fun o4 w =>
  Gd (gQ o4 false) (fun K => K kN w) w fun o6 w =>
  Gd (gQ o4 false) (fun K => aD pg (aI .gtr 3 aM aM o6 (aNZ 131072)) w K) w fun o7 w =>
  aD pg (iO o4 (.bool true) o7) w fun o8 w =>
  gU o8
   (aD pg (aI .eql 27 (.tmp 109) (.const (aNZ 1)) XE (aNZ 1)) w fun p0 w =>
   Gd (gQ p0 true) (fun K => K Ve w) w fun p2 w =>
   Gd (gQ p0 true) (fun K => aD pg (lI .len #[22] 3 [p2]) w K) w fun p3 w =>
   Gd (gQ p0 true) (fun K => aD pg (aI .eql 3 (.tmp 113) (.const (aNZ 0)) p3 (aNZ 0)) w K) w fun p4 w =>
   aD pg (iO p0 p4 (.bool false)) w fun p5 w =>
   R p5 w)
   (aD pg (jP 22 9 Ve) w fun p8 w =>
   aD pg (jP 22 9 AW) w fun q0 w =>
   aS pg FE #[p8, q0] w fun q1 w =>
   aD pg (bP q1 0) w fun q2 w =>
   aD pg (bP q1 1) w fun q3 w =>
   aD pg (bP q1 2) w fun q4 w =>
   aD pg (bP q1 3) w fun q5 w =>
   aD pg (aI .neq 27 (.tmp 126) (.const (aNZ 0)) XE (aNZ 0)) w fun q7 w =>
   Gd (gQ q7 false) (fun K => K q5 w) w fun q9 w =>
   Gd (gQ q7 false) (fun K => aD pg (aI .neq 27 (.tmp 129) (.const (aNZ 0)) q9 (aNZ 0)) w K) w fun s0 w =>
   aD pg (iO q7 (.bool true) s0) w fun s1 w =>
   Gd (gQ s1 false) (fun K => K q4 w) w fun s3 w =>
   Gd (gQ s1 false) (fun K => K Ve w) w fun s4 w =>
   Gd (gQ s1 false) (fun K => aD pg (lI .len #[22] 3 [s4]) w K) w fun s5 w =>
   Gd (gQ s1 false) (fun K => aD pg (aI .neq 3 (.tmp 133) (.tmp 135) s3 s5) w K) w fun s6 w =>
   aD pg (iO s1 (.bool true) s6) w fun s7 w =>
   Gd (gQ s7 false) (fun K => K q2 w) w fun s9 w =>
   Gd (gQ s7 false) (fun K => aD pg (lI .len #[9] 3 [s9]) w K) w fun u0 w =>
   Gd (gQ s7 false) (fun K => K kN w) w fun u1 w =>
   Gd (gQ s7 false) (fun K => aD pg (aI .neq 3 (.tmp 140) (.tmp 141) u0 u1) w K) w fun u2 w =>
   aD pg (iO s7 (.bool true) u2) w fun u3 w =>
   gU u3
    (R (.bool false) w)
    (kn Mt q2 w)))
theorem P0 (kn : K2) (R : K1) (hn : N2 Q kn 2 19) (hr : HR mO R Q) (h : zZ kn R (g 0) (g 1) (g 2) (g 3) (g 10) (g 11) (g 12) (g 13) (g 14) (g 15) (g 16) (g 17) (g 18) w) : bD pg jY (aF 4 (aB 1 (aB 9 jL))) Q g w :=
 eK (l := []) h hn hr trivial
def pN (R : K1) (eX kN Mt AW wB YD Ve XE YR Yl YF Yh vF : aNY) (w : aNX) : Prop :=
 zZ (fun Mt Ra w => uF R Mt Ra w) R eX kN Mt AW wB YD Ve XE YR Yl YF Yh vF w
def mB (kn : K13) (eX kN Mt AW wB YD Ve XE YR Yl YF Yh vF : aNY) (w : aNX) : Prop :=
 aD pg (lI .len #[22] 3 [eX]) w fun j8 w =>
 aD pg (aI .gtr 3 aM aM j8 (aNZ 4095)) w fun j9 w =>
 gU j9
  (kn eX kN Mt AW wB YD Ve XE YR Yl YF Yh (aNZ 3) w)
  (kn eX kN Mt AW wB YD Ve XE YR Yl YF Yh vF w)
theorem PU (kn : K13) (hn : N13 Q kn 0 1 2 3 10 11 12 13 14 15 16 17 18) (h : mB kn (g 0) (g 1) (g 2) (g 3) (g 10) (g 11) (g 12) (g 13) (g 14) (g 15) (g 16) (g 17) (g 18) w) : bD pg jY (aF 1 (aB 9 jL)) Q g w :=
 eK (kr := no) (l := []) h hn gR trivial
def mC (R : K1) (eX kN Mt AW wB YD Ve XE YR Yl YF Yh vF : aNY) (w : aNX) : Prop :=
 mB (fun eX kN Mt AW wB YD Ve XE YR Yl YF Yh vF w => pN R eX kN Mt AW wB YD Ve XE YR Yl YF Yh vF w) eX kN Mt AW wB YD Ve XE YR Yl YF Yh vF w
def yK (kn : K13) (R : K1) (eX kN Mt AW : aNY) (w : aNX) : Prop :=
 aS pg CM #[] w fun d4 w =>
 aD pg (sUn .not d4) w fun d6 w =>
 gU d6
  (R (.bool false) w)
  (aD pg (lI .len #[22] 3 [eX]) w fun d8 w =>
  aD pg (aI .gtr 3 aM aM d8 (aNZ 5000)) w fun d9 w =>
  Gd (gQ d9 false) (fun K => K AW w) w fun e1 w =>
  Gd (gQ d9 false) (fun K => aD pg (lI .len #[22] 3 [e1]) w K) w fun e2 w =>
  Gd (gQ d9 false) (fun K => aD pg (aI .gtr 3 aM aM e2 (aNZ 300)) w K) w fun e3 w =>
  aD pg (iO d9 (.bool true) e3) w fun e4 w =>
  Gd (gQ e4 false) (fun K => K kN w) w fun e6 w =>
  Gd (gQ e4 false) (fun K => aD pg (aI .gtr 3 aM aM e6 (aNZ 5000)) w K) w fun e7 w =>
  Gd (gQ e4 false) (fun K => K e7 w) w fun e8 w =>
  Gd (gQ e8 true) (fun K => K kN w) w fun e9 w =>
  Gd (gQ e8 true) (fun K => aD pg (aI .leq 3 aM aM e9 (aNZ 131072)) w K) w fun f0 w =>
  Gd (gQ e4 false) (fun K => aD pg (iO e8 f0 (.bool false)) w K) w fun f1 w =>
  aD pg (iO e4 (.bool true) f1) w fun f2 w =>
  gU f2
   (R (.bool true) w)
   (aS pg Bv #[eX] w fun f5 w =>
   aD pg (bP f5 0) w fun f6 w =>
   aD pg (bP f5 1) w fun f7 w =>
   aS pg tQ #[Mt, kN] w fun i1 w =>
   aD pg (bP i1 0) w fun i2 w =>
   aD pg (bP i1 1) w fun i3 w =>
   aD pg (jP 22 9 f6) w fun i6 w =>
   aD pg (jP 22 9 AW) w fun i8 w =>
   aS pg FE #[i6, i8] w fun i9 w =>
   aD pg (bP i9 0) w fun j0 w =>
   aD pg (bP i9 1) w fun j1 w =>
   aD pg (bP i9 2) w fun j2 w =>
   aD pg (bP i9 3) w fun j3 w =>
   aD pg (lI .len #[22] 3 [eX]) w fun j5 w =>
   aD pg (aI .gtr 3 aM aM j5 (aNZ 31)) w fun j6 w =>
   gU j6
    (kn eX kN Mt AW f6 f7 i2 i3 j0 j1 j2 j3 (aNZ 2) w)
    (kn eX kN Mt AW f6 f7 i2 i3 j0 j1 j2 j3 (aNZ 1) w)))
theorem M8 (kn : K13) (R : K1) (hn : N13 Q kn 0 1 2 3 10 11 12 13 14 15 16 17 18) (hr : HR mO R Q) (h : yK kn R (g 0) (g 1) (g 2) (g 3) w) : bD pg jY (aF 9 jL) Q g w :=
 eK (l := []) h hn hr trivial
def yT (R : K1) (eX kN Mt AW : aNY) (w : aNX) : Prop :=
 yK (fun eX kN Mt AW wB YD Ve XE YR Yl YF Yh vF w => mC R eX kN Mt AW wB YD Ve XE YR Yl YF Yh vF w) R eX kN Mt AW w
theorem NT (R : K1) (hr : HR mO R Q) (h : yT R (g 0) (g 1) (g 2) (g 3) w) : bD pg jY jL Q g w :=
 jA 9 (M8 _ g w (mC R) R (fun g w h => aJ (jA 1 (PU _ g w (pN R) (fun g w h => aJ (jA 4 (P0 _ g w (uF R) R (fun g w h => aJ (jA 1 (Qa _ g w (fun  w => uI R w) R (fun g w h => aJ (PZ _ g w R hr h)) hr h))) hr h))) h))) hr h)
def Mc (a0 a1 a2 a3 : aNY) (w : aNX) (R : K1) : Prop :=
 yT R a0 a1 a2 a3 w
theorem Rd {a0 a1 a2 a3 : aNY} {w : aNX} {R : K1} (h : Mc a0 a1 a2 a3 w R) : aS pg sI #[a0, a1, a2, a3] w R := by
 refine uP (ann := jY) Tryz.f4 jL [a0, a1, a2, a3] mO 155 TryzM.mixed Tryz.func4 ?_
 exact (NT _ _ _ R (fun _ _ h => h) h)
def UW : FA := ⟨CM, fun i => .leaf ([], []) []⟩
def Wh : List ResultVar := [.tmp 0]
noncomputable def Ti : Code := dH Tryz.f6
def Pq (R : K1)  (w : aNX) : Prop :=
 aD pg (cU 22 2 [(0, (.int .u8 1)), (1, (.int .u8 2))]) w fun c2 w =>
 aS pg Bv #[c2] w fun c3 w =>
 aD pg (bP c3 0) w fun c4 w =>
 aD pg (bP c3 1) w fun c5 w =>
 aS pg tQ #[(.int .u8 7), (aNZ 3)] w fun c7 w =>
 aD pg (bP c7 0) w fun c8 w =>
 aD pg (bP c7 1) w fun c9 w =>
 aD pg (cU 22 4 [(0, (.int .u8 0)), (1, (.int .u8 1)), (2, (.int .u8 2)), (3, (.int .u8 0))]) w fun d1 w =>
 aD pg (cU 22 3 [(0, (.int .u8 2)), (1, (.int .u8 1)), (2, (.int .u8 1))]) w fun d2 w =>
 aS pg A6 #[d1, d2, (.bool true)] w fun d3 w =>
 aD pg (bP d3 0) w fun d4 w =>
 aD pg (bP d3 1) w fun d5 w =>
 aS pg Ds #[d4, (.slice none 0 0)] w fun d8 w =>
 aD pg (bP d8 0) w fun d9 w =>
 aD pg (bP d8 1) w fun e0 w =>
 aD pg (bP d8 2) w fun e1 w =>
 aD pg (bP d8 3) w fun e2 w =>
 aD pg (jP 22 9 c4) w fun e4 w =>
 aD pg (aI .eql 9 (.tmp 34) (.const (.string ⟨#[16, 1, 2]⟩)) e4 (.string ⟨#[16, 1, 2]⟩)) w fun e5 w =>
 Gd (gQ e5 true) (fun K => K c5 w) w fun e7 w =>
 Gd (gQ e5 true) (fun K => aD pg (aI .eql 27 (.tmp 37) (.const (aNZ 0)) e7 (aNZ 0)) w K) w fun e8 w =>
 aD pg (iO e5 e8 (.bool false)) w fun e9 w =>
 Gd (gQ e9 true) (fun K => K c8 w) w fun f1 w =>
 Gd (gQ e9 true) (fun K => aD pg (jP 22 9 f1) w K) w fun f2 w =>
 Gd (gQ e9 true) (fun K => aD pg (aI .eql 9 (.tmp 42) (.const (.string ⟨#[25, 7]⟩)) f2 (.string ⟨#[25, 7]⟩)) w K) w fun f3 w =>
 aD pg (iO e9 f3 (.bool false)) w fun f4 w =>
 Gd (gQ f4 true) (fun K => K c9 w) w fun f6 w =>
 Gd (gQ f4 true) (fun K => aD pg (aI .eql 27 (.tmp 46) (.const (aNZ 0)) f6 (aNZ 0)) w K) w fun f7 w =>
 aD pg (iO f4 f7 (.bool false)) w fun f8 w =>
 Gd (gQ f8 true) (fun K => K d5 w) w fun i0 w =>
 Gd (gQ f8 true) (fun K => aD pg (aI .eql 27 (.tmp 50) (.const (aNZ 0)) i0 (aNZ 0)) w K) w fun i1 w =>
 aD pg (iO f8 i1 (.bool false)) w fun i2 w =>
 Gd (gQ i2 true) (fun K => K e2 w) w fun i4 w =>
 Gd (gQ i2 true) (fun K => aD pg (aI .eql 27 (.tmp 54) (.const (aNZ 0)) i4 (aNZ 0)) w K) w fun i5 w =>
 aD pg (iO i2 i5 (.bool false)) w fun i6 w =>
 Gd (gQ i6 true) (fun K => K d9 w) w fun i8 w =>
 Gd (gQ i6 true) (fun K => aD pg (jP 22 9 i8) w K) w fun i9 w =>
 Gd (gQ i6 true) (fun K => aD pg (aI .eql 9 (.tmp 59) (.const (.string ⟨#[0, 1, 2, 0]⟩)) i9 (.string ⟨#[0, 1, 2, 0]⟩)) w K) w fun j0 w =>
 aD pg (iO i6 j0 (.bool false)) w fun j1 w =>
 Gd (gQ j1 true) (fun K => K e0 w) w fun j3 w =>
 Gd (gQ j1 true) (fun K => aD pg (jP 22 9 j3) w K) w fun j4 w =>
 Gd (gQ j1 true) (fun K => aD pg (aI .eql 9 (.tmp 64) (.const (.string ⟨#[2, 1, 1]⟩)) j4 (.string ⟨#[2, 1, 1]⟩)) w K) w fun j5 w =>
 aD pg (iO j1 j5 (.bool false)) w fun j6 w =>
 Gd (gQ j6 true) (fun K => K e1 w) w fun j8 w =>
 Gd (gQ j6 true) (fun K => K d4 w) w fun j9 w =>
 Gd (gQ j6 true) (fun K => aD pg (lI .len #[22] 3 [j9]) w K) w fun l0 w =>
 Gd (gQ j6 true) (fun K => aD pg (aI .eql 3 (.tmp 68) (.tmp 70) j8 l0) w K) w fun l1 w =>
 aD pg (iO j6 l1 (.bool false)) w fun l2 w =>
 R l2 w
theorem ajO (R : K1) (hr : HR Wh R Q) (h : Pq R w) : bD pg UW Ti Q g w :=
 eK (kn := no) (l := []) h gR hr trivial
def asL (w : aNX) (R : K1) : Prop :=
 Pq R w
theorem apR {w : aNX} {R : K1} (h : asL w R) : aS pg CM #[] w R := by
 refine uP (ann := UW) Tryz.f6 Ti [] Wh 73 TryzM.mixed Tryz.func6 ?_
 exact (ajO _ _ _ R (fun _ _ h => h) h)
def Bx : FA := ⟨Mu, fun i => match Nat.beq i 13 with | true => .leaf ([3], [(1, 3), (2, 3)]) [(false, []), (false, []), (false, []), (true, [0, 1]), (false, [])] | false => .leaf ([], []) []⟩
def CR : List ResultVar := [.cell 2 26, .tmp 3]
noncomputable def Ao : Code := dH Tryz.f7
def Ay (R : K1) (b2 wP : aNY) (w : aNX) : Prop :=
 aD pg (aK 26 wP 3) w fun m3 w =>
 aD pg (aL 24 m3) w fun m4 w =>
 aD pg (aI .gtr 24 aM aM m4 (.int .u64 131072)) w fun m5 w =>
 gU m5
  (aD pg (aL 26 wP) w fun m6 w =>
  aD pg (aT 26 b2 m6) w fun _u w =>
  Ac pg 26 b2 w fun r0 => R (.tuple #[r0, (aNZ 12)]) w)
  (aD pg (aL 26 wP) w fun m7 w =>
  aD pg (aT 26 b2 m7) w fun _u w =>
  Ac pg 26 b2 w fun r0 => R (.tuple #[r0, (aNZ 0)]) w)
theorem aoD (R : K1) (hr : HR CR R Q) (h : Ay R (g 2) (g 4) w) : bD pg Bx (aB 3 (aB 7 Ao)) Q g w :=
 eK (kn := no) (l := []) h gR hr trivial
def RA (kn : K2) (R : K1) (eX b2 wP Wd : aNY) (w : aNX) : Prop :=
 aD pg (fX 45 [(0, eX)]) w fun f4 w =>
 aD pg (aK 26 wP 2) w fun f5 w =>
 aD pg (aL 3 f5) w fun f6 w =>
 aS pg vM #[f4, f6] w fun f7 w =>
 aD pg (bP f7 0) w fun f8 w =>
 aD pg (bP f7 1) w fun f9 w =>
 aD pg (fW 45) w fun r_6 w =>
 aD pg (aT 45 r_6 f8) w fun _u w =>
 aD pg (aK 45 r_6 1) w fun i0 w =>
 aD pg (aL 27 i0) w fun i1 w =>
 aD pg (aI .neq 27 (.tmp 51) (.const (aNZ 0)) i1 (aNZ 0)) w fun i2 w =>
 gU i2
  (aD pg (aL 26 wP) (dr w) fun i3 w_ => w_ = (dr w) /\
  aD pg (aK 45 r_6 1) (dr w) fun i4 w_ => w_ = (dr w) /\
  aD pg (aL 27 i4) (dr w) fun i5 w_ => w_ = (dr w) /\
  aD pg (aT 26 b2 i3) (dr w) fun _u3 aA8 =>
  (jH pg (aL 27 i4) i5 aA8 /\ jH pg (aK 45 r_6 1) i4 aA8 /\ True) /\
  aA8 = aA8 /\
  Ac pg 26 b2 aA8 fun r0 => R (.tuple #[r0, i5]) aA8)
  (aD pg (aK 26 wP 0) w fun i6 w =>
  aD pg (aL 24 i6) w fun i7 w =>
  aD pg (aI .lss 24 aM aM i7 (.int .u64 2)) w fun i8 w =>
  Gd (gQ i8 true) (fun K => aD pg (aK 26 wP 2) w K) w fun j0 w =>
  Gd (gQ i8 true) (fun K => aD pg (aL 3 j0) w K) w fun j1 w =>
  Gd (gQ i8 true) (fun K => aD pg (aI .eql 3 (.tmp 61) (.const (aNZ 1)) j1 (aNZ 1)) w K) w fun j2 w =>
  aD pg (iO i8 j2 (.bool false)) w fun j3 w =>
  gU j3
   (aD pg (aI .quo 24 aM aM f9 (.int .u64 8)) w fun j5 w =>
   aD pg (aK 26 wP 3) w fun j6 w =>
   aD pg (aT 24 j6 j5) w fun _u w =>
   kn b2 wP w)
   (aD pg (aK 26 wP 0) w fun j7 w =>
   aD pg (aL 24 j7) w fun j8 w =>
   aD pg (aI .lss 24 aM aM j8 (.int .u64 2)) w fun j9 w =>
   gU j9
    (aD pg (aI .quo 24 aM aM f9 (.int .u64 16)) w fun l1 w =>
    aD pg (aK 26 wP 3) w fun l2 w =>
    aD pg (aT 24 l2 l1) w fun _u w =>
    kn b2 wP w)
    (aD pg (aI .quo 24 aM aM f9 (.int .u64 16)) w fun l4 w =>
    aD pg (aI .rem 24 aM aM l4 Wd) w fun l6 w =>
    aD pg (aK 26 wP 3) w fun l7 w =>
    aD pg (aT 24 l7 l6) w fun _u w =>
    aD pg (aI .quo 24 aM aM f9 (.int .u64 16)) w fun l9 w =>
    aD pg (aI .quo 24 aM aM l9 Wd) w fun m1 w =>
    aD pg (aK 26 wP 4) w fun m2 w =>
    aD pg (aT 24 m2 m1) w fun _u w =>
    kn b2 wP w)))
theorem anY (kn : K2) (R : K1) (hn : N2 Q kn 2 4) (hr : HR CR R Q) (h : RA kn R (g 0) (g 2) (g 4) (g 5) w) : bD pg Bx (aF 3 (aB 7 Ao)) Q g w :=
 eK (l := []) h hn hr trivial
def CS (R : K1) (eX b2 wP Wd : aNY) (w : aNX) : Prop :=
 RA (fun b2 wP w => Ay R b2 wP w) R eX b2 wP Wd w
def RI (kn : K4) (R : K1) (eX : aNY) (w : aNX) : Prop :=
 aD pg (fW 26) w fun b2 w =>
 aD pg (fW 26) w fun wP w =>
 aD pg (aI .eql 9 (.tmp 8) (.const (.string ⟨#[]⟩)) eX (.string ⟨#[]⟩)) w fun b9 w =>
 gU b9
  (aD pg (aL 26 wP) w fun c0 w =>
  aD pg (aT 26 b2 c0) w fun _u w =>
  Ac pg 26 b2 w fun r0 => R (.tuple #[r0, (aNZ 10)]) w)
  (aD pg (CN 9 eX (aNZ 0)) w fun c2 w =>
  aD pg (aI .rem 5 aM aM c2 (.int .u8 4)) w fun c3 w =>
  aD pg (jP 5 24 c3) w fun c4 w =>
  aD pg (aK 26 wP 0) w fun c5 w =>
  aD pg (aT 24 c5 c4) w fun _u w =>
  aD pg (CN 9 eX (aNZ 0)) w fun c7 w =>
  aD pg (aI .quo 5 aM aM c7 (.int .u8 4)) w fun c8 w =>
  aD pg (aI .rem 5 aM aM c8 (.int .u8 4)) w fun c9 w =>
  aD pg (jP 5 24 c9) w fun d0 w =>
  aD pg (aK 26 wP 1) w fun d1 w =>
  aD pg (aT 24 d1 d0) w fun _u w =>
  aD pg (aK 26 wP 0) w fun d2 w =>
  aD pg (aL 24 d2) w fun d3 w =>
  aD pg (aI .lss 24 aM aM d3 (.int .u64 2)) w fun d4 w =>
  gU d4
   (aD pg (cU 42 4 [(0, (aNZ 1)), (1, (aNZ 2)), (2, (aNZ 1)), (3, (aNZ 3))]) w fun d5 w =>
   aD pg (aK 26 wP 1) w fun d6 w =>
   aD pg (aL 24 d6) w fun d7 w =>
   aD pg (cI 42 d5 d7) w fun d8 w =>
   aD pg (aL 3 d8) w fun d9 w =>
   aD pg (aK 26 wP 2) w fun e0 w =>
   aD pg (aT 3 e0 d9) w fun _u w =>
   kn eX b2 wP (.int .u64 1024) w)
   (aD pg (cU 42 4 [(0, (aNZ 3)), (1, (aNZ 3)), (2, (aNZ 4)), (3, (aNZ 5))]) w fun e1 w =>
   aD pg (aK 26 wP 1) w fun e2 w =>
   aD pg (aL 24 e2) w fun e3 w =>
   aD pg (cI 42 e1 e3) w fun e4 w =>
   aD pg (aL 3 e4) w fun e5 w =>
   aD pg (aK 26 wP 2) w fun e6 w =>
   aD pg (aT 3 e6 e5) w fun _u w =>
   aD pg (cU 43 4 [(0, (.int .u64 1024)), (1, (.int .u64 1024)), (2, (.int .u64 16384)), (3, (.int .u64 262144))]) w fun e7 w =>
   aD pg (aK 26 wP 1) w fun e8 w =>
   aD pg (aL 24 e8) w fun e9 w =>
   aD pg (cI 43 e7 e9) w fun f0 w =>
   aD pg (aL 24 f0) w fun f1 w =>
   kn eX b2 wP f1 w))
theorem aqX (kn : K4) (R : K1) (hn : N4 Q kn 0 2 4 5) (hr : HR CR R Q) (h : RI kn R (g 0) w) : bD pg Bx (aF 7 Ao) Q g w :=
 eK (l := []) h hn hr trivial
def Sb (R : K1) (eX : aNY) (w : aNX) : Prop :=
 RI (fun eX b2 wP Wd w => CS R eX b2 wP Wd w) R eX w
theorem anH (R : K1) (hr : HR CR R Q) (h : Sb R (g 0) w) : bD pg Bx Ao Q g w :=
 jA 7 (aqX _ g w (CS R) R (fun g w h => aJ (jA 3 (anY _ g w (Ay R) R (fun g w h => aJ (aoD _ g w R hr h)) hr h))) hr h)
def azK (a0 : aNY) (w : aNX) (R : K1) : Prop :=
 Sb R a0 w
theorem avS {a0 : aNY} {w : aNX} {R : K1} (h : azK a0 w R) : aS pg Mu #[a0] w R := by
 refine uP (ann := Bx) Tryz.f7 Ao [a0] CR 88 TryzM.mixed Tryz.func7 ?_
 exact (anH _ _ _ R (fun _ _ h => h) h)
def oP : FA := ⟨Ds, fun i => match Nat.beq i 24 with | true => .leaf ([], []) [(false, []), (false, []), (false, []), (false, []), (false, []), (false, [])] | false => .leaf ([], []) []⟩
def qU : List ResultVar := [.tmp 4, .tmp 5, .tmp 6, .tmp 7]
noncomputable def nS : Code := dH Tryz.f8
def yG (R : K1) (eX uA mH BM : aNY) (w : aNX) : Prop :=
 aD pg (aL 49 uA) w fun n0 w =>
 aS pg zA #[n0, BM, eX] w fun n3 w =>
 aD pg (bP n3 0) w fun n4 w =>
 aD pg (bP n3 1) w fun n5 w =>
 aD pg (aI .neq 27 (.tmp 96) (.const (aNZ 0)) n5 (aNZ 0)) w fun n7 w =>
 gU n7
  (R (.tuple #[(.slice none 0 0), (.slice none 0 0), (aNZ 0), n5]) w)
  (aS pg jS #[BM] w fun o1 w =>
  R (.tuple #[n4, o1, mH, (aNZ 0)]) w)
theorem YV (R : K1) (hr : HR qU R Q) (h : yG R (g 0) (g 8) (g 10) (g 11) w) : bD pg oP (aB 1 (aB 4 (aB 5 nS))) Q g w :=
 eK (kn := no) (l := []) h gR hr trivial
def xW (k1 : K4) (R : K1) (eX uA mH BM : aNY) (w : aNX) : Prop :=
 aD pg (lI .len #[22] 3 [BM]) w fun m7 w =>
 aD pg (aI .eql 3 (.tmp 87) (.const (aNZ 0)) m7 (aNZ 0)) w fun m8 w =>
 gU m8
  (R (.tuple #[(.slice none 0 0), (.slice none 0 0), (aNZ 0), (aNZ 11)]) w)
  (k1 eX uA mH BM w)
theorem YZ (k1 : K4) (R : K1) (h1 : E4 Q k1 1 0 8 10 11) (hr : HR qU R Q) (h : xW k1 R (g 0) (g 8) (g 10) (g 11) w) : bD pg oP (aB 1 (bI (aB 1 (aF 1 (aB 4 (aB 5 nS)))))) Q g w :=
 eK (kn := no) (l := [(1, fun g w => k1 (g 0) (g 8) (g 10) (g 11) w)]) h gR hr ⟨h1, trivial⟩
def It (kn : K4) (R : K1) (eX mK uA mH BM i4 : aNY) (w : aNX) : Prop :=
 aD pg (aI .eql 3 (.tmp 54) (.const (aNZ 0)) i4 (aNZ 0)) w fun i6 w =>
 gU i6
  (aS pg jS #[eX] w fun j2 w =>
  aS pg jS #[mK] w fun j4 w =>
  R (.tuple #[j2, j4, mH, (aNZ 0)]) w)
  (aD pg (aI .eql 3 (.tmp 54) (.const (aNZ 1)) i4 (aNZ 1)) w fun i8 w =>
  gU i8
   (aD pg (aK 49 uA 3) w fun j7 w =>
   aD pg (aL 3 j7) w fun j8 w =>
   aS pg wV #[eX, j8] w fun j9 w =>
   aS pg jS #[mK] w fun l1 w =>
   R (.tuple #[j9, l1, mH, (aNZ 0)]) w)
   (aD pg (aI .eql 3 (.tmp 54) (.const (aNZ 2)) i4 (aNZ 2)) w fun j0 w =>
   gU j0
    (aS pg BJ #[eX] w fun l5 w =>
    aD pg (bP l5 0) w fun l6 w =>
    aD pg (bP l5 1) w fun l7 w =>
    aD pg (bP l5 2) w fun l8 w =>
    aD pg (aI .neq 27 (.tmp 79) (.const (aNZ 0)) l8 (aNZ 0)) w fun m0 w =>
    gU m0
     (R (.tuple #[(.slice none 0 0), (.slice none 0 0), (aNZ 0), l8]) w)
     ((dr w) = (dr w) /\
     (dr w) = (dr w) /\
     (dr w) = (dr w) /\
     aD pg (mD 22 eX (some l7) none none) (dr w) fun m5 w_ => w_ = (dr w) /\
     (dr w) = (dr w) /\
     (dr w) = (dr w) /\
     kn m5 uA mH l6 (dr w)))
    (kn eX uA mH BM w)))
theorem YW (kn : K4) (R : K1) (hn : N4 Q kn 0 8 10 11) (hr : HR qU R Q) (h : It kn R (g 0) (g 1) (g 8) (g 10) (g 11) (g 54) w) : bD pg oP (aF 1 (bI (aB 1 (aF 1 (aB 4 (aB 5 nS)))))) Q g w :=
 eK (l := []) h hn hr trivial
def S8 (k1 : K4) (R : K1) (eX mK uA mH BM i4 : aNY) (w : aNX) : Prop :=
 It (fun eX uA mH BM w => xW k1 R eX uA mH BM w) R eX mK uA mH BM i4 w
def HL (kn : K4) (R : K1) (eX mK uA mH BM i4 : aNY) (w : aNX) : Prop :=
 S8 kn R eX mK uA mH BM i4 w
def HK (kn : K6) (eX mK uA mH BM : aNY) (w : aNX) : Prop :=
 aD pg (aK 49 uA 0) w fun i3 w =>
 aD pg (aL 3 i3) w fun i4 w =>
 kn eX mK uA mH BM i4 w
theorem Yq (kn : K6) (hn : N6 Q kn 0 1 8 10 11 54) (h : HK kn (g 0) (g 1) (g 8) (g 10) (g 11) w) : bD pg oP (aF 1 (aF 1 (aB 4 (aB 5 nS)))) Q g w :=
 eK (kr := no) (l := []) h hn gR trivial
def Iz (kn : K4) (R : K1) (eX mK uA mH BM : aNY) (w : aNX) : Prop :=
 HK (fun eX mK uA mH BM i4 w => HL kn R eX mK uA mH BM i4 w) eX mK uA mH BM w
def Cc (R : K1) (eX mK uA mH BM : aNY) (w : aNX) : Prop :=
 Iz (fun eX uA mH BM w => yG R eX uA mH BM w) R eX mK uA mH BM w
theorem Zb (kn : K4) (R : K1) (hn : N4 Q kn 0 8 10 11) (hr : HR qU R Q) (h : Iz kn R (g 0) (g 1) (g 8) (g 10) (g 11) w) : bD pg oP (aF 1 (aB 4 (aB 5 nS))) Q g w :=
 jA 1 (Yq _ g w (HL kn R) (fun g w h => aJ (xC 1 (jA 1 (YW _ g w (xW kn R) R (fun g w h => aJ (YZ _ g w kn R hn hr h)) hr h)))) h)
def H2 (kn : K5) (R : K1) (eX mK uA : aNY) (w : aNX) : Prop :=
 aD pg (lI .len #[22] 3 [eX]) w fun e9 w =>
 aD pg (aK 49 uA 4) w fun f0 w =>
 aD pg (aL 3 f0) w fun f1 w =>
 aD pg (aI .lss 3 aM aM e9 f1) w fun f2 w =>
 gU f2
  (R (.tuple #[(.slice none 0 0), (.slice none 0 0), (aNZ 0), (aNZ 10)]) w)
  (aD pg (aK 49 uA 4) w fun f4 w =>
  aD pg (aL 3 f4) w fun f5 w =>
  aD pg (mD 22 eX none (some f5) none) w fun f6 w =>
  aD pg (aK 49 uA 2) w fun f7 w =>
  aD pg (aL 3 f7) w fun f8 w =>
  aD pg (aK 49 uA 4) w fun f9 w =>
  aD pg (aL 3 f9) w fun i0 w =>
  aD pg (aI .add 3 aM aM f8 i0) w fun i1 w =>
  kn f6 mK uA i1 mK w)
theorem Zd (kn : K5) (R : K1) (hn : N5 Q kn 0 1 8 10 11) (hr : HR qU R Q) (h : H2 kn R (g 0) (g 1) (g 8) w) : bD pg oP (aF 4 (aB 5 nS)) Q g w :=
 eK (l := []) h hn hr trivial
def AS (R : K1) (eX mK uA : aNY) (w : aNX) : Prop :=
 H2 (fun eX mK uA mH BM w => Cc R eX mK uA mH BM w) R eX mK uA w
def Gl (kn : K3) (R : K1) (eX mK : aNY) (w : aNX) : Prop :=
 aS pg AT #[eX] w fun c8 w =>
 aD pg (bP c8 0) w fun c9 w =>
 aD pg (bP c8 1) w fun d0 w =>
 aD pg (fW 49) w fun uA w =>
 aD pg (aT 49 uA c9) w fun _u w =>
 aD pg (aI .neq 27 (.tmp 21) (.const (aNZ 0)) d0 (aNZ 0)) w fun d2 w =>
 gU d2
  (R (.tuple #[(.slice none 0 0), (.slice none 0 0), (aNZ 0), d0]) w)
  (aD pg (aK 49 uA 2) w fun d5 w =>
  aD pg (aL 3 d5) w fun d6 w =>
  aD pg (mD 22 eX (some d6) none none) w fun d7 w =>
  aD pg (aK 49 uA 0) w fun d8 w =>
  aD pg (aL 3 d8) w fun d9 w =>
  aD pg (aI .eql 3 (.tmp 29) (.const (aNZ 0)) d9 (aNZ 0)) w fun e1 w =>
  gU e1
   (aD pg (aK 49 uA 3) w fun e2 w =>
   aD pg (aL 3 e2) w fun e3 w =>
   aD pg (aK 49 uA 4) w fun e4 w =>
   aD pg (aT 3 e4 e3) w fun _u w =>
   kn d7 mK uA w)
   (aD pg (aI .eql 3 (.tmp 29) (.const (aNZ 1)) d9 (aNZ 1)) w fun e6 w =>
   gU e6
    (aD pg (aK 49 uA 4) w fun e7 w =>
    aD pg (aT 3 e7 (aNZ 1)) w fun _u w =>
    kn d7 mK uA w)
    (kn d7 mK uA w)))
theorem W0 (kn : K3) (R : K1) (hn : N3 Q kn 0 1 8) (hr : HR qU R Q) (h : Gl kn R (g 0) (g 1) w) : bD pg oP (aF 5 nS) Q g w :=
 eK (l := []) h hn hr trivial
def Gm (R : K1) (eX mK : aNY) (w : aNX) : Prop :=
 Gl (fun eX mK uA w => AS R eX mK uA w) R eX mK w
theorem V8 (R : K1) (hr : HR qU R Q) (h : Gm R (g 0) (g 1) w) : bD pg oP nS Q g w :=
 jA 5 (W0 _ g w (AS R) R (fun g w h => aJ (jA 4 (Zd _ g w (Cc R) R (fun g w h => aJ (jA 1 (Zb _ g w (yG R) R (fun g w h => aJ (YV _ g w R hr h)) hr h))) hr h))) hr h)
def Zx (a0 a1 : aNY) (w : aNX) (R : K1) : Prop :=
 Gm R a0 a1 w
theorem aaI {a0 a1 : aNY} {w : aNX} {R : K1} (h : Zx a0 a1 w R) : aS pg Ds #[a0, a1] w R := by
 refine uP (ann := oP) Tryz.f8 nS [a0, a1] qU 103 TryzM.mixed Tryz.func8 ?_
 exact (V8 _ _ _ R (fun _ _ h => h) h)
def vK : FA := ⟨FE, fun i => match Nat.beq i 16 with | true => .leaf ([5], []) [(false, []), (false, []), (false, []), (false, []), (false, []), (true, []), (false, []), (false, []), (false, []), (false, []), (false, []), (false, [])] | false => .leaf ([], []) []⟩
def Az : List ResultVar := [.tmp 4, .tmp 5, .tmp 6, .tmp 7]
noncomputable def tW : Code := dH Tryz.f9
def As (R : K1) (e_9 Bb Wo aHR : aNY) (w : aNX) : Prop :=
 aD pg (aI .neq 27 (.tmp 111) (.const (aNZ 0)) e_9 (aNZ 0)) w fun p2 w =>
 gU p2
  (R (.tuple #[(.string ⟨#[]⟩), (.string ⟨#[]⟩), (aNZ 0), e_9]) w)
  (R (.tuple #[aHR, Wo, Bb, (aNZ 0)]) w)
theorem aqV (R : K1) (hr : HR Az R Q) (h : As R (g 9) (g 11) (g 13) (g 17) w) : bD pg vK (aB 3 (aB 7 (aB 1 (aB 5 tW)))) Q g w :=
 eK (kn := no) (l := []) h gR hr trivial
def RN (kn : K4) (R : K1) (uA Bb aCy Wo : aNY) (w : aNX) : Prop :=
 aD pg (aI .eql 9 (.tmp 88) (.const (.string ⟨#[]⟩)) Wo (.string ⟨#[]⟩)) w fun m9 w =>
 gU m9
  (R (.tuple #[(.string ⟨#[]⟩), (.string ⟨#[]⟩), (aNZ 0), (aNZ 11)]) w)
  (aD pg (aK 26 uA 1) w fun n0 w =>
  aD pg (aL 24 n0) w fun n1 w =>
  aD pg (aI .eql 24 (.tmp 91) (.const (.int .u64 0)) n1 (.int .u64 0)) w fun n2 w =>
  gU n2
   (aD pg (aK 26 uA 3) w fun n6 w =>
   aD pg (aL 24 n6) w fun n7 w =>
   aD pg (jP 24 3 n7) w fun n8 w =>
   aS pg Fb #[Wo, aCy, n8] w fun n9 w =>
   aD pg (bP n9 0) w fun o0 w =>
   aD pg (bP n9 1) w fun o1 w =>
   kn o1 Bb Wo o0 w)
   (aD pg (aK 26 uA 3) w fun o5 w =>
   aD pg (aL 24 o5) w fun o6 w =>
   aD pg (jP 24 3 o6) w fun o7 w =>
   aS pg Dm #[Wo, aCy, o7] w fun o8 w =>
   aD pg (bP o8 0) w fun o9 w =>
   aD pg (bP o8 1) w fun p0 w =>
   kn p0 Bb Wo o9 w))
theorem aoS (kn : K4) (R : K1) (hn : N4 Q kn 9 11 13 17) (hr : HR Az R Q) (h : RN kn R (g 8) (g 11) (g 12) (g 13) w) : bD pg vK (aF 3 (aB 7 (aB 1 (aB 5 tW)))) Q g w :=
 eK (l := []) h hn hr trivial
def IV (R : K1) (uA Bb aCy Wo : aNY) (w : aNX) : Prop :=
 RN (fun e_9 Bb Wo aHR w => As R e_9 Bb Wo aHR w) R uA Bb aCy Wo w
def Rc (kn : K4) (R : K1) (eX mK uA Y6 : aNY) (w : aNX) : Prop :=
 aD pg (lI .len #[9] 3 [eX]) w fun e7 w =>
 aD pg (aK 26 uA 2) w fun e8 w =>
 aD pg (aL 3 e8) w fun e9 w =>
 aD pg (aI .sub 3 aM aM e7 e9) w fun f0 w =>
 aD pg (jP 3 24 f0) w fun f1 w =>
 aD pg (aI .lss 24 aM aM f1 Y6) w fun f3 w =>
 gU f3
  (R (.tuple #[(.string ⟨#[]⟩), (.string ⟨#[]⟩), (aNZ 0), (aNZ 10)]) w)
  (aD pg (aK 26 uA 2) w fun f4 w =>
  aD pg (aL 3 f4) w fun f5 w =>
  aD pg (jP 24 3 Y6) w fun f7 w =>
  aD pg (aI .add 3 aM aM f5 f7) w fun f8 w =>
  aD pg (aK 26 uA 2) w fun i0 w =>
  aD pg (aL 3 i0) w fun i1 w =>
  aD pg (mD 9 eX (some i1) (some f8) none) w fun i3 w =>
  aD pg (aK 26 uA 0) w fun i4 w =>
  aD pg (aL 24 i4) w fun i5 w =>
  aD pg (aI .eql 24 (.tmp 55) (.const (.int .u64 0)) i5 (.int .u64 0)) w fun i6 w =>
  gU i6
   (R (.tuple #[i3, mK, f8, (aNZ 0)]) w)
   (aD pg (aK 26 uA 0) w fun j0 w =>
   aD pg (aL 24 j0) w fun j1 w =>
   aD pg (aI .eql 24 (.tmp 61) (.const (.int .u64 1)) j1 (.int .u64 1)) w fun j2 w =>
   gU j2
    ((dr w) = (dr w) /\
    aD pg (CN 9 i3 (aNZ 0)) (dr w) fun j4 w_ => w_ = (dr w) /\
    aD pg (aK 26 uA 3) (dr w) fun j5 w_ => w_ = (dr w) /\
    aD pg (aL 24 j5) (dr w) fun j6 w_ => w_ = (dr w) /\
    aD pg (jP 24 3 j6) (dr w) fun j7 w_ => w_ = (dr w) /\
    aS pg IW #[j4, j7] (dr w) fun j8 Ai =>
    Ai = Ai /\
    Ai = Ai /\
    Ai = Ai /\
    Ai = Ai /\
    Ai = Ai /\
    Ai = Ai /\
    R (.tuple #[j8, mK, f8, (aNZ 0)]) Ai)
    (aD pg (aK 26 uA 0) w fun l2 w =>
    aD pg (aL 24 l2) w fun l3 w =>
    aD pg (aI .eql 24 (.tmp 73) (.const (.int .u64 2)) l3 (.int .u64 2)) w fun l4 w =>
    gU l4
     (aS pg Me #[i3] w fun l7 w =>
     aD pg (bP l7 0) w fun l8 w =>
     aD pg (bP l7 1) w fun l9 w =>
     aD pg (bP l7 2) w fun m0 w =>
     aD pg (aI .neq 27 (.tmp 81) (.const (aNZ 0)) m0 (aNZ 0)) w fun m2 w =>
     gU m2
      (R (.tuple #[(.string ⟨#[]⟩), (.string ⟨#[]⟩), (aNZ 0), m0]) w)
      (aD pg (mD 9 i3 (some l9) none none) w fun m7 w =>
      kn uA f8 m7 l8 w))
     (kn uA f8 i3 mK w))))
theorem anT (kn : K4) (R : K1) (hn : N4 Q kn 8 11 12 13) (hr : HR Az R Q) (h : Rc kn R (g 0) (g 1) (g 8) (g 10) w) : bD pg vK (aF 7 (aB 1 (aB 5 tW))) Q g w :=
 eK (l := []) h hn hr trivial
def ID (R : K1) (eX mK uA Y6 : aNY) (w : aNX) : Prop :=
 Rc (fun uA Bb aCy Wo w => IV R uA Bb aCy Wo w) R eX mK uA Y6 w
def CJ (kn : K4) (eX mK uA Y6 : aNY) (w : aNX) : Prop :=
 aD pg (aK 26 uA 0) w fun e3 w =>
 aD pg (aL 24 e3) w fun e4 w =>
 aD pg (aI .eql 24 (.tmp 34) (.const (.int .u64 1)) e4 (.int .u64 1)) w fun e5 w =>
 gU e5
  (kn eX mK uA (.int .u64 1) w)
  (kn eX mK uA Y6 w)
theorem arQ (kn : K4) (hn : N4 Q kn 0 1 8 10) (h : CJ kn (g 0) (g 1) (g 8) (g 10) w) : bD pg vK (aF 1 (aB 5 tW)) Q g w :=
 eK (kr := no) (l := []) h hn gR trivial
def CZ (R : K1) (eX mK uA Y6 : aNY) (w : aNX) : Prop :=
 CJ (fun eX mK uA Y6 w => ID R eX mK uA Y6 w) eX mK uA Y6 w
def QK (kn : K4) (R : K1) (eX mK : aNY) (w : aNX) : Prop :=
 aS pg Mu #[eX] w fun d0 w =>
 aD pg (bP d0 0) w fun d1 w =>
 aD pg (bP d0 1) w fun d2 w =>
 aD pg (fW 26) w fun uA w =>
 aD pg (aT 26 uA d1) w fun _u w =>
 aD pg (aI .neq 27 (.tmp 23) (.const (aNZ 0)) d2 (aNZ 0)) w fun d4 w =>
 gU d4
  (R (.tuple #[(.string ⟨#[]⟩), (.string ⟨#[]⟩), (aNZ 0), d2]) w)
  (aD pg (aK 26 uA 4) w fun d6 w =>
  aD pg (aL 24 d6) w fun d7 w =>
  aD pg (aK 26 uA 0) w fun d8 w =>
  aD pg (aL 24 d8) w fun d9 w =>
  aD pg (aI .eql 24 (.tmp 29) (.const (.int .u64 0)) d9 (.int .u64 0)) w fun e0 w =>
  gU e0
   (aD pg (aK 26 uA 3) w fun e1 w =>
   aD pg (aL 24 e1) w fun e2 w =>
   kn eX mK uA e2 w)
   (kn eX mK uA d7 w))
theorem arA (kn : K4) (R : K1) (hn : N4 Q kn 0 1 8 10) (hr : HR Az R Q) (h : QK kn R (g 0) (g 1) w) : bD pg vK (aF 5 tW) Q g w :=
 eK (l := []) h hn hr trivial
def RK (R : K1) (eX mK : aNY) (w : aNX) : Prop :=
 QK (fun eX mK uA Y6 w => CZ R eX mK uA Y6 w) R eX mK w
theorem aqR (R : K1) (hr : HR Az R Q) (h : RK R (g 0) (g 1) w) : bD pg vK tW Q g w :=
 jA 5 (arA _ g w (CZ R) R (fun g w h => aJ (jA 1 (arQ _ g w (ID R) (fun g w h => aJ (jA 7 (anT _ g w (IV R) R (fun g w h => aJ (jA 3 (aoS _ g w (As R) R (fun g w h => aJ (aqV _ g w R hr h)) hr h))) hr h))) h))) hr h)
def ayH (a0 a1 : aNY) (w : aNX) (R : K1) : Prop :=
 RK R a0 a1 w
theorem avR {a0 a1 : aNY} {w : aNX} {R : K1} (h : ayH a0 a1 w R) : aS pg FE #[a0, a1] w R := by
 refine uP (ann := vK) Tryz.f9 tW [a0, a1] Az 117 TryzM.mixed Tryz.func9 ?_
 exact (aqR _ _ _ R (fun _ _ h => h) h)
def Sq : FA := ⟨Bv, fun i => .leaf ([], []) []⟩
def UA : List ResultVar := [.tmp 2, .tmp 3]
noncomputable def Ql : Code := dH Tryz.f10
def Le (R : K1) (cS : aNY) (w : aNX) : Prop :=
 aD pg (lI .len #[22] 3 [cS]) w fun b5 w =>
 aD pg (aI .gtr 3 aM aM b5 (aNZ 131072)) w fun b6 w =>
 gU b6
  (R (.tuple #[(.slice none 0 0), (aNZ 1)]) w)
  (aD pg (lI .len #[22] 3 [cS]) w fun b8 w =>
  aS pg xV #[(aNZ 0), b8] w fun b9 w =>
  aD pg (lI .append #[22, 22] 22 [b9, cS]) w fun c1 w =>
  R (.tuple #[c1, (aNZ 0)]) w)
theorem Z7 (R : K1) (hr : HR UA R Q) (h : Le R (g 0) w) : bD pg Sq Ql Q g w :=
 eK (kn := no) (l := []) h gR hr trivial
def afN (a0 : aNY) (w : aNX) (R : K1) : Prop :=
 Le R a0 w
theorem agS {a0 : aNY} {w : aNX} {R : K1} (h : afN a0 w R) : aS pg Bv #[a0] w R := by
 refine uP (ann := Sq) Tryz.f10 Ql [a0] UA 12 TryzM.mixed Tryz.func10 ?_
 exact (Z7 _ _ _ R (fun _ _ h => h) h)
def QE : FA := ⟨tQ, fun i => .leaf ([], []) []⟩
def SO : List ResultVar := [.tmp 4, .tmp 5]
noncomputable def Nf : Code := dH Tryz.f11
def Cr (R : K1) (Ma kN : aNY) (w : aNX) : Prop :=
 aD pg (aI .lss 3 aM aM kN (aNZ 0)) w fun b7 w =>
 Gd (gQ b7 false) (fun K => K kN w) w fun b9 w =>
 Gd (gQ b7 false) (fun K => aD pg (aI .gtr 3 aM aM b9 (aNZ 131072)) w K) w fun c0 w =>
 aD pg (iO b7 (.bool true) c0) w fun c1 w =>
 gU c1
  (R (.tuple #[(.slice none 0 0), (aNZ 1)]) w)
  (aS pg xV #[(aNZ 1), kN] w fun c3 w =>
  aD pg (cU 22 1 [(0, Ma)]) w fun c5 w =>
  aD pg (lI .append #[22, 22] 22 [c3, c5]) w fun c6 w =>
  R (.tuple #[c6, (aNZ 0)]) w)
theorem Yd (R : K1) (hr : HR SO R Q) (h : Cr R (g 0) (g 1) w) : bD pg QE Nf Q g w :=
 eK (kn := no) (l := []) h gR hr trivial
def Rt (a0 a1 : aNY) (w : aNX) (R : K1) : Prop :=
 Cr R a0 a1 w
theorem Ot {a0 a1 : aNY} {w : aNX} {R : K1} (h : Rt a0 a1 w R) : aS pg tQ #[a0, a1] w R := by
 refine uP (ann := QE) Tryz.f11 Nf [a0, a1] SO 17 TryzM.mixed Tryz.func11 ?_
 exact (Yd _ _ _ R (fun _ _ h => h) h)
def tY : FA := ⟨A6, fun i => .leaf ([], []) []⟩
def vL : List ResultVar := [.tmp 6, .tmp 7]
noncomputable def sZ : Code := dH Tryz.f12
def sJ (R : K1) (lR CD b_9 amN akA afV : aNY) (w : aNX) : Prop :=
 aS pg sQ #[] w fun l5 w =>
 aD pg (aI .shl 3 aM aM amN (.int .u64 2)) w fun l9 w =>
 aD pg (aI .or 3 aM aM CD l9) w fun m0 w =>
 aD pg (lI .len #[22] 3 [lR]) w fun m2 w =>
 aD pg (aI .shl 3 aM aM m2 (.int .u64 4)) w fun m3 w =>
 aD pg (aI .or 3 aM aM m0 m3) w fun m4 w =>
 aD pg (jP 3 24 m4) w fun m5 w =>
 aD pg (lI .len #[22] 3 [b_9]) w fun m7 w =>
 aD pg (jP 3 24 m7) w fun m8 w =>
 aD pg (aI .add 3 aM aM (aNZ 4) akA) w fun n0 w =>
 aD pg (aI .shl 24 aM aM m8 n0) w fun n1 w =>
 aD pg (aI .or 24 aM aM m5 n1) w fun n2 w =>
 aS pg lJ #[l5, n2, afV] w fun n4 w =>
 aS pg sF #[l5, b_9] w fun n7 w =>
 aS pg rQ #[l5] w fun n9 w =>
 R (.tuple #[n9, (aNZ 0)]) w
theorem VA (R : K1) (hr : HR vL R Q) (h : sJ R (g 0) (g 8) (g 9) (g 14) (g 15) (g 16) w) : bD pg tY (aB 6 (aB 5 sZ)) Q g w :=
 eK (kn := no) (l := []) h gR hr trivial
def Ep (kn : K6) (R : K1) (lR l_1 CD b_9 : aNY) (w : aNX) : Prop :=
 aS pg xO #[l_1, lR] w fun f0 w =>
 aD pg (bP f0 0) w fun f1 w =>
 aD pg (bP f0 1) w fun f2 w =>
 aD pg (aI .neq 27 (.tmp 43) (.const (aNZ 0)) f2 (aNZ 0)) w fun f4 w =>
 gU f4
  (R (.tuple #[(.slice none 0 0), f2]) w)
  (aD pg (lI .append #[22, 22] 22 [b_9, f1]) w fun f8 w =>
  aD pg (lI .len #[22] 3 [f8]) w fun i0 w =>
  aD pg (aI .geq 3 aM aM i0 (aNZ 262144)) w fun i1 w =>
  gU i1
   (R (.tuple #[(.slice none 0 0), (aNZ 1)]) w)
   (aD pg (lI .len #[22] 3 [lR]) w fun i3 w =>
   aD pg (lI .len #[22] 3 [f8]) w fun i5 w =>
   aD pg (lI .max #[3, 3] 3 [i3, i5]) w fun i6 w =>
   aD pg (lI .len #[22] 3 [lR]) w fun i9 w =>
   aD pg (aI .lss 3 aM aM i9 (aNZ 256)) w fun j0 w =>
   Gd (gQ j0 true) (fun K => K i6 w) w fun j2 w =>
   Gd (gQ j0 true) (fun K => aD pg (aI .lss 3 aM aM j2 (aNZ 1024)) w K) w fun j3 w =>
   aD pg (iO j0 j3 (.bool false)) w fun j4 w =>
   gU j4
    (kn lR CD f8 (aNZ 0) (aNZ 10) (aNZ 3) w)
    (aD pg (lI .len #[22] 3 [lR]) w fun j7 w =>
    aD pg (aI .lss 3 aM aM j7 (aNZ 256)) w fun j8 w =>
    gU j8
     (R (.tuple #[(.slice none 0 0), (aNZ 1)]) w)
     (aD pg (aI .lss 3 aM aM i6 (aNZ 1024)) w fun l1 w =>
     gU l1
      (kn lR CD f8 (aNZ 1) (aNZ 10) (aNZ 3) w)
      (aD pg (aI .lss 3 aM aM i6 (aNZ 16384)) w fun l4 w =>
      gU l4
       (kn lR CD f8 (aNZ 2) (aNZ 14) (aNZ 4) w)
       (kn lR CD f8 (aNZ 3) (aNZ 18) (aNZ 5) w))))))
theorem Vw (kn : K6) (R : K1) (hn : N6 Q kn 0 8 9 14 15 16) (hr : HR vL R Q) (h : Ep kn R (g 0) (g 1) (g 8) (g 9) w) : bD pg tY (aF 6 (aB 5 sZ)) Q g w :=
 eK (l := []) h hn hr trivial
def zX (R : K1) (lR l_1 CD b_9 : aNY) (w : aNX) : Prop :=
 Ep (fun lR CD b_9 amN akA afV w => sJ R lR CD b_9 amN akA afV w) R lR l_1 CD b_9 w
def DU (kn : K4) (R : K1) (lR l_1 aBZ : aNY) (w : aNX) : Prop :=
 aD pg (lI .len #[22] 3 [lR]) w fun d0 w =>
 aD pg (aI .eql 3 (.tmp 20) (.const (aNZ 0)) d0 (aNZ 0)) w fun d1 w =>
 Gd (gQ d1 false) (fun K => K lR w) w fun d3 w =>
 Gd (gQ d1 false) (fun K => aD pg (lI .len #[22] 3 [d3]) w K) w fun d4 w =>
 Gd (gQ d1 false) (fun K => aD pg (aI .gtr 3 aM aM d4 (aNZ 131072)) w K) w fun d5 w =>
 aD pg (iO d1 (.bool true) d5) w fun d6 w =>
 gU d6
  (R (.tuple #[(.slice none 0 0), (aNZ 1)]) w)
  (gU aBZ
   (aS pg An #[l_1] w fun e0 w =>
   aD pg (bP e0 0) w fun e1 w =>
   aD pg (bP e0 1) w fun e2 w =>
   aD pg (aI .neq 27 (.tmp 33) (.const (aNZ 0)) e2 (aNZ 0)) w fun e4 w =>
   gU e4
    (R (.tuple #[(.slice none 0 0), e2]) w)
    (kn lR l_1 (aNZ 2) e1 w))
   (kn lR l_1 (aNZ 3) (.slice none 0 0) w))
theorem U6 (kn : K4) (R : K1) (hn : N4 Q kn 0 1 8 9) (hr : HR vL R Q) (h : DU kn R (g 0) (g 1) (g 2) w) : bD pg tY (aF 5 sZ) Q g w :=
 eK (l := []) h hn hr trivial
def Ee (R : K1) (lR l_1 aBZ : aNY) (w : aNX) : Prop :=
 DU (fun lR l_1 CD b_9 w => zX R lR l_1 CD b_9 w) R lR l_1 aBZ w
theorem Vx (R : K1) (hr : HR vL R Q) (h : Ee R (g 0) (g 1) (g 2) w) : bD pg tY sZ Q g w :=
 jA 5 (U6 _ g w (zX R) R (fun g w h => aJ (jA 6 (Vw _ g w (sJ R) R (fun g w h => aJ (VA _ g w R hr h)) hr h))) hr h)
def UH (a0 a1 a2 : aNY) (w : aNX) (R : K1) : Prop :=
 Ee R a0 a1 a2 w
theorem V2 {a0 a1 a2 : aNY} {w : aNX} {R : K1} (h : UH a0 a1 a2 w R) : aS pg A6 #[a0, a1, a2] w R := by
 refine uP (ann := tY) Tryz.f12 sZ [a0, a1, a2] vL 100 TryzM.mixed Tryz.func12 ?_
 exact (Vx _ _ _ R (fun _ _ h => h) h)
def rX : FA := ⟨IZ, fun i => .leaf ([], []) []⟩
def vB : List ResultVar := [.tmp 2]
noncomputable def qT : Code := dH Tryz.f13
def Fx (R : K1) (PW : aNY) (w : aNX) : Prop :=
 R PW w
theorem afI (R : K1) (hr : HR vB R Q) (h : Fx R (g 3) w) : bD pg rX (aB 1 (aB 4 qT)) Q g w :=
 eK (kn := no) (l := []) h gR hr trivial
def G6 (kn : K3) (k0 : K1) (R : K1) (cS PW lG : aNY) (w : aNX) : Prop :=
 aD pg (lI .len #[9] 3 [cS]) w fun e2 w =>
 aD pg (aI .lss 3 aM aM lG e2) w fun e3 w =>
 gU e3
  (aD pg (CN 9 cS lG) w fun e8 w =>
  aD pg (jP 5 3 e8) w fun e9 w =>
  aD pg (aI .gtr 3 aM aM e9 PW) w fun f1 w =>
  gU f1
   (R (aNZ 0) w)
   (aD pg (aI .add 3 aM aM lG (aNZ 1)) w fun e5 w =>
   kn cS PW e5 w))
  (k0 PW w)
theorem agC (kn : K3) (k0 : K1) (R : K1) (hn : N3 Q kn 0 3 4) (h0 : E1 Q k0 0 3) (hr : HR vB R Q) (h : G6 kn k0 R (g 0) (g 3) (g 4) w) : bD pg rX (bI (bI (aB 1 (aF 1 (aB 4 qT))))) Q g w :=
 eK (l := [(0, fun g w => k0 (g 3) w)]) h hn hr ⟨h0, trivial⟩
def Nj (k0 : K1) (R : K1) (cS PW lG : aNY) (w : aNX) : Prop :=
 cR (fun (X : aNY -> K0) (t : aNY) (w : aNX) => G6 (fun _ _ lG w => X lG w) k0 R cS PW t w) lG w
theorem aiN (k0 : K1) (R : K1) (h0 : E1 Q k0 0 3) (hr : HR vB R Q) (h : Nj k0 R (g 0) (g 3) (g 4) w) : bD pg rX (bI (aB 1 (aF 1 (aB 4 qT)))) Q g w := by
 refine CX (fun g : Env => g 4) (fun X t w => G6 (fun _ _ lG w => X lG w) k0 R (g 0) (g 3) t w) h (fun X g1 w1 ha hL => ?_)
 rw [<- kA 0 ha, <- kA 3 ha] at hL
 exact (agC _ g1 w1 (fun _ _ lG w => X lG w) k0 R (fun _ _ h => h) h0 hr hL)
def PG (kn : K1) (R : K1) (cS PW lG : aNY) (w : aNX) : Prop :=
 Nj kn R cS PW lG w
def Pz (kn : K3) (cS PW : aNY) (w : aNX) : Prop :=
 kn cS PW (aNZ 0) w
theorem ahZ (kn : K3) (hn : N3 Q kn 0 3 4) (h : Pz kn (g 0) (g 3) w) : bD pg rX (aF 1 (aF 1 (aB 4 qT))) Q g w :=
 eK (kr := no) (l := []) h hn gR trivial
def PT (kn : K1) (R : K1) (cS PW : aNY) (w : aNX) : Prop :=
 Pz (fun cS PW lG w => PG kn R cS PW lG w) cS PW w
def ON (R : K1) (cS PW : aNY) (w : aNX) : Prop :=
 PT (fun PW w => Fx R PW w) R cS PW w
theorem aiD (kn : K1) (R : K1) (hn : N1 Q kn 3) (hr : HR vB R Q) (h : PT kn R (g 0) (g 3) w) : bD pg rX (aF 1 (aB 4 qT)) Q g w :=
 jA 1 (ahZ _ g w (PG kn R) (fun g w h => aJ (xC 0 (aiN _ g w kn R hn hr h))) h)
def Og (kn : K2) (R : K1) (cS : aNY) (w : aNX) : Prop :=
 aD pg (lI .len #[9] 3 [cS]) w fun b6 w =>
 aD pg (aI .lss 3 aM aM b6 (aNZ 2)) w fun b7 w =>
 Gd (gQ b7 false) (fun K => K cS w) w fun b9 w =>
 Gd (gQ b7 false) (fun K => aD pg (lI .len #[9] 3 [b9]) w K) w fun c0 w =>
 Gd (gQ b7 false) (fun K => aD pg (aI .gtr 3 aM aM c0 (aNZ 256)) w K) w fun c1 w =>
 aD pg (iO b7 (.bool true) c1) w fun c2 w =>
 Gd (gQ c2 false) (fun K => K cS w) w fun c4 w =>
 Gd (gQ c2 false) (fun K => K cS w) w fun c5 w =>
 Gd (gQ c2 false) (fun K => aD pg (lI .len #[9] 3 [c5]) w K) w fun c6 w =>
 Gd (gQ c2 false) (fun K => aD pg (aI .sub 3 aM aM c6 (aNZ 1)) w K) w fun c7 w =>
 Gd (gQ c2 false) (fun K => aD pg (CN 9 c4 c7) w K) w fun c8 w =>
 Gd (gQ c2 false) (fun K => aD pg (aI .eql 5 (.tmp 18) (.const (.int .u8 0)) c8 (.int .u8 0)) w K) w fun c9 w =>
 aD pg (iO c2 (.bool true) c9) w fun d0 w =>
 gU d0
  (R (aNZ 0) w)
  (aS pg CU #[cS] w fun d2 w =>
  aS pg Jf #[d2] w fun d3 w =>
  aD pg (aI .lss 3 aM aM d3 (aNZ 1)) w fun d5 w =>
  Gd (gQ d5 false) (fun K => K d3 w) w fun d7 w =>
  Gd (gQ d5 false) (fun K => aD pg (aI .gtr 3 aM aM d7 (aNZ 11)) w K) w fun d8 w =>
  aD pg (iO d5 (.bool true) d8) w fun d9 w =>
  gU d9
   (R (aNZ 0) w)
   (kn cS d3 w))
theorem agP (kn : K2) (R : K1) (hn : N2 Q kn 0 3) (hr : HR vB R Q) (h : Og kn R (g 0) w) : bD pg rX (aF 4 qT) Q g w :=
 eK (l := []) h hn hr trivial
def OD (R : K1) (cS : aNY) (w : aNX) : Prop :=
 Og (fun cS PW w => ON R cS PW w) R cS w
theorem alA (R : K1) (hr : HR vB R Q) (h : OD R (g 0) w) : bD pg rX qT Q g w :=
 jA 4 (agP _ g w (ON R) R (fun g w h => aJ (jA 1 (aiD _ g w (Fx R) R (fun g w h => aJ (afI _ g w R hr h)) hr h))) hr h)
def atJ (a0 : aNY) (w : aNX) (R : K1) : Prop :=
 OD R a0 w
theorem amU {a0 : aNY} {w : aNX} {R : K1} (h : atJ a0 w R) : aS pg IZ #[a0] w R := by
 refine uP (ann := rX) Tryz.f13 qT [a0] vB 43 TryzM.mixed Tryz.func13 ?_
 exact (alA _ _ _ R (fun _ _ h => h) h)
def pO : FA := ⟨vM, fun i => .leaf ([], []) []⟩
def Lt : List ResultVar := [.cell 4 45, .tmp 5]
noncomputable def oN : Code := dH Tryz.f14
def DJ (R : K1) (Iv b4 tR : aNY) (w : aNX) : Prop :=
 aD pg (aL 45 Iv) w fun f4 w =>
 aD pg (aT 45 b4 f4) w fun _u w =>
 Ac pg 45 b4 w fun r0 => R (.tuple #[r0, tR]) w
theorem aeP (R : K1) (hr : HR Lt R Q) (h : DJ R (g 2) (g 4) (g 7) w) : bD pg pO (aB 1 (aB 3 (aB 2 oN))) Q g w :=
 eK (kn := no) (l := []) h gR hr trivial
def DM (kn : K6) (k0 : K3) (Iv b4 s_6 tR m_8 i_9 : aNY) (w : aNX) : Prop :=
 aD pg (lI .len #[9] 3 [s_6]) w fun e0 w =>
 aD pg (aI .lss 3 aM aM i_9 e0) w fun e1 w =>
 gU e1
  (aD pg (CN 9 s_6 i_9) w fun e7 w =>
  aD pg (jP 5 24 e7) w fun e8 w =>
  aD pg (aI .mul 24 aM aM e8 m_8) w fun f0 w =>
  aD pg (aI .add 24 aM aM tR f0) w fun f1 w =>
  aD pg (aI .mul 24 aM aM m_8 (.int .u64 256)) w fun f3 w =>
  aD pg (aI .add 3 aM aM i_9 (aNZ 1)) w fun e3 w =>
  kn Iv b4 s_6 f1 f3 e3 w)
  (k0 Iv b4 tR w)
theorem aaX (kn : K6) (k0 : K3) (hn : N6 Q kn 2 4 6 7 8 9) (h0 : E3 Q k0 0 2 4 7) (h : DM kn k0 (g 2) (g 4) (g 6) (g 7) (g 8) (g 9) w) : bD pg pO (bI (bI (aB 1 (aF 1 (aB 3 (aB 2 oN)))))) Q g w :=
 eK (kr := no) (l := [(0, fun g w => k0 (g 2) (g 4) (g 7) w)]) h hn gR ⟨h0, trivial⟩
def KW (k0 : K3) (Iv b4 s_6 tR m_8 i_9 : aNY) (w : aNX) : Prop :=
 cR (fun (X : (aNY × aNY × aNY) -> K0) (t : aNY × aNY × aNY) (w : aNX) => DM (fun _ _ _ tR m_8 i_9 w => X (tR, m_8, i_9) w) k0 Iv b4 s_6 t.1 t.2.1 t.2.2 w) (tR, m_8, i_9) w
theorem aaY (k0 : K3) (h0 : E3 Q k0 0 2 4 7) (h : KW k0 (g 2) (g 4) (g 6) (g 7) (g 8) (g 9) w) : bD pg pO (bI (aB 1 (aF 1 (aB 3 (aB 2 oN))))) Q g w := by
 refine CX (fun g : Env => (g 7, g 8, g 9)) (fun X t w => DM (fun _ _ _ tR m_8 i_9 w => X (tR, m_8, i_9) w) k0 (g 2) (g 4) (g 6) t.1 t.2.1 t.2.2 w) h (fun X g1 w1 ha hL => ?_)
 rw [<- kA 2 ha, <- kA 4 ha, <- kA 6 ha] at hL
 exact (aaX _ g1 w1 (fun _ _ _ tR m_8 i_9 w => X (tR, m_8, i_9) w) k0 (fun _ _ h => h) h0 hL)
def Li (kn : K3) (Iv b4 s_6 tR m_8 i_9 : aNY) (w : aNX) : Prop :=
 KW kn Iv b4 s_6 tR m_8 i_9 w
def LR (kn : K6) (Iv b4 s_6 tR m_8 : aNY) (w : aNX) : Prop :=
 kn Iv b4 s_6 tR m_8 (aNZ 0) w
theorem Z8 (kn : K6) (hn : N6 Q kn 2 4 6 7 8 9) (h : LR kn (g 2) (g 4) (g 6) (g 7) (g 8) w) : bD pg pO (aF 1 (aF 1 (aB 3 (aB 2 oN)))) Q g w :=
 eK (kr := no) (l := []) h hn gR trivial
def Km (kn : K3) (Iv b4 s_6 tR m_8 : aNY) (w : aNX) : Prop :=
 LR (fun Iv b4 s_6 tR m_8 i_9 w => Li kn Iv b4 s_6 tR m_8 i_9 w) Iv b4 s_6 tR m_8 w
def Kx (R : K1) (Iv b4 s_6 tR m_8 : aNY) (w : aNX) : Prop :=
 Km (fun Iv b4 tR w => DJ R Iv b4 tR w) Iv b4 s_6 tR m_8 w
theorem adN (kn : K3) (hn : N3 Q kn 2 4 7) (h : Km kn (g 2) (g 4) (g 6) (g 7) (g 8) w) : bD pg pO (aF 1 (aB 3 (aB 2 oN))) Q g w :=
 jA 1 (Z8 _ g w (Li kn) (fun g w h => aJ (xC 0 (aaY _ g w kn hn h))) h)
def LO (kn : K5) (kN Iv b4 : aNY) (w : aNX) : Prop :=
 aD pg (aL 45 Iv) w fun d3 w =>
 aS pg F5 #[d3, kN] w fun d5 w =>
 aD pg (bP d5 0) w fun d6 w =>
 aD pg (bP d5 1) w fun d7 w =>
 aD pg (aT 45 Iv d6) w fun _u w =>
 kn Iv b4 d7 (.int .u64 0) (.int .u64 1) w
theorem acW (kn : K5) (hn : N5 Q kn 2 4 6 7 8) (h : LO kn (g 1) (g 2) (g 4) w) : bD pg pO (aF 3 (aB 2 oN)) Q g w :=
 eK (kr := no) (l := []) h hn gR trivial
def Dj (R : K1) (kN Iv b4 : aNY) (w : aNX) : Prop :=
 LO (fun Iv b4 s_6 tR m_8 w => Kx R Iv b4 s_6 tR m_8 w) kN Iv b4 w
def HV (kn : K3) (OB kN : aNY) (w : aNX) : Prop :=
 aD pg (B4 45 OB) w fun Iv w =>
 aD pg (fW 45) w fun b4 w =>
 aD pg (aK 45 Iv 1) w fun c0 w =>
 aD pg (aL 27 c0) w fun c1 w =>
 aD pg (aI .eql 27 (.tmp 11) (.const (aNZ 0)) c1 (aNZ 0)) w fun c2 w =>
 Gd (gQ c2 true) (fun K => K kN w) w fun c4 w =>
 Gd (gQ c2 true) (fun K => aD pg (aI .lss 3 aM aM c4 (aNZ 1)) w K) w fun c5 w =>
 Gd (gQ c2 true) (fun K => K c5 w) w fun c6 w =>
 Gd (gQ c6 false) (fun K => K kN w) w fun c7 w =>
 Gd (gQ c6 false) (fun K => aD pg (aI .gtr 3 aM aM c7 (aNZ 8)) w K) w fun c8 w =>
 Gd (gQ c2 true) (fun K => aD pg (iO c6 (.bool true) c8) w K) w fun c9 w =>
 aD pg (iO c2 c9 (.bool false)) w fun d0 w =>
 gU d0
  (aD pg (aK 45 Iv 1) w fun d1 w =>
  aD pg (aT 27 d1 (aNZ 1)) w fun _u w =>
  kn kN Iv b4 w)
  (kn kN Iv b4 w)
theorem Zl (kn : K3) (hn : N3 Q kn 1 2 4) (h : HV kn (g 0) (g 1) w) : bD pg pO (aF 2 oN) Q g w :=
 eK (kr := no) (l := []) h hn gR trivial
def HO (R : K1) (OB kN : aNY) (w : aNX) : Prop :=
 HV (fun kN Iv b4 w => Dj R kN Iv b4 w) OB kN w
theorem YK (R : K1) (hr : HR Lt R Q) (h : HO R (g 0) (g 1) w) : bD pg pO oN Q g w :=
 jA 2 (Zl _ g w (Dj R) (fun g w h => aJ (jA 3 (acW _ g w (Kx R) (fun g w h => aJ (jA 1 (adN _ g w (DJ R) (fun g w h => aJ (aeP _ g w R hr h)) h))) h))) h)
def amF (a0 a1 : aNY) (w : aNX) (R : K1) : Prop :=
 HO R a0 a1 w
theorem akG {a0 a1 : aNY} {w : aNX} {R : K1} (h : amF a0 a1 w R) : aS pg vM #[a0, a1] w R := by
 refine uP (ann := pO) Tryz.f14 oN [a0, a1] Lt 46 TryzM.mixed Tryz.func14 ?_
 exact (YK _ _ _ R (fun _ _ h => h) h)
def oI : FA := ⟨AT, fun i => match Nat.beq i 3 with | true => .leaf ([12, 13], [(1, 12), (2, 12), (3, 12), (4, 12), (6, 12), (7, 12), (8, 12), (9, 12), (10, 12), (11, 12)]) [(false, []), (false, []), (false, []), (false, []), (false, []), (false, []), (false, []), (false, []), (false, []), (false, []), (false, []), (false, []), (true, [0, 1, 2, 3, 4, 5, 7, 8, 9, 10]), (true, [])] | false => .leaf ([], []) []⟩
def zT : List ResultVar := [.cell 2 49, .tmp 3]
noncomputable def nP : Code := dH Tryz.f15
def qN (R : K1) (eX b2 wP pA oQ : aNY) (w : aNX) : Prop :=
 aS pg vH #[eX] w fun f8 w =>
 aD pg (aK 49 wP 2) w fun i0 w =>
 aD pg (aL 3 i0) w fun i1 w =>
 aS pg rG #[f8, i1] w fun i2 w =>
 aD pg (aI .shr 24 aM aM i2 pA) w fun i4 w =>
 aS pg rO #[f8] w fun i6 w =>
 aD pg (aI .neq 27 (.tmp 56) (.const (aNZ 0)) i6 (aNZ 0)) w fun i7 w =>
 gU i7
  (aD pg (fX 49 []) w fun i8 w =>
  aS pg rO #[f8] w fun j0 w =>
  aD pg (aT 49 b2 i8) w fun _u w =>
  Ac pg 49 b2 w fun r0 => R (.tuple #[r0, j0]) w)
  (aD pg (aI .shl 24 aM aM (.int .u64 1) oQ) w fun j3 w =>
  aD pg (aI .sub 24 aM aM j3 (.int .u64 1)) w fun j4 w =>
  aD pg (aI .and 24 aM aM i4 j4) w fun j5 w =>
  aD pg (jP 24 3 j5) w fun j6 w =>
  aD pg (aK 49 wP 3) w fun j7 w =>
  aD pg (aT 3 j7 j6) w fun _u w =>
  aD pg (aI .shr 24 aM aM i4 oQ) w fun l0 w =>
  aD pg (jP 24 3 l0) w fun l1 w =>
  aD pg (aK 49 wP 4) w fun l2 w =>
  aD pg (aT 3 l2 l1) w fun _u w =>
  aD pg (aK 49 wP 3) w fun l3 w =>
  aD pg (aL 3 l3) w fun l4 w =>
  aD pg (aI .gtr 3 aM aM l4 (aNZ 131072)) w fun l5 w =>
  gU l5
   (aD pg (fX 49 []) w fun l6 w =>
   aD pg (aT 49 b2 l6) w fun _u w =>
   Ac pg 49 b2 w fun r0 => R (.tuple #[r0, (aNZ 12)]) w)
   (aD pg (aL 49 wP) w fun l7 w =>
   aD pg (aT 49 b2 l7) w fun _u w =>
   Ac pg 49 b2 w fun r0 => R (.tuple #[r0, (aNZ 0)]) w))
theorem Va (R : K1) (hr : HR zT R Q) (h : qN R (g 0) (g 2) (g 4) (g 5) (g 6) w) : bD pg oI (aB 1 (aB 4 nP)) Q g w :=
 eK (kn := no) (l := []) h gR hr trivial
def lE (kn : K5) (eX b2 wP pA oQ e6 : aNY) (w : aNX) : Prop :=
 gU e6
  (aD pg (fX 73 [(0, (aNZ 1)), (1, (aNZ 2)), (2, (aNZ 1)), (3, (aNZ 3))]) w fun e9 w =>
  aD pg (aK 49 wP 1) w fun f0 w =>
  aD pg (aL 3 f0) w fun f1 w =>
  aD pg (CN 73 e9 f1) w fun f2 w =>
  aD pg (aK 49 wP 2) w fun f3 w =>
  aD pg (aT 3 f3 f2) w fun _u w =>
  aD pg (aK 49 wP 2) w fun f4 w =>
  aD pg (aL 3 f4) w fun f5 w =>
  aD pg (aI .eql 3 (.tmp 45) (.const (aNZ 1)) f5 (aNZ 1)) w fun f6 w =>
  gU f6
   (kn eX b2 wP (aNZ 3) oQ w)
   (kn eX b2 wP pA oQ w))
  (aD pg (fX 73 [(0, (aNZ 3)), (1, (aNZ 3)), (2, (aNZ 4)), (3, (aNZ 5))]) w fun d7 w =>
  aD pg (aK 49 wP 1) w fun d8 w =>
  aD pg (aL 3 d8) w fun d9 w =>
  aD pg (CN 73 d7 d9) w fun e0 w =>
  aD pg (aK 49 wP 2) w fun e1 w =>
  aD pg (aT 3 e1 e0) w fun _u w =>
  aD pg (fX 73 [(0, (aNZ 10)), (1, (aNZ 10)), (2, (aNZ 14)), (3, (aNZ 18))]) w fun e2 w =>
  aD pg (aK 49 wP 1) w fun e3 w =>
  aD pg (aL 3 e3) w fun e4 w =>
  aD pg (CN 73 e2 e4) w fun e5 w =>
  kn eX b2 wP pA e5 w)
theorem U8 (kn : K5) (hn : N5 Q kn 0 2 4 5 6) (h : lE kn (g 0) (g 2) (g 4) (g 5) (g 6) (g 36) w) : bD pg oI (aB 1 (bI (aB 1 (aF 1 (aB 4 nP))))) Q g w :=
 eK (kr := no) (l := []) h hn gR trivial
def Er (kn : K6) (eX b2 wP pA oQ d6 : aNY) (w : aNX) : Prop :=
 aD pg (aI .eql 3 (.tmp 26) (.const (aNZ 0)) d6 (aNZ 0)) w fun e7 w =>
 gU e7
  (kn eX b2 wP pA oQ e7 w)
  (aD pg (aI .eql 3 (.tmp 26) (.const (aNZ 1)) d6 (aNZ 1)) w fun e8 w =>
  kn eX b2 wP pA oQ e8 w)
theorem U4 (kn : K6) (hn : N6 Q kn 0 2 4 5 6 36) (h : Er kn (g 0) (g 2) (g 4) (g 5) (g 6) (g 26) w) : bD pg oI (aF 1 (bI (aB 1 (aF 1 (aB 4 nP))))) Q g w :=
 eK (kr := no) (l := []) h hn gR trivial
def M4 (kn : K5) (eX b2 wP pA oQ d6 : aNY) (w : aNX) : Prop :=
 Er (fun eX b2 wP pA oQ e6 w => lE kn eX b2 wP pA oQ e6 w) eX b2 wP pA oQ d6 w
def DW (kn : K5) (eX b2 wP pA oQ d6 : aNY) (w : aNX) : Prop :=
 M4 kn eX b2 wP pA oQ d6 w
def El (kn : K6) (eX b2 wP pA oQ : aNY) (w : aNX) : Prop :=
 aD pg (aK 49 wP 0) w fun d5 w =>
 aD pg (aL 3 d5) w fun d6 w =>
 kn eX b2 wP pA oQ d6 w
theorem Vq (kn : K6) (hn : N6 Q kn 0 2 4 5 6 26) (h : El kn (g 0) (g 2) (g 4) (g 5) (g 6) w) : bD pg oI (aF 1 (aF 1 (aB 4 nP))) Q g w :=
 eK (kr := no) (l := []) h hn gR trivial
def Ei (kn : K5) (eX b2 wP pA oQ : aNY) (w : aNX) : Prop :=
 El (fun eX b2 wP pA oQ d6 w => DW kn eX b2 wP pA oQ d6 w) eX b2 wP pA oQ w
def D0 (R : K1) (eX b2 wP pA oQ : aNY) (w : aNX) : Prop :=
 Ei (fun eX b2 wP pA oQ w => qN R eX b2 wP pA oQ w) eX b2 wP pA oQ w
theorem VI (kn : K5) (hn : N5 Q kn 0 2 4 5 6) (h : Ei kn (g 0) (g 2) (g 4) (g 5) (g 6) w) : bD pg oI (aF 1 (aB 4 nP)) Q g w :=
 jA 1 (Vq _ g w (DW kn) (fun g w h => aJ (xC 0 (jA 1 (U4 _ g w (lE kn) (fun g w h => aJ (U8 _ g w kn hn h)) h)))) h)
def D1 (kn : K5) (R : K1) (eX : aNY) (w : aNX) : Prop :=
 aD pg (fW 49) w fun b2 w =>
 aD pg (lI .len #[22] 3 [eX]) w fun c0 w =>
 aD pg (aI .eql 3 (.tmp 10) (.const (aNZ 0)) c0 (aNZ 0)) w fun c1 w =>
 gU c1
  (aD pg (fX 49 []) w fun c2 w =>
  aD pg (aT 49 b2 c2) w fun _u w =>
  Ac pg 49 b2 w fun r0 => R (.tuple #[r0, (aNZ 10)]) w)
  ((dr w) = (dr w) /\
  aD pg (cI 22 eX (aNZ 0)) (dr w) fun c4 w_ => w_ = (dr w) /\
  aD pg (aL 5 c4) (dr w) fun c5 w_ => w_ = (dr w) /\
  aD pg (aI .and 5 aM aM c5 (.int .u8 3)) (dr w) fun c6 w_ => w_ = (dr w) /\
  aD pg (jP 5 3 c6) (dr w) fun c7 w_ => w_ = (dr w) /\
  (dr w) = (dr w) /\
  aD pg (cI 22 eX (aNZ 0)) (dr w) fun c9 w_ => w_ = (dr w) /\
  aD pg (aL 5 c9) (dr w) fun d0 w_ => w_ = (dr w) /\
  aD pg (aI .shr 5 aM aM d0 (.int .u64 2)) (dr w) fun d1 w_ => w_ = (dr w) /\
  aD pg (aI .and 5 aM aM d1 (.int .u8 3)) (dr w) fun d2 w_ => w_ = (dr w) /\
  aD pg (jP 5 3 d2) (dr w) fun d3 w_ => w_ = (dr w) /\
  aD pg (fX 49 [(0, c7), (1, d3)]) (dr w) fun d4 w_ => w_ = (dr w) /\
  aD pg (fW 49) (dr w) fun wP Cv =>
  (jH pg (fX 49 [(0, c7), (1, d3)]) d4 Cv /\ jH pg (jP 5 3 d2) d3 Cv /\ jH pg (aI .and 5 aM aM d1 (.int .u8 3)) d2 Cv /\ jH pg (aI .shr 5 aM aM d0 (.int .u64 2)) d1 Cv /\ jH pg (aL 5 c9) d0 Cv /\ jH pg (cI 22 eX (aNZ 0)) c9 Cv /\ jH pg (jP 5 3 c6) c7 Cv /\ jH pg (aI .and 5 aM aM c5 (.int .u8 3)) c6 Cv /\ jH pg (aL 5 c4) c5 Cv /\ jH pg (cI 22 eX (aNZ 0)) c4 Cv /\ True) /\
  aD pg (aT 49 wP d4) Cv fun _u13 aKG =>
  kn eX b2 wP (aNZ 4) (aNZ 20) aKG)
theorem Vf (kn : K5) (R : K1) (hn : N5 Q kn 0 2 4 5 6) (hr : HR zT R Q) (h : D1 kn R (g 0) w) : bD pg oI (aF 4 nP) Q g w :=
 eK (l := []) h hn hr trivial
def CB (R : K1) (eX : aNY) (w : aNX) : Prop :=
 D1 (fun eX b2 wP pA oQ w => D0 R eX b2 wP pA oQ w) R eX w
theorem TN (R : K1) (hr : HR zT R Q) (h : CB R (g 0) w) : bD pg oI nP Q g w :=
 jA 4 (Vf _ g w (D0 R) R (fun g w h => aJ (jA 1 (VI _ g w (qN R) (fun g w h => aJ (Va _ g w R hr h)) h))) hr h)
def UE (a0 : aNY) (w : aNX) (R : K1) : Prop :=
 CB R a0 w
theorem VV {a0 : aNY} {w : aNX} {R : K1} (h : UE a0 w R) : aS pg AT #[a0] w R := by
 refine uP (ann := oI) Tryz.f15 nP [a0] zT 78 TryzM.mixed Tryz.func15 ?_
 exact (TN _ _ _ R (fun _ _ h => h) h)
def Ho : FA := ⟨jS, fun i => .leaf ([], []) []⟩
def Ju : List ResultVar := [.tmp 2]
noncomputable def Gi : Code := dH Tryz.f16
def Bu (R : K1) (Cz : aNY) (w : aNX) : Prop :=
 aD pg (aI .eql 22 (.tmp 3) (.const (.slice none 0 0)) Cz (.slice none 0 0)) w fun b4 w =>
 gU b4
  (R (.slice none 0 0) w)
  (aD pg (cU 22 0 []) w fun b5 w =>
  aD pg (lI .append #[22, 22] 22 [b5, Cz]) w fun b7 w =>
  R b7 w)
theorem SZ (R : K1) (hr : HR Ju R Q) (h : Bu R (g 0) w) : bD pg Ho Gi Q g w :=
 eK (kn := no) (l := []) h gR hr trivial
def QB (a0 : aNY) (w : aNX) (R : K1) : Prop :=
 Bu R a0 w
theorem Ui {a0 : aNY} {w : aNX} {R : K1} (h : QB a0 w R) : aS pg jS #[a0] w R := by
 refine uP (ann := Ho) Tryz.f16 Gi [a0] Ju 8 TryzM.mixed Tryz.func16 ?_
 exact (SZ _ _ _ R (fun _ _ h => h) h)
def lK : FA := ⟨wV, fun i => match Nat.beq i 9 with | true => .leaf ([7], []) [(false, []), (false, []), (false, []), (false, []), (false, []), (false, []), (false, []), (true, []), (false, []), (false, [])] | false => .leaf ([], []) []⟩
def AG : List ResultVar := [.tmp 4]
noncomputable def kX : Code := dH Tryz.f17
def vR (R : K1) (mQ : aNY) (w : aNX) : Prop :=
 R mQ w
theorem RL (R : K1) (hr : HR AG R Q) (h : vR R (g 7) w) : bD pg lK (aB 1 (aB 2 (aB 2 (aB 2 kX)))) Q g w :=
 eK (kn := no) (l := []) h gR hr trivial
def vW (kn : K2) (k0 : K1) (mQ n_8 : aNY) (w : aNX) : Prop :=
 aD pg (lI .len #[22] 3 [mQ]) w fun e6 w =>
 aD pg (aI .lss 3 aM aM n_8 e6) w fun e7 w =>
 gU e7
  ((dr w) = (dr w) /\
  (dr w) = (dr w) /\
  (dr w) = (dr w) /\
  aD pg (mD 22 mQ (some n_8) none none) (dr w) fun f1 w_ => w_ = (dr w) /\
  (dr w) = (dr w) /\
  (dr w) = (dr w) /\
  aD pg (mD 22 mQ none (some n_8) none) (dr w) fun f4 w_ => w_ = (dr w) /\
  aD pg (lI .copy #[22, 22] 3 [f1, f4]) (dr w) fun f5 aHC =>
  aD pg (aI .add 3 aM aM n_8 f5) aHC fun f6 w_ => w_ = aHC /\
  aHC = aHC /\
  kn mQ f6 aHC)
  (k0 mQ w)
theorem QP (kn : K2) (k0 : K1) (hn : N2 Q kn 7 8) (h0 : E1 Q k0 0 7) (h : vW kn k0 (g 7) (g 8) w) : bD pg lK (bI (bI (aF 1 (aB 2 (aB 2 (aB 2 kX)))))) Q g w :=
 eK (kr := no) (l := [(0, fun g w => k0 (g 7) w)]) h hn gR ⟨h0, trivial⟩
def AI (k0 : K1) (mQ n_8 : aNY) (w : aNX) : Prop :=
 cR (fun (X : aNY -> K0) (t : aNY) (w : aNX) => vW (fun _ n_8 w => X n_8 w) k0 mQ t w) n_8 w
theorem Sn (k0 : K1) (h0 : E1 Q k0 0 7) (h : AI k0 (g 7) (g 8) w) : bD pg lK (bI (aF 1 (aB 2 (aB 2 (aB 2 kX))))) Q g w := by
 refine CX (fun g : Env => g 8) (fun X t w => vW (fun _ n_8 w => X n_8 w) k0 (g 7) t w) h (fun X g1 w1 ha hL => ?_)
 rw [<- kA 7 ha] at hL
 exact (QP _ g1 w1 (fun _ n_8 w => X n_8 w) k0 (fun _ _ h => h) h0 hL)
def AL (kn : K1) (mQ n_8 : aNY) (w : aNX) : Prop :=
 AI kn mQ n_8 w
def vV (R : K1) (mQ n_8 : aNY) (w : aNX) : Prop :=
 AL (fun mQ w => vR R mQ w) mQ n_8 w
theorem QO (kn : K1) (hn : N1 Q kn 7) (h : AL kn (g 7) (g 8) w) : bD pg lK (aF 1 (aB 2 (aB 2 (aB 2 kX)))) Q g w :=
 xC 0 (Sn _ g w kn hn h)
def AB (kn : K2) (oL aEN : aNY) (w : aNX) : Prop :=
 aD pg (jP 67 3 aEN) w fun d9 w =>
 aD pg (qG 22 d9 d9) w fun e0 w =>
 aD pg (lI .copy #[22, 22] 3 [e0, oL]) w fun e3 w =>
 kn e0 e3 w
theorem RU (kn : K2) (hn : N2 Q kn 7 8) (h : AB kn (g 0) (g 6) w) : bD pg lK (aF 2 (aB 2 (aB 2 kX))) Q g w :=
 eK (kr := no) (l := []) h hn gR trivial
def AD (R : K1) (oL aEN : aNY) (w : aNX) : Prop :=
 AB (fun mQ n_8 w => vV R mQ n_8 w) oL aEN w
def AE (kn : K2) (oL B1 : aNY) (w : aNX) : Prop :=
 aD pg (lI .len #[22] 3 [oL]) w fun c4 w =>
 aD pg (jP 3 67 c4) w fun c5 w =>
 aD pg (jP 3 67 B1) w fun c7 w =>
 aS pg Du #[c5, c7] w fun c8 w =>
 aD pg (bP c8 0) w fun c9 w =>
 aD pg (bP c8 1) w fun d0 w =>
 aD pg (aI .gtr 67 aM aM c9 (.int .u64 0)) w fun d2 w =>
 Gd (gQ d2 false) (fun K => K d0 w) w fun d4 w =>
 Gd (gQ d2 false) (fun K => aD pg (aI .gtr 67 aM aM d4 (.int .u64 9223372036854775807)) w K) w fun d5 w =>
 aD pg (iO d2 (.bool true) d5) w fun d6 w =>
 gU d6
  (aD pg (aEr 9 (.string ⟨#[116, 104, 101, 32, 114, 101, 115, 117, 108, 116, 32, 111, 102, 32, 40, 108, 101, 110, 40, 120, 41, 32, 42, 32, 99, 111, 117, 110, 116, 41, 32, 111, 118, 101, 114, 102, 108, 111, 119, 115]⟩)) w fun d7 w =>
  aD pg (V (Instr.panic d7)) w fun _u w =>
  kn oL d0 w)
  (kn oL d0 w)
theorem R2 (kn : K2) (hn : N2 Q kn 0 6) (h : AE kn (g 0) (g 1) w) : bD pg lK (aF 2 (aB 2 kX)) Q g w :=
 eK (kr := no) (l := []) h hn gR trivial
def AH (R : K1) (oL B1 : aNY) (w : aNX) : Prop :=
 AE (fun oL aEN w => AD R oL aEN w) oL B1 w
def zL (kn : K2) (oL B1 : aNY) (w : aNX) : Prop :=
 aD pg (aI .lss 3 aM aM B1 (aNZ 0)) w fun c0 w =>
 gU c0
  (aD pg (aEr 9 (.string ⟨#[99, 97, 110, 110, 111, 116, 32, 98, 101, 32, 110, 101, 103, 97, 116, 105, 118, 101]⟩)) w fun c1 w =>
  aD pg (V (Instr.panic c1)) w fun _u w =>
  kn oL B1 w)
  (kn oL B1 w)
theorem P1 (kn : K2) (hn : N2 Q kn 0 1) (h : zL kn (g 0) (g 1) w) : bD pg lK (aF 2 kX) Q g w :=
 eK (kr := no) (l := []) h hn gR trivial
def zG (R : K1) (oL B1 : aNY) (w : aNX) : Prop :=
 zL (fun oL B1 w => AH R oL B1 w) oL B1 w
theorem P9 (R : K1) (hr : HR AG R Q) (h : zG R (g 0) (g 1) w) : bD pg lK kX Q g w :=
 jA 2 (P1 _ g w (AH R) (fun g w h => aJ (jA 2 (R2 _ g w (AD R) (fun g w h => aJ (jA 2 (RU _ g w (vV R) (fun g w h => aJ (jA 1 (QO _ g w (vR R) (fun g w h => aJ (RL _ g w R hr h)) h))) h))) h))) h)
def PQ (a0 a1 : aNY) (w : aNX) (R : K1) : Prop :=
 zG R a0 a1 w
theorem SG {a0 a1 : aNY} {w : aNX} {R : K1} (h : PQ a0 a1 w R) : aS pg wV #[a0, a1] w R := by
 refine uP (ann := lK) Tryz.f17 kX [a0, a1] AG 48 TryzM.mixed Tryz.func17 ?_
 exact (P9 _ _ _ R (fun _ _ h => h) h)
def B0 : FA := ⟨BJ, fun i => .leaf ([], []) []⟩
def DA : List ResultVar := [.tmp 2, .tmp 3, .tmp 4]
noncomputable def AQ : Code := dH Tryz.f18
def qI (R : K1) (l_6 n_7 e_8 : aNY) (w : aNX) : Prop :=
 aD pg (aI .neq 27 (.tmp 47) (.const (aNZ 0)) e_8 (aNZ 0)) w fun f8 w =>
 gU f8
  (R (.tuple #[(.slice none 0 0), (aNZ 0), e_8]) w)
  (aS pg DC #[l_6] w fun i2 w =>
  aD pg (bP i2 0) w fun i3 w =>
  aD pg (bP i2 1) w fun i4 w =>
  aD pg (aI .neq 27 (.tmp 55) (.const (aNZ 0)) i4 (aNZ 0)) w fun i6 w =>
  gU i6
   (R (.tuple #[(.slice none 0 0), (aNZ 0), i4]) w)
   (aD pg (aI .add 3 aM aM (aNZ 1) n_7) w fun j0 w =>
   R (.tuple #[i3, j0, (aNZ 0)]) w))
theorem abY (R : K1) (hr : HR DA R Q) (h : qI R (g 6) (g 7) (g 8) w) : bD pg B0 (aB 8 AQ) Q g w :=
 eK (kn := no) (l := []) h gR hr trivial
def Ap (kn : K3) (R : K1) (eX : aNY) (w : aNX) : Prop :=
 aD pg (lI .len #[22] 3 [eX]) w fun c1 w =>
 aD pg (aI .eql 3 (.tmp 11) (.const (aNZ 0)) c1 (aNZ 0)) w fun c2 w =>
 gU c2
  (R (.tuple #[(.slice none 0 0), (aNZ 0), (aNZ 10)]) w)
  (aD pg (cI 22 eX (aNZ 0)) w fun c4 w =>
  aD pg (aL 5 c4) w fun c5 w =>
  aD pg (jP 5 3 c5) w fun c6 w =>
  aD pg (mD 22 eX (some (aNZ 1)) none none) w fun c8 w =>
  aD pg (aI .geq 3 aM aM c6 (aNZ 128)) w fun d9 w =>
  gU d9
   (aD pg (aI .sub 3 aM aM c6 (aNZ 128)) w fun e1 w =>
   aD pg (aI .add 3 aM aM e1 (aNZ 2)) w fun e2 w =>
   aD pg (aI .quo 3 aM aM e2 (aNZ 2)) w fun e3 w =>
   aD pg (aI .sub 3 aM aM c6 (aNZ 128)) w fun e7 w =>
   aD pg (aI .add 3 aM aM e7 (aNZ 1)) w fun e8 w =>
   aS pg Cf #[c8, e8] w fun e9 w =>
   aD pg (bP e9 0) w fun f0 w =>
   aD pg (bP e9 1) w fun f1 w =>
   kn f0 e3 f1 w)
   (aD pg (lI .len #[22] 3 [c8]) w fun f4 w =>
   aD pg (aI .lss 3 aM aM f4 c6) w fun f6 w =>
   gU f6
    (kn (.slice none 0 0) (aNZ 0) (aNZ 10) w)
    (aD pg (mD 22 c8 none (some c6) none) w fun d3 w =>
    aS pg BY #[d3] w fun d4 w =>
    aD pg (bP d4 0) w fun d5 w =>
    aD pg (bP d4 1) w fun d6 w =>
    kn d5 c6 d6 w)))
theorem aeK (kn : K3) (R : K1) (hn : N3 Q kn 6 7 8) (hr : HR DA R Q) (h : Ap kn R (g 0) w) : bD pg B0 (aF 8 AQ) Q g w :=
 eK (l := []) h hn hr trivial
def Aj (R : K1) (eX : aNY) (w : aNX) : Prop :=
 Ap (fun l_6 n_7 e_8 w => qI R l_6 n_7 e_8 w) R eX w
theorem aaQ (R : K1) (hr : HR DA R Q) (h : Aj R (g 0) w) : bD pg B0 AQ Q g w :=
 jA 8 (aeK _ g w (qI R) R (fun g w h => aJ (abY _ g w R hr h)) hr h)
def Mw (a0 : aNY) (w : aNX) (R : K1) : Prop :=
 Aj R a0 w
theorem FQ {a0 : aNY} {w : aNX} {R : K1} (h : Mw a0 w R) : aS pg BJ #[a0] w R := by
 refine uP (ann := B0) Tryz.f18 AQ [a0] DA 61 TryzM.mixed Tryz.func18 ?_
 exact (aaQ _ _ _ R (fun _ _ h => h) h)
def Ji : FA := ⟨zA, fun i => .leaf ([], []) []⟩
def Md : List ResultVar := [.tmp 6, .tmp 7]
noncomputable def Hs : Code := dH Tryz.f19
def CE (R : K1) (h_0 l_1 JC : aNY) (w : aNX) : Prop :=
 aD pg (B4 49 h_0) w fun h_3 w =>
 aD pg (aK 49 h_3 1) w fun b8 w =>
 aD pg (aL 3 b8) w fun b9 w =>
 aD pg (aI .eql 3 (.tmp 9) (.const (aNZ 0)) b9 (aNZ 0)) w fun c0 w =>
 gU c0
  (aD pg (aK 49 h_3 3) w fun c3 w =>
  aD pg (aL 3 c3) w fun c4 w =>
  aS pg I1 #[l_1, JC, c4] w fun c5 w =>
  aD pg (bP c5 0) w fun c6 w =>
  aD pg (bP c5 1) w fun c7 w =>
  R (.tuple #[c6, c7]) w)
  (aD pg (aK 49 h_3 3) w fun d0 w =>
  aD pg (aL 3 d0) w fun d1 w =>
  aS pg FC #[l_1, JC, d1] w fun d2 w =>
  aD pg (bP d2 0) w fun d3 w =>
  aD pg (bP d2 1) w fun d4 w =>
  R (.tuple #[d3, d4]) w)
theorem Uo (R : K1) (hr : HR Md R Q) (h : CE R (g 0) (g 1) (g 2) w) : bD pg Ji Hs Q g w :=
 eK (kn := no) (l := []) h gR hr trivial
def Sy (a0 a1 a2 : aNY) (w : aNX) (R : K1) : Prop :=
 CE R a0 a1 a2 w
theorem Vg {a0 a1 a2 : aNY} {w : aNX} {R : K1} (h : Sy a0 a1 a2 w R) : aS pg zA #[a0, a1, a2] w R := by
 refine uP (ann := Ji) Tryz.f19 Hs [a0, a1, a2] Md 25 TryzM.mixed Tryz.func19 ?_
 exact (Uo _ _ _ R (fun _ _ h => h) h)
def sB : FA := ⟨IW, fun i => .leaf ([], []) []⟩
def O8 : List ResultVar := [.tmp 4]
noncomputable def qO : Code := dH Tryz.f20
def F8 (R : K1) (ZH : aNY) (w : aNX) : Prop :=
 aD pg (jP 22 9 ZH) w fun c9 w =>
 R c9 w
theorem akF (R : K1) (hr : HR O8 R Q) (h : F8 R (g 5) w) : bD pg sB (aB 1 (aB 2 qO)) Q g w :=
 eK (kn := no) (l := []) h gR hr trivial
def FN (kn : K4) (k0 : K1) (Ma kN ZH xG : aNY) (w : aNX) : Prop :=
 aD pg (aI .lss 3 aM aM xG kN) w fun c1 w =>
 gU c1
  (aD pg (cI 22 ZH xG) w fun c7 w =>
  aD pg (aT 5 c7 Ma) w fun _u w =>
  aD pg (aI .add 3 aM aM xG (aNZ 1)) w fun c3 w =>
  kn Ma kN ZH c3 w)
  (k0 ZH w)
theorem amH (kn : K4) (k0 : K1) (hn : N4 Q kn 0 1 5 6) (h0 : E1 Q k0 0 5) (h : FN kn k0 (g 0) (g 1) (g 5) (g 6) w) : bD pg sB (bI (bI (aB 1 (aF 1 (aB 2 qO))))) Q g w :=
 eK (kr := no) (l := [(0, fun g w => k0 (g 5) w)]) h hn gR ⟨h0, trivial⟩
def OS (k0 : K1) (Ma kN ZH xG : aNY) (w : aNX) : Prop :=
 cR (fun (X : aNY -> K0) (t : aNY) (w : aNX) => FN (fun _ _ _ xG w => X xG w) k0 Ma kN ZH t w) xG w
theorem ajE (k0 : K1) (h0 : E1 Q k0 0 5) (h : OS k0 (g 0) (g 1) (g 5) (g 6) w) : bD pg sB (bI (aB 1 (aF 1 (aB 2 qO)))) Q g w := by
 refine CX (fun g : Env => g 6) (fun X t w => FN (fun _ _ _ xG w => X xG w) k0 (g 0) (g 1) (g 5) t w) h (fun X g1 w1 ha hL => ?_)
 rw [<- kA 0 ha, <- kA 1 ha, <- kA 5 ha] at hL
 exact (amH _ g1 w1 (fun _ _ _ xG w => X xG w) k0 (fun _ _ h => h) h0 hL)
def OT (kn : K1) (Ma kN ZH xG : aNY) (w : aNX) : Prop :=
 OS kn Ma kN ZH xG w
def PD (kn : K4) (Ma kN ZH : aNY) (w : aNX) : Prop :=
 kn Ma kN ZH (aNZ 0) w
theorem alR (kn : K4) (hn : N4 Q kn 0 1 5 6) (h : PD kn (g 0) (g 1) (g 5) w) : bD pg sB (aF 1 (aF 1 (aB 2 qO))) Q g w :=
 eK (kr := no) (l := []) h hn gR trivial
def MX (kn : K1) (Ma kN ZH : aNY) (w : aNX) : Prop :=
 PD (fun Ma kN ZH xG w => OT kn Ma kN ZH xG w) Ma kN ZH w
def OU (R : K1) (Ma kN ZH : aNY) (w : aNX) : Prop :=
 MX (fun ZH w => F8 R ZH w) Ma kN ZH w
theorem ahM (kn : K1) (hn : N1 Q kn 5) (h : MX kn (g 0) (g 1) (g 5) w) : bD pg sB (aF 1 (aB 2 qO)) Q g w :=
 jA 1 (alR _ g w (OT kn) (fun g w h => aJ (xC 0 (ajE _ g w kn hn h))) h)
def OY (kn : K3) (Ma kN : aNY) (w : aNX) : Prop :=
 aD pg (qG 22 kN kN) w fun b8 w =>
 kn Ma kN b8 w
theorem ahT (kn : K3) (hn : N3 Q kn 0 1 5) (h : OY kn (g 0) (g 1) w) : bD pg sB (aF 2 qO) Q g w :=
 eK (kr := no) (l := []) h hn gR trivial
def Px (R : K1) (Ma kN : aNY) (w : aNX) : Prop :=
 OY (fun Ma kN ZH w => OU R Ma kN ZH w) Ma kN w
theorem agJ (R : K1) (hr : HR O8 R Q) (h : Px R (g 0) (g 1) w) : bD pg sB qO Q g w :=
 jA 2 (ahT _ g w (OU R) (fun g w h => aJ (jA 1 (ahM _ g w (F8 R) (fun g w h => aJ (akF _ g w R hr h)) h))) h)
def asA (a0 a1 : aNY) (w : aNX) (R : K1) : Prop :=
 Px R a0 a1 w
theorem aqD {a0 a1 : aNY} {w : aNX} {R : K1} (h : asA a0 a1 w R) : aS pg IW #[a0, a1] w R := by
 refine uP (ann := sB) Tryz.f20 qO [a0, a1] O8 20 TryzM.mixed Tryz.func20 ?_
 exact (agJ _ _ _ R (fun _ _ h => h) h)
def FW : FA := ⟨Me, fun i => .leaf ([], []) []⟩
def IH : List ResultVar := [.tmp 2, .tmp 3, .tmp 4]
noncomputable def Dz : Code := dH Tryz.f21
def uR (R : K1) (l_6 e_7 n_8 : aNY) (w : aNX) : Prop :=
 aD pg (aI .neq 27 (.tmp 43) (.const (aNZ 0)) e_7 (aNZ 0)) w fun f4 w =>
 gU f4
  (R (.tuple #[(.string ⟨#[]⟩), (aNZ 0), e_7]) w)
  (aS pg IK #[l_6] w fun f8 w =>
  aD pg (bP f8 0) w fun f9 w =>
  aD pg (bP f8 1) w fun i0 w =>
  aD pg (aI .neq 27 (.tmp 51) (.const (aNZ 0)) i0 (aNZ 0)) w fun i2 w =>
  gU i2
   (R (.tuple #[(.string ⟨#[]⟩), (aNZ 0), i0]) w)
   (aD pg (aI .add 3 aM aM (aNZ 1) n_8) w fun i6 w =>
   R (.tuple #[f9, i6, (aNZ 0)]) w))
theorem apP (R : K1) (hr : HR IH R Q) (h : uR R (g 6) (g 7) (g 8) w) : bD pg FW (aB 7 Dz) Q g w :=
 eK (kn := no) (l := []) h gR hr trivial
def Rq (kn : K3) (R : K1) (eX : aNY) (w : aNX) : Prop :=
 aD pg (aI .eql 9 (.tmp 10) (.const (.string ⟨#[]⟩)) eX (.string ⟨#[]⟩)) w fun c1 w =>
 gU c1
  (R (.tuple #[(.string ⟨#[]⟩), (aNZ 0), (aNZ 10)]) w)
  (aD pg (CN 9 eX (aNZ 0)) w fun c3 w =>
  aD pg (jP 5 3 c3) w fun c4 w =>
  aD pg (aI .geq 3 aM aM c4 (aNZ 128)) w fun c7 w =>
  gU c7
   (aD pg (aI .sub 3 aM aM c4 (aNZ 127)) w fun c9 w =>
   aD pg (aI .add 3 aM aM c9 (aNZ 1)) w fun d0 w =>
   aD pg (aI .quo 3 aM aM d0 (aNZ 2)) w fun d1 w =>
   aD pg (mD 9 eX (some (aNZ 1)) none none) w fun d4 w =>
   aD pg (aI .sub 3 aM aM c4 (aNZ 127)) w fun d6 w =>
   aS pg EV #[d4, d6] w fun d7 w =>
   aD pg (bP d7 0) w fun d8 w =>
   aD pg (bP d7 1) w fun d9 w =>
   kn d8 d9 d1 w)
   (aD pg (lI .len #[9] 3 [eX]) w fun e1 w =>
   aD pg (aI .sub 3 aM aM e1 (aNZ 1)) w fun e2 w =>
   aD pg (aI .lss 3 aM aM e2 c4) w fun e4 w =>
   gU e4
    (kn (.string ⟨#[]⟩) (aNZ 10) c4 w)
    (aD pg (aI .add 3 aM aM (aNZ 1) c4) w fun e8 w =>
    aD pg (mD 9 eX (some (aNZ 1)) (some e8) none) w fun e9 w =>
    aS pg EX #[e9] w fun f0 w =>
    aD pg (bP f0 0) w fun f1 w =>
    aD pg (bP f0 1) w fun f2 w =>
    kn f1 f2 c4 w)))
theorem aoL (kn : K3) (R : K1) (hn : N3 Q kn 6 7 8) (hr : HR IH R Q) (h : Rq kn R (g 0) w) : bD pg FW (aF 7 Dz) Q g w :=
 eK (l := []) h hn hr trivial
def Sa (R : K1) (eX : aNY) (w : aNX) : Prop :=
 Rq (fun l_6 e_7 n_8 w => uR R l_6 e_7 n_8 w) R eX w
theorem anL (R : K1) (hr : HR IH R Q) (h : Sa R (g 0) w) : bD pg FW Dz Q g w :=
 jA 7 (aoL _ g w (uR R) R (fun g w h => aJ (apP _ g w R hr h)) hr h)
def axB (a0 : aNY) (w : aNX) (R : K1) : Prop :=
 Sa R a0 w
theorem avB {a0 : aNY} {w : aNX} {R : K1} (h : axB a0 w R) : aS pg Me #[a0] w R := by
 refine uP (ann := FW) Tryz.f21 Dz [a0] IH 57 TryzM.mixed Tryz.func21 ?_
 exact (anL _ _ _ R (fun _ _ h => h) h)
def S4 : FA := ⟨Fb, fun i => .leaf ([], []) []⟩
def UL : List ResultVar := [.tmp 6, .tmp 7]
noncomputable def QF : Code := dH Tryz.f22
def JZ (R : K1) (xR s_1 nU : aNY) (w : aNX) : Prop :=
 aS pg Av #[xR] w fun c2 w =>
 aD pg (bP c2 0) w fun c3 w =>
 aD pg (bP c2 1) w fun c4 w =>
 aD pg (aI .neq 27 (.tmp 15) (.const (aNZ 0)) c4 (aNZ 0)) w fun c6 w =>
 gU c6
  (R (.tuple #[(.string ⟨#[]⟩), c4]) w)
  (aD pg (aI .lss 3 aM aM nU (aNZ 0)) w fun c9 w =>
  Gd (gQ c9 false) (fun K => K nU w) w fun d1 w =>
  Gd (gQ c9 false) (fun K => aD pg (aI .gtr 3 aM aM d1 (aNZ 131072)) w K) w fun d2 w =>
  aD pg (iO c9 (.bool true) d2) w fun d3 w =>
  gU d3
   (R (.tuple #[(.string ⟨#[]⟩), (aNZ 1)]) w)
   (aS pg BC #[c3, s_1, nU] w fun d7 w =>
   aD pg (bP d7 0) w fun d8 w =>
   aD pg (bP d7 1) w fun d9 w =>
   R (.tuple #[d8, d9]) w))
theorem aeE (R : K1) (hr : HR UL R Q) (h : JZ R (g 0) (g 1) (g 2) w) : bD pg S4 QF Q g w :=
 eK (kn := no) (l := []) h gR hr trivial
def alH (a0 a1 a2 : aNY) (w : aNX) (R : K1) : Prop :=
 JZ R a0 a1 a2 w
theorem alN {a0 a1 a2 : aNY} {w : aNX} {R : K1} (h : alH a0 a1 a2 w R) : aS pg Fb #[a0, a1, a2] w R := by
 refine uP (ann := S4) Tryz.f22 QF [a0, a1, a2] UL 30 TryzM.mixed Tryz.func22 ?_
 exact (aeE _ _ _ R (fun _ _ h => h) h)
def kS : FA := ⟨Dm, fun i => .leaf ([], []) []⟩
def pP : List ResultVar := [.tmp 6, .tmp 7]
noncomputable def kG : Code := dH Tryz.f23
def B5 (R : K1) (dR : aNY) (w : aNX) : Prop :=
 R (.tuple #[dR, (aNZ 0)]) w
theorem Yx (R : K1) (hr : HR pP R Q) (h : B5 R (g 15) w) : bD pg kS (aB 1 (aB 12 kG)) Q g w :=
 eK (kn := no) (l := []) h gR hr trivial
def sO (kn : K9) (nU jN qM rD vC vJ vE dR qS : aNY) (w : aNX) : Prop :=
 aD pg (aI .add 3 aM aM qS (aNZ 1)) w fun l9 w =>
 kn nU jN qM rD vC vJ vE dR l9 w
theorem Zj (kn : K9) (hn : N9 Q kn 2 8 10 11 12 13 14 15 16) (h : sO kn (g 2) (g 8) (g 10) (g 11) (g 12) (g 13) (g 14) (g 15) (g 16) w) : bD pg kS (aB 1 (aB 1 (bI (bI (aB 1 (aF 1 (aB 12 kG))))))) Q g w :=
 eK (kr := no) (l := []) h hn gR trivial
def uT (kn : K9) (R : K1) (nU jN qM rD vC vJ vE dR qS aHc agV : aNY) (w : aNX) : Prop :=
 aD pg (aL 45 rD) w fun n9 w =>
 aS pg F5 #[n9, agV] w fun o1 w =>
 aD pg (bP o1 0) w fun o2 w =>
 aD pg (bP o1 1) w fun o3 w =>
 aD pg (fW 45) w fun aKA w =>
 aD pg (aT 45 aKA o2) w fun _u w =>
 aD pg (aL 45 aKA) w fun o4 w =>
 aD pg (aT 45 rD o4) w fun _u w =>
 aS pg BC #[jN, o3, aHc] w fun o9 w =>
 aD pg (bP o9 0) w fun p0 w =>
 aD pg (bP o9 1) w fun p1 w =>
 aD pg (aI .neq 27 (.tmp 112) (.const (aNZ 0)) p1 (aNZ 0)) w fun p3 w =>
 gU p3
  (R (.tuple #[(.string ⟨#[]⟩), p1]) w)
  (aD pg (aI .add 9 aM aM dR p0) w fun p7 w =>
  kn nU jN qM rD vC vJ vE p7 qS w)
theorem Y9 (kn : K9) (R : K1) (hn : N9 Q kn 2 8 10 11 12 13 14 15 16) (hr : HR pP R Q) (h : uT kn R (g 2) (g 8) (g 10) (g 11) (g 12) (g 13) (g 14) (g 15) (g 16) (g 17) (g 18) w) : bD pg kS (aB 3 (bI (aF 1 (aB 1 (bI (bI (aB 1 (aF 1 (aB 12 kG))))))))) Q g w :=
 eK (l := []) h hn hr trivial
def Ix (kn : K11) (nU jN qM rD vC vJ vE dR qS : aNY) (w : aNX) : Prop :=
 aD pg (cU 43 4 [(0, vC), (1, vJ), (2, vE), (3, (.int .u64 0))]) w fun m4 w =>
 aD pg (cI 43 m4 qS) w fun m6 w =>
 aD pg (aL 24 m6) w fun m7 w =>
 aD pg (jP 24 3 m7) w fun m8 w =>
 aD pg (aI .eql 3 (.tmp 89) (.const (aNZ 3)) qS (aNZ 3)) w fun n0 w =>
 gU n0
  (aD pg (aI .mul 3 aM aM (aNZ 3) qM) w fun n3 w =>
  aD pg (aI .sub 3 aM aM nU n3) w fun n4 w =>
  aD pg (aK 45 rD 0) w fun n5 w =>
  aD pg (aL 9 n5) w fun n6 w =>
  aD pg (lI .len #[9] 3 [n6]) w fun n7 w =>
  kn nU jN qM rD vC vJ vE dR qS n4 n7 w)
  (kn nU jN qM rD vC vJ vE dR qS qM m8 w)
theorem YB (kn : K11) (hn : N11 Q kn 2 8 10 11 12 13 14 15 16 17 18) (h : Ix kn (g 2) (g 8) (g 10) (g 11) (g 12) (g 13) (g 14) (g 15) (g 16) w) : bD pg kS (aF 3 (bI (aF 1 (aB 1 (bI (bI (aB 1 (aF 1 (aB 12 kG))))))))) Q g w :=
 eK (kr := no) (l := []) h hn gR trivial
def Sv (kn : K9) (R : K1) (nU jN qM rD vC vJ vE dR qS : aNY) (w : aNX) : Prop :=
 Ix (fun nU jN qM rD vC vJ vE dR qS aHc agV w => uT kn R nU jN qM rD vC vJ vE dR qS aHc agV w) nU jN qM rD vC vJ vE dR qS w
def H4 (kn : K9) (R : K1) (nU jN qM rD vC vJ vE dR qS : aNY) (w : aNX) : Prop :=
 Sv kn R nU jN qM rD vC vJ vE dR qS w
def Ik (kn : K9) (R : K1) (nU jN qM rD vC vJ vE dR qS : aNY) (w : aNX) : Prop :=
 H4 (fun nU jN qM rD vC vJ vE dR qS w => sO kn nU jN qM rD vC vJ vE dR qS w) R nU jN qM rD vC vJ vE dR qS w
theorem YO (kn : K9) (R : K1) (hn : N9 Q kn 2 8 10 11 12 13 14 15 16) (hr : HR pP R Q) (h : H4 kn R (g 2) (g 8) (g 10) (g 11) (g 12) (g 13) (g 14) (g 15) (g 16) w) : bD pg kS (aF 1 (aB 1 (bI (bI (aB 1 (aF 1 (aB 12 kG))))))) Q g w :=
 xC 1 (jA 3 (YB _ g w (uT kn R) (fun g w h => aJ (Y9 _ g w kn R hn hr h)) h))
def HA (kn : K9) (k0 : K1) (nU jN qM rD vC vJ vE dR qS : aNY) (w : aNX) : Prop :=
 aD pg (aI .lss 3 aM aM qS (aNZ 4)) w fun l7 w =>
 gU l7
  (kn nU jN qM rD vC vJ vE dR qS w)
  (k0 dR w)
theorem YT (kn : K9) (k0 : K1) (hn : N9 Q kn 2 8 10 11 12 13 14 15 16) (h0 : E1 Q k0 0 15) (h : HA kn k0 (g 2) (g 8) (g 10) (g 11) (g 12) (g 13) (g 14) (g 15) (g 16) w) : bD pg kS (aF 1 (bI (bI (aB 1 (aF 1 (aB 12 kG)))))) Q g w :=
 eK (kr := no) (l := [(0, fun g w => k0 (g 15) w)]) h hn gR ⟨h0, trivial⟩
def B2 (kn : K9) (k0 : K1) (R : K1) (nU jN qM rD vC vJ vE dR qS : aNY) (w : aNX) : Prop :=
 HA (fun nU jN qM rD vC vJ vE dR qS w => Ik kn R nU jN qM rD vC vJ vE dR qS w) k0 nU jN qM rD vC vJ vE dR qS w
def GH (k0 : K1) (R : K1) (nU jN qM rD vC vJ vE dR qS : aNY) (w : aNX) : Prop :=
 cR (fun (X : (aNY × aNY) -> K0) (t : aNY × aNY) (w : aNX) => B2 (fun _ _ _ _ _ _ _ dR qS w => X (dR, qS) w) k0 R nU jN qM rD vC vJ vE t.1 t.2 w) (dR, qS) w
theorem YN (kn : K9) (k0 : K1) (R : K1) (hn : N9 Q kn 2 8 10 11 12 13 14 15 16) (h0 : E1 Q k0 0 15) (hr : HR pP R Q) (h : B2 kn k0 R (g 2) (g 8) (g 10) (g 11) (g 12) (g 13) (g 14) (g 15) (g 16) w) : bD pg kS (bI (bI (aB 1 (aF 1 (aB 12 kG))))) Q g w :=
 jA 1 (YT _ g w (Ik kn R) k0 (fun g w h => aJ (jA 1 (YO _ g w (sO kn) R (fun g w h => aJ (Zj _ g w kn hn h)) hr h))) h0 h)
theorem Wx (k0 : K1) (R : K1) (h0 : E1 Q k0 0 15) (hr : HR pP R Q) (h : GH k0 R (g 2) (g 8) (g 10) (g 11) (g 12) (g 13) (g 14) (g 15) (g 16) w) : bD pg kS (bI (aB 1 (aF 1 (aB 12 kG)))) Q g w := by
 refine CX (fun g : Env => (g 15, g 16)) (fun X t w => B2 (fun _ _ _ _ _ _ _ dR qS w => X (dR, qS) w) k0 R (g 2) (g 8) (g 10) (g 11) (g 12) (g 13) (g 14) t.1 t.2 w) h (fun X g1 w1 ha hL => ?_)
 rw [<- kA 2 ha, <- kA 8 ha, <- kA 10 ha, <- kA 11 ha, <- kA 12 ha, <- kA 13 ha, <- kA 14 ha] at hL
 exact (YN _ g1 w1 (fun _ _ _ _ _ _ _ dR qS w => X (dR, qS) w) k0 R (fun _ _ h => h) h0 hr hL)
def Gj (kn : K1) (R : K1) (nU jN qM rD vC vJ vE dR qS : aNY) (w : aNX) : Prop :=
 GH kn R nU jN qM rD vC vJ vE dR qS w
def FH (kn : K9) (nU jN qM rD vC vJ vE dR : aNY) (w : aNX) : Prop :=
 kn nU jN qM rD vC vJ vE dR (aNZ 0) w
theorem XO (kn : K9) (hn : N9 Q kn 2 8 10 11 12 13 14 15 16) (h : FH kn (g 2) (g 8) (g 10) (g 11) (g 12) (g 13) (g 14) (g 15) w) : bD pg kS (aF 1 (aF 1 (aB 12 kG))) Q g w :=
 eK (kr := no) (l := []) h hn gR trivial
def Fl (kn : K1) (R : K1) (nU jN qM rD vC vJ vE dR : aNY) (w : aNX) : Prop :=
 FH (fun nU jN qM rD vC vJ vE dR qS w => Gj kn R nU jN qM rD vC vJ vE dR qS w) nU jN qM rD vC vJ vE dR w
def AX (R : K1) (nU jN qM rD vC vJ vE dR : aNY) (w : aNX) : Prop :=
 Fl (fun dR w => B5 R dR w) R nU jN qM rD vC vJ vE dR w
theorem V5 (kn : K1) (R : K1) (hn : N1 Q kn 15) (hr : HR pP R Q) (h : Fl kn R (g 2) (g 8) (g 10) (g 11) (g 12) (g 13) (g 14) (g 15) w) : bD pg kS (aF 1 (aB 12 kG)) Q g w :=
 jA 1 (XO _ g w (Gj kn R) (fun g w h => aJ (xC 0 (Wx _ g w kn R hn hr h))) h)
def Gu (kn : K8) (R : K1) (xR s_1 nU : aNY) (w : aNX) : Prop :=
 aS pg Av #[xR] w fun d5 w =>
 aD pg (bP d5 0) w fun d6 w =>
 aD pg (bP d5 1) w fun d7 w =>
 aD pg (aI .neq 27 (.tmp 28) (.const (aNZ 0)) d7 (aNZ 0)) w fun d9 w =>
 gU d9
  (R (.tuple #[(.string ⟨#[]⟩), d7]) w)
  (aD pg (aI .lss 3 aM aM nU (aNZ 0)) w fun e2 w =>
  Gd (gQ e2 false) (fun K => K nU w) w fun e4 w =>
  Gd (gQ e2 false) (fun K => aD pg (aI .gtr 3 aM aM e4 (aNZ 131072)) w K) w fun e5 w =>
  aD pg (iO e2 (.bool true) e5) w fun e6 w =>
  gU e6
   (R (.tuple #[(.string ⟨#[]⟩), (aNZ 1)]) w)
   (aD pg (aI .add 3 aM aM nU (aNZ 3)) w fun e8 w =>
   aD pg (aI .quo 3 aM aM e8 (aNZ 4)) w fun e9 w =>
   aD pg (aI .mul 3 aM aM (aNZ 3) e9) w fun f1 w =>
   aD pg (aI .gtr 3 aM aM f1 nU) w fun f3 w =>
   gU f3
    (R (.tuple #[(.string ⟨#[]⟩), (aNZ 11)]) w)
    (aD pg (fX 45 [(0, s_1)]) w fun f5 w =>
    aD pg (fW 45) w fun rD w =>
    aD pg (aT 45 rD f5) w fun _u w =>
    aD pg (aL 45 rD) w fun f7 w =>
    aS pg vM #[f7, (aNZ 2)] w fun f8 w =>
    aD pg (bP f8 0) w fun f9 w =>
    aD pg (bP f8 1) w fun i0 w =>
    aD pg (aT 45 rD f9) w fun _u w =>
    aD pg (aL 45 rD) w fun i2 w =>
    aS pg vM #[i2, (aNZ 2)] w fun i3 w =>
    aD pg (bP i3 0) w fun i4 w =>
    aD pg (bP i3 1) w fun i5 w =>
    aD pg (aT 45 rD i4) w fun _u w =>
    aD pg (aL 45 rD) w fun i7 w =>
    aS pg vM #[i7, (aNZ 2)] w fun i8 w =>
    aD pg (bP i8 0) w fun i9 w =>
    aD pg (bP i8 1) w fun j0 w =>
    aD pg (aT 45 rD i9) w fun _u w =>
    aD pg (aK 45 rD 1) w fun j1 w =>
    aD pg (aL 27 j1) w fun j2 w =>
    aD pg (aI .neq 27 (.tmp 62) (.const (aNZ 0)) j2 (aNZ 0)) w fun j3 w =>
    Gd (gQ j3 false) (fun K => aD pg (aK 45 rD 0) w K) w fun j5 w =>
    Gd (gQ j3 false) (fun K => aD pg (aL 9 j5) w K) w fun j6 w =>
    Gd (gQ j3 false) (fun K => aD pg (lI .len #[9] 3 [j6]) w K) w fun j7 w =>
    Gd (gQ j3 false) (fun K => aD pg (jP 3 24 j7) w K) w fun j8 w =>
    Gd (gQ j3 false) (fun K => K i0 w) w fun j9 w =>
    Gd (gQ j3 false) (fun K => K i5 w) w fun l0 w =>
    Gd (gQ j3 false) (fun K => aD pg (aI .add 24 aM aM j9 l0) w K) w fun l1 w =>
    Gd (gQ j3 false) (fun K => K j0 w) w fun l2 w =>
    Gd (gQ j3 false) (fun K => aD pg (aI .add 24 aM aM l1 l2) w K) w fun l3 w =>
    Gd (gQ j3 false) (fun K => aD pg (aI .lss 24 aM aM j8 l3) w K) w fun l4 w =>
    aD pg (iO j3 (.bool true) l4) w fun l5 w =>
    gU l5
     (R (.tuple #[(.string ⟨#[]⟩), (aNZ 10)]) w)
     (kn nU d6 e9 rD i0 i5 j0 (.string ⟨#[]⟩) w))))
theorem Wl (kn : K8) (R : K1) (hn : N8 Q kn 2 8 10 11 12 13 14 15) (hr : HR pP R Q) (h : Gu kn R (g 0) (g 1) (g 2) w) : bD pg kS (aF 12 kG) Q g w :=
 eK (l := []) h hn hr trivial
def G5 (R : K1) (xR s_1 nU : aNY) (w : aNX) : Prop :=
 Gu (fun nU jN qM rD vC vJ vE dR w => AX R nU jN qM rD vC vJ vE dR w) R xR s_1 nU w
theorem Xu (R : K1) (hr : HR pP R Q) (h : G5 R (g 0) (g 1) (g 2) w) : bD pg kS kG Q g w :=
 jA 12 (Wl _ g w (AX R) R (fun g w h => aJ (jA 1 (V5 _ g w (B5 R) R (fun g w h => aJ (Yx _ g w R hr h)) hr h))) hr h)
def ZN (a0 a1 a2 : aNY) (w : aNX) (R : K1) : Prop :=
 G5 R a0 a1 a2 w
theorem aeO {a0 a1 a2 : aNY} {w : aNX} {R : K1} (h : ZN a0 a1 a2 w R) : aS pg Dm #[a0, a1, a2] w R := by
 refine uP (ann := kS) Tryz.f23 kG [a0, a1, a2] pP 119 TryzM.mixed Tryz.func23 ?_
 exact (Xu _ _ _ R (fun _ _ h => h) h)
def zF : FA := ⟨xV, fun i => .leaf ([], []) []⟩
def FZ : List ResultVar := [.tmp 4]
noncomputable def xP : Code := dH Tryz.f24
def wQ (R : K1) (w_5 : aNY) (w : aNX) : Prop :=
 aS pg rQ #[w_5] w fun e7 w =>
 R e7 w
theorem WI (R : K1) (hr : HR FZ R Q) (h : wQ R (g 5) w) : bD pg zF (aB 3 xP) Q g w :=
 eK (kn := no) (l := []) h gR hr trivial
def ER (kn : K1) (azZ kN : aNY) (w : aNX) : Prop :=
 aS pg sQ #[] w fun b6 w =>
 aD pg (aI .lss 3 aM aM kN (aNZ 32)) w fun c7 w =>
 gU c7
  (aD pg (aI .shl 3 aM aM kN (.int .u64 3)) w fun d0 w =>
  aD pg (aI .or 3 aM aM d0 azZ) w fun d2 w =>
  aD pg (jP 3 24 d2) w fun d3 w =>
  aS pg lJ #[b6, d3, (aNZ 1)] w fun d4 w =>
  kn b6 w)
  (aD pg (aI .lss 3 aM aM kN (aNZ 4096)) w fun d7 w =>
  gU d7
   (aD pg (aI .shl 3 aM aM kN (.int .u64 4)) w fun e0 w =>
   aD pg (aI .or 3 aM aM e0 (aNZ 4)) w fun e1 w =>
   aD pg (aI .or 3 aM aM e1 azZ) w fun e3 w =>
   aD pg (jP 3 24 e3) w fun e4 w =>
   aS pg lJ #[b6, e4, (aNZ 2)] w fun e5 w =>
   kn b6 w)
   (aD pg (aI .shl 3 aM aM kN (.int .u64 4)) w fun b9 w =>
   aD pg (aI .or 3 aM aM b9 (aNZ 12)) w fun c0 w =>
   aD pg (aI .or 3 aM aM c0 azZ) w fun c2 w =>
   aD pg (jP 3 24 c2) w fun c3 w =>
   aS pg lJ #[b6, c3, (aNZ 3)] w fun c4 w =>
   kn b6 w))
theorem W4 (kn : K1) (hn : N1 Q kn 5) (h : ER kn (g 0) (g 1) w) : bD pg zF (aF 3 xP) Q g w :=
 eK (kr := no) (l := []) h hn gR trivial
def Gt (R : K1) (azZ kN : aNY) (w : aNX) : Prop :=
 ER (fun w_5 w => wQ R w_5 w) azZ kN w
theorem WE (R : K1) (hr : HR FZ R Q) (h : Gt R (g 0) (g 1) w) : bD pg zF xP Q g w :=
 jA 3 (W4 _ g w (wQ R) (fun g w h => aJ (WI _ g w R hr h)) h)
def XQ (a0 a1 : aNY) (w : aNX) (R : K1) : Prop :=
 Gt R a0 a1 w
theorem Zg {a0 a1 : aNY} {w : aNX} {R : K1} (h : XQ a0 a1 w R) : aS pg xV #[a0, a1] w R := by
 refine uP (ann := zF) Tryz.f24 xP [a0, a1] FZ 38 TryzM.mixed Tryz.func24 ?_
 exact (WE _ _ _ R (fun _ _ h => h) h)
def kR : FA := ⟨An, fun i => .leaf ([], []) []⟩
def Cn : List ResultVar := [.tmp 2, .tmp 3]
noncomputable def kH : Code := dH Tryz.f25
def Co (R : K1) (aU : aNY) (w : aNX) : Prop :=
 R (.tuple #[aU, (aNZ 0)]) w
theorem YG (R : K1) (hr : HR Cn R Q) (h : Co R (g 5) w) : bD pg kR (aB 1 (aB 4 kH)) Q g w :=
 eK (kn := no) (l := []) h gR hr trivial
def yD (kn : K4) (cS Bm aU xG : aNY) (w : aNX) : Prop :=
 aD pg (aI .add 3 aM aM xG (aNZ 2)) w fun d7 w =>
 kn cS Bm aU d7 w
theorem Yf (kn : K4) (hn : N4 Q kn 0 4 5 6) (h : yD kn (g 0) (g 4) (g 5) (g 6) w) : bD pg kR (aB 1 (aB 1 (bI (bI (aB 1 (aF 1 (aB 4 kH))))))) Q g w :=
 eK (kr := no) (l := []) h hn gR trivial
def yR (kn : K4) (cS Bm aU xG c_7 : aNY) (w : aNX) : Prop :=
 aD pg (cU 22 1 [(0, c_7)]) w fun f6 w =>
 aD pg (lI .append #[22, 22] 22 [aU, f6]) w fun f7 w =>
 kn cS Bm f7 xG w
theorem Zm (kn : K4) (hn : N4 Q kn 0 4 5 6) (h : yR kn (g 0) (g 4) (g 5) (g 6) (g 7) w) : bD pg kR (aB 2 (bI (aF 1 (aB 1 (bI (bI (aB 1 (aF 1 (aB 4 kH))))))))) Q g w :=
 eK (kr := no) (l := []) h hn gR trivial
def Iu (kn : K5) (cS Bm aU xG : aNY) (w : aNX) : Prop :=
 aD pg (cI 22 cS xG) w fun e0 w =>
 aD pg (aL 5 e0) w fun e1 w =>
 aD pg (aI .shl 5 aM aM e1 (.int .u64 4)) w fun e2 w =>
 aD pg (aI .add 3 aM aM xG (aNZ 1)) w fun e4 w =>
 aD pg (aI .lss 3 aM aM e4 Bm) w fun e6 w =>
 gU e6
  (aD pg (aI .add 3 aM aM xG (aNZ 1)) w fun f0 w =>
  aD pg (cI 22 cS f0) w fun f1 w =>
  aD pg (aL 5 f1) w fun f2 w =>
  aD pg (aI .or 5 aM aM e2 f2) w fun f3 w =>
  kn cS Bm aU xG f3 w)
  (kn cS Bm aU xG e2 w)
theorem Ya (kn : K5) (hn : N5 Q kn 0 4 5 6 7) (h : Iu kn (g 0) (g 4) (g 5) (g 6) w) : bD pg kR (aF 2 (bI (aF 1 (aB 1 (bI (bI (aB 1 (aF 1 (aB 4 kH))))))))) Q g w :=
 eK (kr := no) (l := []) h hn gR trivial
def Tt (kn : K4) (cS Bm aU xG : aNY) (w : aNX) : Prop :=
 Iu (fun cS Bm aU xG c_7 w => yR kn cS Bm aU xG c_7 w) cS Bm aU xG w
def Hw (kn : K4) (cS Bm aU xG : aNY) (w : aNX) : Prop :=
 Tt kn cS Bm aU xG w
def HQ (kn : K4) (cS Bm aU xG : aNY) (w : aNX) : Prop :=
 Hw (fun cS Bm aU xG w => yD kn cS Bm aU xG w) cS Bm aU xG w
theorem Yb (kn : K4) (hn : N4 Q kn 0 4 5 6) (h : Hw kn (g 0) (g 4) (g 5) (g 6) w) : bD pg kR (aF 1 (aB 1 (bI (bI (aB 1 (aF 1 (aB 4 kH))))))) Q g w :=
 xC 2 (jA 2 (Ya _ g w (yR kn) (fun g w h => aJ (Zm _ g w kn hn h)) h))
def H6 (kn : K4) (k1 : K1) (cS Bm aU xG : aNY) (w : aNX) : Prop :=
 aD pg (aI .lss 3 aM aM xG Bm) w fun d5 w =>
 gU d5
  (kn cS Bm aU xG w)
  (k1 aU w)
theorem YM (kn : K4) (k1 : K1) (hn : N4 Q kn 0 4 5 6) (h1 : E1 Q k1 1 5) (h : H6 kn k1 (g 0) (g 4) (g 5) (g 6) w) : bD pg kR (aF 1 (bI (bI (aB 1 (aF 1 (aB 4 kH)))))) Q g w :=
 eK (kr := no) (l := [(1, fun g w => k1 (g 5) w)]) h hn gR ⟨h1, trivial⟩
def Cg (kn : K4) (k1 : K1) (cS Bm aU xG : aNY) (w : aNX) : Prop :=
 H6 (fun cS Bm aU xG w => HQ kn cS Bm aU xG w) k1 cS Bm aU xG w
def FO (k1 : K1) (cS Bm aU xG : aNY) (w : aNX) : Prop :=
 cR (fun (X : (aNY × aNY) -> K0) (t : aNY × aNY) (w : aNX) => Cg (fun _ _ aU xG w => X (aU, xG) w) k1 cS Bm t.1 t.2 w) (aU, xG) w
theorem Y3 (kn : K4) (k1 : K1) (hn : N4 Q kn 0 4 5 6) (h1 : E1 Q k1 1 5) (h : Cg kn k1 (g 0) (g 4) (g 5) (g 6) w) : bD pg kR (bI (bI (aB 1 (aF 1 (aB 4 kH))))) Q g w :=
 jA 1 (YM _ g w (HQ kn) k1 (fun g w h => aJ (jA 1 (Yb _ g w (yD kn) (fun g w h => aJ (Yf _ g w kn hn h)) h))) h1 h)
theorem VR (k1 : K1) (h1 : E1 Q k1 1 5) (h : FO k1 (g 0) (g 4) (g 5) (g 6) w) : bD pg kR (bI (aB 1 (aF 1 (aB 4 kH)))) Q g w := by
 refine CX (fun g : Env => (g 5, g 6)) (fun X t w => Cg (fun _ _ aU xG w => X (aU, xG) w) k1 (g 0) (g 4) t.1 t.2 w) h (fun X g1 w1 ha hL => ?_)
 rw [<- kA 0 ha, <- kA 4 ha] at hL
 exact (Y3 _ g1 w1 (fun _ _ aU xG w => X (aU, xG) w) k1 (fun _ _ h => h) h1 hL)
def GJ (kn : K1) (cS Bm aU xG : aNY) (w : aNX) : Prop :=
 FO kn cS Bm aU xG w
def FI (kn : K4) (cS Bm aU : aNY) (w : aNX) : Prop :=
 kn cS Bm aU (aNZ 0) w
theorem Xl (kn : K4) (hn : N4 Q kn 0 4 5 6) (h : FI kn (g 0) (g 4) (g 5) w) : bD pg kR (aF 1 (aF 1 (aB 4 kH))) Q g w :=
 eK (kr := no) (l := []) h hn gR trivial
def Gr (kn : K1) (cS Bm aU : aNY) (w : aNX) : Prop :=
 FI (fun cS Bm aU xG w => GJ kn cS Bm aU xG w) cS Bm aU w
def F3 (R : K1) (cS Bm aU : aNY) (w : aNX) : Prop :=
 Gr (fun aU w => Co R aU w) cS Bm aU w
theorem XU (kn : K1) (hn : N1 Q kn 5) (h : Gr kn (g 0) (g 4) (g 5) w) : bD pg kR (aF 1 (aB 4 kH)) Q g w :=
 jA 1 (Xl _ g w (GJ kn) (fun g w h => aJ (xC 1 (VR _ g w kn hn h))) h)
def Bd (kn : K3) (R : K1) (cS : aNY) (w : aNX) : Prop :=
 aS pg Af #[cS] w fun c0 w =>
 aD pg (aI .eql 3 (.tmp 10) (.const (aNZ 0)) c0 (aNZ 0)) w fun c1 w =>
 gU c1
  (R (.tuple #[(.slice none 0 0), (aNZ 1)]) w)
  (aD pg (lI .len #[22] 3 [cS]) w fun c4 w =>
  aD pg (aI .gtr 3 aM aM c4 (aNZ 129)) w fun c5 w =>
  gU c5
   (R (.tuple #[(.slice none 0 0), (aNZ 12)]) w)
   (aD pg (lI .len #[22] 3 [cS]) w fun c7 w =>
   aD pg (aI .sub 3 aM aM c7 (aNZ 1)) w fun c8 w =>
   aD pg (aI .add 3 aM aM (aNZ 127) c8) w fun d0 w =>
   aD pg (jP 3 5 d0) w fun d1 w =>
   aD pg (cU 22 1 [(0, d1)]) w fun d2 w =>
   kn cS c8 d2 w))
theorem XS (kn : K3) (R : K1) (hn : N3 Q kn 0 4 5) (hr : HR Cn R Q) (h : Bd kn R (g 0) w) : bD pg kR (aF 4 kH) Q g w :=
 eK (l := []) h hn hr trivial
def A0 (R : K1) (cS : aNY) (w : aNX) : Prop :=
 Bd (fun cS Bm aU w => F3 R cS Bm aU w) R cS w
theorem Xo (R : K1) (hr : HR Cn R Q) (h : A0 R (g 0) w) : bD pg kR kH Q g w :=
 jA 4 (XS _ g w (F3 R) R (fun g w h => aJ (jA 1 (XU _ g w (Co R) (fun g w h => aJ (YG _ g w R hr h)) h))) hr h)
def RE (a0 : aNY) (w : aNX) (R : K1) : Prop :=
 A0 R a0 w
theorem Ow {a0 : aNY} {w : aNX} {R : K1} (h : RE a0 w R) : aS pg An #[a0] w R := by
 refine uP (ann := kR) Tryz.f25 kH [a0] Cn 49 TryzM.mixed Tryz.func25 ?_
 exact (Xo _ _ _ R (fun _ _ h => h) h)
def Hc : FA := ⟨xO, fun i => .leaf ([], []) []⟩
def Jq : List ResultVar := [.tmp 4, .tmp 5]
noncomputable def GW : Code := dH Tryz.f26
def BD (R : K1) (cS cG : aNY) (w : aNX) : Prop :=
 aD pg (lI .len #[22] 3 [cG]) w fun b7 w =>
 aD pg (aI .lss 3 aM aM b7 (aNZ 256)) w fun b8 w =>
 gU b8
  (aS pg Jb #[cS, cG] w fun c1 w =>
  aD pg (bP c1 0) w fun c2 w =>
  aD pg (bP c1 1) w fun c3 w =>
  R (.tuple #[c2, c3]) w)
  (aS pg FV #[cS, cG] w fun c6 w =>
  aD pg (bP c6 0) w fun c7 w =>
  aD pg (bP c6 1) w fun c8 w =>
  R (.tuple #[c7, c8]) w)
theorem Sr (R : K1) (hr : HR Jq R Q) (h : BD R (g 0) (g 1) w) : bD pg Hc GW Q g w :=
 eK (kn := no) (l := []) h gR hr trivial
def Qg (a0 a1 : aNY) (w : aNX) (R : K1) : Prop :=
 BD R a0 a1 w
theorem Ur {a0 a1 : aNY} {w : aNX} {R : K1} (h : Qg a0 a1 w R) : aS pg xO #[a0, a1] w R := by
 refine uP (ann := Hc) Tryz.f26 GW [a0, a1] Jq 19 TryzM.mixed Tryz.func26 ?_
 exact (Sr _ _ _ R (fun _ _ h => h) h)
def Js : FA := ⟨sQ, fun i => .leaf ([], []) []⟩
def L9 : List ResultVar := [.tmp 0]
noncomputable def Hg : Code := dH Tryz.f27
def CC (R : K1)  (w : aNX) : Prop :=
 aD pg (fX 90 []) w fun b1 w =>
 aD pg (B4 90 b1) w fun b2 w =>
 R b2 w
theorem Ug (R : K1) (hr : HR L9 R Q) (h : CC R w) : bD pg Js Hg Q g w :=
 eK (kn := no) (l := []) h gR hr trivial
def S3 (w : aNX) (R : K1) : Prop :=
 CC R w
theorem VJ {w : aNX} {R : K1} (h : S3 w R) : aS pg sQ #[] w R := by
 refine uP (ann := Js) Tryz.f27 Hg [] L9 3 TryzM.mixed Tryz.func27 ?_
 exact (Ug _ _ _ R (fun _ _ h => h) h)
def qE : FA := ⟨lJ, fun i => .leaf ([], []) []⟩
def yP : List ResultVar := []
noncomputable def pR : Code := dH Tryz.f28
def tL (kn : K4) (k0 : K0) (xR Hd c7 c8 : aNY) (w : aNX) : Prop :=
 aD pg (aI .lss 3 aM aM c8 c7) w fun c9 w =>
 gU c9
  (aD pg (wA xR) w fun d3 w =>
  aD pg (aK 90 d3 0) w fun d4 w =>
  aD pg (aL 22 d4) w fun d5 w =>
  aD pg (aI .mul 3 aM aM (aNZ 8) c8) w fun d8 w =>
  aD pg (jP 3 67 d8) w fun d9 w =>
  aD pg (aI .shr 24 aM aM Hd d9) w fun e0 w =>
  aD pg (jP 24 5 e0) w fun e1 w =>
  aD pg (cU 22 1 [(0, e1)]) w fun e2 w =>
  aD pg (lI .append #[22, 22] 22 [d5, e2]) w fun e3 w =>
  aD pg (wA xR) w fun e4 w =>
  aD pg (aK 90 e4 0) w fun e5 w =>
  aD pg (aT 22 e5 e3) w fun _u w =>
  aD pg (aI .add 3 aM aM c8 (aNZ 1)) w fun e6 w =>
  kn xR Hd c7 e6 w)
  (k0 w)
theorem OF (kn : K4) (k0 : K0) (hn : N4 Q kn 0 1 17 18) (h0 : E0 Q k0 0) (h : tL kn k0 (g 0) (g 1) (g 17) (g 18) w) : bD pg qE (bI (bI (aB 2 pR))) Q g w :=
 eK (kr := no) (l := [(0, fun g w => k0 w)]) h hn gR ⟨h0, trivial⟩
def yO (k0 : K0) (xR Hd c7 c8 : aNY) (w : aNX) : Prop :=
 cR (fun (X : aNY -> K0) (t : aNY) (w : aNX) => tL (fun _ _ _ c8 w => X c8 w) k0 xR Hd c7 t w) c8 w
theorem NR (k0 : K0) (h0 : E0 Q k0 0) (h : yO k0 (g 0) (g 1) (g 17) (g 18) w) : bD pg qE (bI (aB 2 pR)) Q g w := by
 refine CX (fun g : Env => g 18) (fun X t w => tL (fun _ _ _ c8 w => X c8 w) k0 (g 0) (g 1) (g 17) t w) h (fun X g1 w1 ha hL => ?_)
 rw [<- kA 0 ha, <- kA 1 ha, <- kA 17 ha] at hL
 exact (OF _ g1 w1 (fun _ _ _ c8 w => X c8 w) k0 (fun _ _ h => h) h0 hL)
def xS (kn : K0) (xR Hd c7 c8 : aNY) (w : aNX) : Prop :=
 yO kn xR Hd c7 c8 w
def yJ (kn : K4) (R : K1) (xR Hd nU : aNY) (w : aNX) : Prop :=
 aD pg (aI .eql 64 (.tmp 7) (.const (.pointer none)) xR (.pointer none)) w fun b8 w =>
 Gd (gQ b8 false) (fun K => K nU w) w fun c0 w =>
 Gd (gQ b8 false) (fun K => aD pg (aI .lss 3 aM aM c0 (aNZ 1)) w K) w fun c1 w =>
 aD pg (iO b8 (.bool true) c1) w fun c2 w =>
 Gd (gQ c2 false) (fun K => K nU w) w fun c4 w =>
 Gd (gQ c2 false) (fun K => aD pg (aI .gtr 3 aM aM c4 (aNZ 8)) w K) w fun c5 w =>
 aD pg (iO c2 (.bool true) c5) w fun c6 w =>
 gU c6
  (R (.tuple #[]) w)
  (kn xR Hd nU (aNZ 0) w)
theorem Oe (kn : K4) (R : K1) (hn : N4 Q kn 0 1 17 18) (hr : HR yP R Q) (h : yJ kn R (g 0) (g 1) (g 2) w) : bD pg qE (aF 2 pR) Q g w :=
 eK (l := []) h hn hr trivial
def yS (kn : K0) (R : K1) (xR Hd nU : aNY) (w : aNX) : Prop :=
 yJ (fun xR Hd c7 c8 w => xS kn xR Hd c7 c8 w) R xR Hd nU w
theorem MY (kn : K0) (R : K1) (hn : N0 Q kn) (hr : HR yP R Q) (h : yS kn R (g 0) (g 1) (g 2) w) : bD pg qE pR Q g w :=
 jA 2 (Oe _ g w (xS kn) R (fun g w h => aJ (xC 0 (NR _ g w kn hn h))) hr h)
def Jx (a0 a1 a2 : aNY) (w : aNX) (R : K1) : Prop :=
 yS (fun  w => R (.tuple #[]) w) R a0 a1 a2 w
theorem P6 {a0 a1 a2 : aNY} {w : aNX} {R : K1} (h : Jx a0 a1 a2 w R) : aS pg lJ #[a0, a1, a2] w R := by
 refine uP (ann := qE) Tryz.f28 pR [a0, a1, a2] yP 37 TryzM.mixed Tryz.func28 ?_
 exact (MY _ _ _ (fun  w => R (.tuple #[]) w) R (fun _ _ h => h) (fun _ _ h => h) h)
def EG : FA := ⟨sF, fun i => .leaf ([], []) []⟩
def T8 : List ResultVar := []
noncomputable def CW : Code := dH Tryz.f29
def zV (kn : K0) (xR b_1 : aNY) (w : aNX) : Prop :=
 aD pg (aI .neq 64 (.tmp 4) (.const (.pointer none)) xR (.pointer none)) w fun b5 w =>
 gU b5
  (aD pg (wA xR) w fun b8 w =>
  aD pg (aK 90 b8 0) w fun b9 w =>
  aD pg (aL 22 b9) w fun c0 w =>
  aD pg (lI .append #[22, 22] 22 [c0, b_1]) w fun c2 w =>
  aD pg (wA xR) w fun c3 w =>
  aD pg (aK 90 c3 0) w fun c4 w =>
  aD pg (aT 22 c4 c2) w fun _u w =>
  kn w)
  (kn w)
theorem P3 (kn : K0) (hn : N0 Q kn) (h : zV kn (g 0) (g 1) w) : bD pg EG CW Q g w :=
 eK (kr := no) (l := []) h hn gR trivial
def Mb (a0 a1 : aNY) (w : aNX) (R : K1) : Prop :=
 zV (fun  w => R (.tuple #[]) w) a0 a1 w
theorem Q3 {a0 a1 : aNY} {w : aNX} {R : K1} (h : Mb a0 a1 w R) : aS pg sF #[a0, a1] w R := by
 refine uP (ann := EG) Tryz.f29 CW [a0, a1] T8 15 TryzM.mixed Tryz.func29 ?_
 exact (P3 _ _ _ (fun  w => R (.tuple #[]) w) (fun _ _ h => h) h)
def Hi : FA := ⟨rQ, fun i => .leaf ([], []) []⟩
def Jl : List ResultVar := [.tmp 2]
noncomputable def G4 : Code := dH Tryz.f30
def BK (R : K1) (xR : aNY) (w : aNX) : Prop :=
 aD pg (aI .eql 64 (.tmp 3) (.const (.pointer none)) xR (.pointer none)) w fun b4 w =>
 gU b4
  (R (.slice none 0 0) w)
  (aD pg (wA xR) w fun b6 w =>
  aD pg (aK 90 b6 0) w fun b7 w =>
  aD pg (aL 22 b7) w fun b8 w =>
  aS pg jS #[b8] w fun b9 w =>
  R b9 w)
theorem Tm (R : K1) (hr : HR Jl R Q) (h : BK R (g 0) w) : bD pg Hi G4 Q g w :=
 eK (kn := no) (l := []) h gR hr trivial
def Qp (a0 : aNY) (w : aNX) (R : K1) : Prop :=
 BK R a0 w
theorem Uh {a0 : aNY} {w : aNX} {R : K1} (h : Qp a0 w R) : aS pg rQ #[a0] w R := by
 refine uP (ann := Hi) Tryz.f30 G4 [a0] Jl 10 TryzM.mixed Tryz.func30 ?_
 exact (Tm _ _ _ R (fun _ _ h => h) h)
def uQ : FA := ⟨Jf, fun i => .leaf ([], []) []⟩
def Cj : List ResultVar := [.tmp 2]
noncomputable def sY : Code := dH Tryz.f31
def Mm (R : K1)  (w : aNX) : Prop :=
 R (aNZ (-1)) w
theorem auX (R : K1) (hr : HR Cj R Q) (h : Mm R w) : bD pg uQ (aB 1 (aB 1 sY)) Q g w :=
 eK (kn := no) (l := []) h gR hr trivial
def MJ (kn : K2) (k0 : K0) (R : K1) (oL PW : aNY) (w : aNX) : Prop :=
 aD pg (aI .lss 3 aM aM PW (aNZ 20)) w fun b5 w =>
 gU b5
  (aS pg oD #[PW] w fun b9 w =>
  aD pg (aI .eql 3 (.tmp 9) (.tmp 10) b9 oL) w fun c1 w =>
  gU c1
   (R PW w)
   (aD pg (aI .add 3 aM aM PW (aNZ 1)) w fun b7 w =>
   kn oL b7 w))
  (k0 w)
theorem atY (kn : K2) (k0 : K0) (R : K1) (hn : N2 Q kn 0 3) (h0 : E0 Q k0 0) (hr : HR Cj R Q) (h : MJ kn k0 R (g 0) (g 3) w) : bD pg uQ (bI (bI (aB 1 (aF 1 (aB 1 sY))))) Q g w :=
 eK (l := [(0, fun g w => k0 w)]) h hn hr ⟨h0, trivial⟩
def Uf (k0 : K0) (R : K1) (oL PW : aNY) (w : aNX) : Prop :=
 cR (fun (X : aNY -> K0) (t : aNY) (w : aNX) => MJ (fun _ PW w => X PW w) k0 R oL t w) PW w
theorem auJ (k0 : K0) (R : K1) (h0 : E0 Q k0 0) (hr : HR Cj R Q) (h : Uf k0 R (g 0) (g 3) w) : bD pg uQ (bI (aB 1 (aF 1 (aB 1 sY)))) Q g w := by
 refine CX (fun g : Env => g 3) (fun X t w => MJ (fun _ PW w => X PW w) k0 R (g 0) t w) h (fun X g1 w1 ha hL => ?_)
 rw [<- kA 0 ha] at hL
 exact (atY _ g1 w1 (fun _ PW w => X PW w) k0 R (fun _ _ h => h) h0 hr hL)
def T2 (kn : K0) (R : K1) (oL PW : aNY) (w : aNX) : Prop :=
 Uf kn R oL PW w
def T9 (kn : K2) (oL : aNY) (w : aNX) : Prop :=
 kn oL (aNZ 0) w
theorem auG (kn : K2) (hn : N2 Q kn 0 3) (h : T9 kn (g 0) w) : bD pg uQ (aF 1 (aF 1 (aB 1 sY))) Q g w :=
 eK (kr := no) (l := []) h hn gR trivial
def Us (kn : K0) (R : K1) (oL : aNY) (w : aNX) : Prop :=
 T9 (fun oL PW w => T2 kn R oL PW w) oL w
def Uc (R : K1) (oL : aNY) (w : aNX) : Prop :=
 Us (fun  w => Mm R w) R oL w
theorem atZ (kn : K0) (R : K1) (hn : N0 Q kn) (hr : HR Cj R Q) (h : Us kn R (g 0) w) : bD pg uQ (aF 1 (aB 1 sY)) Q g w :=
 jA 1 (auG _ g w (T2 kn R) (fun g w h => aJ (xC 0 (auJ _ g w kn R hn hr h))) h)
def T5 (kn : K1) (oL : aNY) (w : aNX) : Prop :=
 kn oL w
theorem auV (kn : K1) (hn : N1 Q kn 0) (h : T5 kn (g 0) w) : bD pg uQ (aF 1 sY) Q g w :=
 eK (kr := no) (l := []) h hn gR trivial
def T4 (R : K1) (oL : aNY) (w : aNX) : Prop :=
 T5 (fun oL w => Uc R oL w) oL w
theorem auY (R : K1) (hr : HR Cj R Q) (h : T4 R (g 0) w) : bD pg uQ sY Q g w :=
 jA 1 (auV _ g w (Uc R) (fun g w h => aJ (jA 1 (atZ _ g w (fun  w => Mm R w) R (fun g w h => aJ (auX _ g w R hr h)) hr h))) h)
def aAP (a0 : aNY) (w : aNX) (R : K1) : Prop :=
 T4 R a0 w
theorem axO {a0 : aNY} {w : aNX} {R : K1} (h : aAP a0 w R) : aS pg Jf #[a0] w R := by
 refine uP (ann := uQ) Tryz.f31 sY [a0] Cj 13 TryzM.mixed Tryz.func31 ?_
 exact (auY _ _ _ R (fun _ _ h => h) h)
def pJ : FA := ⟨CU, fun i => .leaf ([], []) []⟩
def uY : List ResultVar := [.tmp 2]
noncomputable def oH : Code := dH Tryz.f32
def GU (R : K1) (gJ : aNY) (w : aNX) : Prop :=
 R gJ w
theorem akV (R : K1) (hr : HR uY R Q) (h : GU R (g 3) w) : bD pg pJ (aB 1 (aB 2 oH)) Q g w :=
 eK (kn := no) (l := []) h gR hr trivial
def Gp (kn : K3) (cS gJ lG : aNY) (w : aNX) : Prop :=
 aD pg (aI .add 3 aM aM lG (aNZ 1)) w fun c0 w =>
 kn cS gJ c0 w
theorem ahA (kn : K3) (hn : N3 Q kn 0 3 4) (h : Gp kn (g 0) (g 3) (g 4) w) : bD pg pJ (aB 2 (bI (bI (aB 1 (aF 1 (aB 2 oH)))))) Q g w :=
 eK (kr := no) (l := []) h hn gR trivial
def Om (kn : K3) (k0 : K1) (R : K1) (cS gJ lG : aNY) (w : aNX) : Prop :=
 aD pg (lI .len #[9] 3 [cS]) w fun b7 w =>
 aD pg (aI .lss 3 aM aM lG b7) w fun b8 w =>
 gU b8
  (aD pg (CN 9 cS lG) w fun c3 w =>
  aD pg (aI .gtr 5 aM aM c3 (.int .u8 11)) w fun c4 w =>
  gU c4
   (R (aNZ (-1)) w)
   (aD pg (CN 9 cS lG) w fun c7 w =>
   aD pg (aI .gtr 5 aM aM c7 (.int .u8 0)) w fun c8 w =>
   gU c8
    (aD pg (CN 9 cS lG) w fun d2 w =>
    aD pg (jP 5 3 d2) w fun d3 w =>
    aD pg (aI .sub 3 aM aM d3 (aNZ 1)) w fun d4 w =>
    aS pg oD #[d4] w fun d5 w =>
    aD pg (aI .add 3 aM aM gJ d5) w fun d6 w =>
    kn cS d6 lG w)
    (kn cS gJ lG w)))
  (k0 gJ w)
theorem akQ (kn : K3) (k0 : K1) (R : K1) (hn : N3 Q kn 0 3 4) (h0 : E1 Q k0 0 3) (hr : HR uY R Q) (h : Om kn k0 R (g 0) (g 3) (g 4) w) : bD pg pJ (aF 2 (bI (bI (aB 1 (aF 1 (aB 2 oH)))))) Q g w :=
 eK (l := [(0, fun g w => k0 (g 3) w)]) h hn hr ⟨h0, trivial⟩
def GY (kn : K3) (k0 : K1) (R : K1) (cS gJ lG : aNY) (w : aNX) : Prop :=
 Om (fun cS gJ lG w => Gp kn cS gJ lG w) k0 R cS gJ lG w
def Pj (k0 : K1) (R : K1) (cS gJ lG : aNY) (w : aNX) : Prop :=
 cR (fun (X : (aNY × aNY) -> K0) (t : aNY × aNY) (w : aNX) => GY (fun _ gJ lG w => X (gJ, lG) w) k0 R cS t.1 t.2 w) (gJ, lG) w
theorem alT (kn : K3) (k0 : K1) (R : K1) (hn : N3 Q kn 0 3 4) (h0 : E1 Q k0 0 3) (hr : HR uY R Q) (h : GY kn k0 R (g 0) (g 3) (g 4) w) : bD pg pJ (bI (bI (aB 1 (aF 1 (aB 2 oH))))) Q g w :=
 jA 2 (akQ _ g w (Gp kn) k0 R (fun g w h => aJ (ahA _ g w kn hn h)) h0 hr h)
theorem ahP (k0 : K1) (R : K1) (h0 : E1 Q k0 0 3) (hr : HR uY R Q) (h : Pj k0 R (g 0) (g 3) (g 4) w) : bD pg pJ (bI (aB 1 (aF 1 (aB 2 oH)))) Q g w := by
 refine CX (fun g : Env => (g 3, g 4)) (fun X t w => GY (fun _ gJ lG w => X (gJ, lG) w) k0 R (g 0) t.1 t.2 w) h (fun X g1 w1 ha hL => ?_)
 rw [<- kA 0 ha] at hL
 exact (alT _ g1 w1 (fun _ gJ lG w => X (gJ, lG) w) k0 R (fun _ _ h => h) h0 hr hL)
def Ou (kn : K1) (R : K1) (cS gJ lG : aNY) (w : aNX) : Prop :=
 Pj kn R cS gJ lG w
def Nw (kn : K3) (cS gJ : aNY) (w : aNX) : Prop :=
 kn cS gJ (aNZ 0) w
theorem ahF (kn : K3) (hn : N3 Q kn 0 3 4) (h : Nw kn (g 0) (g 3) w) : bD pg pJ (aF 1 (aF 1 (aB 2 oH))) Q g w :=
 eK (kr := no) (l := []) h hn gR trivial
def OO (kn : K1) (R : K1) (cS gJ : aNY) (w : aNX) : Prop :=
 Nw (fun cS gJ lG w => Ou kn R cS gJ lG w) cS gJ w
def O5 (R : K1) (cS gJ : aNY) (w : aNX) : Prop :=
 OO (fun gJ w => GU R gJ w) R cS gJ w
theorem ajR (kn : K1) (R : K1) (hn : N1 Q kn 3) (hr : HR uY R Q) (h : OO kn R (g 0) (g 3) w) : bD pg pJ (aF 1 (aB 2 oH)) Q g w :=
 jA 1 (ahF _ g w (Ou kn R) (fun g w h => aJ (xC 0 (ahP _ g w kn R hn hr h))) h)
def JJ (kn : K2) (cS : aNY) (w : aNX) : Prop :=
 kn cS (aNZ 0) w
theorem adC (kn : K2) (hn : N2 Q kn 0 3) (h : JJ kn (g 0) w) : bD pg pJ (aF 2 oH) Q g w :=
 eK (kr := no) (l := []) h hn gR trivial
def LN (R : K1) (cS : aNY) (w : aNX) : Prop :=
 JJ (fun cS gJ w => O5 R cS gJ w) cS w
theorem aeY (R : K1) (hr : HR uY R Q) (h : LN R (g 0) w) : bD pg pJ oH Q g w :=
 jA 2 (adC _ g w (O5 R) (fun g w h => aJ (jA 1 (ajR _ g w (GU R) R (fun g w h => aJ (akV _ g w R hr h)) hr h))) h)
def asM (a0 : aNY) (w : aNX) (R : K1) : Prop :=
 LN R a0 w
theorem aqJ {a0 : aNY} {w : aNX} {R : K1} (h : asM a0 w R) : aS pg CU #[a0] w R := by
 refine uP (ann := pJ) Tryz.f32 oH [a0] uY 28 TryzM.mixed Tryz.func32 ?_
 exact (aeY _ _ _ R (fun _ _ h => h) h)
def V6 : FA := ⟨F5, fun i => .leaf ([], []) []⟩
def ZK : List ResultVar := [.cell 4 45, .tmp 5]
noncomputable def U2 : Code := dH Tryz.f33
def QY (R : K1) (OB kN : aNY) (w : aNX) : Prop :=
 aD pg (B4 45 OB) w fun Iv w =>
 aD pg (fW 45) w fun b4 w =>
 aD pg (aK 45 Iv 1) w fun b7 w =>
 aD pg (aL 27 b7) w fun b8 w =>
 aD pg (aI .neq 27 (.tmp 8) (.const (aNZ 0)) b8 (aNZ 0)) w fun b9 w =>
 gU b9
  (aD pg (aL 45 Iv) w fun c0 w =>
  aD pg (aT 45 b4 c0) w fun _u w =>
  Ac pg 45 b4 w fun r0 => R (.tuple #[r0, (.string ⟨#[]⟩)]) w)
  (aD pg (aI .lss 3 aM aM kN (aNZ 0)) w fun c2 w =>
  gU c2
   (aD pg (aK 45 Iv 1) w fun c3 w =>
   aD pg (aT 27 c3 (aNZ 1)) w fun _u w =>
   aD pg (aL 45 Iv) w fun c4 w =>
   aD pg (aT 45 b4 c4) w fun _u w =>
   Ac pg 45 b4 w fun r0 => R (.tuple #[r0, (.string ⟨#[]⟩)]) w)
   (aD pg (aK 45 Iv 0) w fun c6 w =>
   aD pg (aL 9 c6) w fun c7 w =>
   aD pg (lI .len #[9] 3 [c7]) w fun c8 w =>
   aD pg (aI .gtr 3 aM aM kN c8) w fun c9 w =>
   gU c9
    (aD pg (aK 45 Iv 1) w fun d0 w =>
    aD pg (aT 27 d0 (aNZ 10)) w fun _u w =>
    aD pg (aL 45 Iv) w fun d1 w =>
    aD pg (aT 45 b4 d1) w fun _u w =>
    Ac pg 45 b4 w fun r0 => R (.tuple #[r0, (.string ⟨#[]⟩)]) w)
    (aD pg (aK 45 Iv 0) w fun d2 w =>
    aD pg (aL 9 d2) w fun d3 w =>
    aD pg (mD 9 d3 none (some kN) none) w fun d5 w =>
    aD pg (aK 45 Iv 0) w fun d6 w =>
    aD pg (aL 9 d6) w fun d7 w =>
    aD pg (mD 9 d7 (some kN) none none) w fun d9 w =>
    aD pg (aK 45 Iv 0) w fun e0 w =>
    aD pg (aT 9 e0 d9) w fun _u w =>
    aD pg (aL 45 Iv) w fun e1 w =>
    aD pg (aT 45 b4 e1) w fun _u w =>
    Ac pg 45 b4 w fun r0 => R (.tuple #[r0, d5]) w)))
theorem apK (R : K1) (hr : HR ZK R Q) (h : QY R (g 0) (g 1) w) : bD pg V6 U2 Q g w :=
 eK (kn := no) (l := []) h gR hr trivial
def awR (a0 a1 : aNY) (w : aNX) (R : K1) : Prop :=
 QY R a0 a1 w
theorem auR {a0 a1 : aNY} {w : aNX} {R : K1} (h : awR a0 a1 w R) : aS pg F5 #[a0, a1] w R := by
 refine uP (ann := V6) Tryz.f33 U2 [a0, a1] ZK 33 TryzM.mixed Tryz.func33 ?_
 exact (apK _ _ _ R (fun _ _ h => h) h)
def JA : FA := ⟨vH, fun i => .leaf ([], []) []⟩
def L5 : List ResultVar := [.tmp 2]
noncomputable def Hj : Code := dH Tryz.f34
def CF (R : K1) (eX : aNY) (w : aNX) : Prop :=
 aS pg jS #[eX] w fun b4 w =>
 aD pg (fX 92 [(0, b4)]) w fun b5 w =>
 aD pg (B4 92 b5) w fun b6 w =>
 R b6 w
theorem TS (R : K1) (hr : HR L5 R Q) (h : CF R (g 0) w) : bD pg JA Hj Q g w :=
 eK (kn := no) (l := []) h gR hr trivial
def SN (a0 : aNY) (w : aNX) (R : K1) : Prop :=
 CF R a0 w
theorem Vu {a0 : aNY} {w : aNX} {R : K1} (h : SN a0 w R) : aS pg vH #[a0] w R := by
 refine uP (ann := JA) Tryz.f34 Hj [a0] L5 7 TryzM.mixed Tryz.func34 ?_
 exact (TS _ _ _ R (fun _ _ h => h) h)
def lN : FA := ⟨rG, fun i => .leaf ([], []) []⟩
def tO : List ResultVar := [.tmp 4]
noncomputable def lF : Code := dH Tryz.f35
def tM (R : K1) (Zq : aNY) (w : aNX) : Prop :=
 R Zq w
theorem NG (R : K1) (hr : HR tO R Q) (h : tM R (g 5) w) : bD pg lN (aB 1 (aB 3 lF)) Q g w :=
 eK (kn := no) (l := []) h gR hr trivial
def tK (kn : K4) (k0 : K1) (Zq c8 c9 d0 : aNY) (w : aNX) : Prop :=
 aD pg (aI .lss 3 aM aM d0 c9) w fun d1 w =>
 gU d1
  (aD pg (cI 22 c8 d0) w fun d3 w =>
  aD pg (aL 5 d3) w fun d4 w =>
  aD pg (jP 5 24 d4) w fun d7 w =>
  aD pg (aI .mul 3 aM aM (aNZ 8) d0) w fun d9 w =>
  aD pg (jP 3 67 d9) w fun e0 w =>
  aD pg (aI .shl 24 aM aM d7 e0) w fun e1 w =>
  aD pg (aI .or 24 aM aM Zq e1) w fun e2 w =>
  aD pg (aI .add 3 aM aM d0 (aNZ 1)) w fun e3 w =>
  kn e2 c8 c9 e3 w)
  (k0 Zq w)
theorem O2 (kn : K4) (k0 : K1) (hn : N4 Q kn 5 18 19 20) (h0 : E1 Q k0 0 5) (h : tK kn k0 (g 5) (g 18) (g 19) (g 20) w) : bD pg lN (bI (bI (aB 1 (aF 1 (aB 3 lF))))) Q g w :=
 eK (kr := no) (l := [(0, fun g w => k0 (g 5) w)]) h hn gR ⟨h0, trivial⟩
def yC (k0 : K1) (Zq c8 c9 d0 : aNY) (w : aNX) : Prop :=
 cR (fun (X : (aNY × aNY) -> K0) (t : aNY × aNY) (w : aNX) => tK (fun Zq _ _ d0 w => X (Zq, d0) w) k0 t.1 c8 c9 t.2 w) (Zq, d0) w
theorem Oq (k0 : K1) (h0 : E1 Q k0 0 5) (h : yC k0 (g 5) (g 18) (g 19) (g 20) w) : bD pg lN (bI (aB 1 (aF 1 (aB 3 lF)))) Q g w := by
 refine CX (fun g : Env => (g 5, g 20)) (fun X t w => tK (fun Zq _ _ d0 w => X (Zq, d0) w) k0 t.1 (g 18) (g 19) t.2 w) h (fun X g1 w1 ha hL => ?_)
 rw [<- kA 18 ha, <- kA 19 ha] at hL
 exact (O2 _ g1 w1 (fun Zq _ _ d0 w => X (Zq, d0) w) k0 (fun _ _ h => h) h0 hL)
def yI (kn : K1) (Zq c8 c9 d0 : aNY) (w : aNX) : Prop :=
 yC kn Zq c8 c9 d0 w
def yW (kn : K4) (OB kN Zq : aNY) (w : aNX) : Prop :=
 aD pg (aI .geq 3 aM aM kN (aNZ 1)) w fun c3 w =>
 Gd (gQ c3 true) (fun K => K kN w) w fun c5 w =>
 Gd (gQ c3 true) (fun K => aD pg (aI .leq 3 aM aM c5 (aNZ 8)) w K) w fun c6 w =>
 aD pg (iO c3 c6 (.bool false)) w fun c7 w =>
 aS pg sV #[OB, kN, c7] w fun c8 w =>
 aD pg (lI .len #[22] 3 [c8]) w fun c9 w =>
 kn Zq c8 c9 (aNZ 0) w
theorem NV (kn : K4) (hn : N4 Q kn 5 18 19 20) (h : yW kn (g 0) (g 1) (g 5) w) : bD pg lN (aF 1 (aF 1 (aB 3 lF))) Q g w :=
 eK (kr := no) (l := []) h hn gR trivial
def yH (kn : K1) (OB kN Zq : aNY) (w : aNX) : Prop :=
 yW (fun Zq c8 c9 d0 w => yI kn Zq c8 c9 d0 w) OB kN Zq w
def yN (R : K1) (OB kN Zq : aNY) (w : aNX) : Prop :=
 yH (fun Zq w => tM R Zq w) OB kN Zq w
theorem PN (kn : K1) (hn : N1 Q kn 5) (h : yH kn (g 0) (g 1) (g 5) w) : bD pg lN (aF 1 (aB 3 lF)) Q g w :=
 jA 1 (NV _ g w (yI kn) (fun g w h => aJ (xC 0 (Oq _ g w kn hn h))) h)
def yE (kn : K3) (R : K1) (OB kN : aNY) (w : aNX) : Prop :=
 aD pg (aI .eql 74 (.tmp 8) (.const (.pointer none)) OB (.pointer none)) w fun b9 w =>
 gU b9
  (R (.int .u64 0) w)
  (kn OB kN (.int .u64 0) w)
theorem PC (kn : K3) (R : K1) (hn : N3 Q kn 0 1 5) (hr : HR tO R Q) (h : yE kn R (g 0) (g 1) w) : bD pg lN (aF 3 lF) Q g w :=
 eK (l := []) h hn hr trivial
def yA (R : K1) (OB kN : aNY) (w : aNX) : Prop :=
 yE (fun OB kN Zq w => yN R OB kN Zq w) R OB kN w
theorem PS (R : K1) (hr : HR tO R Q) (h : yA R (g 0) (g 1) w) : bD pg lN lF Q g w :=
 jA 3 (PC _ g w (yN R) R (fun g w h => aJ (jA 1 (PN _ g w (tM R) (fun g w h => aJ (NG _ g w R hr h)) h))) hr h)
def Jt (a0 a1 : aNY) (w : aNX) (R : K1) : Prop :=
 yA R a0 a1 w
theorem Qb {a0 a1 : aNY} {w : aNX} {R : K1} (h : Jt a0 a1 w R) : aS pg rG #[a0, a1] w R := by
 refine uP (ann := lN) Tryz.f35 lF [a0, a1] tO 35 TryzM.mixed Tryz.func35 ?_
 exact (PS _ _ _ R (fun _ _ h => h) h)
def Hr : FA := ⟨rO, fun i => .leaf ([], []) []⟩
def Jg : List ResultVar := [.tmp 2]
noncomputable def F6 : Code := dH Tryz.f36
def BT (R : K1) (OB : aNY) (w : aNX) : Prop :=
 aD pg (aI .eql 74 (.tmp 3) (.const (.pointer none)) OB (.pointer none)) w fun b4 w =>
 gU b4
  (R (aNZ 1) w)
  (aD pg (wA OB) w fun b6 w =>
  aD pg (aK 92 b6 1) w fun b7 w =>
  aD pg (aL 27 b7) w fun b8 w =>
  R b8 w)
theorem Tw (R : K1) (hr : HR Jg R Q) (h : BT R (g 0) w) : bD pg Hr F6 Q g w :=
 eK (kn := no) (l := []) h gR hr trivial
def Qd (a0 : aNY) (w : aNX) (R : K1) : Prop :=
 BT R a0 w
theorem TH {a0 : aNY} {w : aNX} {R : K1} (h : Qd a0 w R) : aS pg rO #[a0] w R := by
 refine uP (ann := Hr) Tryz.f36 F6 [a0] Jg 9 TryzM.mixed Tryz.func36 ?_
 exact (Tw _ _ _ R (fun _ _ h => h) h)
def Qx : FA := ⟨Du, fun i => .leaf ([], []) []⟩
def Tl : List ResultVar := [.tmp 4, .tmp 5]
noncomputable def Nx : Code := dH Tryz.f37
def Ip (R : K1) (oL y_1 : aNY) (w : aNX) : Prop :=
 gU (.bool false)
  (aD pg (jP 67 94 oL) w fun c2 w =>
  aD pg (jP 67 94 y_1) w fun c4 w =>
  aS pg afZ #[c2, c4] w fun c5 w =>
  aD pg (bP c5 0) w fun c6 w =>
  aD pg (bP c5 1) w fun c7 w =>
  aD pg (jP 94 67 c6) w fun c9 w =>
  aD pg (jP 94 67 c7) w fun d1 w =>
  R (.tuple #[c9, d1]) w)
  (aS pg A4 #[oL, y_1] w fun d5 w =>
  aD pg (bP d5 0) w fun d6 w =>
  aD pg (bP d5 1) w fun d7 w =>
  R (.tuple #[d6, d7]) w)
theorem YC (R : K1) (hr : HR Tl R Q) (h : Ip R (g 0) (g 1) w) : bD pg Qx Nx Q g w :=
 eK (kn := no) (l := []) h gR hr trivial
def ZJ (a0 a1 : aNY) (w : aNX) (R : K1) : Prop :=
 Ip R a0 a1 w
theorem abO {a0 a1 : aNY} {w : aNX} {R : K1} (h : ZJ a0 a1 w R) : aS pg Du #[a0, a1] w R := by
 refine uP (ann := Qx) Tryz.f37 Nx [a0, a1] Tl 30 TryzM.mixed Tryz.func37 ?_
 exact (YC _ _ _ R (fun _ _ h => h) h)
def kD : FA := ⟨Cf, fun i => .leaf ([], []) []⟩
def A3 : List ResultVar := [.tmp 4, .tmp 5]
noncomputable def jT : Code := dH Tryz.f38
def Ba (R : K1) (gE : aNY) (w : aNX) : Prop :=
 R (.tuple #[gE, (aNZ 0)]) w
theorem WV (R : K1) (hr : HR A3 R Q) (h : Ba R (g 6) w) : bD pg kD (aB 1 (aB 3 jT)) Q g w :=
 eK (kn := no) (l := []) h gR hr trivial
def wF (kn : K4) (eX gE c5 c6 : aNY) (w : aNX) : Prop :=
 aD pg (aI .add 3 aM aM c6 (aNZ 1)) w fun e4 w =>
 kn eX gE c5 e4 w
theorem WS (kn : K4) (hn : N4 Q kn 0 6 15 16) (h : wF kn (g 0) (g 6) (g 15) (g 16) w) : bD pg kD (aB 1 (aB 2 (bI (bI (aB 1 (aF 1 (aB 3 jT))))))) Q g w :=
 eK (kr := no) (l := []) h hn gR trivial
def wL (kn : K4) (eX gE c_8 c5 c6 : aNY) (w : aNX) : Prop :=
 aD pg (aI .and 5 aM aM c_8 (.int .u8 15)) w fun e1 w =>
 aD pg (cU 22 1 [(0, e1)]) w fun e2 w =>
 aD pg (lI .append #[22, 22] 22 [gE, e2]) w fun e3 w =>
 kn eX e3 c5 c6 w
theorem XA (kn : K4) (hn : N4 Q kn 0 6 15 16) (h : wL kn (g 0) (g 6) (g 8) (g 15) (g 16) w) : bD pg kD (aB 3 (bI (aF 1 (aB 2 (bI (bI (aB 1 (aF 1 (aB 3 jT))))))))) Q g w :=
 eK (kr := no) (l := []) h hn gR trivial
def FB (kn : K5) (eX gE c5 c6 : aNY) (w : aNX) : Prop :=
 aD pg (aI .quo 3 aM aM c6 (aNZ 2)) w fun d1 w =>
 aD pg (cI 22 eX d1) w fun d2 w =>
 aD pg (aL 5 d2) w fun d3 w =>
 aD pg (aI .rem 3 aM aM c6 (aNZ 2)) w fun d5 w =>
 aD pg (aI .eql 3 (.tmp 25) (.const (aNZ 0)) d5 (aNZ 0)) w fun d6 w =>
 gU d6
  (aD pg (aI .shr 5 aM aM d3 (.int .u64 4)) w fun d8 w =>
  kn eX gE d8 c5 c6 w)
  (kn eX gE d3 c5 c6 w)
theorem W7 (kn : K5) (hn : N5 Q kn 0 6 8 15 16) (h : FB kn (g 0) (g 6) (g 15) (g 16) w) : bD pg kD (aF 3 (bI (aF 1 (aB 2 (bI (bI (aB 1 (aF 1 (aB 3 jT))))))))) Q g w :=
 eK (kr := no) (l := []) h hn gR trivial
def Qk (kn : K4) (eX gE c5 c6 : aNY) (w : aNX) : Prop :=
 FB (fun eX gE c_8 c5 c6 w => wL kn eX gE c_8 c5 c6 w) eX gE c5 c6 w
def GA (kn : K4) (eX gE c5 c6 : aNY) (w : aNX) : Prop :=
 Qk kn eX gE c5 c6 w
def EY (kn : K4) (eX gE c5 c6 : aNY) (w : aNX) : Prop :=
 GA (fun eX gE c5 c6 w => wF kn eX gE c5 c6 w) eX gE c5 c6 w
theorem XB (kn : K4) (hn : N4 Q kn 0 6 15 16) (h : GA kn (g 0) (g 6) (g 15) (g 16) w) : bD pg kD (aF 1 (aB 2 (bI (bI (aB 1 (aF 1 (aB 3 jT))))))) Q g w :=
 xC 1 (jA 3 (W7 _ g w (wL kn) (fun g w h => aJ (XA _ g w kn hn h)) h))
def F1 (kn : K4) (k0 : K1) (eX gE c5 c6 : aNY) (w : aNX) : Prop :=
 aD pg (aI .lss 3 aM aM c6 c5) w fun c7 w =>
 gU c7
  (kn eX gE c5 c6 w)
  (k0 gE w)
theorem Xx (kn : K4) (k0 : K1) (hn : N4 Q kn 0 6 15 16) (h0 : E1 Q k0 0 6) (h : F1 kn k0 (g 0) (g 6) (g 15) (g 16) w) : bD pg kD (aF 2 (bI (bI (aB 1 (aF 1 (aB 3 jT)))))) Q g w :=
 eK (kr := no) (l := [(0, fun g w => k0 (g 6) w)]) h hn gR ⟨h0, trivial⟩
def A1 (kn : K4) (k0 : K1) (eX gE c5 c6 : aNY) (w : aNX) : Prop :=
 F1 (fun eX gE c5 c6 w => EY kn eX gE c5 c6 w) k0 eX gE c5 c6 w
def DY (k0 : K1) (eX gE c5 c6 : aNY) (w : aNX) : Prop :=
 cR (fun (X : (aNY × aNY) -> K0) (t : aNY × aNY) (w : aNX) => A1 (fun _ gE _ c6 w => X (gE, c6) w) k0 eX t.1 c5 t.2 w) (gE, c6) w
theorem Wu (kn : K4) (k0 : K1) (hn : N4 Q kn 0 6 15 16) (h0 : E1 Q k0 0 6) (h : A1 kn k0 (g 0) (g 6) (g 15) (g 16) w) : bD pg kD (bI (bI (aB 1 (aF 1 (aB 3 jT))))) Q g w :=
 jA 2 (Xx _ g w (EY kn) k0 (fun g w h => aJ (jA 1 (XB _ g w (wF kn) (fun g w h => aJ (WS _ g w kn hn h)) h))) h0 h)
theorem Vl (k0 : K1) (h0 : E1 Q k0 0 6) (h : DY k0 (g 0) (g 6) (g 15) (g 16) w) : bD pg kD (bI (aB 1 (aF 1 (aB 3 jT)))) Q g w := by
 refine CX (fun g : Env => (g 6, g 16)) (fun X t w => A1 (fun _ gE _ c6 w => X (gE, c6) w) k0 (g 0) t.1 (g 15) t.2 w) h (fun X g1 w1 ha hL => ?_)
 rw [<- kA 0 ha, <- kA 15 ha] at hL
 exact (Wu _ g1 w1 (fun _ gE _ c6 w => X (gE, c6) w) k0 (fun _ _ h => h) h0 hL)
def Eb (kn : K1) (eX gE c5 c6 : aNY) (w : aNX) : Prop :=
 DY kn eX gE c5 c6 w
def Em (kn : K4) (eX kN gE : aNY) (w : aNX) : Prop :=
 kn eX gE kN (aNZ 0) w
theorem VC (kn : K4) (hn : N4 Q kn 0 6 15 16) (h : Em kn (g 0) (g 1) (g 6) w) : bD pg kD (aF 1 (aF 1 (aB 3 jT))) Q g w :=
 eK (kr := no) (l := []) h hn gR trivial
def Ej (kn : K1) (eX kN gE : aNY) (w : aNX) : Prop :=
 Em (fun eX gE c5 c6 w => Eb kn eX gE c5 c6 w) eX kN gE w
def DX (R : K1) (eX kN gE : aNY) (w : aNX) : Prop :=
 Ej (fun gE w => Ba R gE w) eX kN gE w
theorem Vs (kn : K1) (hn : N1 Q kn 6) (h : Ej kn (g 0) (g 1) (g 6) w) : bD pg kD (aF 1 (aB 3 jT)) Q g w :=
 jA 1 (VC _ g w (Eb kn) (fun g w h => aJ (xC 0 (Vl _ g w kn hn h))) h)
def Ec (kn : K3) (R : K1) (eX kN : aNY) (w : aNX) : Prop :=
 aD pg (lI .len #[22] 3 [eX]) w fun c0 w =>
 aD pg (aI .add 3 aM aM kN (aNZ 1)) w fun c2 w =>
 aD pg (aI .quo 3 aM aM c2 (aNZ 2)) w fun c3 w =>
 aD pg (aI .lss 3 aM aM c0 c3) w fun c4 w =>
 gU c4
  (R (.tuple #[(.slice none 0 0), (aNZ 10)]) w)
  (kn eX kN (.slice none 0 0) w)
theorem Vy (kn : K3) (R : K1) (hn : N3 Q kn 0 1 6) (hr : HR A3 R Q) (h : Ec kn R (g 0) (g 1) w) : bD pg kD (aF 3 jT) Q g w :=
 eK (l := []) h hn hr trivial
def DR (R : K1) (eX kN : aNY) (w : aNX) : Prop :=
 Ec (fun eX kN gE w => DX R eX kN gE w) R eX kN w
theorem Vd (R : K1) (hr : HR A3 R Q) (h : DR R (g 0) (g 1) w) : bD pg kD jT Q g w :=
 jA 3 (Vy _ g w (DX R) R (fun g w h => aJ (jA 1 (Vs _ g w (Ba R) (fun g w h => aJ (WV _ g w R hr h)) h))) hr h)
def VX (a0 a1 : aNY) (w : aNX) (R : K1) : Prop :=
 DR R a0 a1 w
theorem Yp {a0 a1 : aNY} {w : aNX} {R : K1} (h : VX a0 a1 w R) : aS pg Cf #[a0, a1] w R := by
 refine uP (ann := kD) Tryz.f38 jT [a0, a1] A3 36 TryzM.mixed Tryz.func38 ?_
 exact (Vd _ _ _ R (fun _ _ h => h) h)
end Go.Proofs.YtgpimhlgaokobaaGreat

/- Parts of the proof of ChunkSame: merged and given short names by a program of ours. -/
import Derived.Orders
import Derived.Below
import Derived.KernelRfl
import Derived.Eval
import Derived.RangeFuncRecord
import Derived.Laws.Sem
import Derived.Scope
import Derived.Test.YtoecppploooloaaGreatDoorRows
set_option linter.unusedVariables false
set_option linter.unusedSimpArgs false
open Array renaming getElem?_eq_none → aC1, all_eq_true' → aC4, getElem?_setIfInBounds_ne → aCG, getD_eq_getD_getElem? → aCd, getElem?_eq_getElem → aCo, getElem?_setIfInBounds_self_of_lt → aCy, getElem?_toList → aDP, length_toList → aDt, mem_of_getElem? → aEf
open Bool renaming not_true → aB5, false_eq_true → aBZ, and_eq_true → aCe, or_eq_false_iff → aDT, or_eq_true → aDb, not_eq_true' → aDf
open List renaming getElem?_eq_getElem → aB8, getD_eq_getElem?_getD → aB9, getElem?_cons_succ → aBY, mem_append → aC3, map_congr_left → aC8, mem_cons_self → aCA, all_eq_true → aCE, length_eq_zero_iff → aCK, mem_range → aCP, mem_cons → aCS, mem_map → aCU, getElem_of_mem → aCX, mem_cons_of_mem → aCh, getElem?_eq_none → aCj, length_cons → aCl, map_cons → aCz, mem_append_right → aDO, drop_eq_getElem_cons → aDa, mem_of_getElem? → aDe, mem_append_left → aDo, mem_filter → aEi, map_nil → aEj
open Nat renaming zero_add → aB4, le_trans → aCV, le_refl → aCb, lt_or_ge → aCk, eq_of_beq_eq_true → aCx, mod_lt → aD6, lt_trichotomy → aD9, blt_eq → aDH, le_of_ble_eq_true → aDk, add_assoc → aDr, lt_of_lt_of_le → aDv, le_total → aEh
open Option renaming map_some → aCB, getD_some → aDu
open Option.some renaming inj → aCF
namespace Go.En
open Go
abbrev aEl := World
abbrev aEm := Value
abbrev Env := Nat -> aEm
def put (g : Env) (d : Option Tmp) (v : aEm) : Env :=
 match d with
 | some d => fun i => match Nat.beq i d with | true => v | false => g i
 | none => g
def ev (g : Env) : Operand -> aEm
 | .tmp t => g t
 | .const v => v
 | .global b => .pointer (some ⟨b, 0, none⟩)
 | .func f => .func (.func f) #[] #[]
def Ret (P : Program) (f : FuncId) (args : Array aEm) (w : aEl) (v : aEm) (w' : aEl) : Prop :=
 Calls P f args w fun e w'' => e = .returned v /\ w'' = w'
def jE (P : Program) (f : FuncId) (args : Array aEm) (w : aEl) (R : aEm -> aEl -> Prop) : Prop :=
 ∃ v w', Ret P f args w v w' /\ R v w'
theorem jE.mono {P : Program} {f : FuncId} {args : Array aEm} {w : aEl} {R R' : aEm -> aEl -> Prop} (h : jE P f args w R)
 (hr : ∀ v w', R v w' -> R' v w') : jE P f args w R' :=
 let ⟨v, w', a, b⟩ := h; ⟨v, w', a, hr _ _ b⟩
def aAN (P : Program) (l : Nat) (f : FuncId) (tmps : Array aEm) (aBW bd : Code) (w : aEl) (v : aEm) (w' : aEl) : Prop :=
 RoundIn Fence.wide 0 P l f tmps aBW bd w fun e w'' => e = .returned v /\ w'' = w'
def adV (P : Program) (l : Nat) (f : FuncId) (tmps : Array aEm) (aBW bd : Code) (w : aEl) (R : aEm -> aEl -> Prop) : Prop :=
 ∃ v w', aAN P l f tmps aBW bd w v w' /\ R v w'
def ajF (P : Program) (r : Result Next) (K : aEm -> aEl -> Prop) : Prop :=
 match r with
 | .ok (.value v) w => K v w
 | .ok .skip w => K undef w
 | .ok (.enter f args) w => jE P f args w K
 | .ok (.round l f tmps aBW bd) w => adV P l f tmps aBW bd w K
 | _ => False
theorem dJ (P : Program) (v : aEm) (w : aEl) (K : aEm -> aEl -> Prop) : ajF P (.ok (.value v) w) K = K v w := Eq.trans rfl rfl
theorem stepR_skip (P : Program) (w : aEl) (K : aEm -> aEl -> Prop) : ajF P (.ok .skip w) K = K undef w := Eq.trans rfl rfl
theorem IP (P : Program) (f : FuncId) (args : Array aEm) (w : aEl) (K : aEm -> aEl -> Prop) : ajF P (.ok (.enter f args) w) K = jE P f args w K := Eq.trans rfl rfl
theorem aiD (P : Program) (l : Nat) (f : FuncId) (tmps : Array aEm) (aBW bd : Code) (w : aEl) (K : aEm -> aEl -> Prop) :
 ajF P (.ok (.round l f tmps aBW bd) w) K = adV P l f tmps aBW bd w K := Eq.trans rfl rfl
def gI (P : Program) (s : Sem Next) (w : aEl) (K : aEm -> aEl -> Prop) : Prop := ajF P (s.run P w) K
def jD (P : Program) (s : Sem Next) (v : aEm) (w : aEl) : Prop := s.run P w = .ok (.value v) w
def Gd (b : Bool) (s : (aEm -> aEl -> Prop) -> Prop) (w : aEl) (K : aEm -> aEl -> Prop) : Prop :=
 match b with
 | true => s K
 | false => K undef w
def asB (v : aEm) : Option Bool := match v with | .bool b => some b | _ => none
def kO (v : aEm) (want : Bool) : Bool := asB v == some want
def lX (v : aEm) (A B : Prop) : Prop :=
 match v with
 | .bool b => (match b with | true => A | false => B)
 | _ => False
def HM (ops : Array Oper) (j : Nat) : Option Tmp := (ops[j]?).bind (·.dst)
def Ea (g : Env) (t : Option Tmp) (want : Bool) : Bool := match t with | some t => kO (g t) want | none => false
def V (s : Sem aEm) : Sem Next := do pure (.value (<- s))
def U (s : Sem Unit) : Sem Next := do s; pure .skip
def L8 (op : BinOp) : Bool := match op with | .eql | .neq => true | _ => false
def hU (op : BinOp) (t : TypeId) (ox oy : Operand) (x y : aEm) : Sem Next :=
 match L8 op with
 | true => V (do eqGuard op t ox oy x y; binOp op t x y)
 | false => V (binOp op t x y)
def nX (b : Builtin) (ats : Array TypeId) (ty : TypeId) (args : List aEm) : Sem Next := builtin b ats ty #[] args.toArray
def EC (f : aEm) (args : List aEm) : Sem Next := do let d <- Deferred.ofValue f args.toArray; invoke d.target d.args
def abT (fn : Fn) (first captured : List aEm) : Sem Next := V (Instr.makeFunc fn first.toArray captured.toArray)
def kV (t : TypeId) (ps : List (Nat × aEm)) : Sem Next := V (Instr.build t ps.toArray)
def lT (t : TypeId) (n : Nat) (ps : List (Nat × aEm)) : Sem Next := V (Instr.buildSlice t n ps.toArray)
def O1 (g : Env) (o : Oper) : Sem Next :=
 match o.op with
 | .binOp op t x y _ => hU op t x y (ev g x) (ev g y)
 | .makeFunc fn first captured => abT fn (first.toList.map (ev g)) (captured.toList.map (ev g))
 | .build t ps => kV t (ps.toList.map fun p => (p.1, ev g p.2))
 | .buildSlice t n ps => lT t n (ps.toList.map fun p => (p.1, ev g p.2))
 | .call c => (match c.callee with
   | .builtin b => nX b c.argTypes o.type (c.args.toList.map (ev g))
   | .value f => EC (ev g f) (c.args.toList.map (ev g))
   | _ => execOp (ev g) o)
 | _ => execOp (ev g) o
def MD (P : Program) (g : Env) (o : Oper) (w : aEl) (K : aEm -> aEl -> Prop) : Prop :=
 match o.op with
 | .move x => K (ev g x) w
 | .assign x => K (ev g x) w
 | .call c => (match c.callee with
   | .value (.func f) => jE P f (c.args.toList.map (ev g)).toArray w K
   | _ => gI P (O1 g o) w K)
 | _ => gI P (O1 g o) w K
def Kg (P : Program) (ops : Array Oper) (g : Env) (o : Oper) (w : aEl) (K : aEm -> aEl -> Prop) : Prop :=
 match o.guard with
 | none => MD P g o w K
 | some (j, want) => Gd (Ea g (HM ops j) want) (MD P g o w) w K
def aaS (P : Program) (ops : Array Oper) : List Oper -> Env -> aEl -> (Env -> aEl -> Prop) -> Prop
 | [], g, w, K => K g w
 | o :: rest, g, w, K => Kg P ops g o w fun v w' => aaS P ops rest (put g o.dst v) w' K
structure Rec where
 heavy : Bool
 o : Oper
 g : Env
 w : aEl
 v : aEm
def gOf (ops : Array Oper) (o : Oper) (g : Env) : Bool := match o.guard with | none => true | some (j, want) => Ea g (HM ops j) want
def Gs (b : Bool) (p : Prop) : Prop := match b with | true => p | false => True
def Wg (P : Program) (ops : Array Oper) (q : Rec) (o : Oper) (g : Env) (w' : aEl) (v : aEm) : Prop :=
 match q.heavy with
 | true => Gs (gOf ops o g) (jD P (O1 g o) v q.w)
 | false => Gs (gOf ops q.o q.g) (jD P (O1 q.g q.o) q.v w')
def abH (i j : Nat) : List (Nat × Nat) -> Bool
 | [] => false
 | (a, b) :: r => match Nat.beq a i with
   | true => (match Nat.beq b j with | true => true | false => abH i j r)
   | false => abH i j r
def vH (i : Nat) : List Nat -> Bool
 | [] => false
 | a :: r => match Nat.beq a i with | true => true | false => vH i r
def ahZ : List Rec -> Nat -> Option Rec
 | [], _ => none
 | q :: _, 0 => some q
 | _ :: r, n + 1 => ahZ r n
def axI (P : Program) (ops : Array Oper) (o : Oper) (g : Env) (w' : aEl) (v : aEm) (hist : List Rec) : List Nat -> Prop
 | [] => True
 | k :: ks => (match ahZ hist k with
   | some q => Wg P ops q o g w' v
   | none => False) /\ axI P ops o g w' v hist ks
abbrev Ann := List Nat × List (Nat × Nat)
abbrev aiL := List (Bool × List Nat)
def xG (P : Program) (ops : Array Oper) : List Oper -> aiL -> List Rec -> Env -> aEl -> (Env -> aEl -> Prop) -> Prop
 | [], _, _, g, w, K => K g w
 | _ :: _, [], _, _, _, _ => False
 | o :: rest, (hv, ks) :: pl, hist, g, w, K =>
   Kg P ops g o w fun v w' =>
    match hv, ks with
    | true, [] => xG P ops rest pl (⟨true, o, g, w, v⟩ :: hist) (put g o.dst v) w' K
    | true, k :: ks => axI P ops o g w' v hist (k :: ks) /\ xG P ops rest pl (⟨true, o, g, w, v⟩ :: hist) (put g o.dst v) w' K
    | false, [] => w' = w /\ xG P ops rest pl (⟨false, o, g, w, v⟩ :: hist) (put g o.dst v) w K
    | false, k :: ks => w' = w /\ axI P ops o g w v hist (k :: ks) /\ xG P ops rest pl (⟨false, o, g, w, v⟩ :: hist) (put g o.dst v) w K
def kP {α : Type} (F : (α -> aEl -> Prop) -> α -> aEl -> Prop) (g : α) (w : aEl) : Prop :=
 ∃ I : Nat -> α -> aEl -> Prop, (∃ n, I n g w) /\ ∀ n g w, I n g w -> F (fun g' w' => ∃ m, m < n /\ I m g' w') g w
def Fh (K : Env -> aEl -> Prop) (Q : Exit -> Env -> aEl -> Prop) : Exit -> Env -> aEl -> Prop :=
 fun e g w => (fun (_ : Program -> Sem Next -> aEl -> (aEm -> aEl -> Prop) -> Prop) => match e with | .normal => K g w | e => Q e g w) gI
def blk (id : Nat) (Q : Exit -> Env -> aEl -> Prop) : Exit -> Env -> aEl -> Prop :=
 fun e g w => (fun (_ : Program -> Sem Next -> aEl -> (aEm -> aEl -> Prop) -> Prop) => match e with | .exit i => (match Nat.beq i id with | true => Q .normal g w | false => Q (.exit i) g w) | e => Q e g w) gI
inductive HT where
 | leaf (an : Ann) (pl : aiL)
 | perm (π : List Nat) (es : List (Nat × Nat)) (an : Ann) (pl : aiL)
 | split (a b : Nat) (x y : HT)
structure FA where
 f : FuncId
 t : Nat -> HT
def B7 : List Nat -> Nat -> Nat
 | [], _ => 0
 | a :: r, i => match Nat.beq a i with | true => 0 | false => B7 r i + 1
def J1 (π : List Nat) (i : Nat) : List (Nat × Nat) -> List Edge
 | [] => []
 | (a, b) :: r => match Nat.beq b i with | true => ⟨B7 π a, .data⟩ :: J1 π i r | false => J1 π i r
def Nw (π : List Nat) (es : List (Nat × Nat)) (i : Nat) (o : Oper) : Oper :=
 { dst := o.dst, op := o.op, type := o.type, pos := o.pos, after := (o.after.toList.map (fun e => (⟨B7 π e.on, e.ground⟩ : Edge)) ++ J1 π i es).toArray,
   guard := match o.guard with | none => none | some (j, b) => some (B7 π j, b) }
def Wt (π : List Nat) (es : List (Nat × Nat)) (l : List Oper) : List Nat -> List Oper
 | [] => []
 | i :: r => match l[i]? with | some o => Nw π es i o :: Wt π es l r | none => Wt π es l r
def uU (π : List Nat) (es : List (Nat × Nat)) (ops : Array Oper) : Array Oper := (Wt π es ops.toList π).toArray
def axB (f : FuncId) (id : Nat) (ops : Array Oper) (a b : Nat) (w : aEl) : Bool :=
 Nat.ble ((Region.schedule true ops (w.tape w.drawn (.order f id))).idxOf a) ((Region.schedule true ops (w.tape w.drawn (.order f id))).idxOf b)
def Ord (b : Bool) (A B : Prop) : Prop := match b with | true => A | false => B
def aiA (P : Program) (f : FuncId) (id : Nat) (ops : Array Oper) : HT -> Env -> aEl -> aEl -> (Env -> aEl -> Prop) -> Prop
 | .leaf _ pl, g, _, w, K => xG P ops ops.toList pl [] g w K
 | .perm π es _ pl, g, _, w, K => xG P (uU π es ops) (uU π es ops).toList pl [] g w K
 | .split a b x y, g, w0, w, K => Ord (axB f id ops a b w0) (aiA P f id ops x g w0 w K) (aiA P f id ops y g w0 w K)
def DS : Nat := 1000003
def aiU : aEm -> List Deferred
 | .pointer (some a) => [{ target := .collected a.block, args := #[] }]
 | _ => []
def noMark : aEm -> Bool
 | .pointer _ => false
 | _ => true
def tmpsOf (N : Nat) (g : Env) : Array aEm := Array.ofFn (n := N) fun i => g i.val
def Yi (P : Program) (f : FuncId) : Nat := match P.funcs[f]? with | some fn => fn.ntmps | none => 0
def ayP (Q : Exit -> Env -> aEl -> Prop) (g : Env) : Option Code -> aEl -> Prop
 | none, w => Q .normal g w
 | some .ret, w => Q .ret g w
 | some (.exit i), w => Q (.exit i) g w
 | _, _ => False
def asW (l : Nat) (Q : Exit -> Env -> aEl -> Prop) (g : Env) (w : aEl) : Prop :=
 ∃ r : Loop, w.heap[l]? = some (.loop r) /\ r.state ≠ .busy /\ ayP Q g r.pending (w.putObj l (.loop { r with state := .exhausted }))
def rfW (f : FuncId) (N : Nat) (ps : Array Tmp) (aBW bd : Code) (g : Env) (w : aEl) : aEl :=
 (w.alloc (.deferred (some []))).alloc (.loop { state := .ready, pending := none, fn := f, tmps := tmpsOf N g, params := ps, assign := aBW, body := bd, defers := w.heap.size })
def aAB (P : Program) (r : Result Next) (K : aEm -> aEl -> Prop) : Prop :=
 match r with
 | .ok (.enter f args) w => jE P f args w K
 | _ => False
def KP (l : Nat) : aEm := .func (.yield l) #[] #[]
def RF (P : Program) (f : FuncId) (gf : Operand) (ps : Array Tmp) (aBW bd : Code) (Q : Exit -> Env -> aEl -> Prop) (g : Env) (w : aEl) : Prop :=
 match noMark (g DS) with
 | true => aAB P ((EC (ev g gf) [KP (w.heap.size + 1)]).run P (rfW f (Yi P f) ps aBW bd g w)) fun _ w3 =>
  asW (w.heap.size + 1) Q (put g (some DS) (.pointer (some ⟨w.heap.size, 0, none⟩))) w3
 | false => False
def jO (P : Program) (ann : FA) : Code -> (Exit -> Env -> aEl -> Prop) -> Env -> aEl -> Prop
 | .skip, Q, g, w => Q .normal g w
 | .region id ops draw, Q, g, w => match draw with
   | false => aaS P ops ops.toList g w (Q .normal)
   | true => aiA P ann.f id ops (ann.t id) g w { w with drawn := w.drawn + 1 } (Q .normal)
 | .seq x y, Q, g, w => jO P ann x (Fh (fun g w => jO P ann y Q g w) Q) g w
 | .cond c x y, Q, g, w => lX (ev g c) (jO P ann x Q g w) (jO P ann y Q g w)
 | .block id c, Q, g, w => jO P ann c (blk id Q) g w
 | .loop c, Q, g, w => kP (fun X g w => jO P ann c (Fh X Q) g w) g w
 | .scope c, Q, g, w => jO P ann c Q g w
 | .label _, Q, g, w => Q .normal g w
 | .exit id, Q, g, w => Q (.exit id) g w
 | .ret, Q, g, w => Q .ret g w
 | .rangeFunc gf ps aBW bd, Q, g, w => RF P ann.f gf ps aBW bd Q g w
 | _, _, _, _ => False
def amW (N : Nat) (o : Oper) : Bool := match o.dst with | some d => Nat.blt d N | none => true
def bef (b : Array Nat) (i j : Nat) : Bool := (b.getD j 0).testBit i
def looks (ops : Array Oper) (o : Oper) : List Tmp :=
 (o.op.operands.toList.filterMap fun | .tmp t => some t | _ => none) ++ (match o.guard with | some (j, _) => (HM ops j).toList | none => [])
def aqY (ops : Array Oper) (x y : Oper) : Bool :=
 (match x.dst with | some d => (looks ops y).contains d || y.dst == some d | none => false) ||
 (match y.dst with | some d => (looks ops x).contains d | none => false)
def Zv (o : Oper) : Bool := match o.op with | .select .. => true | _ => false
def atL (o : Oper) : Bool := match o.op with | .call { callee := .value (.func _), .. } => true | _ => false
def adI (o : Oper) : Bool := match o.op with | .defer .. => true | _ => false
def aeE : Operand -> Bool | .tmp t => Nat.blt t DS | _ => true
def Z5 (P : Program) (o : Oper) : Bool :=
 match o.op with
 | .call c => (match c.callee with
   | .value (.func f) => (match P.funcs[f]? with | some fn => fn.body.isSome && !(fn.name == "runtime.NumGoroutine") | none => false)
   | .builtin b => (match b with | .print | .println => false | _ => true)
   | _ => true)
 | _ => true
def Fx (P : Program) (o : Oper) : Bool := Z5 P o && (o.op.operands.toList.all aeE && (!Zv o && !adI o))
def PS (o : Oper) : Bool := match o.op with | .move _ | .assign _ => true | _ => false
def SE (ops : Array Oper) (b : Array Nat) (an : Ann) (i j : Nat) (x y : Oper) : Bool :=
 bef b i j ||
 (!aqY ops x y &&
   match vH i an.1, vH j an.1 with
   | true, true => false
   | false, false => true
   | true, false => PS y || abH i j an.2
   | false, true => PS x || abH i j an.2)
def aiJ (ops : Array Oper) (b : Array Nat) (an : Ann) : Bool :=
 (List.range ops.size).all fun j => (List.range j).all fun i =>
  match ops[i]?, ops[j]? with
  | some x, some y => SE ops b an i j x y
  | _, _ => false
def aeD (ops : Array Oper) : Bool :=
 (List.range ops.size).all fun i => match ops[i]? with
  | some o => o.after.all fun e => !Region.binds .any e || Nat.blt e.on i
  | none => false
def adM (ops : Array Oper) (b : Array Nat) : Bool :=
 (List.range ops.size).all fun j => (List.range ops.size).all fun i =>
  !bef b i j || (match ops[j]? with
   | some o => o.after.any fun e => Region.binds .any e && (Nat.beq e.on i || bef b i e.on)
   | none => false)
def aaQ (ops : Array Oper) (an : Ann) : Bool :=
 aeD ops && adM ops (Region.before ops) && aiJ ops (Region.before ops) an && (ops.all fun o => !Zv o) &&
  (List.range ops.size).all fun i => match ops[i]? with | some o => !atL o || vH i an.1 | none => false
def abG (n : Nat) (an : Ann) (pl : aiL) : Bool :=
 (List.range n).all fun i => match pl[i]? with
  | some (h, ks) => h == vH i an.1 && an.2.all fun p => !Nat.beq p.2 i || (Nat.blt p.1 i && ks.contains (i - 1 - p.1))
  | none => false
def ajX (π : List Nat) (ops : Array Oper) : Bool :=
 Nat.beq π.length ops.size && ((List.range ops.size).all fun k => match π[k]? with | some i => Nat.beq (B7 π i) k && Nat.blt i ops.size | none => false) &&
  ((List.range ops.size).all fun i => match π[B7 π i]? with | some j => Nat.beq j i | none => false) &&
  ((List.range ops.size).all fun i => match ops[i]? with
    | some o => (o.after.all fun e => Nat.blt e.on ops.size) && (match o.guard with | some (j, _) => Nat.blt j ops.size | none => true)
    | none => false)
def VY (P : Program) (N : Nat) (ops : Array Oper) : List (Nat × Nat) -> HT -> Bool
 | _, .leaf an pl => aaQ ops an && abG ops.size an pl
 | path, .perm π es an pl => (es.all fun p => abH p.1 p.2 path && Nat.blt p.1 ops.size) && ajX π ops && (uU π es ops).all (amW N) && (uU π es ops).all (Fx P) &&
  aaQ (uU π es ops) an && abG (uU π es ops).size an pl
 | path, .split a b x y => !Nat.beq a b && VY P N ops ((a, b) :: path) x && VY P N ops ((b, a) :: path) y
def codeOk (P : Program) (N : Nat) (ann : FA) : Code -> Bool
 | .skip | .exit _ | .ret | .label _ => true
 | .scope c => codeOk P N ann c
 | .region id ops draw => ops.all (amW N) && ops.all (Fx P) && (!draw || VY P N ops [] (ann.t id))
 | .seq x y => codeOk P N ann x && codeOk P N ann y
 | .cond c x y => aeE c && (codeOk P N ann x && codeOk P N ann y)
 | .block _ c => codeOk P N ann c
 | .loop c => codeOk P N ann c
 | .rangeFunc gf _ _ _ => aeE gf
 | _ => false
def xZ : Code -> Bool
 | .seq x y => xZ x && xZ y
 | .cond _ x y => xZ x && xZ y
 | .block _ c => xZ c
 | .loop c => xZ c
 | .scope c => xZ c
 | .rangeFunc .. => false
 | _ => true
def aeH : ResultVar -> Bool
 | .tmp t => Nat.blt t DS
 | .cell a _ => Nat.blt a DS
theorem O7 (g : Env) (d i : Nat) (v : aEm) : put g (some d) v i = if i = d then v else g i := by
 unfold put
 by_cases h : i = d
 .subst h; simp
 .have : Nat.beq i d = false := by
   cases hb : Nat.beq i d
   .rfl
   .exact absurd (aCx hb) h
  simp [this, h]
theorem ahM {P : Program} {o : Oper} (h : Fx P o = true) : Z5 P o = true := by
 unfold Fx at h; simp only [aCe] at h; exact h.1
theorem akJ {P : Program} {o : Oper} (h : Fx P o = true) : ∀ x ∈ o.op.operands, aeE x = true := by
 unfold Fx at h; simp only [aCe] at h
 intro x hx
 exact aCE.1 h.2.1 x (by simpa using hx)
theorem alK {P : Program} {o : Oper} (h : Fx P o = true) : Zv o = false := by
 unfold Fx at h; simp only [aCe, aDf] at h; exact h.2.2.1
theorem akU {P : Program} {o : Oper} (h : Fx P o = true) : adI o = false := by
 unfold Fx at h; simp only [aCe, aDf] at h; exact h.2.2.2
def Wf (N : Nat) (ops : Array Oper) : Prop := ∀ (i : Nat) (o : Oper), ops[i]? = some o -> ∀ t, o.dst = some t -> t < N
structure SL (N : Nat) (g : Env) (a : Act) : Prop where
 le : N <= DS
 defers : a.defers = aiU (g DS)
 size : a.tmps.size = N
 at_ : ∀ i, i ≠ DS -> a.tmps.getD i undef = g i
theorem SL.ev {N : Nat} {g : Env} {a : Act} (h : SL N g a) (x : Operand) (hx : aeE x = true) : a.eval x = ev g x := by
 cases x with
 | tmp t =>
   have : t < DS := (aDH (x := t) (y := DS)) ▸ hx
   have e := h.at_ t (Nat.ne_of_lt this)
   simp [Act.eval, En.ev, <- e]
 | _ => simp [Act.eval, En.ev]
theorem SL.put {N : Nat} {g : Env} {a : Act} (h : SL N g a) (d : Option Tmp) (v : aEm) (hd : ∀ t, d = some t -> t < N) :
 SL N (put g d v) (a.put d v) := by
 cases d with
 | none => exact h
 | some t =>
   obtain ⟨h0, h1, h2, h3⟩ := h
   have ht := hd t rfl
   refine ⟨h0, ?_, by simp [Act.put, h2], fun i hne => ?_⟩
   .rw [O7, if_neg (Nat.ne_of_gt (aDv ht h0))]; exact h1
   .rw [O7, <- h3 i hne]
    by_cases hi : i = t
    .subst hi; simp [Act.put, h2, ht]
    .have hi' : t ≠ i := fun e => hi e.symm
     simp [Act.put, hi, aCG hi']
theorem SL.wanted {N : Nat} {g : Env} {a : Act} (h : SL N g a) (ops : Array Oper) (hd : Wf N ops) (o : Oper) :
 Region.wanted o (yielded ops a.tmps) = match o.guard with | none => true | some (j, want) => Ea g (HM ops j) want := by
 unfold Region.wanted
 cases o.guard with
 | none => rfl
 | some p =>
   obtain ⟨j, want⟩ := p
   simp only [yielded, Ea, HM]
   cases ho : ops[j]? with
   | none => simp
   | some o' =>
     cases hdd : o'.dst with
     | none => simp [hdd]
     | some t =>
       have hlt := hd j o' ho t hdd
       have hle := h.le
       have h3 := h.at_ t (Nat.ne_of_lt (aDv hlt hle))
       simp only [hdd, Option.bind_some, kO, asB, <- h3]
       simp only [aCd]
       cases ht : a.tmps[t]? with
       | none => simp [undef]
       | some v => cases v <;> simp
def upX (P : Program) (o : Oper) (a : Act) (next : Act -> aEl -> Prop) : Result Next -> Prop
 | .ok (.value v) w' => next (a.put o.dst v) w'
 | .ok .skip w' => next (a.put o.dst undef) w'
 | .ok (.enter f args) w' => ∃ v w'', Ret P f args w' v w'' /\ next (a.put o.dst v) w''
 | .ok (.round l f tmps aBW bd) w' => ∃ v w'', aAN P l f tmps aBW bd w' v w'' /\ next (a.put o.dst v) w''
 | _ => False
def akR (P : Program) (o : Oper) (a : Act) (w : aEl) (next : Act -> aEl -> Prop) : Prop := adI o = false /\ upX P o a next ((execOp a.eval o).run P w)
def SC (P : Program) (ops : Array Oper) (i : Nat) (K : Act -> aEl -> Prop) (a : Act) (w : aEl) : Prop :=
 match ops[i]? with
 | none => K a w
 | some o => if Region.wanted o (yielded ops a.tmps) then akR P o a w K else K (a.put o.dst undef) w
def Hy (P : Program) (ops : Array Oper) (Q : Act -> aEl -> Prop) : List Nat -> Act -> aEl -> Prop
 | [], a, w => Q a w
 | i :: rest, a, w => SC P ops i (Hy P ops Q rest) a w
def aaE (P : Program) (ops : Array Oper) (Q : Act -> aEl -> Prop) : Nat -> Array Bool -> Act -> aEl -> Prop
 | 0, listed, a, w => Region.ready .any ops listed = [] /\ Q a w
 | fuel + 1, listed, a, w =>
   (Region.ready .any ops listed = [] -> Q a w) /\ ∀ i ∈ Region.ready .any ops listed, SC P ops i (aaE P ops Q fuel (listed.setIfInBounds i true)) a w
theorem adO {P : Program} {o : Oper} {a : Act} {w : aEl} {K K' : Act -> aEl -> Prop} (h : ∀ a w, K a w -> K' a w) (hh : akR P o a w K) : akR P o a w K' := by
 refine ⟨hh.1, ?_⟩
 have hh := hh.2
 generalize (execOp a.eval o).run P w = r at *
 cases r with
 | ok x w' =>
   cases x <;> simp only [upX] at hh ⊢ <;> first | exact h _ _ hh | (obtain ⟨v, w'', h1, h2⟩ := hh; exact ⟨v, w'', h1, h _ _ h2⟩) | exact hh
 | halt x w' => exact hh.elim
theorem alR {P : Program} {ops : Array Oper} {i : Nat} {a : Act} {w : aEl} {K K' : Act -> aEl -> Prop} (h : ∀ a w, K a w -> K' a w) (hh : SC P ops i K a w) : SC P ops i K' a w := by
 unfold SC at *
 split
 .exact h _ _ (by simpa [*] using hh)
 .rename_i o ho
  simp only [ho] at hh
  split
  .rename_i hw; simp only [hw, if_true] at hh; exact adO h hh
  .rename_i hw; simp only [hw] at hh; exact h _ _ hh
def abQ (ro : Option Nat) : Fence := { Fence.wide with round := ro }
theorem anZ {P : Program} {ops : Array Oper} {Q : Act -> aEl -> Prop} (ro : Option Nat) : ∀ (L : List Nat) (a : Act) (w : aEl), Hy P ops Q L a w →
 wpOpsIn (abQ ro) 0 P ops (fun e a w => e = .normal /\ Q a w) L a w := by
 intro L
 induction L with
 | nil => intro a w h; exact ⟨rfl, h⟩
 | cons i L ih =>
   intro a w h
   simp only [Hy, SC] at h
   simp only [wpOpsIn]
   cases ho : ops[i]? with
   | none => rw [ho] at h; exact ih _ _ h
   | some o =>
     rw [ho] at h
     simp only at h ⊢
     by_cases hw : Region.wanted o (yielded ops a.tmps) = true
     .rw [if_pos hw] at h ⊢
      obtain ⟨hd, h⟩ := h
      refine ⟨fun _ _ => trivial, ?_⟩
      rw [Oper.semAt_eq _ _ _ (fun c hc => by simp [adI, hc] at hd)]
      generalize (execOp a.eval o).run P w = r at *
      cases r with
      | halt x w' => exact h.elim
      | ok x w' =>
        cases x <;> simp only [upX] at h <;> simp only [Oper.uponIn] <;> try (exact h.elim)
        .exact ih _ _ h
        .exact ih _ _ h
        .obtain ⟨v, w'', h1, h2⟩ := h
         refine ⟨fun hn => by simp [abQ, Fence.wide] at hn, ?_⟩
         have := callsIn_wide (n := 0).2 h1
         refine CallsIn.mono (F := abQ ro) (n := 0) this ?_
         rintro e w3 ⟨rfl, rfl⟩
         exact ih _ _ h2
        .obtain ⟨v, w'', h1, h2⟩ := h
         refine ⟨fun hn => by simp [abQ, Fence.wide] at hn, ?_⟩
         refine RoundIn.mono (F := abQ ro) (n := 0) h1 ?_
         rintro e w3 ⟨rfl, rfl⟩
         exact ih _ _ h2
     .rw [if_neg hw] at h ⊢
      exact ⟨fun _ _ => trivial, ih _ _ h⟩
section
variable {P : Program} {ops : Array Oper}
def ZE (P : Program) (ops : Array Oper) (g : Env) (o : Oper) (w : aEl) (v : aEm) (w' : aEl) : Prop :=
 ∀ K : aEm -> aEl -> Prop, K v w' -> Kg P ops g o w K
theorem alX {s : Sem Next} {w : aEl} {K : aEm -> aEl -> Prop} (h : gI P s w K) :
 ∃ v w', (∀ K' : aEm -> aEl -> Prop, K' v w' -> gI P s w K') /\ K v w' := by
 unfold gI at *
 generalize s.run P w = r at *
 match r, h with
 | .ok (.value v) w1, h => exact ⟨v, w1, fun _ h' => h', h⟩
 | .ok .skip w1, h => exact ⟨undef, w1, fun _ h' => h', h⟩
 | .ok (.enter f args) w1, h =>
   obtain ⟨v, w', hr, hk⟩ := h
   exact ⟨v, w', fun _ h' => ⟨v, w', hr, h'⟩, hk⟩
 | .ok (.round l f tmps aBW bd) w1, h =>
   obtain ⟨v, w', hr, hk⟩ := h
   exact ⟨v, w', fun _ h' => ⟨v, w', hr, h'⟩, hk⟩
theorem adX {g : Env} {o : Oper} {w : aEl} {K : aEm -> aEl -> Prop} (h : MD P g o w K) :
 ∃ v w', (∀ K' : aEm -> aEl -> Prop, K' v w' -> MD P g o w K') /\ K v w' := by
 unfold MD at *
 split at h
 .exact ⟨_, _, fun _ h' => h', h⟩
 .exact ⟨_, _, fun _ h' => h', h⟩
 .split at h
  .obtain ⟨v, w', a, b⟩ := h
   exact ⟨v, w', fun _ h' => ⟨v, w', a, h'⟩, b⟩
  .exact alX h
 .exact alX h
theorem axL (op : BinOp) (t : TypeId) (ox oy : Operand) (x y : aEm) : hU op t ox oy x y = V (do eqGuard op t ox oy x y; binOp op t x y) := by
 cases op <;> simp [hU, L8, eqGuard]
theorem asJ {g : Env} {o : Oper} (ho : Fx P o = true) : O1 g o = execOp (ev g) o := by
 have ho := ahM ho
 unfold O1
 split
 .rename_i op t x y yt hx
  simp only [execOp, hx, axL, V]
 .rename_i fn first captured hx
  have e1 : (List.map (ev g) first.toList).toArray = first.map (ev g) := by obtain ⟨l⟩ := first; simp
  have e2 : (List.map (ev g) captured.toList).toArray = captured.map (ev g) := by obtain ⟨l⟩ := captured; simp
  simp only [execOp, hx, abT, V, e1, e2]
 .rename_i t ps hx
  have e : (List.map (fun p : Nat × Operand => (p.1, ev g p.2)) ps.toList).toArray = ps.map (fun p => (p.1, ev g p.2)) := by obtain ⟨l⟩ := ps; simp
  simp only [execOp, hx, kV, V, e]
 .rename_i t n ps hx
  have e : (List.map (fun p : Nat × Operand => (p.1, ev g p.2)) ps.toList).toArray = ps.map (fun p => (p.1, ev g p.2)) := by obtain ⟨l⟩ := ps; simp
  simp only [execOp, hx, lT, V, e]
 .rename_i c hx
  split
  .rename_i b hb
   simp only [execOp, hx, resolve, hb, pure_bind, invoke, nX]
   unfold Z5 at ho
   simp only [hx, hb] at ho
   have e : (List.map (ev g) c.args.toList).toArray = c.args.map (ev g) := by obtain ⟨l⟩ := c.args; simp
   rw [e]
   cases b <;> first | rfl | (cases ho)
  .rename_i f hb
   have e : (List.map (ev g) c.args.toList).toArray = c.args.map (ev g) := by obtain ⟨l⟩ := c.args; simp
   simp only [execOp, hx, resolve, hb, EC, e]
  .rfl
 .rfl
theorem XG {f : FuncId} {fn : Func} (hf : P.funcs[f]? = some fn) (hb : fn.body.isSome = true) (hn : (fn.name == "runtime.NumGoroutine") = false)
 (args : Array aEm) (w : aEl) : (callFunc f args).run P w = .ok (.enter f args) w := by
 unfold callFunc
 have hb' : fn.body.isNone = false := by cases h : fn.body <;> simp_all
 show Sem.run P (Sem.program fun p => _) w = _
 simp only [Sem.run]
 simp only [bind, Sem.bind, hf, hn, hb', aBZ, if_false]
 rfl
theorem P7 {g : Env} {o : Oper} {w : aEl} {K : aEm -> aEl -> Prop} (h : Kg P ops g o w K) :
 ∃ v w', ZE P ops g o w v w' /\ K v w' := by
 unfold ZE
 unfold Kg at *
 split at h
 .obtain ⟨v, w', h1, h2⟩ := adX h
  exact ⟨v, w', h1, h2⟩
 .rename_i j want hg
  unfold Gd at *
  cases hb : Ea g (HM ops j) want with
  | true =>
    simp only [hb] at h
    obtain ⟨v, w', h1, h2⟩ := adX h
    exact ⟨v, w', fun K hk => h1 K hk, h2⟩
  | false =>
    simp only [hb] at h
    exact ⟨_, _, fun K hk => hk, h⟩
theorem ZC {N i : Nat} {g : Env} {a : Act} {o : Oper} {w w' : aEl} {v : aEm} {next : Act -> aEl -> Prop}
 (hi : ops[i]? = some o) (hc : Fx P o = true) (hd : Wf N ops) (hr : SL N g a) (hy : ZE P ops g o w v w') (hn : next (a.put o.dst v) w') : SC P ops i next a w := by
 have h := hy (fun v2 w2 => v2 = v /\ w2 = w') ⟨rfl, rfl⟩
 unfold SC
 rw [hi]
 simp only [hr.wanted ops hd]
 have run : MD P g o w (fun v2 w2 => v2 = v /\ w2 = w') -> akR P o a w next := by
  intro h
  refine ⟨akU hc, ?_⟩
  have hevs : execOp a.eval o = execOp (ev g) o := execOp_congr o (fun cs b he => by have := alK hc; simp [Zv, he] at this) (fun x hx => hr.ev x (akJ hc x hx))
  have stp : gI P (O1 g o) w (fun v2 w2 => v2 = v /\ w2 = w') -> upX P o a next ((execOp (ev g) o).run P w) := by
   intro h
   rw [asJ hc] at h
   unfold gI at h
   generalize (execOp (ev g) o).run P w = r at *
   match r, h with
   | .ok (.value v) w1, h => obtain ⟨rfl, rfl⟩ := h; exact hn
   | .ok .skip w1, h => obtain ⟨rfl, rfl⟩ := h; exact hn
   | .ok (.enter f args) w1, h =>
     obtain ⟨v2, w2, hret, rfl, rfl⟩ := h
     exact ⟨_, _, hret, hn⟩
   | .ok (.round l f tmps aBW bd) w1, h =>
     obtain ⟨v2, w2, hret, rfl, rfl⟩ := h
     exact ⟨_, _, hret, hn⟩
  rw [hevs]
  unfold MD at h
  split at h
  .rename_i x hx
   obtain ⟨rfl, rfl⟩ := h
   simp only [execOp, hx]; exact hn
  .rename_i x hx
   obtain ⟨rfl, rfl⟩ := h
   simp only [execOp, hx]; exact hn
  .rename_i c hx
   split at h
   .rename_i f hcal
    obtain ⟨v2, w2, hret, rfl, rfl⟩ := h
    have e : (execOp (ev g) o).run P w = .ok (.enter f (List.map (ev g) c.args.toList).toArray) w := by
     have hc := ahM hc
     unfold Z5 at hc
     simp only [hx, hcal] at hc
     cases hfn : P.funcs[f]? with
     | none => rw [hfn] at hc; cases hc
     | some fn =>
       rw [hfn] at hc
       simp only [aCe, aDf] at hc
       have ea : (List.map (ev g) c.args.toList).toArray = c.args.map (ev g) := by obtain ⟨l⟩ := c.args; simp
       rw [ea]
       simp only [execOp, hx, resolve, hcal, ev, Deferred.ofValue, pure_bind, invoke]
       simp only [Array.empty_append, Array.append_empty]
       exact XG hfn hc.1 hc.2 _ w
    rw [e]
    exact ⟨_, _, hret, hn⟩
   .exact stp h
  .exact stp h
 unfold Kg at h
 cases hg : o.guard with
 | none =>
   rw [hg] at h
   simp only [if_true]
   exact run h
 | some p =>
   obtain ⟨j, want⟩ := p
   simp only [hg] at h
   simp only
   by_cases hb : Ea g (HM ops j) want = true
   .rw [if_pos hb]
    simp only [hb, Gd] at h
    exact run h
   .rw [if_neg hb]
    have hb' : Ea g (HM ops j) want = false := by simpa using hb
    simp only [hb', Gd] at h
    obtain ⟨rfl, rfl⟩ := h
    exact hn
def WG (P : Program) (ops : Array Oper) : Prop := ∀ (i : Nat) (o : Oper), ops[i]? = some o -> Fx P o = true
theorem aoQ {N : Nat} (hd : Wf N ops) (hca : WG P ops) {Q : Act -> aEl -> Prop} {K : Env -> aEl -> Prop}
 (hQ : ∀ g a w, SL N g a -> K g w -> Q a w) :
 ∀ (l : List Oper) (k : Nat) (g : Env) (a : Act) (w : aEl), (∀ j, l[j]? = ops[k + j]?) -> SL N g a -> aaS P ops l g w K →
   Hy P ops Q (List.range' k l.length) a w := by
 intro l
 induction l with
 | nil => intro k g a w _ hr h; exact hQ _ _ _ hr h
 | cons o l ih =>
   intro k g a w hl hr h
   have h0 : ops[k]? = some o := by have := hl 0; simpa using this.symm
   obtain ⟨v, w', hy, hk⟩ := P7 h
   rw [aCl, List.range'_succ]
   show SC P ops k (Hy P ops Q _) a w
   refine ZC h0 (hca k o h0) hd hr hy ?_
   refine ih (k + 1) _ _ _ (fun j => ?_) (hr.put _ _ (hd k o h0)) hk
   have := hl (j + 1)
   simp only [aBY] at this
   rw [this]; congr 1; omega
def Zh (an : Ann) (O : Nat -> Oper) (G : Nat -> Env) (W : Nat -> aEl) (V : Nat -> aEm) (i : Nat) : Rec :=
 ⟨vH i an.1, O i, G i, W i, V i⟩
def amL (P : Program) (ops : Array Oper) (an : Ann) (O : Nat -> Oper) (G : Nat -> Env) (W : Nat -> aEl) (V : Nat -> aEm) (i j : Nat) : Prop :=
 Wg P ops (Zh an O G W V i) (O j) (G j) (W (j + 1)) (V j)
structure Run (P : Program) (ops : Array Oper) (an : Ann) (g0 : Env) (w0 : aEl) (n : Nat) (O : Nat -> Oper) (G : Nat -> Env) (W : Nat -> aEl) (V : Nat -> aEm) : Prop where
 g0 : G 0 = g0
 w0 : W 0 = w0
 op : ∀ i, i < n -> ops[i]? = some (O i)
 yld : ∀ i, i < n -> ZE P ops (G i) (O i) (W i) (V i) (W (i + 1))
 light : ∀ i, i < n -> vH i an.1 = false -> W (i + 1) = W i
 env : ∀ i, i < n -> G (i + 1) = put (G i) (O i).dst (V i)
 chk : ∀ i j, i < j -> j < n -> abH i j an.2 = true -> amL P ops an O G W V i j
theorem ajE {o : Oper} {g : Env} {w' : aEl} {v : aEm} {hist : List Rec} : ∀ {ks : List Nat}, axI P ops o g w' v hist ks -> ∀ k ∈ ks, ∃ q, ahZ hist k = some q /\ Wg P ops q o g w' v := by
 intro ks
 induction ks with
 | nil => intro _ k hk; cases hk
 | cons a ks ih =>
   rintro ⟨h1, h2⟩ k hk
   rcases aCS.1 hk with rfl | hk
   .cases hn : ahZ hist k with
    | none => rw [hn] at h1; exact h1.elim
    | some q => rw [hn] at h1; exact ⟨q, rfl, h1⟩
   .exact ih h2 k hk
theorem apK {n : Nat} {an : Ann} {pl : aiL} (h : abG n an pl = true) {i : Nat} (hi : i < n) :
 ∃ ks, pl[i]? = some (vH i an.1, ks) /\ ∀ j, abH j i an.2 = true -> j < i /\ (i - 1 - j) ∈ ks := by
 have := aCE.1 h i (aCP.2 hi)
 cases hp : pl[i]? with
 | none => rw [hp] at this; cases this
 | some p =>
   obtain ⟨hv, ks⟩ := p
   rw [hp] at this
   simp only [aCe] at this
   obtain ⟨h1, h2⟩ := this
   have h1 : hv = vH i an.1 := by simpa using h1
   refine ⟨ks, by rw [h1], fun j hj => ?_⟩
   have mm : ∀ (l : List (Nat × Nat)), abH j i l = true -> (j, i) ∈ l := by
    intro l
    induction l with
    | nil => intro h; cases h
    | cons q r ih =>
      obtain ⟨a, b⟩ := q
      intro h
      unfold abH at h
      cases ha : Nat.beq a j with
      | true =>
        simp only [ha] at h
        cases hb : Nat.beq b i with
        | true =>
          obtain rfl := aCx ha
          obtain rfl := aCx hb
          exact aCA
        | false => simp only [hb] at h; exact aCh _ (ih h)
      | false => simp only [ha] at h; exact aCh _ (ih h)
   have := aCE.1 h2 (j, i) (mm _ hj)
   simp only [Nat.beq_refl, aB5, Bool.false_or, aCe] at this
   refine ⟨?_, by simpa using this.2⟩
   have hlt := this.1
   exact (aDH (x := j) (y := i)) ▸ hlt
theorem ahW {an : Ann} {pl : aiL} {g0 : Env} {w0 : aEl} {K : Env -> aEl -> Prop} (hpl : abG ops.size an pl = true) :
 ∀ (l : List Oper) (m : Nat) (hist : List Rec) (O : Nat -> Oper) (G : Nat -> Env) (W : Nat -> aEl) (V : Nat -> aEm),
   (∀ j, l[j]? = ops[m + j]?) -> m + l.length = ops.size -> Run P ops an g0 w0 m O G W V -> (∀ i, i < m -> ahZ hist (m - 1 - i) = some (Zh an O G W V i)) →
   xG P ops l (pl.drop m) hist (G m) (W m) K →
   ∃ (O : Nat -> Oper) (G : Nat -> Env) (W : Nat -> aEl) (V : Nat -> aEm), Run P ops an g0 w0 (m + l.length) O G W V /\ K (G (m + l.length)) (W (m + l.length)) := by
 intro l
 induction l with
 | nil => intro m hist O G W V _ _ hr _ h; exact ⟨O, G, W, V, hr, by unfold xG at h; exact h⟩
 | cons o l ih =>
   intro m hist O G W V hl hlen hr hh h
   have h0 : ops[m]? = some o := by have := hl 0; simpa using this.symm
   have hmn : m < ops.size := by rw [aCl] at hlen; omega
   obtain ⟨ks, hk1, hk2⟩ := apK hpl hmn
   have hdrop : pl.drop m = (vH m an.1, ks) :: pl.drop (m + 1) := by
    have hlt : m < pl.length := by
     rcases aCk m pl.length with h | h
     .exact h
     .rw [aCj h] at hk1; cases hk1
    rw [aDa hlt]
    rw [aB8 hlt] at hk1
    rw [aCF hk1]
   rw [hdrop] at h
   obtain ⟨v, w', hy, hk⟩ := P7 h
   have key : (vH m an.1 = false -> w' = W m) /\ (∀ k ∈ ks, ∃ q, ahZ hist k = some q /\ Wg P ops q o (G m) w' v) /\
       (xG P ops l (pl.drop (m + 1)) (⟨vH m an.1, o, G m, W m, v⟩ :: hist) (put (G m) o.dst v) w' K) := by
    have nil : ∀ w', ∀ k ∈ ([] : List Nat), ∃ q, ahZ hist k = some q /\ Wg P ops q o (G m) w' v := fun _ k hk => (by cases hk)
    cases hm : vH m an.1 with
    | true =>
      rw [hm] at hk
      cases ks with
      | nil => exact ⟨fun e => (by cases e), nil _, hk⟩
      | cons k ks => exact ⟨fun e => (by cases e), ajE hk.1, hk.2⟩
    | false =>
      rw [hm] at hk
      cases ks with
      | nil => obtain ⟨rfl, hk⟩ := hk; exact ⟨fun _ => rfl, nil _, hk⟩
      | cons k ks => obtain ⟨rfl, hc, hk⟩ := hk; exact ⟨fun _ => rfl, ajE hc, hk⟩
   obtain ⟨kl, c1, c2⟩ := key
   let O' : Nat -> Oper := fun i => if i = m then o else O i
   let V' : Nat -> aEm := fun i => if i = m then v else V i
   let G' : Nat -> Env := fun i => if i = m + 1 then put (G m) o.dst v else G i
   let W' : Nat -> aEl := fun i => if i = m + 1 then w' else W i
   have eO : ∀ i, i < m -> O' i = O i := fun i hi => if_neg (by omega)
   have eV : ∀ i, i < m -> V' i = V i := fun i hi => if_neg (by omega)
   have eG : ∀ i, i <= m -> G' i = G i := fun i hi => if_neg (by omega)
   have eW : ∀ i, i <= m -> W' i = W i := fun i hi => if_neg (by omega)
   have oO : O' m = o := if_pos rfl
   have oV : V' m = v := if_pos rfl
   have oG : G' (m + 1) = put (G m) o.dst v := if_pos rfl
   have oW : W' (m + 1) = w' := if_pos rfl
   have eR : ∀ i, i < m -> Zh an O' G' W' V' i = Zh an O G W V i := fun i hi => by
    simp only [Zh, eO i hi, eV i hi, eG i (by omega), eW i (by omega)]
   have hr' : Run P ops an g0 w0 (m + 1) O' G' W' V' := by
    refine ⟨by rw [eG 0 (by omega)]; exact hr.g0, by rw [eW 0 (by omega)]; exact hr.w0, fun i hi => ?_, fun i hi => ?_, fun i hi hm => ?_, fun i hi => ?_, fun i j hij hj hm => ?_⟩
    .by_cases hi' : i = m
     .subst hi'; rw [oO]; exact h0
     .rw [eO i (by omega)]; exact hr.op i (by omega)
    .by_cases hi' : i = m
     .subst hi'; rw [oO, oV, oW, eG i (by omega), eW i (by omega)]; exact hy
     .rw [eO i (by omega), eV i (by omega), eG i (by omega), eW i (by omega), eW (i + 1) (by omega)]; exact hr.yld i (by omega)
    .by_cases hi' : i = m
     .subst hi'; rw [oW, eW i (by omega)]; exact kl hm
     .rw [eW i (by omega), eW (i + 1) (by omega)]; exact hr.light i (by omega) hm
    .by_cases hi' : i = m
     .subst hi'; rw [oO, oV, oG, eG i (by omega)]
     .rw [eO i (by omega), eV i (by omega), eG i (by omega), eG (i + 1) (by omega)]; exact hr.env i (by omega)
    .unfold amL
     by_cases hj' : j = m
     .subst hj'
      rw [eR i (by omega), oO, oV, oW, eG j (by omega)]
      obtain ⟨q, hq, hc⟩ := c1 _ (hk2 i hm).2
      rw [hh i hij] at hq
      obtain rfl := aCF hq
      exact hc
     .rw [eR i (by omega), eO j (by omega), eV j (by omega), eG j (by omega), eW (j + 1) (by omega)]
      exact hr.chk i j hij (by omega) hm
   have := ih (m + 1) (⟨vH m an.1, o, G m, W m, v⟩ :: hist) O' G' W' V' (fun j => by
       have := hl (j + 1)
       simp only [aBY] at this
       rw [this]; congr 1; omega) (by rw [aCl] at hlen; omega) hr' (fun i hi => by
       by_cases hi' : i = m
       .subst hi'
        rw [show i + 1 - 1 - i = 0 from by omega]
        simp only [ahZ, Zh, oO, oV, eG i (by omega), eW i (by omega)]
       .rw [eR i (by omega), show m + 1 - 1 - i = (m - 1 - i) + 1 from by omega]
        exact hh i (by omega)) (by rw [oG, oW]; exact c2)
   rw [aCl, show m + (l.length + 1) = m + 1 + l.length from by omega]
   exact this
end
section
variable {P : Program} {ops : Array Oper} {an : Ann} {g0 : Env} {w0 : aEl} {O : Nat -> Oper} {G : Nat -> Env} {W : Nat -> aEl} {V : Nat -> aEm}
def Qc (n : Nat) (O : Nat -> Oper) (V : Nat -> aEm) (g0 : Env) (S : Nat -> Prop) (g : Env) : Prop :=
 ∀ s, (∃ j, j < n /\ S j /\ (O j).dst = some s /\ (∀ k, k < n -> S k -> (O k).dst = some s -> k <= j) /\ g s = V j) ∨
   ((∀ j, j < n -> S j -> (O j).dst ≠ some s) /\ g s = g0 s)
theorem Qc.agree {n : Nat} {S T : Nat -> Prop} {g g' : Env} (h : Qc n O V g0 S g) (h' : Qc n O V g0 T g') (s : Nat)
 (hs : ∀ j, j < n -> (O j).dst = some s -> (S j ↔ T j)) : g s = g' s := by
 rcases h s with ⟨j, h1, h2, h3, h4, h5⟩ | ⟨h1, h2⟩ <;> rcases h' s with ⟨k, k1, k2, k3, k4, k5⟩ | ⟨k1, k2⟩
 .have a := h4 k k1 ((hs k k1 k3).2 k2) k3
  have b := k4 j h1 ((hs j h1 h3).1 h2) h3
  have : j = k := by omega
  subst this; rw [h5, k5]
 .exact absurd h3 (k1 j h1 ((hs j h1 h3).1 h2))
 .exact absurd k3 (h1 k k1 ((hs k k1 k3).2 k2))
 .rw [h2, k2]
theorem Qc.step {n : Nat} {S : Nat -> Prop} {g : Env} (h : Qc n O V g0 S g) (i : Nat) (hi : i < n)
 (hw : ∀ s, (O i).dst = some s -> ∀ j, j < n -> j ≠ i -> (O j).dst = some s -> S j -> j < i) :
 Qc n O V g0 (fun j => S j ∨ j = i) (put g (O i).dst (V i)) := by
 intro s
 cases hd : (O i).dst with
 | none =>
   rcases h s with ⟨j, h1, h2, h3, h4, h5⟩ | ⟨h1, h2⟩
   .refine .inl ⟨j, h1, .inl h2, h3, fun k k1 k2 k3 => ?_, h5⟩
    rcases k2 with k2 | rfl
    .exact h4 k k1 k2 k3
    .rw [hd] at k3; cases k3
   .refine .inr ⟨fun j h3 h4 h5 => ?_, h2⟩
    rcases h4 with h4 | rfl
    .exact h1 j h3 h4 h5
    .rw [hd] at h5; cases h5
 | some t =>
   rw [O7]
   by_cases hst : s = t
   .subst hst
    rw [if_pos rfl]
    refine .inl ⟨i, hi, .inr rfl, hd, fun k k1 k2 k3 => ?_, rfl⟩
    rcases k2 with k2 | rfl
    .by_cases hk : k = i
     .omega
     .have := hw s hd k k1 hk k3 k2; omega
    .omega
   .rw [if_neg hst]
    rcases h s with ⟨j, h1, h2, h3, h4, h5⟩ | ⟨h1, h2⟩
    .refine .inl ⟨j, h1, .inl h2, h3, fun k k1 k2 k3 => ?_, h5⟩
     rcases k2 with k2 | rfl
     .exact h4 k k1 k2 k3
     .rw [hd] at k3; exact absurd (aCF k3).symm hst
    .refine .inr ⟨fun j h3 h4 h5 => ?_, h2⟩
     rcases h4 with h4 | rfl
     .exact h1 j h3 h4 h5
     .rw [hd] at h5; exact absurd (aCF h5).symm hst
theorem Run.envFor {n : Nat} (r : Run P ops an g0 w0 n O G W V) : ∀ i, i <= n -> Qc n O V g0 (fun j => j < i) (G i) := by
 intro i
 induction i with
 | zero => intro _ s; exact .inr ⟨fun j _ h => absurd h (by omega), by rw [r.g0]⟩
 | succ i ih =>
   intro hi
   have h := ih (by omega)
   have := h.step (V := V) i (by omega) (fun s _ j _ _ _ hj => hj)
   rw [<- r.env i (by omega)] at this
   intro s
   rcases this s with ⟨j, h1, h2, h3, h4, h5⟩ | ⟨h1, h2⟩
   .exact .inl ⟨j, h1, by omega, h3, fun k k1 k2 k3 => h4 k k1 (by omega) k3, h5⟩
   .exact .inr ⟨fun j a b => h1 j a (by omega), h2⟩
theorem Run.still {n : Nat} (r : Run P ops an g0 w0 n O G W V) (i : Nat) : ∀ d, i + d <= n -> (∀ h, i <= h -> h < i + d -> vH h an.1 = false) -> W (i + d) = W i := by
 intro d
 induction d with
 | zero => intro _ _; rfl
 | succ d ih =>
   intro h1 h2
   rw [<- aDr, r.light (i + d) (by omega) (h2 _ (by omega) (by omega))]
   exact ih (by omega) (fun h a b => h2 h a (by omega))
theorem Run.still' {n : Nat} (r : Run P ops an g0 w0 n O G W V) {i k : Nat} (hik : i <= k) (hk : k <= n) (hh : ∀ h, i <= h -> h < k -> vH h an.1 = false) : W k = W i := by
 have := r.still i (k - i) (by omega) (fun h a b => hh h a (by omega))
 rwa [show i + (k - i) = k from by omega] at this
theorem agW {i k : Nat} : (∃ h, i <= h /\ h < k /\ vH h an.1 = true) -> ∃ h, i <= h /\ h < k /\ vH h an.1 = true /\ ∀ h', i <= h' -> h' < h -> vH h' an.1 = false := by
 rintro ⟨h, h1, h2, h3⟩
 induction h using Nat.strongRecOn with
 | _ h ih =>
   by_cases hx : ∃ h', i <= h' /\ h' < h /\ vH h' an.1 = true
   .obtain ⟨h', a, b, c⟩ := hx
    exact ih h' b a (by omega) c
   .refine ⟨h, h1, h2, h3, fun h' a b => ?_⟩
    cases hm : vH h' an.1
    .rfl
    .exact absurd ⟨h', a, b, hm⟩ hx
theorem acF {i k : Nat} : (∃ h, i <= h /\ h < k /\ vH h an.1 = true) -> ∃ h, i <= h /\ h < k /\ vH h an.1 = true /\ ∀ h', h < h' -> h' < k -> vH h' an.1 = false := by
 rintro ⟨h, h1, h2, h3⟩
 induction hd : k - h using Nat.strongRecOn generalizing h with
 | _ d ih =>
   by_cases hx : ∃ h', h < h' /\ h' < k /\ vH h' an.1 = true
   .obtain ⟨h', a, b, c⟩ := hx
    exact ih (k - h') (by omega) h' (by omega) b c rfl
   .refine ⟨h, h1, h2, h3, fun h' a b => ?_⟩
    cases hm : vH h' an.1
    .rfl
    .exact absurd ⟨h', a, b, hm⟩ hx
structure aaD (ops : Array Oper) (an : Ann) (O : Nat -> Oper) (b : Array Nat) : Prop where
 back : ∀ i, i < ops.size -> ∀ e ∈ (O i).after, Region.binds .any e = true -> e.on < i
 closed : ∀ i j, i < ops.size -> j < ops.size -> bef b i j = true -> ∃ e ∈ (O j).after, Region.binds .any e = true /\ (e.on = i ∨ bef b i e.on = true)
 pair : ∀ i j, i < j -> j < ops.size -> SE ops b an i j (O i) (O j) = true
 sel : ∀ i, i < ops.size -> Zv (O i) = false
 fn : ∀ i, i < ops.size -> atL (O i) = true -> vH i an.1 = true
theorem aoZ (h : aaQ ops an = true) (ho : ∀ i, i < ops.size -> ops[i]? = some (O i)) : aaD ops an O (Region.before ops) := by
 unfold aaQ at h
 simp only [aCe] at h
 obtain ⟨⟨⟨⟨h1, h2⟩, h3⟩, h5⟩, h6⟩ := h
 refine ⟨fun i hi e he hb => ?_, fun i j hi hj hb => ?_, fun i j hij hj => ?_, fun i hi => ?_, fun i hi hf => ?_⟩
 .unfold aeD at h1
  have := aCE.1 h1 i (aCP.2 hi)
  rw [ho i hi] at this
  have := aC4.1 this e he
  simp only [hb, aB5, Bool.false_or] at this
  exact (aDH (x := e.on) (y := i)) ▸ this
 .unfold adM at h2
  have := aCE.1 (aCE.1 h2 j (aCP.2 hj)) i (aCP.2 hi)
  rw [ho j hj] at this
  simp only [hb, aB5, Bool.false_or] at this
  obtain ⟨e, he, h⟩ := Array.any_eq_true'.1 this
  simp only [aCe, aDb] at h
  refine ⟨e, he, h.1, h.2.imp (fun h => aCx h) id⟩
 .unfold aiJ at h3
  have := aCE.1 (aCE.1 h3 j (aCP.2 hj)) i (aCP.2 hij)
  rw [ho i (by omega), ho j hj] at this
  exact this
 .have := aC4.1 h5 (O i) (aEf (ho i hi))
  simpa using this
 .have := aCE.1 h6 i (aCP.2 hi)
  rw [ho i hi] at this
  simpa [hf] using this
theorem avH {i j : Nat} : ∀ {l : List (Nat × Nat)}, abH i j l = true -> (i, j) ∈ l := by
 intro l
 induction l with
 | nil => intro h; cases h
 | cons p r ih =>
   obtain ⟨a, b⟩ := p
   intro h
   unfold abH at h
   cases ha : Nat.beq a i with
   | true =>
     simp only [ha] at h
     cases hb : Nat.beq b j with
     | true =>
       obtain rfl := aCx ha
       obtain rfl := aCx hb
       exact aCA
     | false => simp only [hb] at h; exact aCh _ (ih h)
   | false => simp only [ha] at h; exact aCh _ (ih h)
theorem aaD.order {b : Array Nat} (st : aaD ops an O b) {S : Nat -> Prop} {i : Nat} (hi : i < ops.size)
 (hdown : ∀ j k, j < ops.size -> k < ops.size -> S k -> bef b j k = true -> S j) (hbi : ∀ j, j < ops.size -> bef b j i = true -> S j) (hni : ¬ S i)
 {s : Nat} (hs : s ∈ looks ops (O i) ∨ (O i).dst = some s) {j : Nat} (hj : j < ops.size) (hji : j ≠ i) (hd : (O j).dst = some s) : S j ↔ j < i := by
 rcases aCk j i with h | h
 .refine ⟨fun _ => h, fun _ => ?_⟩
  have p := st.pair j i h hi
  unfold SE at p
  simp only [aDb, aCe, aDf] at p
  rcases p with p | p
  .exact hbi j hj p
  .exfalso
   have p1 := p.1
   unfold aqY at p1
   simp only [hd, aDT] at p1
   rcases hs with hs | hs
   .have := p1.1.1; simp [hs] at this
   .have := p1.1.2; simp [hs] at this
 .have h' : i < j := by omega
  refine ⟨fun hS => ?_, fun hh => by omega⟩
  exfalso
  have p := st.pair i j h' hj
  unfold SE at p
  simp only [aDb, aCe, aDf] at p
  rcases p with p | p
  .exact hni (hdown i j hi hj hS p)
  .have p1 := p.1
   unfold aqY at p1
   simp only [hd, aDT] at p1
   rcases hs with hs | hs
   .have := p1.2; simp [hs] at this
   .have := p1.1; rw [hs] at this; simp at this
theorem Po {g g' : Env} {o : Oper} (h : ∀ s ∈ looks ops o, g s = g' s) : ∀ x ∈ o.op.operands, ev g x = ev g' x := by
 intro x hx
 cases x with
 | tmp t => exact h t (aDo _ (List.mem_filterMap.2 ⟨.tmp t, by simpa using hx, rfl⟩))
 | _ => rfl
theorem aiG {g g' : Env} {o : Oper} (hs : Zv o = false) (h : ∀ s ∈ looks ops o, g s = g' s) : O1 g o = O1 g' o := by
 have e := execOp_congr o (fun cs b he => by simp [Zv, he] at hs) (Po h)
 have k := Po h
 unfold O1
 split
 .rename_i op t x y yt hx
  rw [k x (by simp [hx, Op.operands]), k y (by simp [hx, Op.operands])]
 .rename_i fn first captured hx
  have e1 : List.map (ev g) first.toList = List.map (ev g') first.toList := aC8 fun p hp => k p (by simp [hx, Op.operands]; exact .inl (by simpa using hp))
  have e2 : List.map (ev g) captured.toList = List.map (ev g') captured.toList := aC8 fun p hp => k p (by simp [hx, Op.operands]; exact .inr (by simpa using hp))
  rw [e1, e2]
 .rename_i t ps hx
  congr 1
  refine aC8 fun p hp => ?_
  rw [k p.2 (by simp [hx, Op.operands]; exact ⟨p.1, by simpa using hp⟩)]
 .rename_i t n ps hx
  congr 1
  refine aC8 fun p hp => ?_
  rw [k p.2 (by simp [hx, Op.operands]; exact ⟨p.1, by simpa using hp⟩)]
 .rename_i c hx
  split
  .rename_i b hb
   congr 1
   refine aC8 fun p hp => ?_
   exact k p (by simp [hx, Op.operands, Call.operands, hb]; simpa using hp)
  .rename_i f hb
   have : List.map (ev g) c.args.toList = List.map (ev g') c.args.toList := aC8 fun p hp => k p (by simp [hx, Op.operands, Call.operands, hb]; exact .inr (by simpa using hp))
   rw [this, k f (by simp [hx, Op.operands, Call.operands, hb])]
  .exact e
 .exact e
theorem acJ {g g' : Env} {o : Oper} {j : Nat} {want : Bool} (hg : o.guard = some (j, want)) (h : ∀ s ∈ looks ops o, g s = g' s) :
 Ea g (HM ops j) want = Ea g' (HM ops j) want := by
 cases hs : HM ops j with
 | none => rfl
 | some t =>
   have := h t (aDO _ (by simp [hg, hs]))
   simp [Ea, this]
theorem WC {g g' : Env} {o : Oper} {w : aEl} {K : aEm -> aEl -> Prop} (hs : Zv o = false) (h : ∀ s ∈ looks ops o, g s = g' s)
 (hk : Kg P ops g o w K) : Kg P ops g' o w K := by
 have e := aiG (ops := ops) hs h
 have run : MD P g o w = MD P g' o w := by
  funext K
  unfold MD
  split
  .rename_i x hx
   have := Po (ops := ops) h x (by simp [hx, Op.operands])
   rw [this]
  .rename_i x hx
   have := Po (ops := ops) h x (by simp [hx, Op.operands])
   rw [this]
  .rename_i c hx
   have k := Po h
   have : List.map (ev g) c.args.toList = List.map (ev g') c.args.toList := aC8 fun p hp => k p (by simp [hx, Op.operands, Call.operands]; exact .inr (by simpa using hp))
   rw [this, e]
  .rw [e]
 unfold Kg at *
 cases hg : o.guard with
 | none => rw [hg] at hk; simp only at hk ⊢; rwa [<- run]
 | some p =>
   obtain ⟨j, want⟩ := p
   simp only [hg] at hk ⊢
   rw [<- run, <- acJ hg h]
   exact hk
theorem aiB {n : Nat} (hn : n = ops.size) {b : Array Nat} (r : Run P ops an g0 w0 n O G W V) (st : aaD ops an O b) {S : Nat -> Prop} {i k : Nat} (hi : i < n) (hk : k <= n)
 (hdown : ∀ j k, j < ops.size -> k < ops.size -> S k -> bef b j k = true -> S j) (hbi : ∀ j, j < ops.size -> bef b j i = true -> S j) (hni : ¬ S i)
 (hS : ∀ h, h < n -> vH h an.1 = true -> (S h ↔ h < k)) (hl : vH i an.1 = false) :
 ZE P ops (G i) (O i) (W k) (V i) (W k) := by
 subst hn
 have same : Gs (gOf ops (O i) (G i)) (jD P (O1 (G i) (O i)) (V i) (W k)) -> PS (O i) = false -> ZE P ops (G i) (O i) (W k) (V i) (W k) := by
  intro hs hm K hK
  have run : jD P (O1 (G i) (O i)) (V i) (W k) -> MD P (G i) (O i) (W k) K := by
   intro hs
   unfold jD at hs
   have stp : gI P (O1 (G i) (O i)) (W k) K := by unfold gI; rw [hs]; exact hK
   unfold MD
   split
   .rename_i x hx; simp [PS, hx] at hm
   .rename_i x hx; simp [PS, hx] at hm
   .rename_i c hx
    have hf : atL (O i) = false := by
     cases hh : atL (O i)
     .rfl
     .rw [st.fn i hi hh] at hl; cases hl
    obtain ⟨cal, cargs, cats⟩ := c
    cases cal with
    | value f =>
      cases f with
      | func f => simp [atL, hx] at hf
      | _ => exact stp
    | _ => exact stp
   .exact stp
  have hy := r.yld i hi (fun v _ => v = V i) rfl
  unfold Kg at hy ⊢
  unfold gOf at hs
  cases hg : (O i).guard with
  | none => rw [hg] at hs; exact run hs
  | some p =>
    obtain ⟨j, want⟩ := p
    rw [hg] at hs
    simp only [hg] at hs hy ⊢
    cases hb : Ea (G i) (HM ops j) want with
    | true => rw [hb] at hs; exact run hs
    | false =>
      rw [hb] at hy
      have : undef = V i := hy
      show K undef (W k)
      rw [this]; exact hK
 have moved : PS (O i) = true -> ZE P ops (G i) (O i) (W k) (V i) (W k) := by
  intro hm K hK
  have hy := r.yld i hi (fun v _ => v = V i) rfl
  unfold Kg at hy ⊢
  have mv : ∀ (K' : aEm -> aEl -> Prop) w, MD P (G i) (O i) w K' ↔ ∃ x, ((O i).op = .move x ∨ (O i).op = .assign x) /\ K' (ev (G i) x) w := by
   intro K' w
   unfold MD
   unfold PS at hm
   split
   .rename_i x hx; constructor
    .intro h; exact ⟨x, .inl hx, h⟩
    .rintro ⟨y, h | h, h'⟩
     .rw [hx] at h; cases h; exact h'
     .rw [hx] at h; cases h
   .rename_i x hx; constructor
    .intro h; exact ⟨x, .inr hx, h⟩
    .rintro ⟨y, h | h, h'⟩
     .rw [hx] at h; cases h
     .rw [hx] at h; cases h; exact h'
   .rename_i c hx; simp [hx] at hm
   .rename_i h1 h2 _; split at hm
    .rename_i x hx; exact absurd hx (h1 x)
    .rename_i x hx; exact absurd hx (h2 x)
    .cases hm
  cases hg : (O i).guard with
  | none =>
    rw [hg] at hy
    simp only at hy ⊢
    rw [mv] at hy ⊢
    obtain ⟨x, hx, h⟩ := hy
    exact ⟨x, hx, h ▸ hK⟩
  | some p =>
    obtain ⟨j, want⟩ := p
    simp only [hg] at hy ⊢
    unfold Gd at *
    cases hb : Ea (G i) (HM ops j) want with
    | true =>
      simp only [hb] at hy ⊢
      rw [mv] at hy ⊢
      obtain ⟨x, hx, h⟩ := hy
      exact ⟨x, hx, h ▸ hK⟩
    | false =>
      simp only [hb] at hy ⊢
      rwa [hy]
 rcases aEh k i with hki | hki
 .by_cases hx : ∃ h, k <= h /\ h < i /\ vH h an.1 = true
  .obtain ⟨h, h1, h2, h3, h4⟩ := agW hx
   have e : W h = W k := r.still' h1 (by omega) h4
   have p := st.pair h i h2 hi
   unfold SE at p
   simp only [aDb, aCe, aDf] at p
   rcases p with p | p
   .have := hbi h (by omega) p
    have := (hS h (by omega) h3).1 this
    omega
   .have p2 := p.2
    rw [h3, hl] at p2
    simp only [aDb] at p2
    cases hmv : PS (O i) with
    | true => exact moved hmv
    | false =>
      rcases p2 with p2 | p2
      .rw [hmv] at p2; cases p2
      .refine same ?_ hmv
       have c := r.chk h i h2 hi p2
       unfold amL Wg Zh at c
       simp only [h3] at c
       rw [<- e]; exact c
  .have e : W i = W k := r.still' hki (by omega) (fun h a b => by
    cases hm : vH h an.1
    .rfl
    .exact absurd ⟨h, a, b, hm⟩ hx)
   have hy := r.yld i hi
   rw [r.light i hi hl, e] at hy
   exact hy
 .by_cases hx : ∃ h, i <= h /\ h < k /\ vH h an.1 = true
  .obtain ⟨h, h1, h2, h3, h4⟩ := acF hx
   have hne : h ≠ i := fun e => by rw [e, hl] at h3; cases h3
   have e : W k = W (h + 1) := r.still' (by omega) hk (fun h' a b => h4 h' (by omega) b)
   have p := st.pair i h (by omega) (by omega)
   unfold SE at p
   simp only [aDb, aCe, aDf] at p
   rcases p with p | p
   .exact absurd (hdown i h (by omega) (by omega) ((hS h (by omega) h3).2 h2) p) hni
   .have p2 := p.2
    rw [h3, hl] at p2
    simp only [aDb] at p2
    cases hmv : PS (O i) with
    | true => exact moved hmv
    | false =>
      rcases p2 with p2 | p2
      .rw [hmv] at p2; cases p2
      .refine same ?_ hmv
       have c := r.chk i h (by omega) (by omega) p2
       unfold amL Wg Zh at c
       simp only [hl] at c
       rw [e]; exact c
  .have e : W k = W i := r.still' hki hk (fun h a b => by
    cases hm : vH h an.1
    .rfl
    .exact absurd ⟨h, a, b, hm⟩ hx)
   have hy := r.yld i hi
   rw [r.light i hi hl, <- e] at hy
   exact hy
def rV (listed : Array Bool) (i : Nat) : Prop := listed.getD i false = true
theorem atO {N n : Nat} (hn : n = ops.size) (hd : Wf N ops) (hca : WG P ops) {b : Array Nat} (r : Run P ops an g0 w0 n O G W V) (st : aaD ops an O b)
 {Q : Act -> aEl -> Prop} (hQ : ∀ a, SL N (G n) a -> Q a (W n)) :
 ∀ (fuel : Nat) (listed : Array Bool) (g : Env) (a : Act) (k : Nat), listed.size = n -> SL N g a -> k <= n →
   (∀ j, j < n -> rV listed j -> ∀ e ∈ (O j).after, Region.binds .any e = true -> rV listed e.on) →
   Qc n O V g0 (rV listed) g -> (∀ h, h < n -> vH h an.1 = true -> (rV listed h ↔ h < k)) →
   ((List.range n).filter fun i => !listed.getD i false).length <= fuel →
   aaE P ops Q fuel listed a (W k) := by
 subst hn
 have ready_iff : ∀ (listed : Array Bool), listed.size = ops.size -> ∀ i, i ∈ Region.ready .any ops listed ↔ (i < ops.size /\ ¬ rV listed i /\ ∀ e ∈ (O i).after, Region.binds .any e = true -> rV listed e.on) := by
  intro listed hsz i
  unfold Region.ready rV
  rw [aEi, aCP]
  constructor
  .rintro ⟨h1, h2⟩
   rw [r.op i h1] at h2
   simp only [aCe, aCB, aDu] at h2
   refine ⟨h1, ?_, fun e he hb => ?_⟩
   .have := h2.1
    rw [aCd] at this ⊢
    rw [aCo (by omega)] at this ⊢
    simpa using this
   .have := aC4.1 h2.2 e he
    simpa [hb] using this
  .rintro ⟨h1, h2, h3⟩
   refine ⟨h1, ?_⟩
   rw [r.op i h1]
   simp only [aCe, aCB, aDu]
   refine ⟨?_, aC4.2 fun e he => ?_⟩
   .rw [aCd] at h2 ⊢
    rw [aCo (by omega)] at h2 ⊢
    simpa using h2
   .by_cases hb : Region.binds .any e = true
    .simp [hb, h3 e he hb]
    .simp [hb]
 have none_ready : ∀ (listed : Array Bool), listed.size = ops.size -> Region.ready .any ops listed = [] -> ∀ i, i < ops.size -> rV listed i := by
  intro listed hsz hr i
  induction i using Nat.strongRecOn with
  | _ i ih =>
    intro hi
    refine Classical.byContradiction fun hl => ?_
    have : i ∈ Region.ready .any ops listed := (ready_iff listed hsz i).2 ⟨hi, hl, fun e he hb => by
     have := st.back i hi e he hb
     exact ih e.on this (by omega)⟩
    rw [hr] at this; cases this
 have all_done : ∀ (listed : Array Bool) (g : Env) (a : Act) (k : Nat), SL N g a -> k <= ops.size -> Qc ops.size O V g0 (rV listed) g →
     (∀ h, h < ops.size -> vH h an.1 = true -> (rV listed h ↔ h < k)) -> (∀ i, i < ops.size -> rV listed i) -> Q a (W k) := by
  intro listed g a k hr hk he hh hall
  have e : W ops.size = W k := r.still' hk (aCb _) (fun h h1 h2 => by
   cases hm : vH h an.1
   .rfl
   .have := (hh h h2 hm).1 (hall h h2); omega)
  have eg : g = G ops.size := funext fun s => he.agree (r.envFor ops.size (aCb _)) s (fun j hj _ => ⟨fun _ => hj, fun _ => hall j hj⟩)
  rw [<- e]; exact hQ a (eg ▸ hr)
 intro fuel
 induction fuel with
 | zero =>
   intro listed g a k hsz hr hk hdep henv hh hc
   have hall : ∀ i, i < ops.size -> rV listed i := by
    intro i hi
    have hnil : ((List.range ops.size).filter fun i => !listed.getD i false) = [] := aCK.1 (by omega)
    have := List.filter_eq_nil_iff.1 hnil i (aCP.2 hi)
    unfold rV; simpa using this
   refine ⟨?_, all_done listed g a k hr hk henv hh hall⟩
   rw [List.eq_nil_iff_forall_not_mem]
   intro i hi
   have := (ready_iff listed hsz i).1 hi
   exact this.2.1 (hall i this.1)
 | succ fuel ih =>
   intro listed g a k hsz hr hk hdep henv hh hc
   refine ⟨fun hn => all_done listed g a k hr hk henv hh (none_ready listed hsz hn), fun i hi => ?_⟩
   obtain ⟨h1, h2, h3⟩ := (ready_iff listed hsz i).1 hi
   have hdown : ∀ k j, j < ops.size -> k < ops.size -> rV listed k -> bef b j k = true -> rV listed j := by
    intro k
    induction k using Nat.strongRecOn with
    | _ k ihk =>
      intro j hj hk hl hb
      obtain ⟨e, he, hbi, h⟩ := st.closed j k hj hk hb
      have hle := hdep k hk hl e he hbi
      rcases h with h | h
      .exact h ▸ hle
      .have hlt := st.back k hk e he hbi
       exact ihk e.on hlt j hj (by omega) hle h
   have hbi : ∀ j, j < ops.size -> bef b j i = true -> rV listed j := by
    intro j hj hb
    obtain ⟨e, he, hbi, h⟩ := st.closed j i hj h1 hb
    have hle := h3 e he hbi
    rcases h with h | h
    .exact h ▸ hle
    .have hlt := st.back i h1 e he hbi
     exact hdown e.on j hj (by omega) hle h
   have hdown' : ∀ j k, j < ops.size -> k < ops.size -> rV listed k -> bef b j k = true -> rV listed j := fun j k => hdown k j
   have hlooks : ∀ s ∈ looks ops (O i), (G i) s = g s := fun s hs =>
    (r.envFor i (by omega)).agree henv s (fun j hj hd => by
      by_cases hji : j = i
      .subst hji
       exact ⟨fun h => absurd h (by omega), fun h => absurd h h2⟩
      .exact (st.order h1 hdown' hbi h2 (.inl hs) hj hji hd).symm)
   have hl' : ∀ j, rV (listed.setIfInBounds i true) j ↔ (rV listed j ∨ j = i) := by
    intro j
    unfold rV
    rw [aCd, aCd]
    by_cases hji : j = i
    .subst hji
     rw [aCy (by omega)]
     simp
    .rw [aCG (fun e => hji e.symm)]
     simp [hji]
   have next : ∀ k', k' <= ops.size -> (∀ h, h < ops.size -> vH h an.1 = true -> ((rV listed h ∨ h = i) ↔ h < k')) -> ZE P ops g (O i) (W k) (V i) (W k') →
       SC P ops i (aaE P ops Q fuel (listed.setIfInBounds i true)) a (W k) := by
    intro k' hk' hh' hy
    refine ZC (r.op i h1) (hca i _ (r.op i h1)) hd hr hy ?_
    refine ih _ (put g (O i).dst (V i)) _ k' (by simp [hsz]) (hr.put _ _ (hd i _ (r.op i h1))) hk' ?_ ?_ ?_ ?_
    .intro j hj hlj e he hb
     rw [hl'] at hlj ⊢
     rcases hlj with hlj | rfl
     .exact .inl (hdep j hj hlj e he hb)
     .exact .inl (h3 e he hb)
    .have := henv.step i h1 (fun s hs j hj hji hd hlj => (st.order h1 hdown' hbi h2 (.inr hs) hj hji hd).1 hlj)
     intro s
     rcases this s with ⟨j, j1, j2, j3, j4, j5⟩ | ⟨j1, j2⟩
     .exact .inl ⟨j, j1, (hl' j).2 j2, j3, fun k k1 k2 k3 => j4 k k1 ((hl' k).1 k2) k3, j5⟩
     .exact .inr ⟨fun j a b => j1 j a ((hl' j).1 b), j2⟩
    .intro h a b; rw [hl']; exact hh' h a b
    .have hin : i ∈ (List.range ops.size).filter fun i => !listed.getD i false :=
      aEi.2 ⟨aCP.2 h1, by unfold rV at h2; simpa using h2⟩
     have e1 : ((List.range ops.size).filter fun j => !(listed.setIfInBounds i true).getD j false) = ((List.range ops.size).filter fun j => !listed.getD j false).filter fun j => j != i := by
      rw [List.filter_filter]
      refine List.filter_congr fun j _ => ?_
      have := hl' j
      unfold rV at this
      by_cases hji : j = i
      .have hh : (listed.setIfInBounds i true).getD j false = true := this.2 (.inr hji)
       rw [hh, hji]; simp
      .have hne : (j != i) = true := by simpa using hji
       rw [hne, Bool.true_and]
       cases ha : listed.getD j false with
       | true => rw [this.2 (.inl ha)]
       | false =>
         cases hb : (listed.setIfInBounds i true).getD j false with
         | false => rfl
         | true => rcases this.1 hb with h | h
                   .rw [ha] at h; cases h
                   .exact absurd h hji
     have hnd : ((List.range ops.size).filter fun j => !listed.getD j false).Nodup := List.nodup_range.filter _
     rw [e1, <- List.Nodup.erase_eq_filter hnd, List.length_erase_of_mem hin]
     omega
   cases hm : vH i an.1 with
   | true =>
     have hS : ∀ h, h < ops.size -> vH h an.1 = true -> (rV listed h ↔ h < i) := by
      intro h hh1 hhm
      rcases aD9 h i with hlt | heq | hgt
      .refine ⟨fun _ => hlt, fun _ => ?_⟩
       have p := st.pair h i hlt h1
       unfold SE at p
       rw [hhm, hm] at p
       simp only [aDb, aCe, aBZ, and_false, or_false] at p
       exact hbi h hh1 p
      .subst heq; exact ⟨fun hh => absurd hh h2, fun hh => absurd hh (by omega)⟩
      .refine ⟨fun hl => ?_, fun hh => absurd hh (by omega)⟩
       have p := st.pair i h hgt hh1
       unfold SE at p
       rw [hhm, hm] at p
       simp only [aDb, aCe, aBZ, and_false, or_false] at p
       exact absurd (hdown h i h1 hh1 hl p) h2
     have eW : W k = W i := by
      rcases aEh k i with hki | hki
      .exact (r.still' hki (by omega) (fun h a b => by
        cases hx : vH h an.1
        .rfl
        .have := (hh h (by omega) hx).1 ((hS h (by omega) hx).2 b); omega)).symm
      .exact r.still' hki hk (fun h a b => by
        cases hx : vH h an.1
        .rfl
        .have := (hS h (by omega) hx).1 ((hh h (by omega) hx).2 b); omega)
     refine next (i + 1) (by omega) (fun h a b => ?_) ?_
     .rw [hS h a b]; omega
     .rw [eW]
      intro K hK
      exact WC (ops := ops) (st.sel i h1) hlooks (r.yld i h1 K hK)
   | false =>
     refine next k hk (fun h a b => ?_) ?_
     .rw [<- hh h a b]
      constructor
      .rintro (h' | rfl)
       .exact h'
       .rw [hm] at b; cases b
      .exact .inl
     .intro K hK
      exact WC (ops := ops) (st.sel i h1) hlooks (aiB rfl r st h1 hk hdown' hbi h2 hh hm K hK)
end
abbrev aaW (P : Program) : Machine -> Prop := Machine.fenced P Fence.wide
def wpF (P : Program) (f : FuncId) (ro : Option Nat) (c : Code) (Q : Exit -> Act -> aEl -> Prop) (a : Act) (w : aEl) : Prop :=
 ∀ (b : Frame) (k : List Item) (cs : List Frame), b.fn = f -> b.roundOf = ro -> ∃ e a' w', Q e a' w' /\ ArrivesIn (aaW P) P (lone (b.atR a (.code c :: k)) cs w) b k cs e a' w'
section
variable {P : Program} {f : FuncId} {ro : Option Nat} {Q : Exit -> Act -> aEl -> Prop} {a : Act} {w : aEl}
theorem Kk {m m1 : Machine} (h : step P m = .next m1) : StepsIn (aaW P) P m m1 := .one (fenced_wide P m) h
theorem Q0 {m m1 m2 : Machine} (h : step P m = .next m1) (h' : StepsIn (aaW P) P m1 m2) : StepsIn (aaW P) P m m2 := .head (fenced_wide P m) h h'
theorem atX (h : Q .normal a w) : wpF P f ro .skip Q a w := fun _ _ _ _ _ => ⟨.normal, a, w, h, Kk Go.stepR_skip⟩
theorem apG {l : Nat} (h : Q .normal a w) : wpF P f ro (.label l) Q a w := fun _ _ _ _ _ => ⟨.normal, a, w, h, Kk stepR_label⟩
theorem ahP {id : Nat} (h : Q (.exit id) a w) : wpF P f ro (.exit id) Q a w :=
 fun _ k _ _ _ => ⟨.exit id, a, w, h, fun _ hk => Kk (stepR_exit hk), fun _ hk => ⟨k, hk, .refl _⟩⟩
theorem anD (h : Q .ret a w) : wpF P f ro .ret Q a w :=
 fun _ k _ _ _ => ⟨.ret, a, w, h, fun hn => ⟨_, Kk (stepR_ret hn)⟩, fun _ => ⟨k, .refl _⟩⟩
theorem axR {x y : Code} (h : wpF P f ro x (Exit.then (wpF P f ro y Q) Q) a w) : wpF P f ro (.seq x y) Q a w := by
 intro b k cs hb hro
 obtain ⟨e, a1, w1, hq, har⟩ := h b (.code y :: k) cs hb hro
 cases e with
 | normal =>
   obtain ⟨e2, a2, w2, hq2, har2⟩ := hq b k cs hb hro
   exact ⟨e2, a2, w2, hq2, .of_steps (Q0 stepR_seq har) har2⟩
 | _ => exact ⟨_, a1, w1, hq, .of_steps (Kk stepR_seq) (.pass (x := .code y) rfl (fun _ _ => .inl (by simp)) har)⟩
theorem atZ {c : Operand} {x y : Code} {t : Bool} (hc : a.eval c = .bool t) (h : wpF P f ro (if t then x else y) Q a w) : wpF P f ro (.cond c x y) Q a w :=
 fun b k cs hb hro => let ⟨e, a1, w1, q, r⟩ := h b k cs hb hro; ⟨e, a1, w1, q, .of_steps (Kk (stepR_cond hc)) r⟩
theorem apF {id : Nat} {c : Code} (h : wpF P f ro c (Exit.inBlock id Q) a w) : wpF P f ro (.block id c) Q a w := by
 intro b k cs hb hro
 obtain ⟨e, a1, w1, hq, har⟩ := h b (.inBlock id :: k) cs hb hro
 cases e with
 | normal => exact ⟨.normal, a1, w1, hq, Q0 stepR_block (StepsIn.trans har (Kk stepR_inBlock))⟩
 | exit i =>
   by_cases hid : i = id
   .simp only [Exit.inBlock, hid, if_true] at hq
    exact ⟨.normal, a1, w1, hq, Q0 stepR_block (har.1 k (by simp [exitTo, hid]))⟩
   .simp only [Exit.inBlock, hid, if_false] at hq
    have this : (id == i) = false := by simp; exact fun h => hid h.symm
    have hx : exitTo i (.inBlock id :: k) = exitTo i k := by simp [exitTo, this]
    exact ⟨.exit i, a1, w1, hq, fun k' hk => Q0 stepR_block (har.1 k' (by rw [hx]; exact hk)),
     fun hr' hk => let ⟨k1, h1, h2⟩ := har.2 hr' (by rw [hx]; exact hk); ⟨k1, h1, Q0 stepR_block h2⟩⟩
 | goto l =>
   have hx : gotoIn l (.inBlock id :: k) = gotoIn l k := by simp [gotoIn]
   exact ⟨_, a1, w1, hq, fun k' hk => Q0 stepR_block (har.1 k' (by rw [hx]; exact hk)),
    fun hr' hk => let ⟨k1, h1, h2⟩ := har.2 hr' (by rw [hx]; exact hk); ⟨k1, h1, Q0 stepR_block h2⟩⟩
 | ret => exact ⟨_, a1, w1, hq, .of_steps (Kk stepR_block) har⟩
 | panic ch => exact ⟨_, a1, w1, hq, .of_steps (Kk stepR_block) har⟩
 | outgrown => exact ⟨_, a1, w1, hq, .of_steps (Kk stepR_block) har⟩
theorem Fk {b : Frame} {k : List Item} {cs : List Frame} {c : Code} :
 step P (lone (b.atR a (.code (.scope c) :: k)) cs w) = .next (lone (b.atR a (.code c :: .inScope c :: k)) cs w) :=
 step_lone_go (by simp [stepG, stepG.exec, Frame.atR])
theorem acL {b : Frame} {k : List Item} {cs : List Frame} {c : Code} :
 step P (lone (b.atR a (.inScope c :: k)) cs w) = .next (lone (b.atR a k) cs w) :=
 step_lone_go (by simp [stepG, stepG.exec, Frame.atR])
theorem aoW {c : Code} (h : wpF P f ro c (Exit.noGoto Q) a w) : wpF P f ro (.scope c) Q a w := by
 intro b k cs hb hro
 obtain ⟨e, a1, w1, hq, har⟩ := h b (.inScope c :: k) cs hb hro
 cases e with
 | normal => exact ⟨.normal, a1, w1, hq, Q0 Fk (StepsIn.trans har (Kk acL))⟩
 | exit id =>
   have hx : exitTo id (.inScope c :: k) = exitTo id k := by simp [exitTo]
   exact ⟨.exit id, a1, w1, hq, fun k' hk => Q0 Fk (har.1 k' (by rw [hx]; exact hk)),
    fun hr' hk => let ⟨k1, h1, h2⟩ := har.2 hr' (by rw [hx]; exact hk); ⟨k1, h1, Q0 Fk h2⟩⟩
 | goto l => exact hq.elim
 | ret => exact ⟨_, a1, w1, hq, .of_steps (Kk Fk) har⟩
 | panic ch => exact ⟨_, a1, w1, hq, .of_steps (Kk Fk) har⟩
 | outgrown => exact ⟨_, a1, w1, hq, .of_steps (Kk Fk) har⟩
theorem asA {c : Code} (I : Act -> aEl -> Prop) (μ : Act -> aEl -> Nat) (h0 : I a w)
 (round : ∀ a w, I a w -> wpF P f ro c (Exit.then (fun a' w' => I a' w' /\ μ a' w' < μ a w) Q) a w) : wpF P f ro (.loop c) Q a w := by
 intro b k cs hb hro
 have key : ∀ n a w, μ a w = n -> I a w →
     ∃ e a' w', Q e a' w' /\ ArrivesIn (aaW P) P (lone (b.atR a (.code c :: .inLoop c :: k)) cs w) b k cs e a' w' := by
  intro n
  induction n using Nat.strongRecOn with
  | _ n ih =>
    intro a w hn hI
    obtain ⟨e, a1, w1, hq, har⟩ := round a w hI b (.inLoop c :: k) cs hb hro
    cases e with
    | normal =>
      obtain ⟨hI1, hlt⟩ := hq
      obtain ⟨e2, a2, w2, hq2, har2⟩ := ih (μ a1 w1) (hn ▸ hlt) a1 w1 rfl hI1
      exact ⟨e2, a2, w2, hq2, .of_steps (StepsIn.trans har (Kk stepR_inLoop)) har2⟩
    | _ => exact ⟨_, a1, w1, hq, .pass (x := .inLoop c) rfl (fun _ _ => .inl (by simp)) har⟩
 obtain ⟨e, a', w', hq, har⟩ := key _ a w rfl h0
 exact ⟨e, a', w', hq, .of_steps (Kk stepR_loop) har⟩
theorem amD {ops : Array Oper} {L : List Nat} (h : Hy P ops (Q .normal) L a w) (b : Frame) (k : List Item) (cs : List Frame) (hro : b.roundOf = ro) :
 ∃ e a' w', Q e a' w' /\ ArrivesIn (aaW P) P (lone (b.atR a (.inRegion ops L :: k)) cs w) b k cs e a' w' := by
 obtain ⟨e, a', w', ⟨rfl, hq⟩, hs⟩ := wp_opsIn (F := abQ ro) (n := 0) L a w (anZ ro L a w h) b k cs hro trivial (fun _ h => by simp [abQ, Fence.wide] at h)
 exact ⟨.normal, a', w', hq, hs⟩
theorem ajO {id : Nat} {ops : Array Oper} (h : Hy P ops (Q .normal) (List.range ops.size) a w) : wpF P f ro (.region id ops false) Q a w := by
 intro b k cs hb hro
 obtain ⟨e, a1, w1, q, r⟩ := amD h b k cs hro
 exact ⟨e, a1, w1, q, .of_steps (Kk stepR_region) r⟩
theorem ZX (hm : P.follows .mixedOrders = true) {id : Nat} {ops : Array Oper}
 (h : Hy P ops (Q .normal) (Region.schedule true ops (w.tape w.drawn (.order f id))) a { w with drawn := w.drawn + 1 }) : wpF P f ro (.region id ops true) Q a w := by
 intro b k cs hb hro
 obtain ⟨e, a1, w1, q, r⟩ := amD h b k cs hro
 refine ⟨e, a1, w1, q, .of_steps (Kk ?_) r⟩
 have := @stepR_region_draw P b a k cs w ops id
 rw [hm, hb] at this
 exact this
def G3 (v : aEm) (w : aEl) (K : aEl -> Prop) : Prop :=
 match v with
 | .pointer (some a) => w.heap[a.block]? = some (.deferred (some [])) /\ K (w.putObj a.block (.deferred none))
 | _ => K w
def apJ (P : Program) (fn : Func) (R : aEm -> aEl -> Prop) : Exit -> Act -> aEl -> Prop
 | .normal, a, w | .ret, a, w => ∃ m, a.defers = aiU m /\ G3 m w fun w' => ∃ v, (results fn a.tmps).run P w' = .ok v w' /\ R v w'
 | _, _, _ => False
theorem agK {fn : Func} {R : aEm -> aEl -> Prop} {fr : Frame} {cs : List Frame} (hm : fr.mode = .returning) (hf : P.funcs[fr.fn]? = some fn) (hk : fr.kind = .normal) {m : aEm} (hd : fr.defers = aiU m)
 (h : G3 m w fun w' => ∃ v, (results fn fr.tmps).run P w' = .ok v w' /\ R v w') :
 ∃ v w' fr', R v w' /\ Steps P (lone fr cs w) (lone fr' cs w') /\ fr'.fn = fr.fn /\ fr'.leaving P w' (.returned v) := by
 have nil : fr.defers = [] -> (∃ v, (results fn fr.tmps).run P w = .ok v w /\ R v w) →
     ∃ v w' fr', R v w' /\ Steps P (lone fr cs w) (lone fr' cs w') /\ fr'.fn = fr.fn /\ fr'.leaving P w' (.returned v) := by
  rintro hd ⟨v, hv, hR⟩
  exact ⟨v, w, fr, hR, .refl _ _, rfl, hm, hd, hk, fn, hf, hv⟩
 cases m with
 | pointer p =>
   cases p with
   | none => exact nil hd h
   | some a =>
     obtain ⟨h1, v, hv, hR⟩ := h
     have hs := step_collected (P := P) (fr := fr) (cs := cs) (w := w) (d := { target := .collected a.block, args := #[] }) (r := a.block) (ds := []) (calls := [])
      (by rw [hm]; simp) hd rfl (run_takeDeferred h1)
     exact ⟨v, _, { fr with defers := [] }, hR, .head hs (.refl _ _), rfl, hm, rfl, hk, fn, hf, hv⟩
 | _ => exact nil hd h
theorem aeS {fn : Func} {c : Code} {args : Array aEm} {w : aEl} {R : aEm -> aEl -> Prop}
 (hf : P.funcs[f]? = some fn) (hb : fn.body = some c)
 (h : wpF P f none c (apJ P fn R) { tmps := args ++ Array.replicate (fn.ntmps - args.size) undef, defers := [] } w) : Calls P f args w fun e w' => ∃ v, e = .returned v /\ R v w' := by
 intro cs
 let b : Frame := { (default : Frame) with fn := f, kind := .normal, roundOf := none }
 have henter : Frame.enter P f args .normal = b.atR { tmps := args ++ Array.replicate (fn.ntmps - args.size) undef, defers := [] } [.code c] := by
  simp [Frame.enter, Frame.atR, hf, hb, b]
 obtain ⟨e, a', w', hq, har⟩ := h b [] cs rfl rfl
 rw [<- henter] at har
 cases e with
 | normal =>
   obtain ⟨m, hd, hq⟩ := hq
   obtain ⟨v, w2, fr, hR, hs, hfn, hl⟩ := agK (P := P) (cs := cs) (fr := { b.atR a' [] with mode := .returning }) rfl hf rfl hd hq
   exact ⟨.returned v, w2, fr, ⟨v, rfl, hR⟩, (StepsIn.steps har).trans (.head (stepR_end rfl) hs), hfn, hl⟩
 | ret =>
   obtain ⟨m, hd, hq⟩ := hq
   obtain ⟨todo, hs0⟩ := har.1 rfl
   obtain ⟨v, w2, fr, hR, hs, hfn, hl⟩ := agK (P := P) (cs := cs) (fr := { b.atR a' todo with mode := .returning }) rfl hf rfl hd hq
   exact ⟨.returned v, w2, fr, ⟨v, rfl, hR⟩, (StepsIn.steps hs0).trans hs, hfn, hl⟩
 | panic chain => exact hq.elim
 | exit id => exact hq.elim
 | goto l => exact hq.elim
 | outgrown => exact hq.elim
def ayF (P : Program) (f : FuncId) (Q : Exit -> Act -> aEl -> Prop) (a : Act) (w : aEl) : Option Code -> Prop
 | none => Q .normal a w
 | some c => wpF P f none c Q a w
theorem anX {gf : Operand} {ps : Array Tmp} {aBW bd : Code} {d : Deferred} {g : FuncId} {args : Array aEm} {w1 : aEl} {l : Nat} {mark : List Deferred} {w2 w3 : aEl} {v : aEm}
 (he : (Instr.enterLoop f a.tmps ps aBW bd none).run P w = .ok (l, mark) w1)
 (hres : (resolve a.eval (rangeCall gf l) 0).run P w1 = .ok d w1) (hinv : (invoke d.target d.args).run P w1 = .ok (.enter g args) w2)
 (hcall : Ret P g args w2 v w3)
 {jump : Option Code} {w4 : aEl} (hend : (Instr.endLoop l).run P w3 = .ok jump w4)
 (hj : ayF P f Q { a with defers := mark ++ a.defers } w4 jump) :
 wpF P f none (.rangeFunc gf ps aBW bd) Q a w := by
 intro b k cs hb hro
 rw [<- hb, <- hro] at he
 have henter := stepR_rangeFunc (P := P) (b := b) (a := a) (k := k) (cs := cs) (w := w) he hres hinv
 obtain ⟨e, w3', fr, ⟨rfl, rfl⟩, hsteps, hfn, hleave⟩ := hcall (b.atR { a with defers := mark ++ a.defers } (.inRangeFunc l :: k) :: cs)
 have sback : StepsIn (aaW P) P (lone (b.atR a (.code (.rangeFunc gf ps aBW bd) :: k)) cs w) (lone (b.atR { a with defers := mark ++ a.defers } ((jump.map Item.code).toList ++ k)) cs w4) := by
  refine Q0 henter (StepsIn.trans (stepsIn_wide.2 hsteps) (Q0 (m1 := lone (b.atR { a with defers := mark ++ a.defers } (.endRangeFunc l :: k)) cs w3') ?_ (Kk (stepR_endRangeFunc hend))))
  rw [<- finish_atR_inRangeFunc l v]; exact step_leave_returned hleave
 cases jump with
 | none => exact ⟨.normal, _, w4, hj, sback⟩
 | some c =>
   obtain ⟨e', a'', w5, hq, harr⟩ := hj b k cs hb hro
   exact ⟨e', a'', w5, hq, .of_steps sback harr⟩
def alD (P : Program) (l : Nat) (R : aEm -> aEl -> Prop) : Exit -> Act -> aEl -> Prop
 | .normal, _, w => ∃ v w', (Instr.endRound l none).run P w = .ok v w' /\ R v w'
 | .ret, _, w => ∃ v w', (Instr.endRound l (some .ret)).run P w = .ok v w' /\ R v w'
 | .exit id, _, w => ∃ v w', (Instr.endRound l (some (.exit id))).run P w = .ok v w' /\ R v w'
 | _, _, _ => False
theorem afI {l : Nat} {tmps : Array aEm} {aBW bd : Code} {R : aEm -> aEl -> Prop}
 (h : wpF P f (some l) aBW (Exit.then (fun a1 w1 => ∃ w2, (Instr.beginRound l).run P w1 = .ok () w2 /\ wpF P f (some l) bd (alD P l R) a1 w2) (fun _ _ _ => False))
   { tmps := tmps, defers := [] } w) :
 RoundIn Fence.wide 0 P l f tmps aBW bd w fun e w' => ∃ v, e = .returned v /\ R v w' := by
 refine ⟨trivial, fun c cs _ => ?_⟩
 let b : Frame := { (default : Frame) with fn := f, kind := .normal, roundOf := some l }
 have hb0 : Frame.round l f tmps aBW bd .normal = b.atR { tmps := tmps, defers := [] } [.code aBW, .beginRound, .code bd] := by
  simp [Frame.round, Frame.atR, b]
 obtain ⟨e, a1, w1, hq, harr⟩ := h b [.beginRound, .code bd] (c :: cs) rfl rfl
 rw [<- hb0] at harr
 cases e with
 | normal =>
   obtain ⟨w2, hbr, hbody⟩ := hq
   have s1 := Kk (stepR_beginRound (P := P) (b := b) (a := a1) (k := [.code bd]) (cs := c :: cs) rfl hbr)
   obtain ⟨e2, a2, w3, hq2, harr2⟩ := hbody b [] (c :: cs) rfl rfl
   cases e2 with
   | normal =>
     obtain ⟨v, w4, hend, hR⟩ := hq2
     exact ⟨.returned v, w4, ⟨v, rfl, hR⟩, (StepsIn.trans harr s1).trans (StepsIn.trans harr2 (Kk (stepR_round_end rfl rfl hend)))⟩
   | ret =>
     obtain ⟨v, w4, hend, hR⟩ := hq2
     obtain ⟨k1, hs⟩ := harr2.2 rfl
     exact ⟨.returned v, w4, ⟨v, rfl, hR⟩, (StepsIn.trans harr s1).trans (StepsIn.trans hs (Kk (stepR_round_ret rfl rfl hend)))⟩
   | exit id =>
     obtain ⟨v, w4, hend, hR⟩ := hq2
     obtain ⟨k1, hk, hs⟩ := harr2.2 rfl rfl
     exact ⟨.returned v, w4, ⟨v, rfl, hR⟩, (StepsIn.trans harr s1).trans (StepsIn.trans hs (Kk (stepR_round_exit rfl rfl hk hend)))⟩
   | goto t => exact hq2.elim
   | panic chain => exact hq2.elim
   | outgrown => exact hq2.elim
 | exit id => exact hq.elim
 | goto t => exact hq.elim
 | ret => exact hq.elim
 | panic chain => exact hq.elim
 | outgrown => exact hq.elim
end
def afX (ops : Array Oper) : Nat -> Array Bool -> List Nat -> Prop
 | 0, _, L => L = []
 | _ + 1, listed, [] => Region.ready .any ops listed = []
 | n + 1, listed, i :: L => i ∈ Region.ready .any ops listed /\ afX ops n (listed.setIfInBounds i true) L
section
variable {P : Program} {ops : Array Oper} {Q : Act -> aEl -> Prop}
theorem axJ : ∀ (fuel t : Nat) (listed : Array Bool), afX ops fuel listed (Region.linearise.go .any ops fuel t listed []) := by
 intro fuel
 induction fuel with
 | zero => intro t listed; simp [Region.linearise.go, afX]
 | succ fuel ih =>
   intro t listed
   simp only [Region.linearise.go]
   change afX ops (fuel + 1) listed (match (Region.ready .any ops listed)[t % (Region.ready .any ops listed).length]? with
    | some i => Region.linearise.go .any ops fuel (t / (Region.ready .any ops listed).length) (listed.setIfInBounds i true) [i]
    | none => [].reverse)
   cases hi : (Region.ready .any ops listed)[t % (Region.ready .any ops listed).length]? with
   | none =>
     have : Region.ready .any ops listed = [] := by
      cases hr : Region.ready .any ops listed with
      | nil => rfl
      | cons x xs =>
        rw [hr] at hi
        have hlt : t % (x :: xs).length < (x :: xs).length := aD6 _ (by simp)
        rw [aB8 hlt] at hi
        cases hi
     simpa [afX] using this
   | some i =>
     simp only []
     rw [linearise_go_acc]
     exact ⟨aDe hi, ih _ _⟩
theorem WO : ∀ (fuel : Nat) (listed : Array Bool) (L : List Nat) (a : Act) (w : aEl), aaE P ops Q fuel listed a w -> afX ops fuel listed L -> Hy P ops Q L a w := by
 intro fuel
 induction fuel with
 | zero => intro listed L a w h hL; obtain rfl : L = [] := hL; exact h.2
 | succ fuel ih =>
   intro listed L a w h hL
   cases L with
   | nil => exact h.1 hL
   | cons i L =>
     exact alR (fun a w hh => ih _ _ a w hh hL.2) (h.2 i hL.1)
end
structure acT (π : List Nat) (ops : Array Oper) : Prop where
 len : π.length = ops.size
 to : ∀ i, i < ops.size -> B7 π i < ops.size /\ π[B7 π i]? = some i
 back : ∀ k, k < ops.size -> ∃ i, π[k]? = some i /\ B7 π i = k /\ i < ops.size
 after : ∀ (i : Nat) (o : Oper), ops[i]? = some o -> ∀ e ∈ o.after, e.on < ops.size
 guard : ∀ (i : Nat) (o : Oper) (j : Nat) (b : Bool), ops[i]? = some o -> o.guard = some (j, b) -> j < ops.size
theorem axM {π : List Nat} {ops : Array Oper} (h : ajX π ops = true) : acT π ops := by
 unfold ajX at h
 simp only [aCe] at h
 obtain ⟨⟨⟨h1, h2⟩, h3⟩, h4⟩ := h
 have h1 := aCx h1
 have at4 : ∀ (i : Nat) (o : Oper), ops[i]? = some o -> (o.after.all fun e => Nat.blt e.on ops.size) = true /\ (match o.guard with | some (j, _) => Nat.blt j ops.size | none => true) = true := by
  intro i o ho
  have hi : i < ops.size := by
   rcases aCk i ops.size with h | h
   .exact h
   .rw [aC1 h] at ho; cases ho
  have := aCE.1 h4 i (aCP.2 hi)
  rw [ho] at this
  simp only [aCe] at this
  refine ⟨this.1, ?_⟩
  have h := this.2
  revert h
  cases o.guard <;> exact id
 refine ⟨h1, fun i hi => ?_, fun k hk => ?_, fun i o ho e he => ?_, fun i o j b ho hg => ?_⟩
 .have := aCE.1 h3 i (aCP.2 hi)
  cases hp : π[B7 π i]? with
  | none => rw [hp] at this; cases this
  | some j =>
    rw [hp] at this
    obtain rfl := aCx this
    refine ⟨?_, rfl⟩
    rcases aCk (B7 π j) π.length with h | h
    .omega
    .rw [aCj h] at hp; cases hp
 .have := aCE.1 h2 k (aCP.2 hk)
  cases hp : π[k]? with
  | none => rw [hp] at this; cases this
  | some i =>
    rw [hp] at this
    simp only [aCe] at this
    exact ⟨i, rfl, aCx this.1, (aDH (x := i) (y := ops.size)) ▸ this.2⟩
 .have := aC4.1 (at4 i o ho).1 e he
  exact (aDH (x := e.on) (y := ops.size)) ▸ this
 .have := (at4 i o ho).2
  rw [hg] at this
  exact (aDH (x := j) (y := ops.size)) ▸ this
theorem aeG {π : List Nat} {es : List (Nat × Nat)} {l : List Oper} : ∀ (r : List Nat), (∀ i ∈ r, i < l.length) -> (Wt π es l r).length = r.length /\ ∀ k i : Nat, r[k]? = some i -> (Wt π es l r)[k]? = (l[i]?).map (Nw π es i) := by
 intro r
 induction r with
 | nil => intro _; exact ⟨rfl, fun k i h => by simp at h⟩
 | cons j r ih =>
   intro h
   obtain ⟨h1, h2⟩ := ih fun i hi => h i (aCh _ hi)
   have hj : j < l.length := h j (by simp)
   simp only [Wt, aB8 hj]
   refine ⟨by simp [h1], fun k i hk => ?_⟩
   cases k with
   | zero => simp at hk; subst hk; simp [aB8 hj]
   | succ k => simp at hk ⊢; exact h2 k i hk
section
variable {P : Program} {ops : Array Oper} {Q : Act -> aEl -> Prop} {π : List Nat} {es : List (Nat × Nat)}
theorem acT.mem (p : acT π ops) : ∀ i ∈ π, i < ops.toList.length := by
 intro i hi
 obtain ⟨k, hk, e⟩ := aCX hi
 obtain ⟨j, h1, _, h2⟩ := p.back k (by rw [<- p.len]; exact hk)
 rw [aB8 hk] at h1
 cases h1
 rw [<- e]; simpa using h2
theorem acT.size (p : acT π ops) : (uU π es ops).size = ops.size := by
 unfold uU
 rw [List.size_toArray, (aeG (es := es) (π := π) π p.mem).1, p.len]
theorem acT.get (p : acT π ops) {i : Nat} (hi : i < ops.size) : (uU π es ops)[B7 π i]? = (ops[i]?).map (Nw π es i) := by
 unfold uU
 have := (aeG (es := es) (π := π) π p.mem).2 (B7 π i) i (p.to i hi).2
 rw [aDP] at this
 simpa using this
theorem akF {i : Nat} {o : Oper} {a : Act} {w : aEl} {K : Act -> aEl -> Prop} : akR P (Nw π es i o) a w K ↔ akR P o a w K := by
 unfold akR
 have h1 : execOp a.eval (Nw π es i o) = execOp a.eval o := by
  obtain ⟨d, op, ty, ps, af, g⟩ := o
  cases op <;> rfl
 have h2 : adI (Nw π es i o) = adI o := rfl
 rw [h1, h2]
 generalize (execOp a.eval o).run P w = r
 cases r with
 | ok n w => cases n <;> exact Iff.rfl
 | halt x w => exact Iff.rfl
theorem ajG (p : acT π ops) {i : Nat} {o : Oper} (ho : ops[i]? = some o) (tmps : Array aEm) :
 Region.wanted (Nw π es i o) (yielded (uU π es ops) tmps) = Region.wanted o (yielded ops tmps) := by
 unfold Region.wanted Nw
 simp only
 cases hg : o.guard with
 | none => rfl
 | some q =>
   obtain ⟨j, b⟩ := q
   simp only
   have hj := p.guard i o j b ho hg
   have : (uU π es ops)[B7 π j]?.bind (·.dst) = (ops[j]?).bind (·.dst) := by
    rw [p.get hj]
    cases ops[j]? <;> rfl
   unfold yielded
   rw [this]
theorem alU (p : acT π ops) : ∀ (L : List Nat), (∀ i ∈ L, i < ops.size) -> ∀ (a : Act) (w : aEl), Hy P (uU π es ops) Q (L.map (B7 π)) a w -> Hy P ops Q L a w := by
 intro L
 induction L with
 | nil => intro _ a w h; exact h
 | cons i L ih =>
   intro hL a w h
   rw [aCz] at h
   simp only [Hy] at h ⊢
   have hi := hL i (by simp)
   have ih := ih fun i hi => hL i (aCh _ hi)
   unfold SC at h ⊢
   rw [p.get hi] at h
   rw [aCo hi] at h ⊢
   simp only [aCB] at h
   rw [ajG p (aCo hi)] at h
   simp only
   split
   .rename_i hw
    rw [if_pos hw, akF] at h
    exact adO (fun a w => ih a w) h
   .rename_i hw
    rw [if_neg hw] at h
    exact ih _ _ h
theorem TW {ops : Array Oper} {listed : Array Bool} (hsz : listed.size = ops.size) (i : Nat) :
 i ∈ Region.ready .any ops listed ↔ (i < ops.size /\ listed.getD i false = false /\ ∀ o, ops[i]? = some o -> ∀ e ∈ o.after, Region.binds .any e = true -> listed.getD e.on false = true) := by
 unfold Region.ready
 rw [aEi, aCP]
 constructor
 .rintro ⟨h1, h2⟩
  rw [aCo h1] at h2
  simp only [aCe, aCB, aDu] at h2
  refine ⟨h1, ?_, fun o ho e he hb => ?_⟩
  .have := h2.1
   rw [aCd] at this ⊢
   rw [aCo (by omega)] at this ⊢
   simpa using this
  .rw [aCo h1] at ho
   cases ho
   have := aC4.1 h2.2 e he
   simpa [hb] using this
 .rintro ⟨h1, h2, h3⟩
  refine ⟨h1, ?_⟩
  rw [aCo h1]
  simp only [aCe, aCB, aDu]
  refine ⟨?_, aC4.2 fun e he => ?_⟩
  .rw [aCd] at h2 ⊢
   rw [aCo (by omega)] at h2 ⊢
   simpa using h2
  .by_cases hb : Region.binds .any e = true
   .simp [hb, h3 _ (aCo h1) e he hb]
   .simp [hb]
theorem auL {π : List Nat} {i : Nat} : ∀ {es : List (Nat × Nat)} {e : Edge}, e ∈ J1 π i es -> ∃ a, (a, i) ∈ es /\ e.on = B7 π a := by
 intro es
 induction es with
 | nil => intro e h; simp [J1] at h
 | cons q r ih =>
   obtain ⟨a, b⟩ := q
   intro e h
   simp only [J1] at h
   cases hb : Nat.beq b i with
   | true =>
     rw [hb] at h
     obtain rfl := aCx hb
     rcases aCS.1 h with rfl | h
     .exact ⟨a, by simp, rfl⟩
     .obtain ⟨a, h1, h2⟩ := ih h; exact ⟨a, aCh _ h1, h2⟩
   | false => rw [hb] at h; obtain ⟨a, h1, h2⟩ := ih h; exact ⟨a, aCh _ h1, h2⟩
theorem apW (p : acT π ops) {L0 : List Nat} (hes : ∀ q ∈ es, L0.idxOf q.1 <= L0.idxOf q.2 /\ q.1 ≠ q.2 /\ q.1 < ops.size) :
 ∀ (fuel : Nat) (listed listed' : Array Bool) (pre L : List Nat), L0 = pre ++ L -> listed.size = ops.size -> listed'.size = ops.size →
   (∀ j, j < ops.size -> listed'.getD (B7 π j) false = listed.getD j false) -> (∀ j ∈ pre, listed.getD j false = true) -> (∀ j, listed.getD j false = true -> j ∈ pre) →
   afX ops fuel listed L -> afX (uU π es ops) fuel listed' (L.map (B7 π)) /\ ∀ i ∈ L, i < ops.size := by
 intro fuel
 induction fuel with
 | zero => intro listed listed' pre L _ _ _ _ _ _ h; obtain rfl : L = [] := h; exact ⟨rfl, by simp⟩
 | succ fuel ih =>
   intro listed listed' pre L hL0 hs hs' hrel hpre hpre' h
   have hsz : (uU π es ops).size = ops.size := p.size
   cases L with
   | nil =>
     refine ⟨?_, by simp⟩
     show Region.ready .any (uU π es ops) listed' = []
     rw [List.eq_nil_iff_forall_not_mem]
     intro k hk
     obtain ⟨h1, h2, h3⟩ := (TW (by omega) k).1 hk
     obtain ⟨i, hi1, hi2, hi3⟩ := p.back k (by omega)
     have : i ∈ Region.ready .any ops listed := by
      refine (TW hs i).2 ⟨hi3, ?_, fun o ho e he hb => ?_⟩
      .rw [<- hrel i hi3, hi2]; exact h2
      .have g := p.get (es := es) hi3
       rw [hi2, ho] at g
       have hon := p.after i o ho e he
       have := h3 _ g ⟨B7 π e.on, e.ground⟩ (by
        simp only [Nw, List.mem_toArray, aC3, aCU]
        exact .inl ⟨e, by simpa using he, rfl⟩) (by unfold Region.binds at hb ⊢; exact hb)
       rw [<- hrel e.on hon]; exact this
     rw [show Region.ready .any ops listed = [] from h] at this
     cases this
   | cons i L =>
     obtain ⟨h1, h2⟩ := h
     obtain ⟨r1, r2, r3⟩ := (TW hs i).1 h1
     have hnot : i ∉ pre := fun hm => by rw [hpre i hm] at r2; cases r2
     have hidx : L0.idxOf i = pre.length := by
      rw [hL0, List.idxOf_append, if_neg hnot]; simp
     have ready' : B7 π i ∈ Region.ready .any (uU π es ops) listed' := by
      refine (TW (by omega) _).2 ⟨by rw [hsz]; exact (p.to i r1).1, by rw [hrel i r1]; exact r2, fun o' ho' e' he' hb => ?_⟩
      rw [p.get r1, aCo r1] at ho'
      simp only [aCB, Option.some.injEq] at ho'
      subst ho'
      simp only [Nw, List.mem_toArray, aC3, aCU] at he'
      rcases he' with ⟨e, he, rfl⟩ | he'
      .have ho := aCo r1
       have he2 : e ∈ ops[i].after := by simpa using he
       rw [hrel e.on (p.after i _ ho e he2)]
       exact r3 _ ho e he2 (by unfold Region.binds at hb ⊢; exact hb)
      .obtain ⟨a, ha, hon⟩ := auL he'
       obtain ⟨q1, q2, q3⟩ := hes _ ha
       simp only at q1 q2 q3
       rw [hon, hrel a q3]
       refine hpre a ?_
       rw [hidx] at q1
       rw [hL0, List.idxOf_append] at q1
       by_cases hm : a ∈ pre
       .exact hm
       .rw [if_neg hm] at q1
        exfalso
        have hz : (i :: L).idxOf a = 0 := by omega
        rw [List.idxOf_cons] at hz
        cases hb : (i == a) with
        | true => exact q2 (by simpa using (beq_iff_eq.1 hb).symm)
        | false => rw [hb] at hz; simp at hz
     have hlen' : listed'.size = ops.size := hs'
     obtain ⟨k1, k2⟩ := ih (listed.setIfInBounds i true) (listed'.setIfInBounds (B7 π i) true) (pre ++ [i]) L (by rw [hL0]; simp) (by simp [hs]) (by simp [hs'])
      (fun j hj => by
       by_cases hji : j = i
       .subst hji
        rw [aCd, aCd, aCy (by rw [hs']; exact (p.to j hj).1), aCy (by omega)]
       .have hne : B7 π i ≠ B7 π j := fun e => by
         have a1 := (p.to i r1).2
         have a2 := (p.to j hj).2
         rw [e] at a1
         rw [a1] at a2
         exact hji (aCF a2).symm
        have := hrel j hj
        rw [aCd, aCd] at this ⊢
        rw [aCG hne, aCG (fun e => hji e.symm)]
        exact this)
      (fun j hj => by
       rw [aCd]
       rcases aC3.1 hj with hj | hj
       .by_cases hji : j = i
        .subst hji; rw [aCy (by omega)] <;> rfl
        .rw [aCG (fun e => hji e.symm), <- aCd]; exact hpre j hj
       .have : j = i := by simpa using hj
        subst this
        rw [aCy (by omega)] <;> rfl)
      (fun j hj => by
       by_cases hji : j = i
       .subst hji; simp
       .rw [aCd, aCG (fun e => hji e.symm), <- aCd] at hj
        exact aDo _ (hpre' j hj))
      h2
     exact ⟨⟨ready', k1⟩, fun j hj => (aCS.1 hj).elim (fun e => e ▸ r1) (k2 j)⟩
end
section
variable {P : Program} {ops : Array Oper}
theorem Zx {N : Nat} {an : Ann} {pl : aiL} (hok : aaQ ops an = true) (hpl : abG ops.size an pl = true) (hd : Wf N ops) (hca : WG P ops)
 {K : Env -> aEl -> Prop} {Q : Act -> aEl -> Prop} (hQ : ∀ g a w, SL N g a -> K g w -> Q a w) {g : Env} {a : Act} {w : aEl} (hr : SL N g a)
 (h : xG P ops ops.toList pl [] g w K) : aaE P ops Q ops.size (Array.replicate ops.size false) a w := by
 have r0 : Run P ops an g w 0 (fun _ => default) (fun _ => g) (fun _ => w) (fun _ => undef) :=
  ⟨rfl, rfl, fun i hi => by omega, fun i hi => by omega, fun i hi => by omega, fun i hi => by omega, fun i j _ hj => by omega⟩
 obtain ⟨O, G, W, V, r, hk⟩ := ahW hpl ops.toList 0 [] _ _ _ _ (fun j => by simp) (by simp) r0 (fun i hi => by omega) h
 simp only [aB4, aDt] at r hk
 have st := aoZ hok r.op
 have := atO (Q := Q) (n := ops.size) rfl hd hca r st (fun a hra => hQ _ a _ hra hk) ops.size (Array.replicate ops.size false) g a 0 (by simp) hr (by omega)
  (fun j hj hl => by unfold rV at hl; simp [aCd, hj] at hl)
  (fun s => .inr ⟨fun j hj hl => by unfold rV at hl; simp [aCd, hj] at hl, rfl⟩)
  (fun h hh _ => ⟨fun hl => by unfold rV at hl; simp [aCd, hh] at hl, fun hl => by omega⟩)
  (aCV (List.length_filter_le _ _) (by simp))
 rw [r.w0] at this
 exact this
theorem Ya {N : Nat} {ops : Array Oper} (h : ops.all (amW N) = true) : Wf N ops := by
 intro i o ho t ht
 have := aC4.1 h o (aEf ho)
 unfold amW at this
 rw [ht] at this
 exact (aDH (x := t) (y := N)) ▸ this
theorem acB {ops : Array Oper} (h : ops.all (Fx P) = true) : WG P ops :=
 fun _ o ho => aC4.1 h o (aEf ho)
theorem akC {N : Nat} {f : FuncId} {id : Nat} (hd : Wf N ops) (hca : WG P ops)
 {K : Env -> aEl -> Prop} {Q : Act -> aEl -> Prop} (hQ : ∀ g a w, SL N g a -> K g w -> Q a w) {g : Env} {a : Act} {w0 w : aEl} (hr : SL N g a) :
 ∀ (T : HT) (path : List (Nat × Nat)), VY P N ops path T = true →
   (∀ q ∈ path, (Region.schedule true ops (w0.tape w0.drawn (.order f id))).idxOf q.1 <= (Region.schedule true ops (w0.tape w0.drawn (.order f id))).idxOf q.2 /\ q.1 ≠ q.2) →
   aiA P f id ops T g w0 w K -> Hy P ops Q (Region.schedule true ops (w0.tape w0.drawn (.order f id))) a w := by
 have lin : afX ops ops.size (Array.replicate ops.size false) (Region.schedule true ops (w0.tape w0.drawn (.order f id))) := by
  unfold Region.schedule
  simp only [Bool.true_or, if_true]
  exact axJ _ _ _
 generalize hL : Region.schedule true ops (w0.tape w0.drawn (.order f id)) = L at lin ⊢
 intro T
 induction T with
 | leaf an pl =>
   intro path hok _ h
   simp only [VY, aCe] at hok
   exact WO _ _ _ _ _ (Zx hok.1 hok.2 hd hca hQ hr h) lin
 | perm π es an pl =>
   intro path hok hpath h
   simp only [VY, aCe] at hok
   obtain ⟨⟨⟨⟨⟨h1, h2⟩, h3⟩, h4⟩, h5⟩, h6⟩ := hok
   have p := axM h2
   have hes : ∀ q ∈ es, L.idxOf q.1 <= L.idxOf q.2 /\ q.1 ≠ q.2 /\ q.1 < ops.size := fun q hq => by
    have := aCE.1 h1 q hq
    simp only [aCe] at this
    have hp := hpath q (avH this.1)
    exact ⟨hp.1, hp.2, (aDH (x := q.1) (y := ops.size)) ▸ this.2⟩
   obtain ⟨k1, k2⟩ := apW (es := es) p hes ops.size (Array.replicate ops.size false) (Array.replicate ops.size false) [] L rfl (by simp) (by simp)
    (fun j hj => by simp [aCd, hj, (p.to j hj).1]) (by simp)
    (fun j hj => by rw [aCd] at hj; by_cases hh : j < ops.size <;> simp [hh] at hj) lin
   have hw := Zx h5 h6 (Ya h3) (acB h4) hQ hr h
   rw [p.size] at hw
   exact alU (es := es) p L k2 a w (WO _ _ _ _ _ hw k1)
 | split x y A B ihA ihB =>
   intro path hok hpath h
   simp only [VY, aCe] at hok
   have hne : x ≠ y := by
    intro e
    have := hok.1.1
    rw [e] at this
    simp at this
   simp only [aiA] at h
   unfold Ord axB at h
   rw [hL] at h
   cases hb : Nat.ble (L.idxOf x) (L.idxOf y) with
   | true =>
     rw [hb] at h
     refine ihA _ hok.1.2 (fun q hq => ?_) h
     rcases aCS.1 hq with rfl | hq
     .exact ⟨aDk hb, hne⟩
     .exact hpath q hq
   | false =>
     rw [hb] at h
     refine ihB _ hok.2 (fun q hq => ?_) h
     rcases aCS.1 hq with rfl | hq
     .refine ⟨?_, hne.symm⟩
      simp only
      rcases aCk (L.idxOf y) (L.idxOf x) with hh | hh
      .omega
      .have := Nat.ble_eq_true_of_le hh; rw [this] at hb; cases hb
     .exact hpath q hq
end
section
variable {P : Program} {ann : FA}
def tR : List Oper -> List Nat
 | [] => []
 | o :: r => match o.dst with | some d => d :: tR r | none => tR r
def U1 : Code -> List Nat
 | .region _ ops _ => tR ops.toList
 | .seq x y => U1 x ++ U1 y
 | .cond _ x y => U1 x ++ U1 y
 | .block _ c => U1 c
 | .scope c => U1 c
 | .loop c => U1 c
 | .rangeFunc .. => [DS]
 | _ => []
def rR (l : List Nat) (g g' : Env) : Prop := ∀ s, s ∉ l -> g' s = g s
theorem rR.refl (l : List Nat) (g : Env) : rR l g g := fun _ _ => rfl
theorem rR.trans {l l1 l2 : List Nat} {a b c : Env} (h : rR l1 a b) (k : rR l2 b c) (h1 : ∀ s, s ∈ l1 -> s ∈ l) (h2 : ∀ s, s ∈ l2 -> s ∈ l) : rR l a c :=
 fun s hs => (k s fun h => hs (h2 s h)).trans (h s fun h => hs (h1 s h))
theorem rR.mono {l l1 : List Nat} {a b : Env} (h : rR l1 a b) (h1 : ∀ s, s ∈ l1 -> s ∈ l) : rR l a b := fun s hs => h s fun hh => hs (h1 s hh)
theorem rR.put {l : List Nat} {a : Env} (d : Option Tmp) (v : aEm) (h : ∀ t, d = some t -> t ∈ l) : rR l a (put a d v) := by
 intro s hs
 cases d with
 | none => rfl
 | some t =>
   rw [O7, if_neg (fun e => hs (by rw [e]; exact h t rfl))]
theorem akK {ops : Array Oper} {K : Env -> aEl -> Prop} : ∀ (l : List Oper) (g : Env) (w : aEl), aaS P ops l g w K →
 ∃ g' w', K g' w' /\ rR (tR l) g g' /\ ∀ K' : Env -> aEl -> Prop, K' g' w' -> aaS P ops l g w K' := by
 intro l
 induction l with
 | nil => intro g w h; exact ⟨g, w, h, rR.refl _ _, fun _ h => h⟩
 | cons o l ih =>
   intro g w h
   obtain ⟨v, w1, hy, h1⟩ := P7 h
   obtain ⟨g', w', hk, ha, hall⟩ := ih _ _ h1
   refine ⟨g', w', hk, ?_, fun K' hk' => hy _ (hall K' hk')⟩
   refine rR.trans (rR.put o.dst v (l := tR (o :: l)) fun t ht => by simp [tR, ht]) ha (fun _ h => h) (fun s hs => ?_)
   unfold tR
   split
   .exact aCh _ hs
   .exact hs
theorem Zj {ops : Array Oper} {K : Env -> aEl -> Prop} : ∀ (l : List Oper) (pl : aiL) (hist : List Rec) (g : Env) (w : aEl), xG P ops l pl hist g w K →
 ∃ g' w', K g' w' /\ rR (tR l) g g' /\ ∀ K' : Env -> aEl -> Prop, K' g' w' -> xG P ops l pl hist g w K' := by
 intro l
 induction l with
 | nil => intro pl hist g w h; unfold xG at h; exact ⟨g, w, h, rR.refl _ _, fun _ h => (by unfold xG; exact h)⟩
 | cons o l ih =>
   intro pl hist g w h
   cases pl with
   | nil => exact h.elim
   | cons p pl =>
     obtain ⟨hv, ks⟩ := p
     obtain ⟨v, w1, hy, h1⟩ := P7 h
     have tail : ∀ (w2 : aEl) (hist' : List Rec), xG P ops l pl hist' (put g o.dst v) w2 K →
         ∃ g' w', K g' w' /\ rR (tR (o :: l)) g g' /\ ∀ K' : Env -> aEl -> Prop, K' g' w' -> xG P ops l pl hist' (put g o.dst v) w2 K' := by
      intro w2 hist' c2
      obtain ⟨g', w', hk, ha, hall⟩ := ih _ _ _ _ c2
      refine ⟨g', w', hk, ?_, hall⟩
      refine rR.trans (rR.put o.dst v (l := tR (o :: l)) fun t ht => by simp [tR, ht]) ha (fun _ h => h) (fun s hs => ?_)
      unfold tR
      split
      .exact aCh _ hs
      .exact hs
     cases hv with
     | true =>
       cases ks with
       | nil =>
         obtain ⟨g', w', hk, ha, hall⟩ := tail w1 _ h1
         exact ⟨g', w', hk, ha, fun K' hk' => hy _ (hall K' hk')⟩
       | cons k ks =>
         obtain ⟨hc, h1⟩ := h1
         obtain ⟨g', w', hk, ha, hall⟩ := tail w1 _ h1
         exact ⟨g', w', hk, ha, fun K' hk' => hy _ ⟨hc, hall K' hk'⟩⟩
     | false =>
       cases ks with
       | nil =>
         obtain ⟨rfl, h1⟩ := h1
         obtain ⟨g', w', hk, ha, hall⟩ := tail w1 _ h1
         exact ⟨g', w', hk, ha, fun K' hk' => hy _ ⟨rfl, hall K' hk'⟩⟩
       | cons k ks =>
         obtain ⟨rfl, hc, h1⟩ := h1
         obtain ⟨g', w', hk, ha, hall⟩ := tail w1 _ h1
         exact ⟨g', w', hk, ha, fun K' hk' => hy _ ⟨rfl, hc, hall K' hk'⟩⟩
theorem MG {l : List Oper} {s : Nat} : s ∈ tR l ↔ ∃ o ∈ l, o.dst = some s := by
 induction l with
 | nil => simp [tR]
 | cons o l ih =>
   unfold tR
   cases hd : o.dst with
   | none => simp [ih, hd]
   | some d => simp [ih, hd, eq_comm]
theorem ajU {π : List Nat} {es : List (Nat × Nat)} {l : List Oper} {s : Nat} : ∀ (r : List Nat), s ∈ tR (Wt π es l r) -> s ∈ tR l := by
 intro r
 induction r with
 | nil => intro h; simp [Wt, tR] at h
 | cons i r ih =>
   intro h
   simp only [Wt] at h
   cases ho : l[i]? with
   | none => rw [ho] at h; exact ih h
   | some o =>
     rw [ho] at h
     obtain ⟨o', h1, h2⟩ := MG.1 h
     rcases aCS.1 h1 with rfl | h1
     .exact MG.2 ⟨o, aDe ho, h2⟩
     .exact ih (MG.2 ⟨o', h1, h2⟩)
theorem auK {f : FuncId} {id : Nat} {ops : Array Oper} {K : Env -> aEl -> Prop} {g : Env} {w0 : aEl} : ∀ (T : HT) (w : aEl), aiA P f id ops T g w0 w K →
 ∃ g' w', K g' w' /\ rR (tR ops.toList) g g' /\ ∀ K' : Env -> aEl -> Prop, K' g' w' -> aiA P f id ops T g w0 w K' := by
 intro T
 induction T with
 | leaf an pl => intro w h; exact Zj _ _ _ _ _ h
 | perm π es an pl =>
   intro w h
   obtain ⟨g', w', a, b, c⟩ := Zj _ _ _ _ _ h
   exact ⟨g', w', a, b.mono (fun s hs => ajU π (by simpa [uU] using hs)), c⟩
 | split x y A B ihA ihB =>
   intro w h
   simp only [aiA, Ord] at h ⊢
   cases hb : axB f id ops x y w0 with
   | true => rw [hb] at h; exact ihA w h
   | false => rw [hb] at h; exact ihB w h
theorem kP.head {α : Type} {F : (α -> aEl -> Prop) -> α -> aEl -> Prop} (hmono : ∀ X Y g w, (∀ g w, X g w -> Y g w) -> F X g w -> F Y g w)
 {g : α} {w : aEl} (h : F (fun g' w' => kP F g' w') g w) (hdet : ∃ g' w', kP F g' w' /\ ∀ X : α -> aEl -> Prop, X g' w' -> F X g w) : kP F g w := by
 obtain ⟨g1, w1, ⟨I, ⟨n1, h1⟩, hI⟩, hF⟩ := hdet
 refine ⟨fun n g' w' => I n g' w' ∨ (n = n1 + 1 /\ g' = g /\ w' = w), ⟨n1 + 1, .inr ⟨rfl, rfl, rfl⟩⟩, ?_⟩
 rintro n g' w' (h | ⟨rfl, rfl, rfl⟩)
 .exact hmono _ _ _ _ (fun _ _ ⟨m, hm, hh⟩ => ⟨m, hm, .inl hh⟩) (hI _ _ _ h)
 .exact hF _ ⟨n1, by omega, .inl h1⟩
theorem azS {f : FuncId} {gf : Operand} {ps : Array Tmp} {aBW bd : Code} {Q : Exit -> Env -> aEl -> Prop} {g : Env} {w : aEl} (h : RF P f gf ps aBW bd Q g w) :
 ∃ e g' w', Q e g' w' /\ rR [DS] g g' /\ ∀ Q' : Exit -> Env -> aEl -> Prop, Q' e g' w' -> RF P f gf ps aBW bd Q' g w := by
 unfold RF at h ⊢
 cases hn : noMark (g DS) with
 | false => rw [hn] at h; exact h.elim
 | true =>
   rw [hn] at h
   simp only at h ⊢
   generalize (EC (ev g gf) [KP (w.heap.size + 1)]).run P (rfW f (Yi P f) ps aBW bd g w) = r at *
   match r, h with
   | .ok (.enter f2 args) w1, h =>
     obtain ⟨v, w3, hret, r, h1, h2, h3⟩ := h
     have ha : rR [DS] g (put g (some DS) (.pointer (some ⟨w.heap.size, 0, none⟩))) := rR.put _ _ (fun t ht => by cases ht; simp)
     cases hp : r.pending with
     | none =>
       rw [hp] at h3
       exact ⟨.normal, _, _, h3, ha, fun Q' h => ⟨v, w3, hret, r, h1, h2, by rw [hp]; exact h⟩⟩
     | some c =>
       rw [hp] at h3
       cases c <;> first
        | exact h3.elim
        | exact ⟨.ret, _, _, h3, ha, fun Q' h => ⟨v, w3, hret, r, h1, h2, by rw [hp]; exact h⟩⟩
        | exact ⟨.exit _, _, _, h3, ha, fun Q' h => ⟨v, w3, hret, r, h1, h2, by rw [hp]; exact h⟩⟩
theorem Z2 : ∀ (c : Code) (Q : Exit -> Env -> aEl -> Prop) (g : Env) (w : aEl), jO P ann c Q g w →
 ∃ e g' w', Q e g' w' /\ rR (U1 c) g g' /\ ∀ Q' : Exit -> Env -> aEl -> Prop, Q' e g' w' -> jO P ann c Q' g w := by
 intro c
 induction c with
 | skip => intro Q g w h; exact ⟨_, _, _, h, rR.refl _ _, fun _ h => h⟩
 | region id ops draw =>
   intro Q g w h
   cases draw with
   | false =>
     obtain ⟨g', w', a, b, c⟩ := akK _ _ _ h
     exact ⟨.normal, g', w', a, b, fun Q' h => c _ h⟩
   | true =>
     obtain ⟨g', w', a, b, c⟩ := auK _ _ h
     exact ⟨.normal, g', w', a, b, fun Q' h => c _ h⟩
 | seq x y ihx ihy =>
   intro Q g w h
   obtain ⟨e, g1, w1, a, b, c⟩ := ihx _ _ _ h
   cases e with
   | normal =>
     obtain ⟨e2, g2, w2, a2, b2, c2⟩ := ihy _ _ _ a
     exact ⟨e2, g2, w2, a2, b.trans b2 (fun s h => aDo _ h) (fun s h => aDO _ h), fun Q' h => c _ (c2 _ h)⟩
   | _ => exact ⟨_, g1, w1, a, b.mono (fun s h => aDo _ h), fun Q' h => c _ h⟩
 | cond c x y ihx ihy =>
   intro Q g w h
   simp only [jO] at h ⊢
   unfold lX at h ⊢
   cases hc : ev g c with
   | bool b =>
     rw [hc] at h
     cases b with
     | true =>
       obtain ⟨e, g', w', a, b, c⟩ := ihx _ _ _ h
       exact ⟨e, g', w', a, b.mono (fun s h => aDo _ h), c⟩
     | false =>
       obtain ⟨e, g', w', a, b, c⟩ := ihy _ _ _ h
       exact ⟨e, g', w', a, b.mono (fun s h => aDO _ h), c⟩
   | _ => rw [hc] at h; exact h.elim
 | block id c ih =>
   intro Q g w h
   obtain ⟨e, g', w', a, b, c⟩ := ih _ _ _ h
   cases e with
   | exit i =>
     simp only [blk] at a
     cases hb : Nat.beq i id with
     | true =>
       simp only [hb] at a
       refine ⟨.normal, g', w', a, b, fun Q' h => c _ ?_⟩
       simp only [blk, hb]; exact h
     | false =>
       simp only [hb] at a
       refine ⟨.exit i, g', w', a, b, fun Q' h => c _ ?_⟩
       simp only [blk, hb]; exact h
   | _ => exact ⟨_, g', w', a, b, fun Q' h => c _ h⟩
 | loop c ih =>
   intro Q g w h
   have hmono : ∀ (Q : Exit -> Env -> aEl -> Prop) (X Y : Env -> aEl -> Prop) g w, (∀ g w, X g w -> Y g w) -> jO P ann c (Fh X Q) g w -> jO P ann c (Fh Y Q) g w := by
    intro Q X Y g w hxy h
    obtain ⟨e, g', w', a, _, k⟩ := ih _ _ _ h
    refine k _ ?_
    cases e with
    | normal => exact hxy _ _ a
    | _ => exact a
   obtain ⟨I, ⟨n, h0⟩, hI⟩ := h
   have key : ∀ n g w, I n g w -> ∃ e g' w', Q e g' w' /\ rR (U1 c) g g' /\ ∀ Q' : Exit -> Env -> aEl -> Prop, Q' e g' w' -> kP (fun X g w => jO P ann c (Fh X Q') g w) g w := by
    intro n
    induction n using Nat.strongRecOn with
    | _ n ih2 =>
      intro g w hg
      obtain ⟨e, g1, w1, a, b, k⟩ := ih _ _ _ (hI n g w hg)
      have once : ∀ (Q' : Exit -> Env -> aEl -> Prop), (∀ X : Env -> aEl -> Prop, jO P ann c (Fh X Q') g w) -> kP (fun X g w => jO P ann c (Fh X Q') g w) g w := by
       intro Q' h
       refine ⟨fun n g' w' => g' = g /\ w' = w, ⟨0, rfl, rfl⟩, ?_⟩
       rintro _ g' w' ⟨rfl, rfl⟩
       exact h _
      cases e with
      | normal =>
        obtain ⟨m, hm, hIm⟩ := a
        obtain ⟨e2, g2, w2, a2, b2, k2⟩ := ih2 m hm g1 w1 hIm
        refine ⟨e2, g2, w2, a2, b.trans b2 (fun _ h => h) (fun _ h => h), fun Q' h => ?_⟩
        have hl := k2 Q' h
        exact kP.head (hmono Q') (k _ hl) ⟨g1, w1, hl, fun X hx => k _ hx⟩
      | _ => exact ⟨_, g1, w1, a, b, fun Q' h => once Q' fun X => k _ h⟩
   exact key n g w h0
 | exit id => intro Q g w h; exact ⟨_, _, _, h, rR.refl _ _, fun _ h => h⟩
 | label l => intro Q g w h; exact ⟨_, _, _, h, rR.refl _ _, fun _ h => h⟩
 | scope c ih => intro Q g w h; exact ih Q g w h
 | ret => intro Q g w h; exact ⟨_, _, _, h, rR.refl _ _, fun _ h => h⟩
 | rangeFunc gf ps aBW bd => intro Q g w h; exact azS h
 | _ => intro Q g w h; exact h.elim
theorem I5 {c : Code} {Q Q' : Exit -> Env -> aEl -> Prop} {g : Env} {w : aEl} (h : jO P ann c Q g w)
 (hq : ∀ e g' w', rR (U1 c) g g' -> Q e g' w' -> Q' e g' w') : jO P ann c Q' g w :=
 let ⟨_, _, _, a, b, k⟩ := Z2 c Q g w h
 k _ (hq _ _ _ b a)
def noG (Q : Exit -> Env -> aEl -> Prop) : Exit -> Env -> aEl -> Prop
 | .goto _, _, _ => False
 | e, g, w => Q e g w
theorem alA : ∀ (c : Code) (Q : Exit -> Env -> aEl -> Prop) (g : Env) (w : aEl), jO P ann c Q g w -> jO P ann c (noG Q) g w := by
 intro c
 induction c with
 | skip => intro Q g w h; exact h
 | region id ops draw => intro Q g w h; cases draw <;> exact h
 | seq x y ihx ihy =>
   intro Q g w h
   show jO P ann x (Fh (fun g w => jO P ann y (noG Q) g w) (noG Q)) g w
   refine I5 (ihx _ _ _ h) (fun e g' w' _ hq => ?_)
   cases e with
   | normal => exact ihy _ _ _ hq
   | goto l => exact hq.elim
   | _ => exact hq
 | cond c x y ihx ihy =>
   intro Q g w h
   simp only [jO] at h ⊢
   unfold lX at h ⊢
   cases hc : ev g c with
   | bool b =>
     rw [hc] at h
     cases b with
     | true => exact ihx _ _ _ h
     | false => exact ihy _ _ _ h
   | _ => rw [hc] at h; exact h.elim
 | block id c ih =>
   intro Q g w h
   show jO P ann c (blk id (noG Q)) g w
   refine I5 (ih _ _ _ h) (fun e g' w' _ hq => ?_)
   cases e with
   | exit i =>
     simp only [noG, blk] at hq ⊢
     cases hb : Nat.beq i id with
     | true => rw [hb] at hq; exact hq
     | false => rw [hb] at hq; exact hq
   | goto l => exact hq.elim
   | _ => exact hq
 | loop c ih =>
   intro Q g w h
   obtain ⟨I, h0, hI⟩ := h
   refine ⟨I, h0, fun n g w hi => ?_⟩
   refine I5 (ih _ _ _ (hI n g w hi)) (fun e g' w' _ hq => ?_)
   cases e with
   | normal => exact hq
   | goto l => exact hq.elim
   | _ => exact hq
 | exit id => intro Q g w h; exact h
 | label l => intro Q g w h; exact h
 | scope c ih => intro Q g w h; exact ih Q g w h
 | ret => intro Q g w h; exact h
 | rangeFunc gf ps aBW bd =>
   intro Q g w h
   have h : RF P ann.f gf ps aBW bd Q g w := h
   show RF P ann.f gf ps aBW bd (noG Q) g w
   unfold RF at h ⊢
   cases hn : noMark (g DS) with
   | false => rw [hn] at h; exact h.elim
   | true =>
     rw [hn] at h
     simp only at h ⊢
     generalize (EC (ev g gf) [KP (w.heap.size + 1)]).run P (rfW ann.f (Yi P ann.f) ps aBW bd g w) = r at *
     match r, h with
     | .ok (.enter f2 args) w1, h =>
       obtain ⟨v, w3, hret, r, h1, h2, h3⟩ := h
       refine ⟨v, w3, hret, r, h1, h2, ?_⟩
       cases hp : r.pending with
       | none => rw [hp] at h3; exact h3
       | some c => rw [hp] at h3; cases c <;> exact h3
 | _ => intro Q g w h; exact h.elim
theorem abA {N : Nat} {g : Env} {a : Act} (h : SL N g a) : a.tmps = tmpsOf N g := by
 refine Array.ext (by simp [tmpsOf, h.size]) fun i h1 h2 => ?_
 have hi : i < N := by rw [<- h.size]; exact h1
 have := h.at_ i (Nat.ne_of_lt (aDv hi h.le))
 rw [aCd, aCo h1] at this
 simp [tmpsOf] at this ⊢
 exact this
theorem auS {v : aEm} (h : noMark v = true) : aiU v = [] := by cases v <;> first | rfl | cases h
theorem Yl {N : Nat} (hm : P.follows .mixedOrders = true) {ro : Option Nat} (hN : Yi P ann.f = N) : ∀ (c : Code), codeOk P N ann c = true -> ro = none ∨ xZ c = true →
 ∀ (Q : Exit -> Env -> aEl -> Prop) (QA : Exit -> Act -> aEl -> Prop) (g : Env) (a : Act) (w : aEl), SL N g a →
   (∀ e g a w, SL N g a -> Q e g w -> QA e a w) -> jO P ann c Q g w -> wpF P ann.f ro c QA a w := by
 intro c
 induction c with
 | skip => intro _ _ Q QA g a w hr hq h; exact atX (hq _ _ _ _ hr h)
 | region id ops draw =>
   intro hok _ Q QA g a w hr hq h
   simp only [codeOk, aCe, aDb, aDf] at hok
   have hd := Ya hok.1.1
   have hca := acB hok.1.2
   cases draw with
   | false =>
     refine ajO ?_
     have := aoQ hd hca (P := P) (Q := QA .normal) (K := Q .normal) (fun g a w => hq .normal g a w) ops.toList 0 g a w (fun j => by simp) hr h
     rw [List.range_eq_range']
     simpa using this
   | true =>
     rcases hok.2 with h1 | h1
     .cases h1
     .exact ZX hm (akC hd hca (fun g a w => hq .normal g a w) hr _ [] h1 (by simp) h)
 | seq x y ihx ihy =>
   intro hok hfl Q QA g a w hr hq h
   simp only [codeOk, aCe] at hok
   have hfx : ro = none ∨ xZ x = true := hfl.imp id fun h => by simp only [xZ, aCe] at h; exact h.1
   have hfy : ro = none ∨ xZ y = true := hfl.imp id fun h => by simp only [xZ, aCe] at h; exact h.2
   refine axR (ihx hok.1 hfx _ _ g a w hr (fun e g a w hr h => ?_) h)
   cases e with
   | normal => exact ihy hok.2 hfy _ _ g a w hr hq h
   | _ => exact hq _ _ _ _ hr h
 | cond c x y ihx ihy =>
   intro hok hfl Q QA g a w hr hq h
   simp only [codeOk, aCe] at hok
   have hfx : ro = none ∨ xZ x = true := hfl.imp id fun h => by simp only [xZ, aCe] at h; exact h.1
   have hfy : ro = none ∨ xZ y = true := hfl.imp id fun h => by simp only [xZ, aCe] at h; exact h.2
   simp only [jO] at h
   unfold lX at h
   have he := hr.ev c hok.1
   cases hc : ev g c with
   | bool b =>
     rw [hc] at h he
     refine atZ he ?_
     cases b with
     | true => exact ihx hok.2.1 hfx _ _ g a w hr hq h
     | false => exact ihy hok.2.2 hfy _ _ g a w hr hq h
   | _ => rw [hc] at h; exact h.elim
 | block id c ih =>
   intro hok hfl Q QA g a w hr hq h
   refine apF (ih hok hfl _ _ g a w hr (fun e g a w hr h => ?_) h)
   cases e with
   | exit i =>
     unfold Exit.inBlock
     simp only [blk] at h
     by_cases hi : i = id
     .subst hi
      simp only [if_true]
      simp only [Nat.beq_refl] at h
      exact hq _ _ _ _ hr h
     .simp only [hi, if_false]
      have : Nat.beq i id = false := by
       cases hb : Nat.beq i id
       .rfl
       .exact absurd (aCx hb) hi
      simp only [this] at h
      exact hq _ _ _ _ hr h
   | _ => exact hq _ _ _ _ hr h
 | loop c ih =>
   intro hok hfl Q QA g a w hr hq h
   obtain ⟨I, h0, hround⟩ := h
   have hex : ∀ a w, (∃ n g, SL N g a /\ I n g w) -> ∃ n, (∃ g, SL N g a /\ I n g w) /\ ∀ m, (∃ g, SL N g a /\ I m g w) -> n <= m := by
    rintro a w ⟨n, hn⟩
    induction n using Nat.strongRecOn with
    | _ n ih2 =>
      by_cases hx : ∃ m, m < n /\ ∃ g, SL N g a /\ I m g w
      .obtain ⟨m, hm, h⟩ := hx; exact ih2 m hm h
      .exact ⟨n, hn, fun m hm => Nat.le_of_not_lt fun hlt => hx ⟨m, hlt, hm⟩⟩
   have hdec : ∀ a w, Decidable (∃ n g, SL N g a /\ I n g w) := fun a w => Classical.propDecidable _
   let μ : Act -> aEl -> Nat := fun a w => if hh : ∃ n g, SL N g a /\ I n g w then Classical.choose (hex a w hh) else 0
   have hμ : ∀ a w n g, SL N g a -> I n g w -> μ a w <= n /\ ∃ g, SL N g a /\ I (μ a w) g w := by
    intro a w n g hr hI
    have hh : ∃ n g, SL N g a /\ I n g w := ⟨n, g, hr, hI⟩
    have e : μ a w = Classical.choose (hex a w hh) := dif_pos hh
    have s := Classical.choose_spec (hex a w hh)
    rw [e]
    exact ⟨s.2 n ⟨g, hr, hI⟩, s.1⟩
   obtain ⟨n0, h0⟩ := h0
   refine asA (fun a w => ∃ n g, SL N g a /\ I n g w) μ ⟨n0, g, hr, h0⟩ ?_
   rintro a w ⟨n, g, hr, hI⟩
   obtain ⟨_, g', hr', hI'⟩ := hμ a w n g hr hI
   refine ih hok hfl _ _ g' a w hr' (fun e g1 a1 w1 hr1 h => ?_) (hround _ _ _ hI')
   cases e with
   | normal =>
     obtain ⟨m, hm, hIm⟩ := h
     have := hμ a1 w1 m g1 hr1 hIm
     exact ⟨⟨m, g1, hr1, hIm⟩, by omega⟩
   | _ => exact hq _ _ _ _ hr1 h
 | label l => intro _ _ Q QA g a w hr hq h; exact apG (hq _ _ _ _ hr h)
 | scope c ih =>
   intro hok hfl Q QA g a w hr hq h
   refine aoW (ih hok hfl (noG Q) _ g a w hr (fun e g a w hr h => ?_) (alA c _ g w h))
   cases e with
   | goto l => exact h.elim
   | _ => exact hq _ _ _ _ hr h
 | exit id => intro _ _ Q QA g a w hr hq h; exact ahP (hq _ _ _ _ hr h)
 | ret => intro _ _ Q QA g a w hr hq h; exact anD (hq _ _ _ _ hr h)
 | rangeFunc gf ps aBW bd =>
   intro hok hfl Q QA g a w hr hq h
   have hro : ro = none := hfl.resolve_right (by simp [xZ])
   subst hro
   have hok : aeE gf = true := hok
   have h : RF P ann.f gf ps aBW bd Q g w := h
   unfold RF at h
   cases hn : noMark (g DS) with
   | false => rw [hn] at h; exact h.elim
   | true =>
     rw [hn] at h
     simp only [hN] at h
     have ed : a.defers = [] := by rw [hr.defers, auS hn]
     have er := run_enterLoop_outer (P := P) (w := w) ann.f a.tmps ps aBW bd
     rw [abA hr] at er
     have er : (Instr.enterLoop ann.f a.tmps ps aBW bd none).run P w = .ok (w.heap.size + 1, [{ target := .collected w.heap.size, args := #[] }]) (rfW ann.f N ps aBW bd g w) := by rw [abA hr]; exact er
     generalize rfW ann.f N ps aBW bd g w = w1 at *
     have ee := hr.ev gf hok
     unfold EC at h
     have hres : resolve a.eval (rangeCall gf (w.heap.size + 1)) 0 = Deferred.ofValue (ev g gf) #[KP (w.heap.size + 1)] := by
      have : resolve a.eval (rangeCall gf (w.heap.size + 1)) 0 = Deferred.ofValue (a.eval gf) #[KP (w.heap.size + 1)] := by
       simp only [resolve, List.map_toArray, aCz, aEj]; rfl
      rw [this, ee]
     rw [show ([KP (w.heap.size + 1)] : List aEm).toArray = #[KP (w.heap.size + 1)] from rfl, <- hres, Sem.run_bind] at h
     cases hv : (resolve a.eval (rangeCall gf (w.heap.size + 1)) 0).run P w1 with
     | halt x wx => rw [hv] at h; exact h.elim
     | ok d wx =>
       have hwx : wx = w1 := by
        rw [hres] at hv
        unfold Deferred.ofValue at hv
        split at hv <;> first | (simp only [Sem.run_pure] at hv; cases hv; rfl) | (simp [stuck] at hv)
       subst hwx
       rw [hv] at h
       simp only [Result.andThen] at h
       cases hi : (invoke d.target d.args).run P wx with
       | halt x w2 => rw [hi] at h; exact h.elim
       | ok nx w2 =>
         rw [hi] at h
         cases nx <;> try (exact h.elim)
         obtain ⟨v, w3, hret, r, h1, h2, h3⟩ := h
         have hrel : ∀ w, SL N (put g (some DS) (.pointer (some ⟨w, 0, none⟩))) { a with defers := [{ target := .collected w, args := #[] }] ++ a.defers } := fun w => by
          refine ⟨hr.le, ?_, hr.size, fun i hi => ?_⟩
          .rw [O7, if_pos rfl, ed] <;> rfl
          .rw [O7, if_neg hi]; exact hr.at_ i hi
         have key : ∀ (j : Option Code) (w5 : aEl), ayP Q (put g (some DS) (.pointer (some ⟨w.heap.size, 0, none⟩))) j w5 →
             ayF P ann.f QA { a with defers := [{ target := .collected w.heap.size, args := #[] }] ++ a.defers } w5 j := by
          intro j w5 h
          cases j with
          | none => exact hq _ _ _ _ (hrel _) h
          | some c =>
            cases c <;> first
             | exact h.elim
             | exact anD (hq _ _ _ _ (hrel _) h)
             | exact ahP (hq _ _ _ _ (hrel _) h)
         exact anX er hv hi hret (run_endLoop h1 h2) (key _ _ h3)
 | _ => intro hok; simp [codeOk] at hok
def wF (P : Program) : List ResultVar -> Env -> aEl -> (List aEm -> Prop) -> Prop
 | [], _, _, K => K []
 | .tmp t :: r, g, w, K => wF P r g w fun vs => K (g t :: vs)
 | .cell a t :: r, g, w, K => ∃ v, (do loadVar t (<- asAddr (g a)) : Sem aEm).run P w = .ok v w /\ wF P r g w fun vs => K (v :: vs)
def tup : List aEm -> aEm
 | [v] => v
 | vs => .tuple vs.toArray
def aAy (P : Program) (rs : List ResultVar) (R : aEm -> aEl -> Prop) : Exit -> Env -> aEl -> Prop
 | .normal, g, w => wF P rs g w fun vs => R (tup vs) w
 | .ret, g, w => wF P rs g w fun vs => R (tup vs) w
 | _, _, _ => False
theorem aiK {N : Nat} {g : Env} {a : Act} {w : aEl} (hr : SL N g a) : ∀ (rs : List ResultVar), rs.all aeH = true -> ∀ (K : List aEm -> Prop), wF P rs g w K →
 ∃ vs, K vs /\ (rs.mapM fun | .tmp t => pure (a.tmps.getD t undef) | .cell b t => do loadVar t (<- asAddr (a.tmps.getD b undef)) : Sem (List aEm)).run P w = .ok vs w := by
 have ne : ∀ t : Nat, Nat.blt t DS = true -> a.tmps.getD t undef = g t := fun t h => hr.at_ t (Nat.ne_of_lt ((aDH (x := t) (y := DS)) ▸ h))
 intro rs
 induction rs with
 | nil => intro _ K h; exact ⟨[], h, by simp⟩
 | cons r rs ih =>
   intro hok K h
   simp only [List.all_cons, aCe] at hok
   cases r with
   | tmp t =>
     obtain ⟨vs, h1, h2⟩ := ih hok.2 _ h
     refine ⟨_, h1, ?_⟩
     rw [List.mapM_cons]
     rw [pure_bind, Sem.run_bind]
     simp only [h2, Result.andThen, Sem.run_pure, ne t hok.1]
   | cell b t =>
     obtain ⟨v, hv, h⟩ := h
     obtain ⟨vs, h1, h2⟩ := ih hok.2 _ h
     refine ⟨_, h1, ?_⟩
     rw [List.mapM_cons]
     rw [<- ne b hok.1] at hv
     rw [Sem.run_bind]
     simp only [hv, Result.andThen]
     rw [Sem.run_bind]
     simp only [h2, Result.andThen]
     rfl
theorem azT (vs : Array aEm) : (if h : vs.size = 1 then vs[0] else Value.tuple vs) = tup vs.toList := by
 obtain ⟨l⟩ := vs
 match l with
 | [] => rfl
 | [v] => rfl
 | a :: b :: r => simp [tup]
theorem ahX {N : Nat} {g : Env} {a : Act} {w : aEl} (fn : Func) {rs : List ResultVar} (hok : rs.all aeH = true) (hrs : fn.results = rs.toArray) (hr : SL N g a) {R : aEm -> aEl -> Prop}
 (h : wF P rs g w fun vs => R (tup vs) w) : ∃ v, (results fn a.tmps).run P w = .ok v w /\ R v w := by
 obtain ⟨vs, h1, h2⟩ := aiK hr rs hok _ h
 refine ⟨tup vs, ?_, h1⟩
 unfold results
 rw [hrs, Array.mapM_eq_mapM_toList, List.toList_toArray]
 simp only [bind_assoc, map_eq_pure_bind]
 rw [Sem.run_bind]
 refine Eq.trans (congrArg (fun r => Result.andThen r _) h2) ?_
 simp only [Result.andThen]
 simp only [pure_bind, Sem.run_pure, azT]
def Zo (args : List aEm) : Env := fun i => args.getD i undef
def ayR (P : Program) (rs : List ResultVar) (R : aEm -> aEl -> Prop) : Exit -> Env -> aEl -> Prop
 | .normal, g, w => G3 (g DS) w fun w => wF P rs g w fun vs => R (tup vs) w
 | .ret, g, w => G3 (g DS) w fun w => wF P rs g w fun vs => R (tup vs) w
 | _, _, _ => False
theorem agM {g : Env} {w : aEl} : ∀ (rs : List ResultVar) (K : List aEm -> Prop), wF P rs g w K -> ∃ vs, K vs /\ ∀ K' : List aEm -> Prop, K' vs -> wF P rs g w K' := by
 intro rs
 induction rs with
 | nil => intro K h; exact ⟨_, h, fun _ h => h⟩
 | cons r rs ih =>
   intro K h
   cases r with
   | tmp t =>
     obtain ⟨vs, a, b⟩ := ih _ h
     exact ⟨_, a, fun K' h => b _ h⟩
   | cell b t =>
     obtain ⟨v, hv, h⟩ := h
     obtain ⟨vs, a, b⟩ := ih _ h
     exact ⟨_, a, fun K' h => ⟨v, hv, b _ h⟩⟩
theorem adF {v : aEm} {w : aEl} {K : aEl -> Prop} (h : G3 v w K) : ∃ w', K w' /\ ∀ K' : aEl -> Prop, K' w' -> G3 v w K' := by
 cases v with
 | pointer p =>
   cases p with
   | none => exact ⟨_, h, fun _ h => h⟩
   | some a => exact ⟨_, h.2, fun _ h' => ⟨h.1, h'⟩⟩
 | _ => exact ⟨_, h, fun _ h => h⟩
theorem ajW {v : aEm} {w : aEl} {K K' : aEl -> Prop} (h : G3 v w K) (hk : ∀ w, K w -> K' w) : G3 v w K' :=
 let ⟨w', a, b⟩ := adF h; b _ (hk w' a)
theorem aiR {args : List aEm} {N i : Nat} (hle : args.length <= N) (hi : N <= i) : Zo args i = undef := by
 unfold Zo
 rw [aB9, aCj (by omega)] <;> rfl
theorem XB {f : FuncId} {fn : Func} {c : Code} {args : List aEm} {w : aEl} {rs : List ResultVar} {R : aEm -> aEl -> Prop} (hm : P.follows .mixedOrders = true) (hAf : ann.f = f)
 (hf : P.funcs[f]? = some fn) (hb : fn.body = some c) (hrs : fn.results = rs.toArray) {N : Nat} (hN : fn.ntmps = N) (hle : args.length <= N)
 (hok : codeOk P N ann c = true) (hro : rs.all aeH = true) (hND : Nat.ble N DS = true) (h : jO P ann c (ayR P rs R) (Zo args) w) : jE P f args.toArray w R := by
 obtain ⟨e, g', w', hq, _, hall⟩ := Z2 _ _ _ _ h
 have hND := aDk hND
 have hNt : Yi P ann.f = N := by unfold Yi; rw [hAf, hf]; exact hN
 have hrv : G3 (g' DS) w' fun w => wF P rs g' w fun vs => R (tup vs) w := by cases e <;> first | exact hq | exact hq.elim
 obtain ⟨w2, hrv2, hsh⟩ := adF hrv
 obtain ⟨vs, hv, hrest⟩ := agM _ _ hrv2
 refine ⟨tup vs, w2, ?_, hv⟩
 have hrel : SL N (Zo args) { tmps := args.toArray ++ Array.replicate (fn.ntmps - args.toArray.size) undef, defers := [] } := by
  refine ⟨hND, by rw [aiR hle hND] <;> rfl, by simp [hN]; omega, fun i _ => ?_⟩
  simp only [Zo, aCd, aB9]
  by_cases hi : i < args.length
  .simp [Array.getElem?_append, hi]
  .simp only [Array.getElem?_append, List.size_toArray, hi, if_false, Array.getElem?_replicate]
   rw [aCj (by omega)]
   split <;> rfl
 have key := aeS (P := P) (f := f) hf hb (R := fun v3 w3 => v3 = tup vs /\ w3 = w2) (args := args.toArray) (w := w)
  (hAf ▸ Yl hm hNt c hok (.inl rfl) (ayR P rs fun v3 w3 => v3 = tup vs /\ w3 = w2) _ _ _ _ hrel (fun e g a w hr h => ?_) (hall _ ?_))
 .refine Calls.mono key ?_
  rintro e w3 ⟨v, rfl, rfl, rfl⟩
  exact ⟨rfl, rfl⟩
 .have hx : ∀ {w}, (G3 (g DS) w fun w => wF P rs g w fun vs' => tup vs' = tup vs /\ w = w2) -> ∃ m, a.defers = aiU m /\ G3 m w fun w' => ∃ v, (results fn a.tmps).run P w' = .ok v w' /\ (v = tup vs /\ w' = w2) := by
   intro w h
   exact ⟨_, hr.defers, ajW h fun w h => ahX fn hro hrs hr (R := fun v3 w3 => v3 = tup vs /\ w3 = w2) h⟩
  cases e with
  | normal => exact hx h
  | ret => exact hx h
  | _ => exact h.elim
 .have := hsh (fun w => wF P rs g' w fun vs' => tup vs' = tup vs /\ w = w2) (hrest _ ⟨rfl, rfl⟩)
  cases e <;> first | exact this | exact hq.elim
theorem avT {N : Nat} : ∀ (c : Code), codeOk P N ann c = true -> xZ c = true -> ∀ s ∈ U1 c, s < N := by
 intro c
 induction c with
 | region id ops draw =>
   intro hok _ s hs
   simp only [codeOk, aCe] at hok
   obtain ⟨o, h1, h2⟩ := MG.1 hs
   obtain ⟨i, hi, rfl⟩ := aCX h1
   exact Ya hok.1.1 i _ (by simp at hi ⊢) s h2
 | seq x y ihx ihy =>
   intro hok hfl s hs
   simp only [codeOk, xZ, aCe] at hok hfl
   rcases aC3.1 hs with hs | hs
   .exact ihx hok.1 hfl.1 s hs
   .exact ihy hok.2 hfl.2 s hs
 | cond c x y ihx ihy =>
   intro hok hfl s hs
   simp only [codeOk, xZ, aCe] at hok hfl
   rcases aC3.1 hs with hs | hs
   .exact ihx hok.2.1 hfl.1 s hs
   .exact ihy hok.2.2 hfl.2 s hs
 | block id c ih => intro hok hfl s hs; exact ih hok hfl s hs
 | loop c ih => intro hok hfl s hs; exact ih hok hfl s hs
 | scope c ih => intro hok hfl s hs; exact ih hok hfl s hs
 | rangeFunc => intro _ hfl; simp [xZ] at hfl
 | _ => intro _ _ s hs; simp [U1] at hs
theorem agQ {f : FuncId} {fn : Func} {c : Code} {args : List aEm} {w : aEl} {rs : List ResultVar} {R : aEm -> aEl -> Prop} (hm : P.follows .mixedOrders = true) (hAf : ann.f = f)
 (hf : P.funcs[f]? = some fn) (hb : fn.body = some c) (hrs : fn.results = rs.toArray) {N : Nat} (hN : fn.ntmps = N) (hle : args.length <= N)
 (hok : codeOk P N ann c = true) (hro : rs.all aeH = true) (hND : Nat.ble N DS = true) (hfl : xZ c = true) (h : jO P ann c (aAy P rs R) (Zo args) w) : jE P f args.toArray w R := by
 refine XB hm hAf hf hb hrs hN hle hok hro hND (I5 h fun e g' w' ha hq => ?_)
 have hND := aDk hND
 have : g' DS = undef := by
  rw [ha DS (fun hd => absurd (avT c hok hfl DS hd) (Nat.not_lt.2 hND)), aiR hle hND]
 cases e with
 | normal => show G3 (g' DS) w' (fun w => wF P rs g' w fun vs => R (tup vs) w); rw [this]; exact hq
 | ret => show G3 (g' DS) w' (fun w => wF P rs g' w fun vs => R (tup vs) w); rw [this]; exact hq
 | _ => exact hq.elim
def RP (tmps : Array aEm) : Env := fun i => tmps.getD i undef
def afZ (l : Nat) (R : aEm -> aEl -> Prop) : Exit -> Env -> aEl -> Prop
 | .normal, _, w => ∃ r : Loop, w.heap[l]? = some (.loop r) /\ R (.bool true) (w.putObj l (.loop { r with state := .ready, pending := none }))
 | .ret, _, w => ∃ r : Loop, w.heap[l]? = some (.loop r) /\ R (.bool false) (w.putObj l (.loop { r with state := .done, pending := some .ret }))
 | .exit i, _, w => ∃ r : Loop, w.heap[l]? = some (.loop r) /\ R (.bool false) (w.putObj l (.loop { r with state := .done, pending := some (.exit i) }))
 | _, _, _ => False
def asQ (P : Program) (ann : FA) (l : Nat) (bd : Code) (R : aEm -> aEl -> Prop) : Exit -> Env -> aEl -> Prop
 | .normal, g, w => ∃ r : Loop, w.heap[l]? = some (.loop r) /\ r.state = .ready /\ jO P ann bd (afZ l R) g (w.putObj l (.loop { r with state := .busy }))
 | _, _, _ => False
theorem afB {f : FuncId} {l : Nat} {tmps : Array aEm} {aBW bd : Code} {w : aEl} {R : aEm -> aEl -> Prop} (hm : P.follows .mixedOrders = true) (hAf : ann.f = f) {N : Nat} (hN : Yi P f = N) (hND : Nat.ble N DS = true)
 (hsz : tmps.size = N) (hok1 : codeOk P N ann aBW = true) (hf1 : xZ aBW = true) (hok2 : codeOk P N ann bd = true) (hf2 : xZ bd = true)
 (h : jO P ann aBW (asQ P ann l bd R) (RP tmps) w) : adV P l f tmps aBW bd w R := by
 subst hAf
 have hND := aDk hND
 obtain ⟨e, g1, w1, hq, ha, hall⟩ := Z2 _ _ _ _ h
 cases e with
 | normal =>
   obtain ⟨r, h1, h2, hd⟩ := hq
   obtain ⟨e2, g2, w2, hq2, ha2, hall2⟩ := Z2 _ _ _ _ hd
   have hx : ∃ v w4, R v w4 /\ ∀ R' : aEm -> aEl -> Prop, R' v w4 -> afZ l R' e2 g2 w2 := by
    cases e2 with
    | normal => obtain ⟨r2, k1, k2⟩ := hq2; exact ⟨_, _, k2, fun R' h => ⟨r2, k1, h⟩⟩
    | ret => obtain ⟨r2, k1, k2⟩ := hq2; exact ⟨_, _, k2, fun R' h => ⟨r2, k1, h⟩⟩
    | exit i => obtain ⟨r2, k1, k2⟩ := hq2; exact ⟨_, _, k2, fun R' h => ⟨r2, k1, h⟩⟩
    | _ => exact hq2.elim
   obtain ⟨v, w4, hR, hrest⟩ := hx
   refine ⟨v, w4, ?_, hR⟩
   have hrel : SL N (RP tmps) { tmps := tmps, defers := [] } := by
    refine ⟨hND, ?_, hsz, fun i _ => rfl⟩
    have : RP tmps DS = undef := by unfold RP; rw [aCd, aC1 (by omega)] <;> rfl
    rw [this] <;> rfl
   have key : RoundIn Fence.wide 0 P l ann.f tmps aBW bd w fun e w' => ∃ v', e = .returned v' /\ (v' = v /\ w' = w4) := by
    refine afI (Yl hm hN aBW hok1 (.inr hf1) (fun e g w => e = .normal /\ g = g1 /\ w = w1) _ _ _ _ hrel ?_ (hall _ ⟨rfl, rfl, rfl⟩))
    rintro e g a w hra ⟨rfl, rfl, rfl⟩
    refine ⟨_, run_beginRound h1 h2, Yl hm hN bd hok2 (.inr hf2) (afZ l fun v' w' => v' = v /\ w' = w4) _ _ _ _ hra ?_ (hall2 _ (hrest _ ⟨rfl, rfl⟩))⟩
    intro e g a w _ h
    cases e with
    | normal => obtain ⟨r, k1, k2⟩ := h; exact ⟨_, _, run_endRound none k1, k2⟩
    | ret => obtain ⟨r, k1, k2⟩ := h; exact ⟨_, _, run_endRound (some .ret) k1, k2⟩
    | exit i => obtain ⟨r, k1, k2⟩ := h; exact ⟨_, _, run_endRound (some (.exit i)) k1, k2⟩
    | _ => exact h.elim
   refine RoundIn.mono key ?_
   rintro e w' ⟨v', rfl, rfl, rfl⟩
   exact ⟨rfl, rfl⟩
 | _ => exact hq.elim
theorem acM {f : FuncId} {args : Array aEm} {w : aEl} {R : aEm -> aEl -> Prop} (h : jE P f args w R) :
 Calls P f args w fun e w' => ∃ v, e = .returned v /\ R v w' := by
 obtain ⟨v, w', hr, hR⟩ := h
 refine Calls.mono hr ?_
 rintro e w'' ⟨rfl, rfl⟩
 exact ⟨v, rfl, hR⟩
end
def sA : Code -> Code | .seq a _ => a | c => c
def cT : Code -> Code | .cond _ a _ => a | c => c
def cE : Code -> Code | .cond _ _ b => b | c => c
def bI : Code -> Code | .block _ c => c | .loop c => c | .scope c => c | c => c
def jX (f : Func) : Code := match f.body with | some c => c | none => .skip
def iB : Nat -> Code -> Code
 | 0, c => c
 | 1, c => sA c
 | n + 1, .seq a b => .seq a (iB n b)
 | _, c => c
def gH : Nat -> Code -> Code
 | 0, c => c
 | n + 1, .seq _ b => gH n b
 | _, c => c
def alM : Nat -> Code -> Bool
 | 1, .seq _ _ => true
 | n + 1, .seq _ b => alM n b
 | _, _ => false
def dr (w : aEl) : aEl := { w with drawn := w.drawn + 1 }
def Nq (P : Program) (t : TypeId) (a : aEm) (w : aEl) (K : aEm -> Prop) : Prop := ∃ v, (do loadVar t (<- asAddr a) : Sem aEm).run P w = .ok v w /\ K v
def exL : List (Nat × (Env -> aEl -> Prop)) -> Nat -> Env -> aEl -> Prop
 | [], _, _, _ => False
 | (j, k) :: r, i, g, w => match Nat.beq i j with | true => k g w | false => exL r i g w
def exQ (kn kr : Env -> aEl -> Prop) (l : List (Nat × (Env -> aEl -> Prop))) : Exit -> Env -> aEl -> Prop
 | .normal, g, w => kn g w
 | .ret, g, w => kr g w
 | .exit i, g, w => exL l i g w
 | _, _, _ => False
def amR (Q : Exit -> Env -> aEl -> Prop) : List (Nat × (Env -> aEl -> Prop)) -> Prop
 | [] => True
 | (i, k) :: r => (∀ g w, k g w -> Q (.exit i) g w) /\ amR Q r
def mD (c a b : aEm) : Sem Next := do pure (.value (if <- asBool c then a else b))
def oK (t : TypeId) : Sem Next := V (Instr.alloc t true (.tuple #[]))
def RV (t : TypeId) (x : aEm) : Sem Next := V (Instr.box t x)
def jG (t : TypeId) (a : aEm) : Sem Next := V (Instr.loadAt t a)
def jQ (t : TypeId) (a x : aEm) : Sem Next := U (Instr.storeAt t a x)
def nK (x : aEm) : Sem Next := execOp (fun _ => x) ⟨none, .nilCheck (.tmp 0), 0, default, #[], none⟩
def sUn (op : UnOp) (x : aEm) : Sem Next := V (Op.unary op x)
def nE (s d : TypeId) (x : aEm) : Sem Next := V (convert s d x)
def axT (t : TypeId) (x : aEm) : Sem Next := V (Instr.arrayAt t x)
def VX (t : TypeId) (x : aEm) : Sem Next := V (Instr.makeInterface t x)
def Yp (t : TypeId) (r : Option aEm) : Sem Next := V (Instr.makeMap t r)
def sP (t : TypeId) (l c : aEm) : Sem Next := V (Instr.makeSlice t l c)
def lR (t : TypeId) (x : aEm) (lo hi mx : Option aEm) : Sem Next := V (Instr.sliceAt t x lo hi mx)
def jI (t : TypeId) (x : aEm) (f : Nat) : Sem Next := V (Instr.fieldAt t x f)
def jT (t : TypeId) (x i : aEm) : Sem Next := V (Instr.indexAt t x i)
def Rp (t : TypeId) (x i : aEm) : Sem Next := V (Instr.index t x i)
def agU (t : TypeId) (x i : aEm) (ok : Bool) : Sem Next := V (Instr.lookup t x i ok)
def aaG (t : TypeId) (m k x : aEm) : Sem Next := U (Instr.mapUpdate t m k x)
def jS (t : aEm) (i : Nat) : Sem Next := V (Instr.extract t i)
section
variable {P : Program} {ann : FA}
theorem azZ {Q : Exit -> Env -> aEl -> Prop} : ∀ {l : List (Nat × (Env -> aEl -> Prop))}, amR Q l -> ∀ {i : Nat} {g : Env} {w : aEl}, exL l i g w -> Q (.exit i) g w := by
 intro l
 induction l with
 | nil => intro _ i g w h; exact h.elim
 | cons p r ih =>
   obtain ⟨j, k⟩ := p
   rintro ⟨h1, h2⟩ i g w h
   simp only [exL] at h
   cases hb : Nat.beq i j with
   | true =>
     simp only [hb] at h
     obtain rfl := aCx hb
     exact h1 _ _ h
   | false => simp only [hb] at h; exact ih h2 h
theorem avV {c : Code} {kn kr : Env -> aEl -> Prop} {l : List (Nat × (Env -> aEl -> Prop))} {Q : Exit -> Env -> aEl -> Prop} {g : Env} {w : aEl} {A : Prop}
 (e : A = jO P ann c (exQ kn kr l) g w) (h : A) (hn : ∀ g w, kn g w -> Q .normal g w) (hr : ∀ g w, kr g w -> Q .ret g w) (hl : amR Q l) : jO P ann c Q g w := by
 rw [e] at h
 refine I5 h (fun e g' w' _ hq => ?_)
 cases e with
 | normal => exact hn _ _ hq
 | ret => exact hr _ _ hq
 | exit i => exact azZ hl hq
 | _ => exact hq.elim
theorem aoO {x y z : Code} {Q : Exit -> Env -> aEl -> Prop} {g : Env} {w : aEl} (h : jO P ann (.seq (.seq x y) z) Q g w) : jO P ann (.seq x (.seq y z)) Q g w := by
 show jO P ann x (Fh (fun g w => jO P ann y (Fh (fun g w => jO P ann z Q g w) Q) g w) Q) g w
 have h : jO P ann x (Fh (fun g w => jO P ann y (Fh (fun g w => jO P ann z Q g w) Q) g w) (Fh (fun g w => jO P ann z Q g w) Q)) g w := h
 refine I5 h (fun e g' w' _ hq => ?_)
 cases e <;> exact hq
theorem iZ {K : Env -> aEl -> Prop} {Q : Exit -> Env -> aEl -> Prop} {g : Env} {w : aEl} (h : K g w) : Fh K Q .normal g w := h
theorem aqQ {Q : Exit -> Env -> aEl -> Prop} : ∀ (n : Nat) (c : Code) (g : Env) (w : aEl), alM n c = true -> jO P ann (.seq (iB n c) (gH n c)) Q g w -> jO P ann c Q g w := by
 intro n
 induction n with
 | zero => intro c g w h; simp [alM] at h
 | succ n ih =>
   intro c g w h hd
   cases c with
   | seq a b =>
     cases n with
     | zero => exact hd
     | succ n =>
       have hb : alM (n + 1) b = true := by simpa [alM] using h
       have hd' : jO P ann (.seq (.seq a (iB (n + 1) b)) (gH (n + 1) b)) Q g w := hd
       have := aoO hd'
       show jO P ann a (Fh (fun g w => jO P ann b Q g w) Q) g w
       have h2 : jO P ann a (Fh (fun g w => jO P ann (.seq (iB (n + 1) b) (gH (n + 1) b)) Q g w) Q) g w := this
       refine I5 h2 (fun e g' w' _ hq => ?_)
       cases e with
       | normal => exact ih b g' w' hb hq
       | _ => exact hq
   | _ => cases n <;> simp [alM] at h
def axZ (id : Nat) : Code -> Bool | .block i _ => Nat.beq i id | _ => false
def auC : Code -> Bool | .loop _ => true | _ => false
def arN : Code -> Option Operand | .cond o _ _ => some o | _ => none
theorem awJ {Q : Exit -> Env -> aEl -> Prop} (id : Nat) (c : Code) (g : Env) (w : aEl) (h : axZ id c = true) (hd : jO P ann (bI c) (blk id Q) g w) : jO P ann c Q g w := by
 cases c with
 | block i c =>
   obtain rfl := aCx (show Nat.beq i id = true from h)
   exact hd
 | _ => cases h
def ayJ : Code -> Bool | .scope _ => true | _ => false
theorem awL {Q : Exit -> Env -> aEl -> Prop} (c : Code) (g : Env) (w : aEl) (h : ayJ c = true) (hd : jO P ann (bI c) Q g w) : jO P ann c Q g w := by
 cases c with
 | scope c => exact hd
 | _ => cases h
theorem axA {Q : Exit -> Env -> aEl -> Prop} (o : Operand) (c : Code) (g : Env) (w : aEl) (h : arN c = some o)
 (hd : lX (ev g o) (jO P ann (cT c) Q g w) (jO P ann (cE c) Q g w)) : jO P ann c Q g w := by
 cases c with
 | cond o' a b => obtain rfl := aCF h; exact hd
 | _ => cases h
theorem arP {v : aEm} {A B A' B' : Prop} (ha : A -> A') (hb : B -> B') (h : lX v A B) : lX v A' B' := by
 unfold lX at *
 cases v with
 | bool b => cases b <;> first | exact ha h | exact hb h
 | _ => exact h
theorem asN {T : Type} (proj : Env -> T) (F : (T -> aEl -> Prop) -> T -> aEl -> Prop) {c : Code} {Q : Exit -> Env -> aEl -> Prop} {g : Env} {w : aEl}
 (hF : ∀ (X : T -> aEl -> Prop) g' w', rR (U1 c) g g' -> F X (proj g') w' -> jO P ann c (Fh (fun g'' w'' => X (proj g'') w'') Q) g' w')
 (h : kP F (proj g) w) : jO P ann (.loop c) Q g w := by
 obtain ⟨I, ⟨n, h0⟩, hI⟩ := h
 refine ⟨fun n g' w' => rR (U1 c) g g' /\ I n (proj g') w', ⟨n, rR.refl _ _, h0⟩, ?_⟩
 rintro n g' w' ⟨ha, hi⟩
 have := hF _ g' w' ha (hI n _ _ hi)
 refine I5 this (fun e g2 w2 ha2 hq => ?_)
 cases e with
 | normal =>
   obtain ⟨m, hm, hh⟩ := hq
   exact ⟨m, hm, ha.trans ha2 (fun _ h => h) (fun _ h => h), hh⟩
 | _ => exact hq
theorem aoB {T : Type} (proj : Env -> T) (F : (T -> aEl -> Prop) -> T -> aEl -> Prop) (c : Code) {Q : Exit -> Env -> aEl -> Prop} {g : Env} {w : aEl} (hl : auC c = true)
 (h : kP F (proj g) w)
 (hF : ∀ (X : T -> aEl -> Prop) g' w', rR (U1 (bI c)) g g' -> F X (proj g') w' -> jO P ann (bI c) (Fh (fun g'' w'' => X (proj g'') w'') Q) g' w') : jO P ann c Q g w := by
 cases c with
 | loop c => exact asN proj F hF h
 | _ => cases hl
theorem akY {l : List Nat} {s : Nat} (hs : vH s l = false) : s ∉ l := by
 induction l with
 | nil => simp
 | cons a r ih =>
   unfold vH at hs
   cases hb : Nat.beq a s with
   | true => simp only [hb] at hs; cases hs
   | false =>
     simp only [hb] at hs
     intro hm
     rcases aCS.1 hm with e | hm
     .subst e; simp at hb
     .exact ih hs hm
theorem arD {l : List Nat} {g g' : Env} (h : rR l g g') {s : Nat} (hs : vH s l = false) : g' s = g s := h s (akY hs)
def Vi (id : Nat) : Code -> Array Oper
 | .region i ops _ => match Nat.beq i id with | true => ops | false => #[]
 | .seq a b => match (Vi id a).size with | 0 => Vi id b | _ + 1 => Vi id a
 | .cond _ a b => match (Vi id a).size with | 0 => Vi id b | _ + 1 => Vi id a
 | .block _ c => Vi id c
 | .loop c => Vi id c
 | .scope c => Vi id c
 | _ => #[]
theorem atD {b : Bool} {A B : Prop} (ha : A) (hb : B) : Ord b A B := by cases b <;> assumption
theorem kP.rule {α : Type} {F : (α -> aEl -> Prop) -> α -> aEl -> Prop} (I : Nat -> α -> aEl -> Prop) {g : α} {w : aEl} (n : Nat) (h0 : I n g w)
 (hr : ∀ n g w, I n g w -> F (fun g' w' => ∃ m, m < n /\ I m g' w') g w) : kP F g w := ⟨I, ⟨n, h0⟩, hr⟩
theorem gB (A B : Prop) : lX (.bool true) A B = A := Eq.trans rfl rfl
theorem fV (A B : Prop) : lX (.bool false) A B = B := Eq.trans rfl rfl
theorem gO (s : (aEm -> aEl -> Prop) -> Prop) (w : aEl) (K : aEm -> aEl -> Prop) : Gd true s w K = s K := Eq.trans rfl rfl
theorem gJ (s : (aEm -> aEl -> Prop) -> Prop) (w : aEl) (K : aEm -> aEl -> Prop) : Gd false s w K = K undef w := Eq.trans rfl rfl
theorem gP (p : Prop) : Gs true p = p := Eq.trans rfl rfl
theorem gN (p : Prop) : Gs false p = True := Eq.trans rfl rfl
theorem gV : kO (.bool true) true = true := Eq.trans rfl rfl
theorem gU : kO (.bool true) false = false := Eq.trans rfl rfl
theorem gW : kO (.bool false) true = false := Eq.trans rfl rfl
theorem gT : kO (.bool false) false = true := Eq.trans rfl rfl
def jC : Operand := .tmp 0
theorem kZ {c : Code} {kn kr : Env -> aEl -> Prop} {l : List (Nat × (Env -> aEl -> Prop))} {Q : Exit -> Env -> aEl -> Prop} {g : Env} {w : aEl} {A : Prop}
 (h : A) (hn : ∀ g w, kn g w -> Q .normal g w) (hr : ∀ g w, kr g w -> Q .ret g w) (hl : amR Q l) (e : A = jO P ann c (exQ kn kr l) g w := by kernel_rfl) : jO P ann c Q g w := avV e h hn hr hl
theorem nQ {Q : Exit -> Env -> aEl -> Prop} (n : Nat) {c : Code} {g : Env} {w : aEl}
 (hd : jO P ann (iB n c) (Fh (fun g w => jO P ann (gH n c) Q g w) Q) g w) (h : alM n c = true := by kernel_rfl) : jO P ann c Q g w := aqQ n c g w h hd
theorem Iw {Q : Exit -> Env -> aEl -> Prop} (id : Nat) {c : Code} {g : Env} {w : aEl} (hd : jO P ann (bI c) (blk id Q) g w) (h : axZ id c = true := by kernel_rfl) : jO P ann c Q g w := awJ id c g w h hd
theorem scD {Q : Exit -> Env -> aEl -> Prop} {c : Code} {g : Env} {w : aEl} (hd : jO P ann (bI c) Q g w) (h : ayJ c = true := by kernel_rfl) : jO P ann c Q g w := awL c g w h hd
theorem cdD {Q : Exit -> Env -> aEl -> Prop} (o : Operand) {c : Code} {g : Env} {w : aEl} {A B : Prop} (ha : A -> jO P ann (cT c) Q g w) (hb : B -> jO P ann (cE c) Q g w) (hd : lX (ev g o) A B) (h : arN c = some o := by kernel_rfl) : jO P ann c Q g w :=
 axA o c g w h (arP ha hb hd)
theorem Ov {T : Type} (proj : Env -> T) (F : (T -> aEl -> Prop) -> T -> aEl -> Prop) {c : Code} {Q : Exit -> Env -> aEl -> Prop} {g : Env} {w : aEl}
 (h : kP F (proj g) w)
 (hF : ∀ (X : T -> aEl -> Prop) g' w', rR (U1 (bI c)) g g' -> F X (proj g') w' -> jO P ann (bI c) (Fh (fun g'' w'' => X (proj g'') w'') Q) g' w') (hl : auC c = true := by kernel_rfl) : jO P ann c Q g w := aoB proj F c hl h hF
theorem rI {l : List Nat} {g g' : Env} (s : Nat) (h : rR l g g') (hs : vH s l = false := by kernel_rfl) : g' s = g s := arD h hs
theorem wQ {ann : FA} (fn : Func) (c : Code) (args : List aEm) (rs : List ResultVar) (N : Nat) {f : FuncId} {w : aEl} {R : aEm -> aEl -> Prop} (hm : P.follows .mixedOrders = true)
 (hf : P.funcs[f]? = some fn) (h : jO P ann c (aAy P rs R) (Zo args) w) (hAf : ann.f = f := by kernel_rfl) (hb : fn.body = some c := by kernel_rfl) (hrs : fn.results = rs.toArray := by kernel_rfl) (hN : fn.ntmps = N := by kernel_rfl) (hle : Nat.ble args.length N = true := by kernel_rfl)
 (hok : codeOk P N ann c = true := by kernel_rfl) (hro : rs.all aeH = true := by kernel_rfl) (hND : Nat.ble N DS = true := by kernel_rfl) (hfl : xZ c = true := by kernel_rfl) : jE P f args.toArray w R :=
 agQ hm hAf hf hb hrs hN (aDk hle) hok hro hND hfl h
def acP : Code -> Option (Operand × Array Tmp × Code × Code)
 | .rangeFunc g ps aBW bd => some (g, ps, aBW, bd)
 | .seq a b => (match acP a with | some r => some r | none => acP b)
 | .cond _ a b => (match acP a with | some r => some r | none => acP b)
 | .block _ c => acP c
 | .loop c => acP c
 | .scope c => acP c
 | _ => none
def avE (c : Code) : Array Tmp := match acP c with | some (_, ps, _) => ps | none => #[]
def aoP (c : Code) : Code := match acP c with | some (_, _, aBW, _) => aBW | none => .skip
def akQ (c : Code) : Code := match acP c with | some (_, _, _, bd) => bd | none => .skip
def Rdy (l : Nat) (w : aEl) (K : aEl -> Prop) : Prop := ∃ r : Loop, w.heap[l]? = some (.loop r) /\ r.state = .ready /\ K (w.putObj l (.loop { r with state := .busy }))
def jSt : Option Code -> LoopState
 | none => .ready
 | some _ => .done
def ahK (l : Nat) (j : Option Code) (R : aEm -> aEl -> Prop) (w : aEl) : Prop :=
 ∃ r : Loop, w.heap[l]? = some (.loop r) /\ R (.bool j.isNone) (w.putObj l (.loop { r with state := jSt j, pending := j }))
def azF : List ResultVar := []
theorem dsF {ann : FA} (fn : Func) (c : Code) (args : List aEm) (rs : List ResultVar) (N : Nat) {f : FuncId} {w : aEl} {R : aEm -> aEl -> Prop} (hm : P.follows .mixedOrders = true)
 (hf : P.funcs[f]? = some fn) (h : jO P ann c (ayR P rs R) (Zo args) w) (hAf : ann.f = f := by kernel_rfl) (hb : fn.body = some c := by kernel_rfl) (hrs : fn.results = rs.toArray := by kernel_rfl) (hN : fn.ntmps = N := by kernel_rfl) (hle : Nat.ble args.length N = true := by kernel_rfl)
 (hok : codeOk P N ann c = true := by kernel_rfl) (hro : rs.all aeH = true := by kernel_rfl) (hND : Nat.ble N DS = true := by kernel_rfl) : jE P f args.toArray w R :=
 XB hm hAf hf hb hrs hN (aDk hle) hok hro hND h
theorem dsR {ann : FA} (N : Nat) {f : FuncId} {l : Nat} {tmps : Array aEm} {aBW bd : Code} {w : aEl} {R : aEm -> aEl -> Prop} (hm : P.follows .mixedOrders = true) (hsz : tmps.size = N)
 (h : jO P ann aBW (asQ P ann l bd R) (RP tmps) w) (hN : Yi P f = N) (hok1 : codeOk P N ann aBW = true) (hok2 : codeOk P N ann bd = true) (hAf : ann.f = f := by kernel_rfl) (hND : Nat.ble N DS = true := by kernel_rfl)
 (hf1 : xZ aBW = true := by kernel_rfl) (hf2 : xZ bd = true := by kernel_rfl) : adV P l f tmps aBW bd w R :=
 afB hm hAf hN hND hsz hok1 hf1 hok2 hf2 h
end
end Go.En
namespace Go.Proofs.YtoecppploooloaaGreatDoor
open Go Go.En
noncomputable abbrev pg : Program := Tryz.prog
theorem TryzM.mixed : pg.follows .mixedOrders = true := Tryz.checked.mixed
abbrev K0 := aEl -> Prop
abbrev K1 := aEm -> K0
abbrev K2 := aEm -> K1
abbrev K3 := aEm -> K2
abbrev K4 := aEm -> K3
abbrev K5 := aEm -> K4
abbrev K6 := aEm -> K5
abbrev K7 := aEm -> K6
abbrev K8 := aEm -> K7
abbrev K9 := aEm -> K8
abbrev K10 := aEm -> K9
abbrev HR (rs : List ResultVar) (R : K1) (Q : Exit -> Env -> aEl -> Prop) : Prop := ∀ g w, (wF pg rs g w fun vs => R (tup vs) w) -> Q .ret g w
abbrev HRF (rs : List ResultVar) (R : K1) (Q : Exit -> Env -> aEl -> Prop) : Prop := ∀ g w, (G3 (g DS) w fun w => wF pg rs g w fun vs => R (tup vs) w) -> Q .ret g w
abbrev no : Env -> aEl -> Prop := fun _ _ => False
theorem lU {Q : Env -> aEl -> Prop} : ∀ g w, no g w -> Q g w := fun _ _ h => h.elim
abbrev Gy : FuncId := 7
abbrev D4 : FuncId := 9
abbrev D9 : FuncId := 12
abbrev Is : FuncId := 13
abbrev DV : FuncId := 14
abbrev JS : FuncId := 16
abbrev FB : FuncId := 18
abbrev xQ : FuncId := 19
abbrev IG : FuncId := 20
abbrev vJ : FuncId := 21
abbrev Gu : FuncId := 22
abbrev OG : FuncId := 23
abbrev Ga : FuncId := 24
abbrev pF : FuncId := 25
abbrev D1 : FuncId := 26
abbrev oS : FuncId := 27
abbrev jR : FuncId := 28
abbrev oB : FuncId := 29
abbrev B6 : FuncId := 30
abbrev D7 : FuncId := 31
abbrev Ar : FuncId := 32
abbrev TX : FuncId := 33
abbrev CK : FuncId := 34
abbrev FX : FuncId := 35
abbrev pW : FuncId := 36
abbrev oN : FuncId := 37
abbrev lB : FuncId := 38
abbrev lZ : FuncId := 39
abbrev vN : FuncId := 40
abbrev xA : FuncId := 41
abbrev uH : FuncId := 42
abbrev yN : FuncId := 43
abbrev Gm : FuncId := 44
abbrev aaF : FuncId := 45
abbrev CA : FuncId := 46
abbrev BE : FuncId := 47
abbrev vX : FuncId := 48
abbrev Fu : FuncId := 49
abbrev Cz : FuncId := 50
abbrev BL : FuncId := 51
abbrev mV : FuncId := 52
abbrev sN : FuncId := 53
abbrev qL : FuncId := 54
abbrev JO : FuncId := 55
abbrev wB : FuncId := 56
abbrev sD : FuncId := 57
abbrev yV : FuncId := 58
abbrev pH : FuncId := 59
abbrev tP : FuncId := 60
abbrev GV : FuncId := 63
abbrev qS : FuncId := 64
abbrev BN : FuncId := 65
abbrev Ee : FuncId := 66
abbrev JQ : FuncId := 67
abbrev Bz : FuncId := 68
abbrev WS : FuncId := 69
abbrev aaM : FuncId := 70
abbrev Wh : FuncId := 71
abbrev pL : FuncId := 72
abbrev zF : FuncId := 73
abbrev F1 : FuncId := 74
abbrev qT : FuncId := 75
abbrev BK : FuncId := 76
abbrev wD : FuncId := 77
abbrev ZR : FuncId := 78
abbrev sM : FuncId := 79
abbrev xJ : FuncId := 80
abbrev xL : FuncId := 81
abbrev Bt : FuncId := 82
abbrev wY : FuncId := 83
abbrev Bu : FuncId := 84
abbrev BG : FuncId := 85
abbrev AK : FuncId := 86
abbrev wU : FuncId := 87
abbrev Cu : FuncId := 97
abbrev rO : FuncId := 100
abbrev vV : FuncId := 102
abbrev Ed : FuncId := 103
abbrev vW : FuncId := 107
abbrev AI : FuncId := 108
abbrev It : FuncId := 109
abbrev Gh : FuncId := 110
abbrev Xq : FuncId := 112
abbrev Ec : FuncId := 115
abbrev WB : FuncId := 119
abbrev BD : FuncId := 120
abbrev D2 : FuncId := 132
abbrev uT : FuncId := 133
abbrev vL : FuncId := 134
abbrev oI : FuncId := 135
abbrev JM : FuncId := 136
abbrev zI : FuncId := 145
abbrev pS : FuncId := 151
abbrev N0 (Q : Exit -> Env -> aEl -> Prop) (k : K0) : Prop := ∀ g w, k w -> Q .normal g w
abbrev E0 (Q : Exit -> Env -> aEl -> Prop) (k : K0) (x0 : Nat) : Prop := ∀ g w, k w -> Q (.exit x0) g w
abbrev N1 (Q : Exit -> Env -> aEl -> Prop) (k : K1) (a_ : Nat) : Prop := ∀ g w, k (g a_) w -> Q .normal g w
abbrev E1 (Q : Exit -> Env -> aEl -> Prop) (k : K1) (x0 : Nat) (a_ : Nat) : Prop := ∀ g w, k (g a_) w -> Q (.exit x0) g w
abbrev N2 (Q : Exit -> Env -> aEl -> Prop) (k : K2) (a_ b_ : Nat) : Prop := ∀ g w, k (g a_) (g b_) w -> Q .normal g w
abbrev E2 (Q : Exit -> Env -> aEl -> Prop) (k : K2) (x0 : Nat) (a_ b_ : Nat) : Prop := ∀ g w, k (g a_) (g b_) w -> Q (.exit x0) g w
abbrev N3 (Q : Exit -> Env -> aEl -> Prop) (k : K3) (a_ b_ c_ : Nat) : Prop := ∀ g w, k (g a_) (g b_) (g c_) w -> Q .normal g w
abbrev E3 (Q : Exit -> Env -> aEl -> Prop) (k : K3) (x0 : Nat) (a_ b_ c_ : Nat) : Prop := ∀ g w, k (g a_) (g b_) (g c_) w -> Q (.exit x0) g w
abbrev N4 (Q : Exit -> Env -> aEl -> Prop) (k : K4) (a_ b_ c_ d_ : Nat) : Prop := ∀ g w, k (g a_) (g b_) (g c_) (g d_) w -> Q .normal g w
abbrev E4 (Q : Exit -> Env -> aEl -> Prop) (k : K4) (x0 : Nat) (a_ b_ c_ d_ : Nat) : Prop := ∀ g w, k (g a_) (g b_) (g c_) (g d_) w -> Q (.exit x0) g w
abbrev N5 (Q : Exit -> Env -> aEl -> Prop) (k : K5) (a_ b_ c_ d_ e_ : Nat) : Prop := ∀ g w, k (g a_) (g b_) (g c_) (g d_) (g e_) w -> Q .normal g w
abbrev E5 (Q : Exit -> Env -> aEl -> Prop) (k : K5) (x0 : Nat) (a_ b_ c_ d_ e_ : Nat) : Prop := ∀ g w, k (g a_) (g b_) (g c_) (g d_) (g e_) w -> Q (.exit x0) g w
abbrev N6 (Q : Exit -> Env -> aEl -> Prop) (k : K6) (a_ b_ c_ d_ e_ f_ : Nat) : Prop := ∀ g w, k (g a_) (g b_) (g c_) (g d_) (g e_) (g f_) w -> Q .normal g w
abbrev E6 (Q : Exit -> Env -> aEl -> Prop) (k : K6) (x0 : Nat) (a_ b_ c_ d_ e_ f_ : Nat) : Prop := ∀ g w, k (g a_) (g b_) (g c_) (g d_) (g e_) (g f_) w -> Q (.exit x0) g w
abbrev N7 (Q : Exit -> Env -> aEl -> Prop) (k : K7) (a_ b_ c_ d_ e_ f_ g_ : Nat) : Prop := ∀ g w, k (g a_) (g b_) (g c_) (g d_) (g e_) (g f_) (g g_) w -> Q .normal g w
abbrev E7 (Q : Exit -> Env -> aEl -> Prop) (k : K7) (x0 : Nat) (a_ b_ c_ d_ e_ f_ g_ : Nat) : Prop := ∀ g w, k (g a_) (g b_) (g c_) (g d_) (g e_) (g f_) (g g_) w -> Q (.exit x0) g w
abbrev N8 (Q : Exit -> Env -> aEl -> Prop) (k : K8) (a_ b_ c_ d_ e_ f_ g_ h_ : Nat) : Prop := ∀ g w, k (g a_) (g b_) (g c_) (g d_) (g e_) (g f_) (g g_) (g h_) w -> Q .normal g w
abbrev N10 (Q : Exit -> Env -> aEl -> Prop) (k : K10) (a_ b_ c_ d_ e_ f_ g_ h_ i_ j_ : Nat) : Prop := ∀ g w, k (g a_) (g b_) (g c_) (g d_) (g e_) (g f_) (g g_) (g h_) (g i_) (g j_) w -> Q .normal g w
abbrev aEn (n_ : Int) : aEm := .int .i64 n_
end Go.Proofs.YtoecppploooloaaGreatDoor
namespace Go.Proofs.YtoecppploooloaaGreatDoor
open Go Go.En
set_option maxRecDepth 20000
attribute [local irreducible] Go.En.jO
variable (Q : Exit -> Env -> aEl -> Prop) (g : Env) (w : aEl)
def pG : FA := ⟨Gy, fun i => .leaf ([], []) []⟩
def zK : List ResultVar := [.tmp 6]
noncomputable def oM : Code := jX Tryz.f7
def Ac (R : K1) (pC YL Nu : aEm) (w : aEl) : Prop :=
 gI pg (hU .rem 5 jC jC pC (.int .u8 9)) w fun e7 w =>
 gI pg (nE 5 3 e7) w fun e8 w =>
 gI pg (hU .add 3 jC jC e8 (aEn 1)) w fun e9 w =>
 jE pg FB #[Nu, e9] w fun f0 w =>
 gI pg (jS f0 0) w fun f1 w =>
 gI pg (jS f0 1) w fun f2 w =>
 gI pg (jS f0 2) w fun f3 w =>
 jE pg xQ #[f1, f2, YL] w fun f8 w =>
 gI pg (jS f8 0) w fun f9 w =>
 gI pg (jS f8 1) w fun i0 w =>
 gI pg (hU .eql 24 (.tmp 51) (.const (aEn 0)) f3 (aEn 0)) w fun i2 w =>
 Gd (kO i2 true) (fun K => K i0 w) w fun i4 w =>
 Gd (kO i2 true) (fun K => gI pg (hU .eql 24 (.tmp 54) (.const (aEn 0)) i4 (aEn 0)) w K) w fun i5 w =>
 gI pg (mD i2 i5 (.bool false)) w fun i6 w =>
 Gd (kO i6 true) (fun K => K f1 w) w fun i8 w =>
 Gd (kO i6 true) (fun K => gI pg (hU .eql 5 (.tmp 58) (.const (.int .u8 1)) i8 (.int .u8 1)) w K) w fun i9 w =>
 gI pg (mD i6 i9 (.bool false)) w fun j0 w =>
 Gd (kO j0 true) (fun K => K f2 w) w fun j2 w =>
 Gd (kO j0 true) (fun K => gI pg (nX .len #[22] 3 [j2]) w K) w fun j3 w =>
 Gd (kO j0 true) (fun K => gI pg (hU .lss 3 jC jC j3 (aEn 96)) w K) w fun j4 w =>
 gI pg (mD j0 j4 (.bool false)) w fun j5 w =>
 Gd (kO j5 true) (fun K => K f9 w) w fun j7 w =>
 Gd (kO j5 true) (fun K => gI pg (nE 22 9 j7) w K) w fun j8 w =>
 Gd (kO j5 true) (fun K => K Nu w) w fun j9 w =>
 Gd (kO j5 true) (fun K => gI pg (nE 22 9 j9) w K) w fun l0 w =>
 Gd (kO j5 true) (fun K => gI pg (hU .eql 9 (.tmp 68) (.tmp 70) j8 l0) w K) w fun l1 w =>
 gI pg (mD j5 l1 (.bool false)) w fun l2 w =>
 R l2 w
theorem Sp (R : K1) (hr : HR zK R Q) (h : Ac R (g 2) (g 8) (g 9) w) : jO pg pG (gH 1 (gH 5 oM)) Q g w :=
 kZ (kn := no) (l := []) h lU hr trivial
def Aj (kn : K5) (k0 : K3) (X4 pC YL Nu Tn : aEm) (w : aEl) : Prop :=
 gI pg (hU .lss 3 jC jC Tn YL) w fun d7 w =>
 lX d7
  (gI pg (jT 22 Nu Tn) w fun e3 w =>
  gI pg (jQ 5 e3 X4) w fun _u w =>
  gI pg (hU .add 3 jC jC Tn (aEn 1)) w fun d9 w =>
  kn X4 pC YL Nu d9 w)
  (k0 pC YL Nu w)
theorem Sm (kn : K5) (k0 : K3) (hn : N5 Q kn 0 2 8 9 10) (h0 : E3 Q k0 0 2 8 9) (h : Aj kn k0 (g 0) (g 2) (g 8) (g 9) (g 10) w) : jO pg pG (bI (bI (gH 1 (iB 1 (gH 5 oM))))) Q g w :=
 kZ (kr := no) (l := [(0, fun g w => k0 (g 2) (g 8) (g 9) w)]) h hn lU ⟨h0, trivial⟩
def Fe (k0 : K3) (X4 pC YL Nu Tn : aEm) (w : aEl) : Prop :=
 kP (fun (X : aEm -> K0) (t : aEm) (w : aEl) => Aj (fun _ _ _ _ Tn w => X Tn w) k0 X4 pC YL Nu t w) Tn w
theorem R2 (k0 : K3) (h0 : E3 Q k0 0 2 8 9) (h : Fe k0 (g 0) (g 2) (g 8) (g 9) (g 10) w) : jO pg pG (bI (gH 1 (iB 1 (gH 5 oM)))) Q g w := by
 refine Ov (fun g : Env => g 10) (fun X t w => Aj (fun _ _ _ _ Tn w => X Tn w) k0 (g 0) (g 2) (g 8) (g 9) t w) h (fun X g1 w1 ha hL => ?_)
 rw [<- rI 0 ha, <- rI 2 ha, <- rI 8 ha, <- rI 9 ha] at hL
 exact (Sm _ g1 w1 (fun _ _ _ _ Tn w => X Tn w) k0 (fun _ _ h => h) h0 hL)
def EJ (kn : K3) (X4 pC YL Nu Tn : aEm) (w : aEl) : Prop :=
 Fe kn X4 pC YL Nu Tn w
def EV (kn : K5) (X4 pC YL Nu : aEm) (w : aEl) : Prop :=
 kn X4 pC YL Nu (aEn 0) w
theorem Rz (kn : K5) (hn : N5 Q kn 0 2 8 9 10) (h : EV kn (g 0) (g 2) (g 8) (g 9) w) : jO pg pG (iB 1 (iB 1 (gH 5 oM))) Q g w :=
 kZ (kr := no) (l := []) h hn lU trivial
def Ej (kn : K3) (X4 pC YL Nu : aEm) (w : aEl) : Prop :=
 EV (fun X4 pC YL Nu Tn w => EJ kn X4 pC YL Nu Tn w) X4 pC YL Nu w
def EX (R : K1) (X4 pC YL Nu : aEm) (w : aEl) : Prop :=
 Ej (fun pC YL Nu w => Ac R pC YL Nu w) X4 pC YL Nu w
theorem RD (kn : K3) (hn : N3 Q kn 2 8 9) (h : Ej kn (g 0) (g 2) (g 8) (g 9) w) : jO pg pG (iB 1 (gH 5 oM)) Q g w :=
 nQ 1 (Rz _ g w (EJ kn) (fun g w h => iZ (Iw 0 (R2 _ g w kn hn h))) h)
def Eu (kn : K4) (R : K1) (X4 G9 pC : aEm) (w : aEl) : Prop :=
 jE pg Is #[] w fun c6 w =>
 gI pg (sUn .not c6) w fun c8 w =>
 lX c8
  (R (.bool false) w)
  (gI pg (hU .rem 29 jC jC G9 (.int .u16 5000)) w fun d0 w =>
  gI pg (nE 29 3 d0) w fun d1 w =>
  gI pg (hU .add 3 jC jC d1 (aEn 100)) w fun d2 w =>
  gI pg (sP 22 d2 d2) w fun d4 w =>
  kn X4 pC d2 d4 w)
theorem R6 (kn : K4) (R : K1) (hn : N4 Q kn 0 2 8 9) (hr : HR zK R Q) (h : Eu kn R (g 0) (g 1) (g 2) w) : jO pg pG (iB 5 oM) Q g w :=
 kZ (l := []) h hn hr trivial
def Em (R : K1) (X4 G9 pC : aEm) (w : aEl) : Prop :=
 Eu (fun X4 pC YL Nu w => EX R X4 pC YL Nu w) R X4 G9 pC w
theorem RB (R : K1) (hr : HR zK R Q) (h : Em R (g 0) (g 1) (g 2) w) : jO pg pG oM Q g w :=
 nQ 5 (R6 _ g w (EX R) R (fun g w h => iZ (nQ 1 (RD _ g w (Ac R) (fun g w h => iZ (Sp _ g w R hr h)) h))) hr h)
def Q9 (a0 a1 a2 : aEm) (w : aEl) (R : K1) : Prop :=
 Em R a0 a1 a2 w
theorem S5 {a0 a1 a2 : aEm} {w : aEl} {R : K1} (h : Q9 a0 a1 a2 w R) : jE pg Gy #[a0, a1, a2] w R := by
 refine wQ (ann := pG) Tryz.f7 oM [a0, a1, a2] zK 73 TryzM.mixed Tryz.func7 ?_
 exact (RB _ _ _ R (fun _ _ h => h) h)
def pM : FA := ⟨D4, fun i => match Nat.beq i 13 with | true => .leaf ([2, 5], [(2, 3)]) [(false, []), (false, []), (true, []), (false, [0]), (false, []), (true, [])] | false => .leaf ([], []) []⟩
def sH : List ResultVar := [.tmp 6, .tmp 7]
noncomputable def oY : Code := jX Tryz.f9
def yS (R : K1) (qV : aEm) (w : aEl) : Prop :=
 R (.tuple #[qV, (aEn 0)]) w
theorem Ue (R : K1) (hr : HR sH R Q) (h : yS R (g 8) w) : jO pg pM (gH 1 (gH 1 (gH 4 oY))) Q g w :=
 kZ (kn := no) (l := []) h lU hr trivial
def HP (kn : K1) (nJ tN qV : aEm) (w : aEl) : Prop :=
 lX tN
  (jE pg OG #[nJ] w fun j5 w =>
  gI pg (nE 32 5 j5) w fun j8 w =>
  gI pg (hU .shr 32 jC jC j5 (.int .u64 8)) w fun l0 w =>
  gI pg (nE 32 5 l0) w fun l1 w =>
  gI pg (hU .shr 32 jC jC j5 (.int .u64 16)) w fun l3 w =>
  gI pg (nE 32 5 l3) w fun l4 w =>
  gI pg (hU .shr 32 jC jC j5 (.int .u64 24)) w fun l6 w =>
  gI pg (nE 32 5 l6) w fun l7 w =>
  gI pg (lT 22 4 [(0, j8), (1, l1), (2, l4), (3, l7)]) w fun l8 w =>
  gI pg (nX .append #[22, 22] 22 [qV, l8]) w fun l9 w =>
  kn l9 w)
  (kn qV w)
theorem Uv (kn : K1) (hn : N1 Q kn 8) (h : HP kn (g 0) (g 2) (g 8) w) : jO pg pM (iB 1 (gH 1 (gH 4 oY))) Q g w :=
 kZ (kr := no) (l := []) h hn lU trivial
def Cy (R : K1) (nJ tN qV : aEm) (w : aEl) : Prop :=
 HP (fun qV w => yS R qV w) nJ tN qV w
def yE (kn : K6) (k1 : K3) (R : K1) (nJ pQ tN qV BC Gw : aEm) (w : aEl) : Prop :=
 gI pg (hU .eql 3 (.tmp 32) (.const (aEn 0)) Gw (aEn 0)) w fun e3 w =>
 Gd (kO e3 false) (fun K => K Gw w) w fun e5 w =>
 Gd (kO e3 false) (fun K => K nJ w) w fun e6 w =>
 Gd (kO e3 false) (fun K => gI pg (nX .len #[22] 3 [e6]) w K) w fun e7 w =>
 Gd (kO e3 false) (fun K => gI pg (hU .lss 3 jC jC e5 e7) w K) w fun e8 w =>
 gI pg (mD e3 (.bool true) e8) w fun e9 w =>
 lX e9
  (gI pg (hU .add 3 jC jC Gw (aEn 65536)) w fun f6 w =>
  gI pg (nX .len #[22] 3 [nJ]) w fun f8 w =>
  gI pg (nX .min #[3, 3] 3 [f6, f8]) w fun f9 w =>
  gI pg (jG 45 BC) w fun i1 w =>
  jE pg Gu #[nJ, Gw, f9, pQ, i1] w fun i2 w =>
  gI pg (jS i2 0) w fun i3 w =>
  gI pg (jS i2 1) w fun i4 w =>
  gI pg (jS i2 2) w fun i5 w =>
  gI pg (oK 45) w fun c2 w =>
  gI pg (jQ 45 c2 i4) w fun _u w =>
  gI pg (hU .neq 24 (.tmp 56) (.const (aEn 0)) i5 (aEn 0)) w fun i7 w =>
  lX i7
   (R (.tuple #[(.slice none 0 0), i5]) w)
   ((dr w) = (dr w) /\
   (dr w) = (dr w) /\
   gI pg (nX .append #[22, 22] 22 [qV, i3]) (dr w) fun j1 ahY =>
   gI pg (jG 45 c2) ahY fun j2 w_ => w_ = ahY /\
   (jD pg (jG 45 c2) j2 (dr w) /\ True) /\
   ahY = ahY /\
   gI pg (jQ 45 BC j2) ahY fun _u5 aAW =>
   gI pg (hU .add 3 jC jC Gw (aEn 65536)) aAW fun f1 w =>
   kn nJ pQ tN j1 BC f1 w))
  (k1 nJ tN qV w)
theorem Ub (kn : K6) (k1 : K3) (R : K1) (hn : N6 Q kn 0 1 2 8 9 10) (h1 : E3 Q k1 1 0 2 8) (hr : HR sH R Q) (h : yE kn k1 R (g 0) (g 1) (g 2) (g 8) (g 9) (g 10) w) : jO pg pM (bI (bI (gH 1 (iB 1 (gH 4 oY))))) Q g w :=
 kZ (l := [(1, fun g w => k1 (g 0) (g 2) (g 8) w)]) h hn hr ⟨h1, trivial⟩
def Hr (k1 : K3) (R : K1) (nJ pQ tN qV BC Gw : aEm) (w : aEl) : Prop :=
 kP (fun (X : (aEm × aEm) -> K0) (t : aEm × aEm) (w : aEl) => yE (fun _ _ _ qV _ Gw w => X (qV, Gw) w) k1 R nJ pQ tN t.1 BC t.2 w) (qV, Gw) w
theorem Ui (k1 : K3) (R : K1) (h1 : E3 Q k1 1 0 2 8) (hr : HR sH R Q) (h : Hr k1 R (g 0) (g 1) (g 2) (g 8) (g 9) (g 10) w) : jO pg pM (bI (gH 1 (iB 1 (gH 4 oY)))) Q g w := by
 refine Ov (fun g : Env => (g 8, g 10)) (fun X t w => yE (fun _ _ _ qV _ Gw w => X (qV, Gw) w) k1 R (g 0) (g 1) (g 2) t.1 (g 9) t.2 w) h (fun X g1 w1 ha hL => ?_)
 rw [<- rI 0 ha, <- rI 1 ha, <- rI 2 ha, <- rI 9 ha] at hL
 exact (Ub _ g1 w1 (fun _ _ _ qV _ Gw w => X (qV, Gw) w) k1 R (fun _ _ h => h) h1 hr hL)
def HI (kn : K3) (R : K1) (nJ pQ tN qV BC Gw : aEm) (w : aEl) : Prop :=
 Hr kn R nJ pQ tN qV BC Gw w
def HV (kn : K6) (nJ pQ tN qV BC : aEm) (w : aEl) : Prop :=
 kn nJ pQ tN qV BC (aEn 0) w
theorem UJ (kn : K6) (hn : N6 Q kn 0 1 2 8 9 10) (h : HV kn (g 0) (g 1) (g 2) (g 8) (g 9) w) : jO pg pM (iB 1 (iB 1 (gH 4 oY))) Q g w :=
 kZ (kr := no) (l := []) h hn lU trivial
def Hp (kn : K3) (R : K1) (nJ pQ tN qV BC : aEm) (w : aEl) : Prop :=
 HV (fun nJ pQ tN qV BC Gw w => HI kn R nJ pQ tN qV BC Gw w) nJ pQ tN qV BC w
def Ho (R : K1) (nJ pQ tN qV BC : aEm) (w : aEl) : Prop :=
 Hp (fun nJ tN qV w => Cy R nJ tN qV w) R nJ pQ tN qV BC w
theorem T8 (kn : K3) (R : K1) (hn : N3 Q kn 0 2 8) (hr : HR sH R Q) (h : Hp kn R (g 0) (g 1) (g 2) (g 8) (g 9) w) : jO pg pM (iB 1 (gH 4 oY)) Q g w :=
 nQ 1 (UJ _ g w (HI kn R) (fun g w h => iZ (Iw 1 (Ui _ g w kn R hn hr h))) h)
def Gg (kn : K5) (R : K1) (nJ pQ tN : aEm) (w : aEl) : Prop :=
 gI pg (hU .lss 3 jC jC pQ (aEn 0)) w fun c7 w =>
 Gd (kO c7 false) (fun K => K pQ w) w fun c9 w =>
 Gd (kO c7 false) (fun K => gI pg (hU .gtr 3 jC jC c9 (aEn 9)) w K) w fun d0 w =>
 gI pg (mD c7 (.bool true) d0) w fun d1 w =>
 lX d1
  (R (.tuple #[(.slice none 0 0), (aEn 1)]) w)
  (gI pg (nX .len #[22] 3 [nJ]) w fun d4 w =>
  gI pg (hU .gtr 3 jC jC d4 (aEn 4194304)) w fun d5 w =>
  lX d5
   (R (.tuple #[(.slice none 0 0), (aEn 12)]) w)
   (gI pg (nX .len #[22] 3 [nJ]) w fun d7 w =>
   gI pg (nE 3 32 d7) w fun d8 w =>
   jE pg IG #[d8, tN] w fun e0 w =>
   jE pg vJ #[] w fun e1 w =>
   gI pg (oK 45) w fun BC w =>
   gI pg (jQ 45 BC e1) w fun _u w =>
   kn nJ pQ tN e0 BC w))
theorem TH (kn : K5) (R : K1) (hn : N5 Q kn 0 1 2 8 9) (hr : HR sH R Q) (h : Gg kn R (g 0) (g 1) (g 2) w) : jO pg pM (iB 4 oY) Q g w :=
 kZ (l := []) h hn hr trivial
def FG (R : K1) (nJ pQ tN : aEm) (w : aEl) : Prop :=
 Gg (fun nJ pQ tN qV BC w => Ho R nJ pQ tN qV BC w) R nJ pQ tN w
theorem Su (R : K1) (hr : HR sH R Q) (h : FG R (g 0) (g 1) (g 2) w) : jO pg pM oY Q g w :=
 nQ 4 (TH _ g w (Ho R) R (fun g w h => iZ (nQ 1 (T8 _ g w (Cy R) R (fun g w h => iZ (nQ 1 (Uv _ g w (yS R) (fun g w h => iZ (Ue _ g w R hr h)) h))) hr h))) hr h)
def Vo (a0 a1 a2 : aEm) (w : aEl) (R : K1) : Prop :=
 FG R a0 a1 a2 w
theorem VB {a0 a1 a2 : aEm} {w : aEl} {R : K1} (h : Vo a0 a1 a2 w R) : jE pg D4 #[a0, a1, a2] w R := by
 refine wQ (ann := pM) Tryz.f9 oY [a0, a1, a2] sH 81 TryzM.mixed Tryz.func9 ?_
 exact (Su _ _ _ R (fun _ _ h => h) h)
def ME : FA := ⟨D9, fun i => .leaf ([], []) []⟩
def OT : List ResultVar := [.tmp 6, .tmp 7]
noncomputable def Kz : Code := jX Tryz.f12
def H0 (R : K1) (nJ U8 Ti : aEm) (w : aEl) : Prop :=
 jE pg Ga #[nJ, U8, Ti] w fun c4 w =>
 gI pg (jS c4 0) w fun c5 w =>
 gI pg (jS c4 1) w fun c6 w =>
 gI pg (hU .neq 24 (.tmp 17) (.const (aEn 0)) c6 (aEn 0)) w fun c8 w =>
 lX c8
  (R (.tuple #[(.slice none 0 0), c6]) w)
  (gI pg (nK c5) w fun d1 w =>
  gI pg (jI 56 d1 3) w fun d2 w =>
  gI pg (jG 22 d2) w fun d3 w =>
  R (.tuple #[d3, (aEn 0)]) w)
theorem UO (R : K1) (hr : HR OT R Q) (h : H0 R (g 0) (g 1) (g 2) w) : jO pg ME Kz Q g w :=
 kZ (kn := no) (l := []) h lU hr trivial
def Va (a0 a1 a2 : aEm) (w : aEl) (R : K1) : Prop :=
 H0 R a0 a1 a2 w
theorem VV {a0 a1 a2 : aEm} {w : aEl} {R : K1} (h : Va a0 a1 a2 w R) : jE pg D9 #[a0, a1, a2] w R := by
 refine wQ (ann := ME) Tryz.f12 Kz [a0, a1, a2] OT 24 TryzM.mixed Tryz.func12 ?_
 exact (UO _ _ _ R (fun _ _ h => h) h)
def Q1 : FA := ⟨Is, fun i => .leaf ([], []) []⟩
def TF : List ResultVar := [.tmp 0]
noncomputable def OJ : Code := jX Tryz.f13
def KX (R : K1)  (w : aEl) : Prop :=
 jE pg DV #[(.int .u64 10), (aEn 4)] w fun c2 w =>
 gI pg (jS c2 0) w fun c3 w =>
 gI pg (jS c2 1) w fun c4 w =>
 jE pg JS #[(.int .u64 10), (aEn 4), (aEn 2)] w fun c6 w =>
 gI pg (jS c6 0) w fun c7 w =>
 gI pg (jS c6 1) w fun c8 w =>
 gI pg (jS c6 2) w fun c9 w =>
 gI pg (lT 22 2 [(0, (.int .u8 1)), (1, (.int .u8 2))]) w fun d1 w =>
 jE pg FB #[d1, (aEn 5)] w fun d2 w =>
 gI pg (jS d2 0) w fun d3 w =>
 gI pg (jS d2 1) w fun d4 w =>
 gI pg (jS d2 2) w fun d5 w =>
 jE pg xQ #[d3, d4, (aEn 2)] w fun d9 w =>
 gI pg (jS d9 0) w fun e0 w =>
 gI pg (jS d9 1) w fun e1 w =>
 gI pg (hU .eql 3 (.tmp 32) (.const (aEn 3)) c3 (aEn 3)) w fun e3 w =>
 Gd (kO e3 true) (fun K => K c4 w) w fun e5 w =>
 Gd (kO e3 true) (fun K => gI pg (hU .eql 24 (.tmp 35) (.const (aEn 0)) e5 (aEn 0)) w K) w fun e6 w =>
 gI pg (mD e3 e6 (.bool false)) w fun e7 w =>
 Gd (kO e7 true) (fun K => K c7 w) w fun e9 w =>
 Gd (kO e7 true) (fun K => gI pg (hU .eql 32 (.tmp 39) (.const (.int .u64 8)) e9 (.int .u64 8)) w K) w fun f0 w =>
 gI pg (mD e7 f0 (.bool false)) w fun f1 w =>
 Gd (kO f1 true) (fun K => K c8 w) w fun f3 w =>
 Gd (kO f1 true) (fun K => gI pg (hU .eql 3 (.tmp 43) (.const (aEn 2)) f3 (aEn 2)) w K) w fun f4 w =>
 gI pg (mD f1 f4 (.bool false)) w fun f5 w =>
 Gd (kO f5 true) (fun K => K c9 w) w fun f7 w =>
 Gd (kO f5 true) (fun K => gI pg (hU .eql 24 (.tmp 47) (.const (aEn 0)) f7 (aEn 0)) w K) w fun f8 w =>
 gI pg (mD f5 f8 (.bool false)) w fun f9 w =>
 Gd (kO f9 true) (fun K => K d3 w) w fun i1 w =>
 Gd (kO f9 true) (fun K => gI pg (hU .eql 5 (.tmp 51) (.const (.int .u8 0)) i1 (.int .u8 0)) w K) w fun i2 w =>
 gI pg (mD f9 i2 (.bool false)) w fun i3 w =>
 Gd (kO i3 true) (fun K => K d5 w) w fun i5 w =>
 Gd (kO i3 true) (fun K => gI pg (hU .eql 24 (.tmp 55) (.const (aEn 0)) i5 (aEn 0)) w K) w fun i6 w =>
 gI pg (mD i3 i6 (.bool false)) w fun i7 w =>
 Gd (kO i7 true) (fun K => K e0 w) w fun i9 w =>
 Gd (kO i7 true) (fun K => gI pg (nE 22 9 i9) w K) w fun j0 w =>
 Gd (kO i7 true) (fun K => gI pg (hU .eql 9 (.tmp 60) (.const (.string ⟨#[1, 2]⟩)) j0 (.string ⟨#[1, 2]⟩)) w K) w fun j1 w =>
 gI pg (mD i7 j1 (.bool false)) w fun j2 w =>
 Gd (kO j2 true) (fun K => K e1 w) w fun j4 w =>
 Gd (kO j2 true) (fun K => gI pg (hU .eql 24 (.tmp 64) (.const (aEn 0)) j4 (aEn 0)) w K) w fun j5 w =>
 gI pg (mD j2 j5 (.bool false)) w fun j6 w =>
 R j6 w
theorem Xp (R : K1) (hr : HR TF R Q) (h : KX R w) : jO pg Q1 OJ Q g w :=
 kZ (kn := no) (l := []) h lU hr trivial
def ZD (w : aEl) (R : K1) : Prop :=
 KX R w
theorem Y3 {w : aEl} {R : K1} (h : ZD w R) : jE pg Is #[] w R := by
 refine wQ (ann := Q1) Tryz.f13 OJ [] TF 67 TryzM.mixed Tryz.func13 ?_
 exact (Xp _ _ _ R (fun _ _ h => h) h)
def D3 : FA := ⟨DV, fun i => .leaf ([], []) []⟩
def GW : List ResultVar := [.tmp 4, .tmp 5]
noncomputable def CM : Code := jX Tryz.f14
def uM (R : K1) (n_6 : aEm) (w : aEl) : Prop :=
 gI pg (hU .gtr 32 jC jC n_6 (.int .u64 1024)) w fun d5 w =>
 lX d5
  (R (.tuple #[(aEn 0), (aEn 12)]) w)
  (gI pg (nE 32 3 n_6) w fun d7 w =>
  R (.tuple #[d7, (aEn 0)]) w)
theorem X0 (R : K1) (hr : HR GW R Q) (h : uM R (g 6) w) : jO pg D3 (gH 4 CM) Q g w :=
 kZ (kn := no) (l := []) h lU hr trivial
def KA (kn : K1) (R : K1) (qM Nx : aEm) (w : aEl) : Prop :=
 gI pg (hU .lss 3 jC jC Nx (aEn 1)) w fun b8 w =>
 Gd (kO b8 false) (fun K => K Nx w) w fun c0 w =>
 Gd (kO b8 false) (fun K => gI pg (hU .gtr 3 jC jC c0 (aEn 65536)) w K) w fun c1 w =>
 gI pg (mD b8 (.bool true) c1) w fun c2 w =>
 lX c2
  (R (.tuple #[(aEn 0), (aEn 1)]) w)
  (gI pg (nE 3 32 Nx) w fun c5 w =>
  gI pg (hU .quo 32 jC jC qM c5) w fun c6 w =>
  gI pg (nE 3 32 Nx) w fun c9 w =>
  gI pg (hU .rem 32 jC jC qM c9) w fun d0 w =>
  gI pg (hU .gtr 32 jC jC d0 (.int .u64 0)) w fun d1 w =>
  lX d1
   (gI pg (hU .add 32 jC jC c6 (.int .u64 1)) w fun d3 w =>
   kn d3 w)
   (kn c6 w))
theorem X3 (kn : K1) (R : K1) (hn : N1 Q kn 6) (hr : HR GW R Q) (h : KA kn R (g 0) (g 1) w) : jO pg D3 (iB 4 CM) Q g w :=
 kZ (l := []) h hn hr trivial
def LO (R : K1) (qM Nx : aEm) (w : aEl) : Prop :=
 KA (fun n_6 w => uM R n_6 w) R qM Nx w
theorem Xe (R : K1) (hr : HR GW R Q) (h : LO R (g 0) (g 1) w) : jO pg D3 CM Q g w :=
 nQ 4 (X3 _ g w (uM R) R (fun g w h => iZ (X0 _ g w R hr h)) hr h)
def ZG (a0 a1 : aEm) (w : aEl) (R : K1) : Prop :=
 LO R a0 a1 w
theorem Yw {a0 a1 : aEm} {w : aEl} {R : K1} (h : ZG a0 a1 w R) : jE pg DV #[a0, a1] w R := by
 refine wQ (ann := D3) Tryz.f14 CM [a0, a1] GW 28 TryzM.mixed Tryz.func14 ?_
 exact (Xe _ _ _ R (fun _ _ h => h) h)
def TO : FA := ⟨JS, fun i => .leaf ([], []) []⟩
def Vd : List ResultVar := [.tmp 6, .tmp 7, .tmp 8]
noncomputable def QT : Code := jX Tryz.f16
def NX (R : K1) (qM Nx i_2 : aEm) (w : aEl) : Prop :=
 jE pg DV #[qM, Nx] w fun c5 w =>
 gI pg (jS c5 0) w fun c6 w =>
 gI pg (jS c5 1) w fun c7 w =>
 gI pg (hU .neq 24 (.tmp 19) (.const (aEn 0)) c7 (aEn 0)) w fun d0 w =>
 lX d0
  (R (.tuple #[(.int .u64 0), (aEn 0), c7]) w)
  (gI pg (hU .lss 3 jC jC i_2 (aEn 0)) w fun d4 w =>
  Gd (kO d4 false) (fun K => K i_2 w) w fun d6 w =>
  Gd (kO d4 false) (fun K => K c6 w) w fun d7 w =>
  Gd (kO d4 false) (fun K => gI pg (hU .geq 3 jC jC d6 d7) w K) w fun d8 w =>
  gI pg (mD d4 (.bool true) d8) w fun d9 w =>
  lX d9
   (R (.tuple #[(.int .u64 0), (aEn 0), (aEn 17)]) w)
   (gI pg (nE 3 32 Nx) w fun e1 w =>
   gI pg (nE 3 32 i_2) w fun e3 w =>
   gI pg (hU .mul 32 jC jC e1 e3) w fun e4 w =>
   gI pg (hU .sub 32 jC jC qM e4) w fun e8 w =>
   gI pg (nE 3 32 Nx) w fun f0 w =>
   gI pg (nX .min #[32, 32] 32 [e8, f0]) w fun f1 w =>
   gI pg (nE 32 3 f1) w fun f2 w =>
   R (.tuple #[e4, f2, (aEn 0)]) w))
theorem YD (R : K1) (hr : HR Vd R Q) (h : NX R (g 0) (g 1) (g 2) w) : jO pg TO QT Q g w :=
 kZ (kn := no) (l := []) h lU hr trivial
def abK (a0 a1 a2 : aEm) (w : aEl) (R : K1) : Prop :=
 NX R a0 a1 a2 w
theorem ZJ {a0 a1 a2 : aEm} {w : aEl} {R : K1} (h : abK a0 a1 a2 w R) : jE pg JS #[a0, a1, a2] w R := by
 refine wQ (ann := TO) Tryz.f16 QT [a0, a1, a2] Vd 43 TryzM.mixed Tryz.func16 ?_
 exact (YD _ _ _ R (fun _ _ h => h) h)
def TD : FA := ⟨FB, fun i => .leaf ([], []) []⟩
def U7 : List ResultVar := [.tmp 4, .tmp 5, .tmp 6]
noncomputable def Rc : Code := jX Tryz.f18
def NF (R : K1) (nJ pQ : aEm) (w : aEl) : Prop :=
 gI pg (nX .len #[22] 3 [nJ]) w fun c0 w =>
 gI pg (hU .gtr 3 jC jC c0 (aEn 65536)) w fun c1 w =>
 lX c1
  (R (.tuple #[(.int .u8 0), (.slice none 0 0), (aEn 1)]) w)
  (jE pg D4 #[nJ, pQ, (.bool false)] w fun c5 w =>
  gI pg (jS c5 0) w fun c6 w =>
  gI pg (jS c5 1) w fun c7 w =>
  gI pg (hU .neq 24 (.tmp 19) (.const (aEn 0)) c7 (aEn 0)) w fun d0 w =>
  lX d0
   (R (.tuple #[(.int .u8 0), (.slice none 0 0), c7]) w)
   (gI pg (nX .len #[22] 3 [c6]) w fun d4 w =>
   gI pg (nX .len #[22] 3 [nJ]) w fun d6 w =>
   gI pg (hU .lss 3 jC jC d4 d6) w fun d7 w =>
   lX d7
    (R (.tuple #[(.int .u8 1), c6, (aEn 0)]) w)
    (jE pg pF #[nJ] w fun e0 w =>
    R (.tuple #[(.int .u8 0), e0, (aEn 0)]) w)))
theorem Y4 (R : K1) (hr : HR U7 R Q) (h : NF R (g 0) (g 1) w) : jO pg TD Rc Q g w :=
 kZ (kn := no) (l := []) h lU hr trivial
def abM (a0 a1 : aEm) (w : aEl) (R : K1) : Prop :=
 NF R a0 a1 w
theorem ZK {a0 a1 : aEm} {w : aEl} {R : K1} (h : abM a0 a1 w R) : jE pg FB #[a0, a1] w R := by
 refine wQ (ann := TD) Tryz.f18 Rc [a0, a1] U7 31 TryzM.mixed Tryz.func18 ?_
 exact (Y4 _ _ _ R (fun _ _ h => h) h)
def OQ : FA := ⟨xQ, fun i => .leaf ([], []) []⟩
def Q4 : List ResultVar := [.tmp 6, .tmp 7]
noncomputable def MM : Code := jX Tryz.f19
def D8 (R : K1) (TA AB X7 : aEm) (w : aEl) : Prop :=
 gI pg (hU .lss 3 jC jC X7 (aEn 0)) w fun c5 w =>
 Gd (kO c5 false) (fun K => K X7 w) w fun c7 w =>
 Gd (kO c5 false) (fun K => gI pg (hU .gtr 3 jC jC c7 (aEn 65536)) w K) w fun c8 w =>
 gI pg (mD c5 (.bool true) c8) w fun c9 w =>
 lX c9
  (R (.tuple #[(.slice none 0 0), (aEn 1)]) w)
  (gI pg (hU .eql 5 (.tmp 21) (.const (.int .u8 0)) TA (.int .u8 0)) w fun d2 w =>
  Gd (kO d2 true) (fun K => K AB w) w fun d4 w =>
  Gd (kO d2 true) (fun K => gI pg (nX .len #[22] 3 [d4]) w K) w fun d5 w =>
  Gd (kO d2 true) (fun K => K X7 w) w fun d6 w =>
  Gd (kO d2 true) (fun K => gI pg (hU .eql 3 (.tmp 25) (.tmp 26) d5 d6) w K) w fun d7 w =>
  gI pg (mD d2 d7 (.bool false)) w fun d8 w =>
  lX d8
   (jE pg pF #[AB] w fun e0 w =>
   R (.tuple #[e0, (aEn 0)]) w)
   (gI pg (hU .neq 5 (.tmp 32) (.const (.int .u8 1)) TA (.int .u8 1)) w fun e3 w =>
   lX e3
    (R (.tuple #[(.slice none 0 0), (aEn 11)]) w)
    (jE pg D9 #[AB, (aEn 22), X7] w fun e7 w =>
    gI pg (jS e7 0) w fun e8 w =>
    gI pg (jS e7 1) w fun e9 w =>
    gI pg (hU .neq 24 (.tmp 40) (.const (aEn 0)) e9 (aEn 0)) w fun f1 w =>
    lX f1
     (R (.tuple #[(.slice none 0 0), e9]) w)
     (jE pg D1 #[AB, (aEn 22), X7] w fun f6 w =>
     gI pg (jS f6 0) w fun f7 w =>
     gI pg (jS f6 1) w fun f8 w =>
     gI pg (jS f6 2) w fun f9 w =>
     gI pg (hU .neq 3 (.tmp 50) (.const (aEn 1)) f7 (aEn 1)) w fun i1 w =>
     Gd (kO i1 false) (fun K => K f8 w) w fun i3 w =>
     Gd (kO i1 false) (fun K => gI pg (hU .neq 3 (.tmp 53) (.const (aEn 0)) i3 (aEn 0)) w K) w fun i4 w =>
     gI pg (mD i1 (.bool true) i4) w fun i5 w =>
     Gd (kO i5 false) (fun K => K e8 w) w fun i7 w =>
     Gd (kO i5 false) (fun K => gI pg (nX .len #[22] 3 [i7]) w K) w fun i8 w =>
     Gd (kO i5 false) (fun K => K X7 w) w fun i9 w =>
     Gd (kO i5 false) (fun K => gI pg (hU .neq 3 (.tmp 58) (.tmp 59) i8 i9) w K) w fun j0 w =>
     gI pg (mD i5 (.bool true) j0) w fun j1 w =>
     lX j1
      (R (.tuple #[(.slice none 0 0), (aEn 11)]) w)
      (R (.tuple #[e8, (aEn 0)]) w)))))
theorem VL (R : K1) (hr : HR Q4 R Q) (h : D8 R (g 0) (g 1) (g 2) w) : jO pg OQ MM Q g w :=
 kZ (kn := no) (l := []) h lU hr trivial
def PK (a0 a1 a2 : aEm) (w : aEl) (R : K1) : Prop :=
 D8 R a0 a1 a2 w
theorem MU {a0 a1 a2 : aEm} {w : aEl} {R : K1} (h : PK a0 a1 a2 w R) : jE pg xQ #[a0, a1, a2] w R := by
 refine wQ (ann := OQ) Tryz.f19 MM [a0, a1, a2] Q4 63 TryzM.mixed Tryz.func19 ?_
 exact (VL _ _ _ R (fun _ _ h => h) h)
def AN : FA := ⟨IG, fun i => .leaf ([], []) []⟩
def J9 : List ResultVar := [.tmp 4]
noncomputable def xV : Code := jX Tryz.f20
def Cg (R : K1) (qM d_5 n_6 Gn : aEm) (w : aEl) : Prop :=
 jE pg oS #[] w fun d7 w =>
 jE pg jR #[d7, (.int .u64 4247762216), (aEn 4)] w fun d9 w =>
 jE pg jR #[d7, d_5, (aEn 1)] w fun e2 w =>
 gI pg (hU .sub 32 jC jC qM Gn) w fun e6 w =>
 jE pg jR #[d7, e6, n_6] w fun e8 w =>
 jE pg oB #[d7] w fun f0 w =>
 R f0 w
theorem Xz (R : K1) (hr : HR J9 R Q) (h : Cg R (g 0) (g 5) (g 6) (g 7) w) : jO pg AN (gH 1 (gH 3 xV)) Q g w :=
 kZ (kn := no) (l := []) h lU hr trivial
def Kj (kn : K4) (qM pN d_5 n_6 Gn : aEm) (w : aEl) : Prop :=
 lX pN
  (gI pg (hU .or 32 jC jC d_5 (.int .u64 4)) w fun d6 w =>
  kn qM d6 n_6 Gn w)
  (kn qM d_5 n_6 Gn w)
theorem XO (kn : K4) (hn : N4 Q kn 0 5 6 7) (h : Kj kn (g 0) (g 1) (g 5) (g 6) (g 7) w) : jO pg AN (iB 1 (gH 3 xV)) Q g w :=
 kZ (kr := no) (l := []) h hn lU trivial
def LI (R : K1) (qM pN d_5 n_6 Gn : aEm) (w : aEl) : Prop :=
 Kj (fun qM d_5 n_6 Gn w => Cg R qM d_5 n_6 Gn w) qM pN d_5 n_6 Gn w
def J8 (kn : K5) (qM pN : aEm) (w : aEl) : Prop :=
 gI pg (hU .lss 32 jC jC qM (.int .u64 256)) w fun c3 w =>
 lX c3
  (kn qM pN (.int .u64 32) (aEn 1) (.int .u64 0) w)
  (gI pg (hU .lss 32 jC jC qM (.int .u64 65792)) w fun c6 w =>
  lX c6
   (gI pg (hU .or 32 jC jC (.int .u64 32) (.int .u64 64)) w fun c8 w =>
   kn qM pN c8 (aEn 2) (.int .u64 256) w)
   (gI pg (hU .lss 32 jC jC qM (.int .u64 4294967296)) w fun d1 w =>
   lX d1
    (gI pg (hU .or 32 jC jC (.int .u64 32) (.int .u64 128)) w fun d3 w =>
    kn qM pN d3 (aEn 4) (.int .u64 0) w)
    (gI pg (hU .or 32 jC jC (.int .u64 32) (.int .u64 192)) w fun c0 w =>
    kn qM pN c0 (aEn 8) (.int .u64 0) w)))
theorem WQ (kn : K5) (hn : N5 Q kn 0 1 5 6 7) (h : J8 kn (g 0) (g 1) w) : jO pg AN (iB 3 xV) Q g w :=
 kZ (kr := no) (l := []) h hn lU trivial
def KL (R : K1) (qM pN : aEm) (w : aEl) : Prop :=
 J8 (fun qM pN d_5 n_6 Gn w => LI R qM pN d_5 n_6 Gn w) qM pN w
theorem Wn (R : K1) (hr : HR J9 R Q) (h : KL R (g 0) (g 1) w) : jO pg AN xV Q g w :=
 nQ 3 (WQ _ g w (LI R) (fun g w h => iZ (nQ 1 (XO _ g w (Cg R) (fun g w h => iZ (Xz _ g w R hr h)) h))) h)
def Zl (a0 a1 : aEm) (w : aEl) (R : K1) : Prop :=
 KL R a0 a1 w
theorem Yh {a0 a1 : aEm} {w : aEl} {R : K1} (h : Zl a0 a1 w R) : jE pg IG #[a0, a1] w R := by
 refine wQ (ann := AN) Tryz.f20 xV [a0, a1] J9 41 TryzM.mixed Tryz.func20 ?_
 exact (Wn _ _ _ R (fun _ _ h => h) h)
def MP : FA := ⟨vJ, fun i => .leaf ([], []) []⟩
def OE : List ResultVar := [.cell 0 45]
noncomputable def Kb : Code := jX Tryz.f21
def HB (R : K1)  (w : aEl) : Prop :=
 gI pg (oK 45) w fun b0 w =>
 gI pg (kV 45 [(0, (.int .u32 1)), (1, (.int .u32 4)), (2, (.int .u32 8))]) w fun b1 w =>
 gI pg (jQ 45 b0 b1) w fun _u w =>
 Nq pg 45 b0 w fun r0 => R r0 w
theorem UG (R : K1) (hr : HR OE R Q) (h : HB R w) : jO pg MP Kb Q g w :=
 kZ (kn := no) (l := []) h lU hr trivial
def Vl (w : aEl) (R : K1) : Prop :=
 HB R w
theorem VW {w : aEl} {R : K1} (h : Vl w R) : jE pg vJ #[] w R := by
 refine wQ (ann := MP) Tryz.f21 Kb [] OE 2 TryzM.mixed Tryz.func21 ?_
 exact (UG _ _ _ R (fun _ _ h => h) h)
def Cr : FA := ⟨Gu, fun i => match Nat.beq i 5 with | true => .leaf ([3], [(1, 3)]) [(false, []), (false, []), (false, []), (true, [1]), (false, [])] | false => match Nat.beq i 8 with | true => .leaf ([5, 7, 9], [(1, 5), (3, 5), (3, 7)]) [(false, []), (false, []), (false, []), (false, []), (false, []), (true, [1, 3]), (false, []), (true, [3]), (false, []), (true, [])] | false => match Nat.beq i 11 with | true => .leaf ([3], []) [(false, []), (false, []), (false, []), (true, []), (false, [])] | false => match Nat.beq i 12 with | true => .leaf ([2, 5], [(2, 3)]) [(false, []), (false, []), (true, []), (false, [0]), (false, []), (true, []), (false, [])] | false => .leaf ([], []) []⟩
def Jh : List ResultVar := [.tmp 10, .cell 11 45, .tmp 12]
noncomputable def BA : Code := jX Tryz.f22
def vK (R : K1) (BC c1 Yn XC : aEm) (w : aEl) : Prop :=
 gI pg (jG 65 Yn) w fun j4 w =>
 jE pg Ar #[j4] w fun j5 w =>
 gI pg (jS j5 0) w fun j6 w =>
 gI pg (jS j5 1) w fun j7 w =>
 gI pg (hU .neq 24 (.tmp 68) (.const (aEn 0)) j7 (aEn 0)) w fun j9 w =>
 lX j9
  (gI pg (jG 45 BC) (dr w) fun l0 w_ => w_ = (dr w) /\
  (dr w) = (dr w) /\
  (dr w) = (dr w) /\
  gI pg (jQ 45 c1 l0) (dr w) fun _u3 anA =>
  anA = anA /\
  Nq pg 45 c1 anA fun r1 => R (.tuple #[(.slice none 0 0), r1, j7]) anA)
  ((dr w) = (dr w) /\
  (dr w) = (dr w) /\
  gI pg (nX .append #[22, 22] 22 [j6, XC]) (dr w) fun l4 ahC =>
  gI pg (jG 45 BC) ahC fun l5 w_ => w_ = ahC /\
  (jD pg (jG 45 BC) l5 (dr w) /\ True) /\
  ahC = ahC /\
  gI pg (jQ 45 c1 l5) ahC fun _u5 amY =>
  amY = amY /\
  Nq pg 45 c1 amY fun r1 => R (.tuple #[l4, r1, (aEn 0)]) amY)
theorem Vt (R : K1) (hr : HR Jh R Q) (h : vK R (g 9) (g 11) (g 14) (g 15) w) : jO pg Cr (gH 5 BA) Q g w :=
 kZ (kn := no) (l := []) h lU hr trivial
def Jt (kn : K4) (nJ lP b2 jL r_4 : aEm) (w : aEl) : Prop :=
 gI pg (RV 45 r_4) w fun BC w =>
 gI pg (oK 45) w fun c1 w =>
 gI pg (lR 22 nJ (some lP) (some b2) none) w fun d4 w =>
 gI pg (nX .len #[22] 3 [nJ]) w fun d7 w =>
 gI pg (hU .eql 3 (.tmp 25) (.tmp 27) b2 d7) w fun d8 w =>
 gI pg (nX .len #[22] 3 [d4]) w fun e0 w =>
 gI pg (kV 65 [(0, d8), (1, (aEn 0)), (2, e0)]) w fun e1 w =>
 gI pg (oK 65) w fun Yn w =>
 gI pg (jQ 65 Yn e1) w fun _u w =>
 jE pg B6 #[d4] w fun e4 w =>
 lX e4
  ((dr w) = (dr w) /\
  gI pg (lR 22 d4 none (some (aEn 1)) none) (dr w) fun e6 w_ => w_ = (dr w) /\
  gI pg (jI 65 Yn 1) (dr w) fun e7 w_ => w_ = (dr w) /\
  gI pg (jQ 3 e7 (aEn 1)) (dr w) fun _u3 akW =>
  (jD pg (lR 22 d4 none (some (aEn 1)) none) e6 akW /\ True) /\
  akW = akW /\
  kn BC c1 Yn e6 akW)
  (gI pg (jG 45 BC) w fun f3 w =>
  jE pg D7 #[nJ, lP, b2, jL, f3] w fun f4 w =>
  gI pg (jS f4 0) w fun f5 w =>
  gI pg (jS f4 1) w fun f6 w =>
  gI pg (jS f4 2) w fun f7 w =>
  gI pg (oK 45) w fun c7 w =>
  gI pg (jQ 45 c7 f6) w fun _u w =>
  gI pg (hU .eql 24 (.tmp 48) (.const (aEn 0)) f7 (aEn 0)) w fun f9 w =>
  Gd (kO f9 true) (fun K => K f5 w) w fun i1 w =>
  Gd (kO f9 true) (fun K => gI pg (nX .len #[22] 3 [i1]) w K) w fun i2 w =>
  Gd (kO f9 true) (fun K => K d4 w) w fun i3 w =>
  Gd (kO f9 true) (fun K => gI pg (nX .len #[22] 3 [i3]) w K) w fun i4 w =>
  Gd (kO f9 true) (fun K => gI pg (hU .lss 3 jC jC i2 i4) w K) w fun i5 w =>
  gI pg (mD f9 i5 (.bool false)) w fun i6 w =>
  lX i6
   ((dr w) = (dr w) /\
   gI pg (nX .len #[22] 3 [f5]) (dr w) fun i8 w_ => w_ = (dr w) /\
   (dr w) = (dr w) /\
   gI pg (jG 45 c7) (dr w) fun j0 w_ => w_ = (dr w) /\
   gI pg (jI 65 Yn 1) (dr w) fun j1 w_ => w_ = (dr w) /\
   gI pg (jQ 3 j1 (aEn 2)) (dr w) fun _u5 auA =>
   (jD pg (jG 45 c7) j0 auA /\ jD pg (nX .len #[22] 3 [f5]) i8 auA /\ True) /\
   gI pg (jI 65 Yn 2) auA fun j2 w_ => w_ = auA /\
   gI pg (jQ 3 j2 i8) auA fun _u7 avS =>
   (jD pg (jG 45 c7) j0 avS /\ True) /\
   avS = avS /\
   gI pg (jQ 45 BC j0) avS fun _u9 aBw =>
   kn BC c1 Yn f5 aBw)
   (kn BC c1 Yn d4 w))
theorem VD (kn : K4) (hn : N4 Q kn 9 11 14 15) (h : Jt kn (g 0) (g 1) (g 2) (g 3) (g 4) w) : jO pg Cr (iB 5 BA) Q g w :=
 kZ (kr := no) (l := []) h hn lU trivial
def Jl (R : K1) (nJ lP b2 jL r_4 : aEm) (w : aEl) : Prop :=
 Jt (fun BC c1 Yn XC w => vK R BC c1 Yn XC w) nJ lP b2 jL r_4 w
theorem VF (R : K1) (hr : HR Jh R Q) (h : Jl R (g 0) (g 1) (g 2) (g 3) (g 4) w) : jO pg Cr BA Q g w :=
 nQ 5 (VD _ g w (vK R) (fun g w h => iZ (Vt _ g w R hr h)) h)
def Xw (a0 a1 a2 a3 a4 : aEm) (w : aEl) (R : K1) : Prop :=
 Jl R a0 a1 a2 a3 a4 w
theorem Wv {a0 a1 a2 a3 a4 : aEm} {w : aEl} {R : K1} (h : Xw a0 a1 a2 a3 a4 w R) : jE pg Gu #[a0, a1, a2, a3, a4] w R := by
 refine wQ (ann := Cr) Tryz.f22 BA [a0, a1, a2, a3, a4] Jh 76 TryzM.mixed Tryz.func22 ?_
 exact (VF _ _ _ R (fun _ _ h => h) h)
def abY : FA := ⟨OG, fun i => .leaf ([], []) []⟩
def adT : List ResultVar := [.tmp 2]
noncomputable def Zi : Code := jX Tryz.f23
def YE (R : K1) (nJ : aEm) (w : aEl) : Prop :=
 jE pg TX #[] w fun b4 w =>
 jE pg CK #[b4, nJ] w fun b7 w =>
 jE pg FX #[b4] w fun b9 w =>
 R b9 w
theorem afN (R : K1) (hr : HR adT R Q) (h : YE R (g 0) w) : jO pg abY Zi Q g w :=
 kZ (kn := no) (l := []) h lU hr trivial
def atT (a0 : aEm) (w : aEl) (R : K1) : Prop :=
 YE R a0 w
theorem ahH {a0 : aEm} {w : aEl} {R : K1} (h : atT a0 w R) : jE pg OG #[a0] w R := by
 refine wQ (ann := abY) Tryz.f23 Zi [a0] adT 10 TryzM.mixed Tryz.func23 ?_
 exact (afN _ _ _ R (fun _ _ h => h) h)
def qN : FA := ⟨Ga, fun i => match Nat.beq i 3 with | true => .leaf ([1, 6], [(1, 3)]) [(false, []), (true, []), (false, []), (false, [1]), (false, []), (false, []), (true, []), (false, [])] | false => .leaf ([], []) []⟩
def sI : List ResultVar := [.tmp 6, .tmp 7]
noncomputable def qB : Code := jX Tryz.f24
def Iy (R : K1) (IU : aEm) (w : aEl) : Prop :=
 R (.tuple #[IU, (aEn 0)]) w
theorem YV (R : K1) (hr : HR sI R Q) (h : Iy R (g 8) w) : jO pg qN (gH 1 (gH 3 qB)) Q g w :=
 kZ (kn := no) (l := []) h lU hr trivial
def AP (kn : K1) (R : K1) (IU apL : aEm) (w : aEl) : Prop :=
 gI pg (hU .neq 24 (.tmp 64) (.const (aEn 0)) apL (aEn 0)) w fun j5 w =>
 lX j5
  (R (.tuple #[(.pointer none), apL]) w)
  (kn IU w)
theorem YH (kn : K1) (R : K1) (hn : N1 Q kn 8) (hr : HR sI R Q) (h : AP kn R (g 8) (g 10) w) : jO pg qN (gH 4 (bI (gH 1 (bI (bI (iB 1 (gH 3 qB))))))) Q g w :=
 kZ (l := []) h hn hr trivial
def Nb (kn : K2) (R : K1) (IU : aEm) (w : aEl) : Prop :=
 gI pg (nK IU) w fun e5 w =>
 gI pg (jI 56 e5 0) w fun e6 w =>
 gI pg (jG 54 e6) w fun e7 w =>
 jE pg lB #[e7, (aEn 4)] w fun e8 w =>
 gI pg (nK IU) w fun f0 w =>
 gI pg (jI 56 f0 0) w fun f1 w =>
 gI pg (jG 54 f1) w fun f2 w =>
 jE pg lZ #[f2] w fun f3 w =>
 gI pg (hU .neq 24 (.tmp 43) (.const (aEn 0)) f3 (aEn 0)) w fun f4 w =>
 lX f4
  (gI pg (nK IU) w fun f6 w =>
  gI pg (jI 56 f6 0) w fun f7 w =>
  gI pg (jG 54 f7) w fun f8 w =>
  jE pg lZ #[f8] w fun f9 w =>
  R (.tuple #[(.pointer none), f9]) w)
  (gI pg (hU .eql 32 (.tmp 51) (.const (.int .u64 4247762216)) e8 (.int .u64 4247762216)) w fun i2 w =>
  lX i2
   (jE pg vN #[IU] w fun i4 w =>
   kn IU i4 w)
   (gI pg (hU .geq 32 jC jC e8 (.int .u64 407710288)) w fun i7 w =>
   Gd (kO i7 true) (fun K => K e8 w) w fun i9 w =>
   Gd (kO i7 true) (fun K => gI pg (hU .lss 32 jC jC i9 (.int .u64 407710304)) w K) w fun j0 w =>
   gI pg (mD i7 j0 (.bool false)) w fun j1 w =>
   lX j1
    (jE pg xA #[IU] w fun j3 w =>
    kn IU j3 w)
    (kn IU (aEn 11) w)))
theorem YA (kn : K2) (R : K1) (hn : N2 Q kn 8 10) (hr : HR sI R Q) (h : Nb kn R (g 8) w) : jO pg qN (iB 4 (bI (gH 1 (bI (bI (iB 1 (gH 3 qB))))))) Q g w :=
 kZ (l := []) h hn hr trivial
def Vf (kn : K1) (R : K1) (IU : aEm) (w : aEl) : Prop :=
 Nb (fun IU apL w => AP kn R IU apL w) R IU w
def Og (kn : K1) (R : K1) (IU : aEm) (w : aEl) : Prop :=
 Vf kn R IU w
def Om (kn : K1) (k0 : K1) (IU : aEm) (w : aEl) : Prop :=
 gI pg (nK IU) w fun d9 w =>
 gI pg (jI 56 d9 0) w fun e0 w =>
 gI pg (jG 54 e0) w fun e1 w =>
 jE pg oN #[e1] w fun e2 w =>
 gI pg (hU .gtr 3 jC jC e2 (aEn 0)) w fun e3 w =>
 lX e3
  (kn IU w)
  (k0 IU w)
theorem YU (kn : K1) (k0 : K1) (hn : N1 Q kn 8) (h0 : E1 Q k0 0 8) (h : Om kn k0 (g 8) w) : jO pg qN (iB 1 (bI (bI (iB 1 (gH 3 qB))))) Q g w :=
 kZ (kr := no) (l := [(0, fun g w => k0 (g 8) w)]) h hn lU ⟨h0, trivial⟩
def IE (kn : K1) (k0 : K1) (R : K1) (IU : aEm) (w : aEl) : Prop :=
 Om (fun IU w => Og kn R IU w) k0 IU w
def Of (k0 : K1) (R : K1) (IU : aEm) (w : aEl) : Prop :=
 kP (fun (X : Unit -> K0) (t : Unit) (w : aEl) => IE (fun _ w => X () w) k0 R IU w) () w
theorem Y9 (kn : K1) (k0 : K1) (R : K1) (hn : N1 Q kn 8) (h0 : E1 Q k0 0 8) (hr : HR sI R Q) (h : IE kn k0 R (g 8) w) : jO pg qN (bI (bI (iB 1 (gH 3 qB)))) Q g w :=
 nQ 1 (YU _ g w (Og kn R) k0 (fun g w h => iZ (Iw 1 (nQ 4 (YA _ g w (AP kn R) R (fun g w h => iZ (YH _ g w kn R hn hr h)) hr h)))) h0 h)
theorem YZ (k0 : K1) (R : K1) (h0 : E1 Q k0 0 8) (hr : HR sI R Q) (h : Of k0 R (g 8) w) : jO pg qN (bI (iB 1 (gH 3 qB))) Q g w := by
 refine Ov (fun _ : Env => ()) (fun X t w => IE (fun _ w => X () w) k0 R (g 8) w) h (fun X g1 w1 ha hL => ?_)
 rw [<- rI 8 ha] at hL
 exact (Y9 _ g1 w1 (fun _ w => X () w) k0 R (fun _ _ h => h) h0 hr hL)
def NH (kn : K1) (R : K1) (IU : aEm) (w : aEl) : Prop :=
 Of kn R IU w
def GP (R : K1) (IU : aEm) (w : aEl) : Prop :=
 NH (fun IU w => Iy R IU w) R IU w
theorem Yg (kn : K1) (R : K1) (hn : N1 Q kn 8) (hr : HR sI R Q) (h : NH kn R (g 8) w) : jO pg qN (iB 1 (gH 3 qB)) Q g w :=
 Iw 0 (YZ _ g w kn R hn hr h)
def LF (kn : K1) (R : K1) (nJ U8 Ti : aEm) (w : aEl) : Prop :=
 gI pg (hU .lss 3 jC jC U8 (aEn 10)) w fun c2 w =>
 Gd (kO c2 false) (fun K => K U8 w) w fun c4 w =>
 Gd (kO c2 false) (fun K => gI pg (hU .gtr 3 jC jC c4 (aEn 22)) w K) w fun c5 w =>
 gI pg (mD c2 (.bool true) c5) w fun c6 w =>
 Gd (kO c6 false) (fun K => K Ti w) w fun c8 w =>
 Gd (kO c6 false) (fun K => gI pg (hU .lss 3 jC jC c8 (aEn 0)) w K) w fun c9 w =>
 gI pg (mD c6 (.bool true) c9) w fun d0 w =>
 lX d0
  (R (.tuple #[(.pointer none), (aEn 1)]) w)
  ((dr w) = (dr w) /\
  jE pg pW #[nJ] (dr w) fun d2 yD =>
  yD = yD /\
  gI pg (hU .shl 32 jC jC (.int .u64 1) U8) yD fun d4 w_ => w_ = yD /\
  (jD pg (hU .shl 32 jC jC (.int .u64 1) U8) d4 (dr w) /\ True) /\
  yD = yD /\
  gI pg (kV 56 [(0, d2), (1, d4), (2, Ti)]) yD fun d6 w_ => w_ = yD /\
  gI pg (RV 56 d6) yD fun d7 ayQ =>
  ayQ = ayQ /\
  kn d7 ayQ)
theorem XW (kn : K1) (R : K1) (hn : N1 Q kn 8) (hr : HR sI R Q) (h : LF kn R (g 0) (g 1) (g 2) w) : jO pg qN (iB 3 qB) Q g w :=
 kZ (l := []) h hn hr trivial
def Lz (R : K1) (nJ U8 Ti : aEm) (w : aEl) : Prop :=
 LF (fun IU w => GP R IU w) R nJ U8 Ti w
theorem Ww (R : K1) (hr : HR sI R Q) (h : Lz R (g 0) (g 1) (g 2) w) : jO pg qN qB Q g w :=
 nQ 3 (XW _ g w (GP R) R (fun g w h => iZ (nQ 1 (Yg _ g w (Iy R) R (fun g w h => iZ (YV _ g w R hr h)) hr h))) hr h)
def abI (a0 a1 a2 : aEm) (w : aEl) (R : K1) : Prop :=
 Lz R a0 a1 a2 w
theorem ZS {a0 a1 a2 : aEm} {w : aEl} {R : K1} (h : abI a0 a1 a2 w R) : jE pg Ga #[a0, a1, a2] w R := by
 refine wQ (ann := qN) Tryz.f24 qB [a0, a1, a2] sI 68 TryzM.mixed Tryz.func24 ?_
 exact (Ww _ _ _ R (fun _ _ h => h) h)
def Hh : FA := ⟨pF, fun i => .leaf ([], []) []⟩
def IW : List ResultVar := [.tmp 2]
noncomputable def GA : Code := jX Tryz.f25
def Cm (R : K1) (pO : aEm) (w : aEl) : Prop :=
 gI pg (hU .eql 22 (.tmp 3) (.const (.slice none 0 0)) pO (.slice none 0 0)) w fun b4 w =>
 lX b4
  (R (.slice none 0 0) w)
  (gI pg (lT 22 0 []) w fun b5 w =>
  gI pg (nX .append #[22, 22] 22 [b5, pO]) w fun b7 w =>
  R b7 w)
theorem Pm (R : K1) (hr : HR IW R Q) (h : Cm R (g 0) w) : jO pg Hh GA Q g w :=
 kZ (kn := no) (l := []) h lU hr trivial
def MR (a0 : aEm) (w : aEl) (R : K1) : Prop :=
 Cm R a0 w
theorem PL {a0 : aEm} {w : aEl} {R : K1} (h : MR a0 w R) : jE pg pF #[a0] w R := by
 refine wQ (ann := Hh) Tryz.f25 GA [a0] IW 8 TryzM.mixed Tryz.func25 ?_
 exact (Pm _ _ _ R (fun _ _ h => h) h)
def MB : FA := ⟨D1, fun i => match Nat.beq i 4 with | true => .leaf ([], []) [(false, []), (false, []), (false, []), (false, []), (false, []), (false, []), (false, []), (false, []), (false, []), (false, []), (false, [])] | false => .leaf ([], []) []⟩
def Ph : List ResultVar := [.tmp 6, .tmp 7, .tmp 8]
noncomputable def La : Code := jX Tryz.f26
def Ih (R : K1) (nJ U8 Ti : aEm) (w : aEl) : Prop :=
 jE pg Ga #[nJ, U8, Ti] w fun c5 w =>
 gI pg (jS c5 0) w fun c6 w =>
 gI pg (jS c5 1) w fun c7 w =>
 gI pg (hU .neq 24 (.tmp 18) (.const (aEn 0)) c7 (aEn 0)) w fun c9 w =>
 lX c9
  (R (.tuple #[(aEn 0), (aEn 0), c7]) w)
  ((dr w) = (dr w) /\
  gI pg (nK c6) (dr w) fun d2 w_ => w_ = (dr w) /\
  gI pg (jI 56 d2 4) (dr w) fun d3 w_ => w_ = (dr w) /\
  gI pg (jG 3 d3) (dr w) fun d4 w_ => w_ = (dr w) /\
  (dr w) = (dr w) /\
  gI pg (nK c6) (dr w) fun d6 w_ => w_ = (dr w) /\
  gI pg (jI 56 d6 5) (dr w) fun d7 w_ => w_ = (dr w) /\
  gI pg (jG 3 d7) (dr w) fun d8 w_ => w_ = (dr w) /\
  (dr w) = (dr w) /\
  (dr w) = (dr w) /\
  (dr w) = (dr w) /\
  R (.tuple #[d4, d8, (aEn 0)]) (dr w))
theorem UI (R : K1) (hr : HR Ph R Q) (h : Ih R (g 0) (g 1) (g 2) w) : jO pg MB La Q g w :=
 kZ (kn := no) (l := []) h lU hr trivial
def Vc (a0 a1 a2 : aEm) (w : aEl) (R : K1) : Prop :=
 Ih R a0 a1 a2 w
theorem V9 {a0 a1 a2 : aEm} {w : aEl} {R : K1} (h : Vc a0 a1 a2 w R) : jE pg D1 #[a0, a1, a2] w R := by
 refine wQ (ann := MB) Tryz.f26 La [a0, a1, a2] Ph 29 TryzM.mixed Tryz.func26 ?_
 exact (UI _ _ _ R (fun _ _ h => h) h)
def I2 : FA := ⟨oS, fun i => .leaf ([], []) []⟩
def Jw : List ResultVar := [.tmp 0]
noncomputable def G2 : Code := jX Tryz.f27
def Db (R : K1)  (w : aEl) : Prop :=
 gI pg (kV 77 []) w fun b1 w =>
 gI pg (RV 77 b1) w fun b2 w =>
 R b2 w
theorem QQ (R : K1) (hr : HR Jw R Q) (h : Db R w) : jO pg I2 G2 Q g w :=
 kZ (kn := no) (l := []) h lU hr trivial
def OV (w : aEl) (R : K1) : Prop :=
 Db R w
theorem Sd {w : aEl} {R : K1} (h : OV w R) : jE pg oS #[] w R := by
 refine wQ (ann := I2) Tryz.f27 G2 [] Jw 3 TryzM.mixed Tryz.func27 ?_
 exact (QQ _ _ _ R (fun _ _ h => h) h)
def qO : FA := ⟨jR, fun i => .leaf ([], []) []⟩
def xT : List ResultVar := []
noncomputable def qG : Code := jX Tryz.f28
def tF (kn : K4) (k0 : K0) (yX DB c7 c8 : aEm) (w : aEl) : Prop :=
 gI pg (hU .lss 3 jC jC c8 c7) w fun c9 w =>
 lX c9
  (gI pg (nK yX) w fun d3 w =>
  gI pg (jI 77 d3 0) w fun d4 w =>
  gI pg (jG 22 d4) w fun d5 w =>
  gI pg (hU .mul 3 jC jC (aEn 8) c8) w fun d8 w =>
  gI pg (nE 3 50 d8) w fun d9 w =>
  gI pg (hU .shr 32 jC jC DB d9) w fun e0 w =>
  gI pg (nE 32 5 e0) w fun e1 w =>
  gI pg (lT 22 1 [(0, e1)]) w fun e2 w =>
  gI pg (nX .append #[22, 22] 22 [d5, e2]) w fun e3 w =>
  gI pg (nK yX) w fun e4 w =>
  gI pg (jI 77 e4 0) w fun e5 w =>
  gI pg (jQ 22 e5 e3) w fun _u w =>
  gI pg (hU .add 3 jC jC c8 (aEn 1)) w fun e6 w =>
  kn yX DB c7 e6 w)
  (k0 w)
theorem KB (kn : K4) (k0 : K0) (hn : N4 Q kn 0 1 17 18) (h0 : E0 Q k0 0) (h : tF kn k0 (g 0) (g 1) (g 17) (g 18) w) : jO pg qO (bI (bI (gH 2 qG))) Q g w :=
 kZ (kr := no) (l := [(0, fun g w => k0 w)]) h hn lU ⟨h0, trivial⟩
def yC (k0 : K0) (yX DB c7 c8 : aEm) (w : aEl) : Prop :=
 kP (fun (X : aEm -> K0) (t : aEm) (w : aEl) => tF (fun _ _ _ c8 w => X c8 w) k0 yX DB c7 t w) c8 w
theorem KW (k0 : K0) (h0 : E0 Q k0 0) (h : yC k0 (g 0) (g 1) (g 17) (g 18) w) : jO pg qO (bI (gH 2 qG)) Q g w := by
 refine Ov (fun g : Env => g 18) (fun X t w => tF (fun _ _ _ c8 w => X c8 w) k0 (g 0) (g 1) (g 17) t w) h (fun X g1 w1 ha hL => ?_)
 rw [<- rI 0 ha, <- rI 1 ha, <- rI 17 ha] at hL
 exact (KB _ g1 w1 (fun _ _ _ c8 w => X c8 w) k0 (fun _ _ h => h) h0 hL)
def yB (kn : K0) (yX DB c7 c8 : aEm) (w : aEl) : Prop :=
 yC kn yX DB c7 c8 w
def yA (kn : K4) (R : K1) (yX DB Sy : aEm) (w : aEl) : Prop :=
 gI pg (hU .eql 60 (.tmp 7) (.const (.pointer none)) yX (.pointer none)) w fun b8 w =>
 Gd (kO b8 false) (fun K => K Sy w) w fun c0 w =>
 Gd (kO b8 false) (fun K => gI pg (hU .lss 3 jC jC c0 (aEn 1)) w K) w fun c1 w =>
 gI pg (mD b8 (.bool true) c1) w fun c2 w =>
 Gd (kO c2 false) (fun K => K Sy w) w fun c4 w =>
 Gd (kO c2 false) (fun K => gI pg (hU .gtr 3 jC jC c4 (aEn 8)) w K) w fun c5 w =>
 gI pg (mD c2 (.bool true) c5) w fun c6 w =>
 lX c6
  (R (.tuple #[]) w)
  (kn yX DB Sy (aEn 0) w)
theorem Lk (kn : K4) (R : K1) (hn : N4 Q kn 0 1 17 18) (hr : HR xT R Q) (h : yA kn R (g 0) (g 1) (g 2) w) : jO pg qO (iB 2 qG) Q g w :=
 kZ (l := []) h hn hr trivial
def yK (kn : K0) (R : K1) (yX DB Sy : aEm) (w : aEl) : Prop :=
 yA (fun yX DB c7 c8 w => yB kn yX DB c7 c8 w) R yX DB Sy w
theorem KH (kn : K0) (R : K1) (hn : N0 Q kn) (hr : HR xT R Q) (h : yK kn R (g 0) (g 1) (g 2) w) : jO pg qO qG Q g w :=
 nQ 2 (Lk _ g w (yB kn) R (fun g w h => iZ (Iw 0 (KW _ g w kn hn h))) hr h)
def I8 (a0 a1 a2 : aEm) (w : aEl) (R : K1) : Prop :=
 yK (fun  w => R (.tuple #[]) w) R a0 a1 a2 w
theorem L4 {a0 a1 a2 : aEm} {w : aEl} {R : K1} (h : I8 a0 a1 a2 w R) : jE pg jR #[a0, a1, a2] w R := by
 refine wQ (ann := qO) Tryz.f28 qG [a0, a1, a2] xT 37 TryzM.mixed Tryz.func28 ?_
 exact (KH _ _ _ (fun  w => R (.tuple #[]) w) R (fun _ _ h => h) (fun _ _ h => h) h)
def Hd : FA := ⟨oB, fun i => .leaf ([], []) []⟩
def I4 : List ResultVar := [.tmp 2]
noncomputable def FQ : Code := jX Tryz.f29
def B3 (R : K1) (yX : aEm) (w : aEl) : Prop :=
 gI pg (hU .eql 60 (.tmp 3) (.const (.pointer none)) yX (.pointer none)) w fun b4 w =>
 lX b4
  (R (.slice none 0 0) w)
  (gI pg (nK yX) w fun b6 w =>
  gI pg (jI 77 b6 0) w fun b7 w =>
  gI pg (jG 22 b7) w fun b8 w =>
  jE pg pF #[b8] w fun b9 w =>
  R b9 w)
theorem Ps (R : K1) (hr : HR I4 R Q) (h : B3 R (g 0) w) : jO pg Hd FQ Q g w :=
 kZ (kn := no) (l := []) h lU hr trivial
def MF (a0 : aEm) (w : aEl) (R : K1) : Prop :=
 B3 R a0 w
theorem P0 {a0 : aEm} {w : aEl} {R : K1} (h : MF a0 w R) : jE pg oB #[a0] w R := by
 refine wQ (ann := Hd) Tryz.f29 FQ [a0] I4 10 TryzM.mixed Tryz.func29 ?_
 exact (Ps _ _ _ R (fun _ _ h => h) h)
def PA : FA := ⟨B6, fun i => .leaf ([], []) []⟩
def QW : List ResultVar := [.tmp 2]
noncomputable def Mz : Code := jX Tryz.f30
def Ju (R : K1) (nJ : aEm) (w : aEl) : Prop :=
 gI pg (RV 22 nJ) w fun AB w =>
 gI pg (jG 22 AB) w fun b3 w =>
 gI pg (nX .len #[22] 3 [b3]) w fun b4 w =>
 gI pg (hU .gtr 3 jC jC b4 (aEn 0)) w fun b5 w =>
 Gd (kO b5 true) (fun K => gI pg (jG 22 AB) w K) w fun b7 w =>
 Gd (kO b5 true) (fun K => gI pg (abT (.func 43) [] [AB]) w K) w fun b8 w =>
 Gd (kO b5 true) (fun K => jE pg uH #[b7, b8] w K) w fun b9 w =>
 Gd (kO b5 true) (fun K => gI pg (sUn .not b9) w K) w fun c0 w =>
 gI pg (mD b5 c0 (.bool false)) w fun c1 w =>
 R c1 w
theorem VQ (R : K1) (hr : HR QW R Q) (h : Ju R (g 0) w) : jO pg PA Mz Q g w :=
 kZ (kn := no) (l := []) h lU hr trivial
def XF (a0 : aEm) (w : aEl) (R : K1) : Prop :=
 Ju R a0 w
theorem WM {a0 : aEm} {w : aEl} {R : K1} (h : XF a0 w R) : jE pg B6 #[a0] w R := by
 refine wQ (ann := PA) Tryz.f30 Mz [a0] QW 12 TryzM.mixed Tryz.func30 ?_
 exact (VQ _ _ _ R (fun _ _ h => h) h)
def qH : FA := ⟨D7, fun i => match Nat.beq i 3 with | true => .leaf ([3], []) [(false, []), (false, []), (false, []), (true, []), (false, [])] | false => match Nat.beq i 16 with | true => .leaf ([3], []) [(false, []), (false, []), (false, []), (true, []), (false, [])] | false => match Nat.beq i 19 with | true => .leaf ([3], []) [(false, []), (false, []), (false, []), (true, []), (false, [])] | false => match Nat.beq i 20 with | true => .leaf ([2, 3, 6], [(2, 4), (3, 4)]) [(false, []), (false, []), (true, []), (true, []), (false, [0, 1]), (false, []), (true, []), (false, [])] | false => .leaf ([], []) []⟩
def CO : List ResultVar := [.tmp 10, .cell 11 45, .tmp 12]
noncomputable def pY : Code := jX Tryz.f31
def CN (R : K1) (nJ b2 BC c1 Gr mR tE : aEm) (w : aEl) : Prop :=
 gI pg (lR 22 nJ (some tE) (some b2) none) w fun m0 w =>
 gI pg (nX .append #[22, 22] 22 [mR, m0]) w fun m1 w =>
 jE pg CA #[m1] w fun m4 w =>
 gI pg (jS m4 0) w fun m5 w =>
 gI pg (jS m4 1) w fun m6 w =>
 gI pg (hU .neq 24 (.tmp 87) (.const (aEn 0)) m6 (aEn 0)) w fun m8 w =>
 lX m8
  (gI pg (jG 45 BC) (dr w) fun m9 w_ => w_ = (dr w) /\
  (dr w) = (dr w) /\
  (dr w) = (dr w) /\
  gI pg (jQ 45 c1 m9) (dr w) fun _u3 anK =>
  anK = anK /\
  Nq pg 45 c1 anK fun r1 => R (.tuple #[(.slice none 0 0), r1, m6]) anK)
  (jE pg BE #[Gr] w fun n3 w =>
  gI pg (jS n3 0) w fun n4 w =>
  gI pg (jS n3 1) w fun n5 w =>
  gI pg (hU .neq 24 (.tmp 96) (.const (aEn 0)) n5 (aEn 0)) w fun n7 w =>
  lX n7
   (gI pg (jG 45 BC) (dr w) fun n8 w_ => w_ = (dr w) /\
   (dr w) = (dr w) /\
   (dr w) = (dr w) /\
   gI pg (jQ 45 c1 n8) (dr w) fun _u3 anJ =>
   anJ = anJ /\
   Nq pg 45 c1 anJ fun r1 => R (.tuple #[(.slice none 0 0), r1, n5]) anJ)
   ((dr w) = (dr w) /\
   (dr w) = (dr w) /\
   gI pg (lT 137 2 [(0, m5), (1, n4)]) (dr w) fun o2 ayI =>
   jE pg vX #[o2] ayI fun o3 ahB =>
   gI pg (jG 45 BC) ahB fun o4 w_ => w_ = ahB /\
   (jD pg (jG 45 BC) o4 ayI /\ jD pg (jG 45 BC) o4 (dr w) /\ True) /\
   ahB = ahB /\
   gI pg (jQ 45 c1 o4) ahB fun _u6 amE =>
   amE = amE /\
   Nq pg 45 c1 amE fun r1 => R (.tuple #[o3, r1, (aEn 0)]) amE))
theorem UW (R : K1) (hr : HR CO R Q) (h : CN R (g 0) (g 2) (g 9) (g 11) (g 13) (g 16) (g 17) w) : jO pg qH (gH 1 (gH 5 pY)) Q g w :=
 kZ (kn := no) (l := []) h lU hr trivial
def Ct (kn : K10) (k0 : K7) (nJ b2 BC c1 Gr mR tE e6 e7 e8 : aEm) (w : aEl) : Prop :=
 gI pg (hU .lss 3 jC jC e8 e7) w fun e9 w =>
 lX e9
  (gI pg (jT 80 e6 e8) w fun f1 w =>
  gI pg (jG 84 f1) w fun f2 w =>
  gI pg (oK 84) w fun aoI w =>
  gI pg (jQ 84 aoI f2) w fun _u w =>
  gI pg (jI 84 aoI 0) w fun f7 w =>
  gI pg (jG 38 f7) w fun f8 w =>
  gI pg (nE 38 3 f8) w fun f9 w =>
  gI pg (hU .add 3 jC jC tE f9) w fun i0 w =>
  gI pg (lR 22 nJ (some tE) (some i0) none) w fun i1 w =>
  gI pg (nX .append #[22, 22] 22 [mR, i1]) w fun i2 w =>
  gI pg (jI 84 aoI 0) w fun i4 w =>
  gI pg (jG 38 i4) w fun i5 w =>
  gI pg (nE 38 3 i5) w fun i6 w =>
  gI pg (jI 84 aoI 1) w fun i7 w =>
  gI pg (jG 38 i7) w fun i8 w =>
  gI pg (nE 38 3 i8) w fun i9 w =>
  gI pg (hU .add 3 jC jC i6 i9) w fun j0 w =>
  gI pg (hU .add 3 jC jC tE j0) w fun j1 w =>
  gI pg (jG 45 BC) w fun j5 w =>
  gI pg (jI 84 aoI 0) w fun j6 w =>
  gI pg (jG 38 j6) w fun j7 w =>
  gI pg (jI 84 aoI 2) w fun j8 w =>
  gI pg (jG 38 j8) w fun j9 w =>
  jE pg aaF #[j5, j7, j9] w fun l0 w =>
  gI pg (jS l0 0) w fun l1 w =>
  gI pg (jS l0 1) w fun l2 w =>
  gI pg (jT 80 Gr e8) w fun l3 w =>
  gI pg (jI 84 l3 2) w fun l4 w =>
  gI pg (jQ 38 l4 l1) w fun _u w =>
  gI pg (jQ 45 BC l2) w fun _u w =>
  gI pg (hU .add 3 jC jC e8 (aEn 1)) w fun l5 w =>
  kn nJ b2 BC c1 Gr i2 j1 e6 e7 l5 w)
  (k0 nJ b2 BC c1 Gr mR tE w)
theorem T5 (kn : K10) (k0 : K7) (hn : N10 Q kn 0 2 9 11 13 16 17 36 37 38) (h0 : E7 Q k0 0 0 2 9 11 13 16 17) (h : Ct kn k0 (g 0) (g 2) (g 9) (g 11) (g 13) (g 16) (g 17) (g 36) (g 37) (g 38) w) : jO pg qH (bI (bI (gH 1 (iB 1 (gH 5 pY))))) Q g w :=
 kZ (kr := no) (l := [(0, fun g w => k0 (g 0) (g 2) (g 9) (g 11) (g 13) (g 16) (g 17) w)]) h hn lU ⟨h0, trivial⟩
def Ia (k0 : K7) (nJ b2 BC c1 Gr mR tE e6 e7 e8 : aEm) (w : aEl) : Prop :=
 kP (fun (X : (aEm × aEm × aEm) -> K0) (t : aEm × aEm × aEm) (w : aEl) => Ct (fun _ _ _ _ _ mR tE _ _ e8 w => X (mR, tE, e8) w) k0 nJ b2 BC c1 Gr t.1 t.2.1 e6 e7 t.2.2 w) (mR, tE, e8) w
theorem Ut (k0 : K7) (h0 : E7 Q k0 0 0 2 9 11 13 16 17) (h : Ia k0 (g 0) (g 2) (g 9) (g 11) (g 13) (g 16) (g 17) (g 36) (g 37) (g 38) w) : jO pg qH (bI (gH 1 (iB 1 (gH 5 pY)))) Q g w := by
 refine Ov (fun g : Env => (g 16, g 17, g 38)) (fun X t w => Ct (fun _ _ _ _ _ mR tE _ _ e8 w => X (mR, tE, e8) w) k0 (g 0) (g 2) (g 9) (g 11) (g 13) t.1 t.2.1 (g 36) (g 37) t.2.2 w) h (fun X g1 w1 ha hL => ?_)
 rw [<- rI 0 ha, <- rI 2 ha, <- rI 9 ha, <- rI 11 ha, <- rI 13 ha, <- rI 36 ha, <- rI 37 ha] at hL
 exact (T5 _ g1 w1 (fun _ _ _ _ _ mR tE _ _ e8 w => X (mR, tE, e8) w) k0 (fun _ _ h => h) h0 hL)
def Hz (kn : K7) (nJ b2 BC c1 Gr mR tE e6 e7 e8 : aEm) (w : aEl) : Prop :=
 Ia kn nJ b2 BC c1 Gr mR tE e6 e7 e8 w
def HG (kn : K10) (nJ b2 BC c1 Gr mR tE : aEm) (w : aEl) : Prop :=
 gI pg (nX .len #[80] 3 [Gr]) w fun e7 w =>
 kn nJ b2 BC c1 Gr mR tE Gr e7 (aEn 0) w
theorem T6 (kn : K10) (hn : N10 Q kn 0 2 9 11 13 16 17 36 37 38) (h : HG kn (g 0) (g 2) (g 9) (g 11) (g 13) (g 16) (g 17) w) : jO pg qH (iB 1 (iB 1 (gH 5 pY))) Q g w :=
 kZ (kr := no) (l := []) h hn lU trivial
def H6 (kn : K7) (nJ b2 BC c1 Gr mR tE : aEm) (w : aEl) : Prop :=
 HG (fun nJ b2 BC c1 Gr mR tE e6 e7 e8 w => Hz kn nJ b2 BC c1 Gr mR tE e6 e7 e8 w) nJ b2 BC c1 Gr mR tE w
def Hs (R : K1) (nJ b2 BC c1 Gr mR tE : aEm) (w : aEl) : Prop :=
 H6 (fun nJ b2 BC c1 Gr mR tE w => CN R nJ b2 BC c1 Gr mR tE w) nJ b2 BC c1 Gr mR tE w
theorem Uw (kn : K7) (hn : N7 Q kn 0 2 9 11 13 16 17) (h : H6 kn (g 0) (g 2) (g 9) (g 11) (g 13) (g 16) (g 17) w) : jO pg qH (iB 1 (gH 5 pY)) Q g w :=
 nQ 1 (T6 _ g w (Hz kn) (fun g w h => iZ (Iw 0 (Ut _ g w kn hn h))) h)
def H3 (kn : K7) (R : K1) (nJ lP b2 jL r_4 : aEm) (w : aEl) : Prop :=
 gI pg (RV 45 r_4) w fun BC w =>
 gI pg (oK 45) w fun c1 w =>
 jE pg Gm #[nJ, lP, b2, jL] w fun d7 w =>
 gI pg (jS d7 0) w fun d8 w =>
 gI pg (jS d7 1) w fun d9 w =>
 gI pg (jS d7 2) w fun e0 w =>
 gI pg (hU .neq 24 (.tmp 31) (.const (aEn 0)) e0 (aEn 0)) w fun e2 w =>
 lX e2
  (gI pg (jG 45 BC) (dr w) fun e3 w_ => w_ = (dr w) /\
  (dr w) = (dr w) /\
  (dr w) = (dr w) /\
  gI pg (jQ 45 c1 e3) (dr w) fun _u3 awW =>
  awW = awW /\
  Nq pg 45 c1 awW fun r1 => R (.tuple #[(.slice none 0 0), r1, e0]) awW)
  (kn nJ b2 BC c1 d8 (.slice none 0 0) lP w)
theorem UN (kn : K7) (R : K1) (hn : N7 Q kn 0 2 9 11 13 16 17) (hr : HR CO R Q) (h : H3 kn R (g 0) (g 1) (g 2) (g 3) (g 4) w) : jO pg qH (iB 5 pY) Q g w :=
 kZ (l := []) h hn hr trivial
def HW (R : K1) (nJ lP b2 jL r_4 : aEm) (w : aEl) : Prop :=
 H3 (fun nJ b2 BC c1 Gr mR tE w => Hs R nJ b2 BC c1 Gr mR tE w) R nJ lP b2 jL r_4 w
theorem Up (R : K1) (hr : HR CO R Q) (h : HW R (g 0) (g 1) (g 2) (g 3) (g 4) w) : jO pg qH pY Q g w :=
 nQ 5 (UN _ g w (Hs R) R (fun g w h => iZ (nQ 1 (Uw _ g w (CN R) (fun g w h => iZ (UW _ g w R hr h)) h))) hr h)
def Ve (a0 a1 a2 a3 a4 : aEm) (w : aEl) (R : K1) : Prop :=
 HW R a0 a1 a2 a3 a4 w
theorem V0 {a0 a1 a2 a3 a4 : aEm} {w : aEl} {R : K1} (h : Ve a0 a1 a2 a3 a4 w R) : jE pg D7 #[a0, a1, a2, a3, a4] w R := by
 refine wQ (ann := qH) Tryz.f31 pY [a0, a1, a2, a3, a4] CO 105 TryzM.mixed Tryz.func31 ?_
 exact (Up _ _ _ R (fun _ _ h => h) h)
def wA : FA := ⟨Ar, fun i => .leaf ([], []) []⟩
def wR : List ResultVar := [.tmp 2, .tmp 3]
noncomputable def uZ : Code := jX Tryz.f32
def tL (R : K1) (IF : aEm) (w : aEl) : Prop :=
 jE pg oS #[] w fun e5 w =>
 gI pg (nE 3 32 IF) w fun e8 w =>
 jE pg jR #[e5, e8, (aEn 3)] w fun e9 w =>
 jE pg oB #[e5] w fun f1 w =>
 R (.tuple #[f1, (aEn 0)]) w
theorem Qz (R : K1) (hr : HR wR R Q) (h : tL R (g 4) w) : jO pg wA (gH 4 uZ) Q g w :=
 kZ (kn := no) (l := []) h lU hr trivial
def CY (kn : K1) (R : K1) (nD : aEm) (w : aEl) : Prop :=
 gI pg (RV 65 nD) w fun DB w =>
 gI pg (jI 65 DB 1) w fun b6 w =>
 gI pg (jG 3 b6) w fun b7 w =>
 gI pg (hU .lss 3 jC jC b7 (aEn 0)) w fun b8 w =>
 Gd (kO b8 false) (fun K => gI pg (jI 65 DB 1) w K) w fun c0 w =>
 Gd (kO b8 false) (fun K => gI pg (jG 3 c0) w K) w fun c1 w =>
 Gd (kO b8 false) (fun K => gI pg (hU .gtr 3 jC jC c1 (aEn 2)) w K) w fun c2 w =>
 gI pg (mD b8 (.bool true) c2) w fun c3 w =>
 Gd (kO c3 false) (fun K => gI pg (jI 65 DB 2) w K) w fun c5 w =>
 Gd (kO c3 false) (fun K => gI pg (jG 3 c5) w K) w fun c6 w =>
 Gd (kO c3 false) (fun K => gI pg (hU .lss 3 jC jC c6 (aEn 0)) w K) w fun c7 w =>
 gI pg (mD c3 (.bool true) c7) w fun c8 w =>
 Gd (kO c8 false) (fun K => gI pg (jI 65 DB 2) w K) w fun d0 w =>
 Gd (kO c8 false) (fun K => gI pg (jG 3 d0) w K) w fun d1 w =>
 Gd (kO c8 false) (fun K => gI pg (hU .geq 3 jC jC d1 (aEn 2097152)) w K) w fun d2 w =>
 gI pg (mD c8 (.bool true) d2) w fun d3 w =>
 lX d3
  (R (.tuple #[(.slice none 0 0), (aEn 1)]) w)
  (gI pg (jI 65 DB 2) w fun d4 w =>
  gI pg (jG 3 d4) w fun d5 w =>
  gI pg (hU .shl 3 jC jC d5 (.int .u64 3)) w fun d6 w =>
  gI pg (jI 65 DB 1) w fun d7 w =>
  gI pg (jG 3 d7) w fun d8 w =>
  gI pg (hU .shl 3 jC jC d8 (.int .u64 1)) w fun d9 w =>
  gI pg (hU .or 3 jC jC d6 d9) w fun e0 w =>
  gI pg (jI 65 DB 0) w fun e1 w =>
  gI pg (jG 4 e1) w fun e2 w =>
  lX e2
   (gI pg (hU .or 3 jC jC e0 (aEn 1)) w fun e4 w =>
   kn e4 w)
   (kn e0 w))
theorem PW (kn : K1) (R : K1) (hn : N1 Q kn 4) (hr : HR wR R Q) (h : CY kn R (g 0) w) : jO pg wA (iB 4 uZ) Q g w :=
 kZ (l := []) h hn hr trivial
def CX (R : K1) (nD : aEm) (w : aEl) : Prop :=
 CY (fun IF w => tL R IF w) R nD w
theorem QF (R : K1) (hr : HR wR R Q) (h : CX R (g 0) w) : jO pg wA uZ Q g w :=
 nQ 4 (PW _ g w (tL R) R (fun g w h => iZ (Qz _ g w R hr h)) hr h)
def O2 (a0 : aEm) (w : aEl) (R : K1) : Prop :=
 CX R a0 w
theorem Ru {a0 : aEm} {w : aEl} {R : K1} (h : O2 a0 w R) : jE pg Ar #[a0] w R := by
 refine wQ (ann := wA) Tryz.f32 uZ [a0] wR 42 TryzM.mixed Tryz.func32 ?_
 exact (QF _ _ _ R (fun _ _ h => h) h)
def ZF : FA := ⟨TX, fun i => .leaf ([], []) []⟩
def aaV : List ResultVar := [.tmp 0]
noncomputable def W6 : Code := jX Tryz.f33
def V4 (R : K1)  (w : aEl) : Prop :=
 gI pg (hU .add 32 jC jC (.int .u64 11400714785074694791) (.int .u64 14029467366897019727)) w fun b3 w =>
 gI pg (sUn .neg (.int .u64 11400714785074694791)) w fun b5 w =>
 gI pg (kV 90 [(0, b3), (1, (.int .u64 14029467366897019727)), (2, (.int .u64 0)), (3, b5)]) w fun b6 w =>
 gI pg (kV 93 [(0, b6)]) w fun b7 w =>
 gI pg (RV 93 b7) w fun b8 w =>
 R b8 w
theorem acU (R : K1) (hr : HR aaV R Q) (h : V4 R w) : jO pg ZF W6 Q g w :=
 kZ (kn := no) (l := []) h lU hr trivial
def amG (w : aEl) (R : K1) : Prop :=
 V4 R w
theorem afU {w : aEl} {R : K1} (h : amG w R) : jE pg TX #[] w R := by
 refine wQ (ann := ZF) Tryz.f33 W6 [] aaV 9 TryzM.mixed Tryz.func33 ?_
 exact (acU _ _ _ R (fun _ _ h => h) h)
def lW : FA := ⟨CK, fun i => match Nat.beq i 3 with | true => .leaf ([9], []) [(false, []), (false, []), (false, []), (false, []), (false, []), (false, []), (false, []), (false, []), (false, []), (true, []), (false, [])] | false => match Nat.beq i 10 with | true => .leaf ([17, 18, 22], [(4, 17), (5, 17), (6, 17), (7, 17), (17, 19), (17, 20), (18, 19), (18, 20)]) [(false, []), (false, []), (false, []), (false, []), (false, []), (false, []), (false, []), (false, []), (false, []), (false, []), (false, []), (false, []), (false, []), (false, []), (false, []), (false, []), (false, []), (true, [9, 10, 11, 12]), (true, []), (false, [0, 1]), (false, [1, 2]), (false, []), (true, [])] | false => .leaf ([], []) []⟩
def Gj : List ResultVar := []
noncomputable def lO : Code := jX Tryz.f34
def sZ (kn : K2) (rQ AB : aEm) (w : aEl) : Prop :=
 gI pg (nK rQ) w fun l4 w =>
 gI pg (jI 93 l4 2) w fun l5 w =>
 gI pg (jQ 3 l5 (aEn 0)) w fun _u w =>
 kn rQ AB w
theorem Ty (kn : K2) (hn : N2 Q kn 0 1) (h : sZ kn (g 0) (g 1) w) : jO pg lW (gH 1 (cT (gH 4 (bI (gH 1 (bI (bI (gH 2 lO)))))))) Q g w :=
 kZ (kr := no) (l := []) h hn lU trivial
def vR (kn : K3) (k2 : K2) (rQ AB f7 : aEm) (w : aEl) : Prop :=
 gI pg (hU .lss 3 jC jC f7 (aEn 4)) w fun f8 w =>
 lX f8
  ((dr w) = (dr w) /\
  (dr w) = (dr w) /\
  (dr w) = (dr w) /\
  (dr w) = (dr w) /\
  gI pg (nK rQ) (dr w) fun i4 w_ => w_ = (dr w) /\
  gI pg (jI 93 i4 0) (dr w) fun i5 w_ => w_ = (dr w) /\
  gI pg (jT 90 i5 f7) (dr w) fun i6 w_ => w_ = (dr w) /\
  gI pg (jG 32 i6) (dr w) fun i7 w_ => w_ = (dr w) /\
  (dr w) = (dr w) /\
  gI pg (nK rQ) (dr w) fun i9 w_ => w_ = (dr w) /\
  gI pg (jI 93 i9 1) (dr w) fun j0 w_ => w_ = (dr w) /\
  (dr w) = (dr w) /\
  gI pg (hU .mul 3 jC jC (aEn 8) f7) (dr w) fun j2 w_ => w_ = (dr w) /\
  (dr w) = (dr w) /\
  gI pg (hU .mul 3 jC jC (aEn 8) f7) (dr w) fun j4 w_ => w_ = (dr w) /\
  gI pg (hU .add 3 jC jC j4 (aEn 8)) (dr w) fun j5 w_ => w_ = (dr w) /\
  gI pg (lR 91 j0 (some j2) (some j5) none) (dr w) fun j6 w_ => w_ = (dr w) /\
  jE pg Cz #[j6] (dr w) fun j7 VP =>
  (jD pg (jG 32 i6) i7 VP /\ jD pg (jT 90 i5 f7) i6 VP /\ jD pg (jI 93 i4 0) i5 VP /\ jD pg (nK rQ) i4 VP /\ True) /\
  jE pg Fu #[i7, j7] VP fun j8 VK =>
  gI pg (nK rQ) VK fun j9 w_ => w_ = VK /\
  (jD pg (nK rQ) j9 VP /\ jD pg (nK rQ) j9 (dr w) /\ True) /\
  gI pg (jI 93 j9 0) VK fun l0 w_ => w_ = VK /\
  (jD pg (jI 93 j9 0) l0 VP /\ jD pg (jI 93 j9 0) l0 (dr w) /\ True) /\
  gI pg (jT 90 l0 f7) VK fun l1 w_ => w_ = VK /\
  gI pg (jQ 32 l1 j8) VK fun _u22 aAi =>
  gI pg (hU .add 3 jC jC f7 (aEn 1)) aAi fun l2 w =>
  kn rQ AB l2 w)
  (k2 rQ AB w)
theorem TJ (kn : K3) (k2 : K2) (hn : N3 Q kn 0 1 47) (h2 : E2 Q k2 2 0 1) (h : vR kn k2 (g 0) (g 1) (g 47) w) : jO pg lW (bI (bI (gH 1 (iB 1 (cT (gH 4 (bI (gH 1 (bI (bI (gH 2 lO))))))))))) Q g w :=
 kZ (kr := no) (l := [(2, fun g w => k2 (g 0) (g 1) w)]) h hn lU ⟨h2, trivial⟩
def GN (k2 : K2) (rQ AB f7 : aEm) (w : aEl) : Prop :=
 kP (fun (X : aEm -> K0) (t : aEm) (w : aEl) => vR (fun _ _ f7 w => X f7 w) k2 rQ AB t w) f7 w
theorem Sz (k2 : K2) (h2 : E2 Q k2 2 0 1) (h : GN k2 (g 0) (g 1) (g 47) w) : jO pg lW (bI (gH 1 (iB 1 (cT (gH 4 (bI (gH 1 (bI (bI (gH 2 lO)))))))))) Q g w := by
 refine Ov (fun g : Env => g 47) (fun X t w => vR (fun _ _ f7 w => X f7 w) k2 (g 0) (g 1) t w) h (fun X g1 w1 ha hL => ?_)
 rw [<- rI 0 ha, <- rI 1 ha] at hL
 exact (TJ _ g1 w1 (fun _ _ f7 w => X f7 w) k2 (fun _ _ h => h) h2 hL)
def FV (kn : K2) (rQ AB f7 : aEm) (w : aEl) : Prop :=
 GN kn rQ AB f7 w
def GK (kn : K3) (rQ AB : aEm) (w : aEl) : Prop :=
 kn rQ AB (aEn 0) w
theorem Sx (kn : K3) (hn : N3 Q kn 0 1 47) (h : GK kn (g 0) (g 1) w) : jO pg lW (iB 1 (iB 1 (cT (gH 4 (bI (gH 1 (bI (bI (gH 2 lO))))))))) Q g w :=
 kZ (kr := no) (l := []) h hn lU trivial
def BS (kn : K2) (rQ AB : aEm) (w : aEl) : Prop :=
 GK (fun rQ AB f7 w => FV kn rQ AB f7 w) rQ AB w
def BJ (kn : K2) (rQ AB : aEm) (w : aEl) : Prop :=
 BS (fun rQ AB w => sZ kn rQ AB w) rQ AB w
theorem SQ (kn : K2) (hn : N2 Q kn 0 1) (h : BS kn (g 0) (g 1) w) : jO pg lW (iB 1 (cT (gH 4 (bI (gH 1 (bI (bI (gH 2 lO)))))))) Q g w :=
 nQ 1 (Sx _ g w (FV kn) (fun g w h => iZ (Iw 2 (Sz _ g w kn hn h))) h)
def vP (kn : K2) (rQ AB : aEm) (w : aEl) : Prop :=
 kn rQ AB w
theorem SN (kn : K2) (hn : N2 Q kn 0 1) (h : vP kn (g 0) (g 1) w) : jO pg lW (cE (gH 4 (bI (gH 1 (bI (bI (gH 2 lO))))))) Q g w :=
 kZ (kr := no) (l := []) h hn lU trivial
def wH (kn : K2) (rQ AB f6 : aEm) (w : aEl) : Prop :=
 lX f6 (BJ kn rQ AB w) (vP kn rQ AB w)
def uJ (kn : K3) (rQ AB : aEm) (w : aEl) : Prop :=
 (dr w) = (dr w) /\
 gI pg (nK rQ) (dr w) fun d2 w_ => w_ = (dr w) /\
 gI pg (jI 93 d2 1) (dr w) fun d3 w_ => w_ = (dr w) /\
 (dr w) = (dr w) /\
 gI pg (nK rQ) (dr w) fun d5 w_ => w_ = (dr w) /\
 gI pg (jI 93 d5 2) (dr w) fun d6 w_ => w_ = (dr w) /\
 gI pg (jG 3 d6) (dr w) fun d7 w_ => w_ = (dr w) /\
 gI pg (lR 91 d3 (some d7) none none) (dr w) fun d8 w_ => w_ = (dr w) /\
 (dr w) = (dr w) /\
 gI pg (nX .copy #[22, 22] 3 [d8, AB]) (dr w) fun e0 ayX =>
 ayX = ayX /\
 gI pg (nK rQ) ayX fun e2 w =>
 gI pg (jI 93 e2 2) w fun e3 w =>
 gI pg (jG 3 e3) w fun e4 w =>
 gI pg (hU .add 3 jC jC e4 e0) w fun e6 w =>
 gI pg (nK rQ) w fun e7 w =>
 gI pg (jI 93 e7 2) w fun e8 w =>
 gI pg (jQ 3 e8 e6) w fun _u w =>
 gI pg (lR 22 AB (some e0) none none) w fun f1 w =>
 gI pg (nK rQ) w fun f3 w =>
 gI pg (jI 93 f3 2) w fun f4 w =>
 gI pg (jG 3 f4) w fun f5 w =>
 gI pg (hU .eql 3 (.tmp 45) (.const (aEn 32)) f5 (aEn 32)) w fun f6 w =>
 kn rQ f1 f6 w
theorem Rt (kn : K3) (hn : N3 Q kn 0 1 46) (h : uJ kn (g 0) (g 1) w) : jO pg lW (iB 4 (bI (gH 1 (bI (bI (gH 2 lO)))))) Q g w :=
 kZ (kr := no) (l := []) h hn lU trivial
def Ae (kn : K2) (rQ AB : aEm) (w : aEl) : Prop :=
 uJ (fun rQ AB f6 w => wH kn rQ AB f6 w) rQ AB w
def uI (kn : K2) (rQ AB : aEm) (w : aEl) : Prop :=
 Ae kn rQ AB w
def uL (kn : K2) (k0 : K0) (rQ AB : aEm) (w : aEl) : Prop :=
 gI pg (nX .len #[22] 3 [AB]) w fun c9 w =>
 gI pg (hU .gtr 3 jC jC c9 (aEn 0)) w fun d0 w =>
 lX d0
  (kn rQ AB w)
  (k0 w)
theorem RG (kn : K2) (k0 : K0) (hn : N2 Q kn 0 1) (h0 : E0 Q k0 0) (h : uL kn k0 (g 0) (g 1) w) : jO pg lW (iB 1 (bI (bI (gH 2 lO)))) Q g w :=
 kZ (kr := no) (l := [(0, fun g w => k0 w)]) h hn lU ⟨h0, trivial⟩
def sF (kn : K2) (k0 : K0) (rQ AB : aEm) (w : aEl) : Prop :=
 uL (fun rQ AB w => uI kn rQ AB w) k0 rQ AB w
def zE (k0 : K0) (rQ AB : aEm) (w : aEl) : Prop :=
 kP (fun (X : aEm -> K0) (t : aEm) (w : aEl) => sF (fun _ AB w => X AB w) k0 rQ t w) AB w
theorem RY (kn : K2) (k0 : K0) (hn : N2 Q kn 0 1) (h0 : E0 Q k0 0) (h : sF kn k0 (g 0) (g 1) w) : jO pg lW (bI (bI (gH 2 lO))) Q g w :=
 nQ 1 (RG _ g w (uI kn) k0 (fun g w h => iZ (Iw 1 (nQ 4 (Rt _ g w (wH kn) (fun g w h => iZ (cdD (.tmp 46) (fun h => (nQ 1 (SQ _ g w (sZ kn) (fun g w h => iZ (Ty _ g w kn hn h)) h))) (fun h => (SN _ g w kn hn h)) h)) h)))) h0 h)
theorem R1 (k0 : K0) (h0 : E0 Q k0 0) (h : zE k0 (g 0) (g 1) w) : jO pg lW (bI (gH 2 lO)) Q g w := by
 refine Ov (fun g : Env => g 1) (fun X t w => sF (fun _ AB w => X AB w) k0 (g 0) t w) h (fun X g1 w1 ha hL => ?_)
 rw [<- rI 0 ha] at hL
 exact (RY _ g1 w1 (fun _ AB w => X AB w) k0 (fun _ _ h => h) h0 hL)
def ER (kn : K0) (rQ AB : aEm) (w : aEl) : Prop :=
 zE kn rQ AB w
def ES (kn : K2) (R : K1) (rQ AB : aEm) (w : aEl) : Prop :=
 gI pg (hU .eql 68 (.tmp 6) (.const (.pointer none)) rQ (.pointer none)) w fun b7 w =>
 lX b7
  (R (.tuple #[]) w)
  (gI pg (nK rQ) w fun b9 w =>
  gI pg (jI 93 b9 3) w fun c0 w =>
  gI pg (jG 32 c0) w fun c1 w =>
  gI pg (nX .len #[22] 3 [AB]) w fun c3 w =>
  gI pg (nE 3 32 c3) w fun c4 w =>
  gI pg (hU .add 32 jC jC c1 c4) w fun c5 w =>
  gI pg (nK rQ) w fun c6 w =>
  gI pg (jI 93 c6 3) w fun c7 w =>
  gI pg (jQ 32 c7 c5) w fun _u w =>
  kn rQ AB w)
theorem Ry (kn : K2) (R : K1) (hn : N2 Q kn 0 1) (hr : HR Gj R Q) (h : ES kn R (g 0) (g 1) w) : jO pg lW (iB 2 lO) Q g w :=
 kZ (l := []) h hn hr trivial
def EA (kn : K0) (R : K1) (rQ AB : aEm) (w : aEl) : Prop :=
 ES (fun rQ AB w => ER kn rQ AB w) R rQ AB w
theorem RX (kn : K0) (R : K1) (hn : N0 Q kn) (hr : HR Gj R Q) (h : EA kn R (g 0) (g 1) w) : jO pg lW lO Q g w :=
 nQ 2 (Ry _ g w (ER kn) R (fun g w h => iZ (Iw 0 (R1 _ g w kn hn h))) hr h)
def TV (a0 a1 : aEm) (w : aEl) (R : K1) : Prop :=
 EA (fun  w => R (.tuple #[]) w) R a0 a1 w
theorem UA {a0 a1 : aEm} {w : aEl} {R : K1} (h : TV a0 a1 w R) : jE pg CK #[a0, a1] w R := by
 refine wQ (ann := lW) Tryz.f34 lO [a0, a1] Gj 76 TryzM.mixed Tryz.func34 ?_
 exact (RX _ _ _ (fun  w => R (.tuple #[]) w) R (fun _ _ h => h) (fun _ _ h => h) h)
def nG : FA := ⟨FX, fun i => match Nat.beq i 3 with | true => .leaf ([1], [(1, 3), (1, 4), (1, 5)]) [(false, []), (true, []), (false, []), (false, [1]), (false, [2]), (false, [3]), (false, []), (false, [])] | false => match Nat.beq i 4 with | true => .leaf ([], []) [(false, []), (false, []), (false, []), (false, []), (false, []), (false, []), (false, []), (false, []), (false, [])] | false => .leaf ([], []) []⟩
def DY : List ResultVar := [.tmp 2]
noncomputable def mZ : Code := jX Tryz.f35
def D6 (R : K1) (pB : aEm) (w : aEl) : Prop :=
 gI pg (hU .shr 32 jC jC pB (.int .u64 33)) w fun j9 w =>
 gI pg (hU .xor 32 jC jC pB j9) w fun l0 w =>
 gI pg (hU .mul 32 jC jC l0 (.int .u64 14029467366897019727)) w fun l1 w =>
 gI pg (hU .shr 32 jC jC l1 (.int .u64 29)) w fun l4 w =>
 gI pg (hU .xor 32 jC jC l1 l4) w fun l5 w =>
 gI pg (hU .mul 32 jC jC l5 (.int .u64 1609587929392839161)) w fun l6 w =>
 gI pg (hU .shr 32 jC jC l6 (.int .u64 32)) w fun l9 w =>
 gI pg (hU .xor 32 jC jC l6 l9) w fun m0 w =>
 R m0 w
theorem Vx (R : K1) (hr : HR DY R Q) (h : D6 R (g 3) w) : jO pg nG (gH 1 (gH 1 (gH 1 (gH 4 mZ)))) Q g w :=
 kZ (kn := no) (l := []) h lU hr trivial
def AG (kn : K4) (k2 : K1) (pB i3 i4 i5 : aEm) (w : aEl) : Prop :=
 gI pg (hU .lss 3 jC jC i5 i4) w fun i6 w =>
 lX i6
  (gI pg (jT 22 i3 i5) w fun i7 w =>
  gI pg (jG 5 i7) w fun i8 w =>
  gI pg (nE 5 32 i8) w fun j1 w =>
  gI pg (hU .mul 32 jC jC j1 (.int .u64 2870177450012600261)) w fun j2 w =>
  gI pg (hU .xor 32 jC jC pB j2) w fun j3 w =>
  jE pg mV #[j3, (aEn 11)] w fun j4 w =>
  gI pg (hU .mul 32 jC jC j4 (.int .u64 11400714785074694791)) w fun j5 w =>
  gI pg (hU .add 3 jC jC i5 (aEn 1)) w fun j6 w =>
  kn j5 i3 i4 j6 w)
  (k2 pB w)
theorem We (kn : K4) (k2 : K1) (hn : N4 Q kn 3 53 54 55) (h2 : E1 Q k2 2 3) (h : AG kn k2 (g 3) (g 53) (g 54) (g 55) w) : jO pg nG (bI (bI (gH 1 (iB 1 (gH 1 (gH 1 (gH 4 mZ))))))) Q g w :=
 kZ (kr := no) (l := [(2, fun g w => k2 (g 3) w)]) h hn lU ⟨h2, trivial⟩
def Jr (k2 : K1) (pB i3 i4 i5 : aEm) (w : aEl) : Prop :=
 kP (fun (X : (aEm × aEm) -> K0) (t : aEm × aEm) (w : aEl) => AG (fun pB _ _ i5 w => X (pB, i5) w) k2 t.1 i3 i4 t.2 w) (pB, i5) w
theorem VS (k2 : K1) (h2 : E1 Q k2 2 3) (h : Jr k2 (g 3) (g 53) (g 54) (g 55) w) : jO pg nG (bI (gH 1 (iB 1 (gH 1 (gH 1 (gH 4 mZ)))))) Q g w := by
 refine Ov (fun g : Env => (g 3, g 55)) (fun X t w => AG (fun pB _ _ i5 w => X (pB, i5) w) k2 t.1 (g 53) (g 54) t.2 w) h (fun X g1 w1 ha hL => ?_)
 rw [<- rI 53 ha, <- rI 54 ha] at hL
 exact (We _ g1 w1 (fun pB _ _ i5 w => X (pB, i5) w) k2 (fun _ _ h => h) h2 hL)
def Jq (kn : K1) (pB i3 i4 i5 : aEm) (w : aEl) : Prop :=
 Jr kn pB i3 i4 i5 w
def Jd (kn : K4) (pB Ow : aEm) (w : aEl) : Prop :=
 gI pg (nX .len #[22] 3 [Ow]) w fun i4 w =>
 kn pB Ow i4 (aEn 0) w
theorem Vu (kn : K4) (hn : N4 Q kn 3 53 54 55) (h : Jd kn (g 3) (g 4) w) : jO pg nG (iB 1 (iB 1 (gH 1 (gH 1 (gH 4 mZ))))) Q g w :=
 kZ (kr := no) (l := []) h hn lU trivial
def Ji (kn : K1) (pB Ow : aEm) (w : aEl) : Prop :=
 Jd (fun pB i3 i4 i5 w => Jq kn pB i3 i4 i5 w) pB Ow w
def Eb (R : K1) (pB Ow : aEm) (w : aEl) : Prop :=
 Ji (fun pB w => D6 R pB w) pB Ow w
theorem VN (kn : K1) (hn : N1 Q kn 3) (h : Ji kn (g 3) (g 4) w) : jO pg nG (iB 1 (gH 1 (gH 1 (gH 4 mZ)))) Q g w :=
 nQ 1 (Vu _ g w (Jq kn) (fun g w h => iZ (Iw 2 (VS _ g w kn hn h))) h)
def D0 (kn : K2) (pB Ow : aEm) (w : aEl) : Prop :=
 gI pg (nX .len #[22] 3 [Ow]) w fun f0 w =>
 gI pg (hU .geq 3 jC jC f0 (aEn 4)) w fun f1 w =>
 lX f1
  (gI pg (lR 22 Ow none (some (aEn 4)) none) w fun f4 w =>
  jE pg Cz #[f4] w fun f5 w =>
  gI pg (hU .mul 32 jC jC f5 (.int .u64 11400714785074694791)) w fun f6 w =>
  gI pg (hU .xor 32 jC jC pB f6) w fun f7 w =>
  jE pg mV #[f7, (aEn 23)] w fun f8 w =>
  gI pg (hU .mul 32 jC jC f8 (.int .u64 14029467366897019727)) w fun f9 w =>
  gI pg (hU .add 32 jC jC f9 (.int .u64 1609587929392839161)) w fun i0 w =>
  gI pg (lR 22 Ow (some (aEn 4)) none none) w fun i2 w =>
  kn i0 i2 w)
  (kn pB Ow w)
theorem Vz (kn : K2) (hn : N2 Q kn 3 4) (h : D0 kn (g 3) (g 4) w) : jO pg nG (iB 1 (gH 1 (gH 4 mZ))) Q g w :=
 kZ (kr := no) (l := []) h hn lU trivial
def DX (R : K1) (pB Ow : aEm) (w : aEl) : Prop :=
 D0 (fun pB Ow w => Eb R pB Ow w) pB Ow w
def yL (kn : K2) (k0 : K2) (pB Ow : aEm) (w : aEl) : Prop :=
 gI pg (nX .len #[22] 3 [Ow]) w fun d6 w =>
 gI pg (hU .geq 3 jC jC d6 (aEn 8)) w fun d7 w =>
 lX d7
  (gI pg (lR 22 Ow none (some (aEn 8)) none) w fun e0 w =>
  jE pg Cz #[e0] w fun e1 w =>
  jE pg Fu #[(.int .u64 0), e1] w fun e2 w =>
  gI pg (hU .xor 32 jC jC pB e2) w fun e3 w =>
  jE pg mV #[e3, (aEn 27)] w fun e4 w =>
  gI pg (hU .mul 32 jC jC e4 (.int .u64 11400714785074694791)) w fun e5 w =>
  gI pg (hU .add 32 jC jC e5 (.int .u64 9650029242287828579)) w fun e6 w =>
  gI pg (lR 22 Ow (some (aEn 8)) none none) w fun e8 w =>
  kn e6 e8 w)
  (k0 pB Ow w)
theorem UQ (kn : K2) (k0 : K2) (hn : N2 Q kn 3 4) (h0 : E2 Q k0 0 3 4) (h : yL kn k0 (g 3) (g 4) w) : jO pg nG (bI (bI (iB 1 (gH 4 mZ)))) Q g w :=
 kZ (kr := no) (l := [(0, fun g w => k0 (g 3) (g 4) w)]) h hn lU ⟨h0, trivial⟩
def Hx (k0 : K2) (pB Ow : aEm) (w : aEl) : Prop :=
 kP (fun (X : (aEm × aEm) -> K0) (t : aEm × aEm) (w : aEl) => yL (fun pB Ow w => X (pB, Ow) w) k0 t.1 t.2 w) (pB, Ow) w
theorem UU (k0 : K2) (h0 : E2 Q k0 0 3 4) (h : Hx k0 (g 3) (g 4) w) : jO pg nG (bI (iB 1 (gH 4 mZ))) Q g w := by
 refine Ov (fun g : Env => (g 3, g 4)) (fun X t w => yL (fun pB Ow w => X (pB, Ow) w) k0 t.1 t.2 w) h (fun X g1 w1 ha hL => ?_)
 exact (UQ _ g1 w1 (fun pB Ow w => X (pB, Ow) w) k0 (fun _ _ h => h) h0 hL)
def HF (kn : K2) (pB Ow : aEm) (w : aEl) : Prop :=
 Hx kn pB Ow w
def CG (R : K1) (pB Ow : aEm) (w : aEl) : Prop :=
 HF (fun pB Ow w => DX R pB Ow w) pB Ow w
theorem Ug (kn : K2) (hn : N2 Q kn 3 4) (h : HF kn (g 3) (g 4) w) : jO pg nG (iB 1 (gH 4 mZ)) Q g w :=
 Iw 0 (UU _ g w kn hn h)
def H5 (kn : K2) (R : K1) (rQ : aEm) (w : aEl) : Prop :=
 gI pg (hU .eql 68 (.tmp 7) (.const (.pointer none)) rQ (.pointer none)) w fun b8 w =>
 lX b8
  (jE pg OG #[(.slice none 0 0)] w fun b9 w =>
  R b9 w)
  ((dr w) = (dr w) /\
  jE pg BL #[rQ] (dr w) fun c1 yD =>
  yD = yD /\
  gI pg (nK rQ) yD fun c3 w_ => w_ = yD /\
  (jD pg (nK rQ) c3 (dr w) /\ True) /\
  gI pg (jI 93 c3 3) yD fun c4 w_ => w_ = yD /\
  (jD pg (jI 93 c3 3) c4 (dr w) /\ True) /\
  gI pg (jG 32 c4) yD fun c5 w_ => w_ = yD /\
  (jD pg (jG 32 c4) c5 (dr w) /\ True) /\
  gI pg (hU .add 32 jC jC c1 c5) yD fun c6 w_ => w_ = yD /\
  yD = yD /\
  (dr yD) = (dr yD) /\
  gI pg (nK rQ) (dr yD) fun c8 w_ => w_ = (dr yD) /\
  gI pg (jI 93 c8 1) (dr yD) fun c9 w_ => w_ = (dr yD) /\
  (dr yD) = (dr yD) /\
  gI pg (nK rQ) (dr yD) fun d1 w_ => w_ = (dr yD) /\
  gI pg (jI 93 d1 2) (dr yD) fun d2 w_ => w_ = (dr yD) /\
  gI pg (jG 3 d2) (dr yD) fun d3 w_ => w_ = (dr yD) /\
  gI pg (lR 91 c9 none (some d3) none) (dr yD) fun d4 w_ => w_ = (dr yD) /\
  (dr yD) = (dr yD) /\
  kn c6 d4 (dr yD))
theorem UY (kn : K2) (R : K1) (hn : N2 Q kn 3 4) (hr : HR DY R Q) (h : H5 kn R (g 0) w) : jO pg nG (iB 4 mZ) Q g w :=
 kZ (l := []) h hn hr trivial
def Ib (R : K1) (rQ : aEm) (w : aEl) : Prop :=
 H5 (fun pB Ow w => CG R pB Ow w) R rQ w
theorem UP (R : K1) (hr : HR DY R Q) (h : Ib R (g 0) w) : jO pg nG mZ Q g w :=
 nQ 4 (UY _ g w (CG R) R (fun g w h => iZ (nQ 1 (Ug _ g w (DX R) (fun g w h => iZ (nQ 1 (Vz _ g w (Eb R) (fun g w h => iZ (nQ 1 (VN _ g w (D6 R) (fun g w h => iZ (Vx _ g w R hr h)) h))) h))) h))) hr h)
def W5 (a0 : aEm) (w : aEl) (R : K1) : Prop :=
 Ib R a0 w
theorem WE {a0 : aEm} {w : aEl} {R : K1} (h : W5 a0 w R) : jE pg FX #[a0] w R := by
 refine wQ (ann := nG) Tryz.f35 mZ [a0] DY 81 TryzM.mixed Tryz.func35 ?_
 exact (UP _ _ _ R (fun _ _ h => h) h)
def I9 : FA := ⟨pW, fun i => .leaf ([], []) []⟩
def JG : List ResultVar := [.tmp 2]
noncomputable def Hc : Code := jX Tryz.f36
def Df (R : K1) (nJ : aEm) (w : aEl) : Prop :=
 jE pg pF #[nJ] w fun b4 w =>
 gI pg (kV 97 [(0, b4)]) w fun b5 w =>
 gI pg (RV 97 b5) w fun b6 w =>
 R b6 w
theorem PN (R : K1) (hr : HR JG R Q) (h : Df R (g 0) w) : jO pg I9 Hc Q g w :=
 kZ (kn := no) (l := []) h lU hr trivial
def Pd (a0 : aEm) (w : aEl) (R : K1) : Prop :=
 Df R a0 w
theorem RZ {a0 : aEm} {w : aEl} {R : K1} (h : Pd a0 w R) : jE pg pW #[a0] w R := by
 refine wQ (ann := I9) Tryz.f36 Hc [a0] JG 7 TryzM.mixed Tryz.func36 ?_
 exact (PN _ _ _ R (fun _ _ h => h) h)
def FF : FA := ⟨oN, fun i => .leaf ([], []) []⟩
def Hm : List ResultVar := [.tmp 2]
noncomputable def Ft : Code := jX Tryz.f37
def Ba (R : K1) (V3 : aEm) (w : aEl) : Prop :=
 gI pg (hU .eql 54 (.tmp 3) (.const (.pointer none)) V3 (.pointer none)) w fun b4 w =>
 lX b4
  (R (aEn 0) w)
  (gI pg (nK V3) w fun b6 w =>
  gI pg (jI 97 b6 0) w fun b7 w =>
  gI pg (jG 22 b7) w fun b8 w =>
  gI pg (nX .len #[22] 3 [b8]) w fun b9 w =>
  R b9 w)
theorem NT (R : K1) (hr : HR Hm R Q) (h : Ba R (g 0) w) : jO pg FF Ft Q g w :=
 kZ (kn := no) (l := []) h lU hr trivial
def Kv (a0 : aEm) (w : aEl) (R : K1) : Prop :=
 Ba R a0 w
theorem OS {a0 : aEm} {w : aEl} {R : K1} (h : Kv a0 w R) : jE pg oN #[a0] w R := by
 refine wQ (ann := FF) Tryz.f37 Ft [a0] Hm 10 TryzM.mixed Tryz.func37 ?_
 exact (NT _ _ _ R (fun _ _ h => h) h)
def mS : FA := ⟨lB, fun i => .leaf ([], []) []⟩
def tA : List ResultVar := [.tmp 4]
noncomputable def mM : Code := jX Tryz.f38
def tG (R : K1) (Vm : aEm) (w : aEl) : Prop :=
 R Vm w
theorem KM (R : K1) (hr : HR tA R Q) (h : tG R (g 5) w) : jO pg mS (gH 1 (gH 3 mM)) Q g w :=
 kZ (kn := no) (l := []) h lU hr trivial
def tC (kn : K4) (k0 : K1) (Vm c8 c9 d0 : aEm) (w : aEl) : Prop :=
 gI pg (hU .lss 3 jC jC d0 c9) w fun d1 w =>
 lX d1
  (gI pg (jT 22 c8 d0) w fun d3 w =>
  gI pg (jG 5 d3) w fun d4 w =>
  gI pg (nE 5 32 d4) w fun d7 w =>
  gI pg (hU .mul 3 jC jC (aEn 8) d0) w fun d9 w =>
  gI pg (nE 3 50 d9) w fun e0 w =>
  gI pg (hU .shl 32 jC jC d7 e0) w fun e1 w =>
  gI pg (hU .or 32 jC jC Vm e1) w fun e2 w =>
  gI pg (hU .add 3 jC jC d0 (aEn 1)) w fun e3 w =>
  kn e2 c8 c9 e3 w)
  (k0 Vm w)
theorem Ka (kn : K4) (k0 : K1) (hn : N4 Q kn 5 18 19 20) (h0 : E1 Q k0 0 5) (h : tC kn k0 (g 5) (g 18) (g 19) (g 20) w) : jO pg mS (bI (bI (gH 1 (iB 1 (gH 3 mM))))) Q g w :=
 kZ (kr := no) (l := [(0, fun g w => k0 (g 5) w)]) h hn lU ⟨h0, trivial⟩
def yU (k0 : K1) (Vm c8 c9 d0 : aEm) (w : aEl) : Prop :=
 kP (fun (X : (aEm × aEm) -> K0) (t : aEm × aEm) (w : aEl) => tC (fun Vm _ _ d0 w => X (Vm, d0) w) k0 t.1 c8 c9 t.2 w) (Vm, d0) w
theorem Ld (k0 : K1) (h0 : E1 Q k0 0 5) (h : yU k0 (g 5) (g 18) (g 19) (g 20) w) : jO pg mS (bI (gH 1 (iB 1 (gH 3 mM)))) Q g w := by
 refine Ov (fun g : Env => (g 5, g 20)) (fun X t w => tC (fun Vm _ _ d0 w => X (Vm, d0) w) k0 t.1 (g 18) (g 19) t.2 w) h (fun X g1 w1 ha hL => ?_)
 rw [<- rI 18 ha, <- rI 19 ha] at hL
 exact (Ka _ g1 w1 (fun Vm _ _ d0 w => X (Vm, d0) w) k0 (fun _ _ h => h) h0 hL)
def yQ (kn : K1) (Vm c8 c9 d0 : aEm) (w : aEl) : Prop :=
 yU kn Vm c8 c9 d0 w
def yI (kn : K4) (V3 G9 Vm : aEm) (w : aEl) : Prop :=
 gI pg (hU .geq 3 jC jC G9 (aEn 1)) w fun c3 w =>
 Gd (kO c3 true) (fun K => K G9 w) w fun c5 w =>
 Gd (kO c3 true) (fun K => gI pg (hU .leq 3 jC jC c5 (aEn 8)) w K) w fun c6 w =>
 gI pg (mD c3 c6 (.bool false)) w fun c7 w =>
 jE pg sN #[V3, G9, c7] w fun c8 w =>
 gI pg (nX .len #[22] 3 [c8]) w fun c9 w =>
 kn Vm c8 c9 (aEn 0) w
theorem KG (kn : K4) (hn : N4 Q kn 5 18 19 20) (h : yI kn (g 0) (g 1) (g 5) w) : jO pg mS (iB 1 (iB 1 (gH 3 mM))) Q g w :=
 kZ (kr := no) (l := []) h hn lU trivial
def xY (kn : K1) (V3 G9 Vm : aEm) (w : aEl) : Prop :=
 yI (fun Vm c8 c9 d0 w => yQ kn Vm c8 c9 d0 w) V3 G9 Vm w
def yR (R : K1) (V3 G9 Vm : aEm) (w : aEl) : Prop :=
 xY (fun Vm w => tG R Vm w) V3 G9 Vm w
theorem KK (kn : K1) (hn : N1 Q kn 5) (h : xY kn (g 0) (g 1) (g 5) w) : jO pg mS (iB 1 (gH 3 mM)) Q g w :=
 nQ 1 (KG _ g w (yQ kn) (fun g w h => iZ (Iw 0 (Ld _ g w kn hn h))) h)
def xN (kn : K3) (R : K1) (V3 G9 : aEm) (w : aEl) : Prop :=
 gI pg (hU .eql 54 (.tmp 8) (.const (.pointer none)) V3 (.pointer none)) w fun b9 w =>
 lX b9
  (R (.int .u64 0) w)
  (kn V3 G9 (.int .u64 0) w)
theorem Kr (kn : K3) (R : K1) (hn : N3 Q kn 0 1 5) (hr : HR tA R Q) (h : xN kn R (g 0) (g 1) w) : jO pg mS (iB 3 mM) Q g w :=
 kZ (l := []) h hn hr trivial
def yO (R : K1) (V3 G9 : aEm) (w : aEl) : Prop :=
 xN (fun V3 G9 Vm w => yR R V3 G9 Vm w) R V3 G9 w
theorem LD (R : K1) (hr : HR tA R Q) (h : yO R (g 0) (g 1) w) : jO pg mS mM Q g w :=
 nQ 3 (Kr _ g w (yR R) R (fun g w h => iZ (nQ 1 (KK _ g w (tG R) (fun g w h => iZ (KM _ g w R hr h)) h))) hr h)
def I7 (a0 a1 : aEm) (w : aEl) (R : K1) : Prop :=
 yO R a0 a1 w
theorem L9 {a0 a1 : aEm} {w : aEl} {R : K1} (h : I7 a0 a1 w R) : jE pg lB #[a0, a1] w R := by
 refine wQ (ann := mS) Tryz.f38 mM [a0, a1] tA 35 TryzM.mixed Tryz.func38 ?_
 exact (LD _ _ _ R (fun _ _ h => h) h)
def G6 : FA := ⟨lZ, fun i => .leaf ([], []) []⟩
def Jb : List ResultVar := [.tmp 2]
noncomputable def FY : Code := jX Tryz.f39
def B0 (R : K1) (V3 : aEm) (w : aEl) : Prop :=
 gI pg (hU .eql 54 (.tmp 3) (.const (.pointer none)) V3 (.pointer none)) w fun b4 w =>
 lX b4
  (R (aEn 1) w)
  (gI pg (nK V3) w fun b6 w =>
  gI pg (jI 97 b6 1) w fun b7 w =>
  gI pg (jG 24 b7) w fun b8 w =>
  R b8 w)
theorem PI (R : K1) (hr : HR Jb R Q) (h : B0 R (g 0) w) : jO pg G6 FY Q g w :=
 kZ (kn := no) (l := []) h lU hr trivial
def Mw (a0 : aEm) (w : aEl) (R : K1) : Prop :=
 B0 R a0 w
theorem Qg {a0 : aEm} {w : aEl} {R : K1} (h : Mw a0 w R) : jE pg lZ #[a0] w R := by
 refine wQ (ann := G6) Tryz.f39 FY [a0] Jb 9 TryzM.mixed Tryz.func39 ?_
 exact (PI _ _ _ R (fun _ _ h => h) h)
def mP : FA := ⟨vN, fun i => match Nat.beq i 1 with | true => .leaf ([8, 9], [(1, 8), (2, 8), (3, 8)]) [(false, []), (false, []), (false, []), (false, []), (false, []), (false, []), (false, []), (false, []), (true, [4, 5, 6]), (true, []), (false, [])] | false => match Nat.beq i 6 with | true => .leaf ([], []) [(false, []), (false, []), (false, []), (false, []), (false, []), (false, []), (false, []), (false, []), (false, []), (false, []), (false, []), (false, []), (false, []), (false, []), (false, []), (false, []), (false, []), (false, []), (false, []), (false, []), (false, []), (false, []), (false, []), (false, []), (false, []), (false, []), (false, [])] | false => .leaf ([], []) []⟩
def nW : List ResultVar := [.tmp 2]
noncomputable def mI : Code := jX Tryz.f40
def pJ (R : K1) (pO tD : aEm) (w : aEl) : Prop :=
 gI pg (nK pO) w fun p1 w =>
 gI pg (jI 56 p1 3) w fun p2 w =>
 gI pg (jG 22 p2) w fun p3 w =>
 gI pg (nX .append #[22, 22] 22 [p3, tD]) w fun p5 w =>
 gI pg (nK pO) w fun p6 w =>
 gI pg (jI 56 p6 3) w fun p7 w =>
 gI pg (jQ 22 p7 p5) w fun _u w =>
 gI pg (nK pO) w fun p9 w =>
 gI pg (jI 56 p9 4) w fun q0 w =>
 gI pg (jG 3 q0) w fun q1 w =>
 gI pg (hU .add 3 jC jC q1 (aEn 1)) w fun q2 w =>
 gI pg (nK pO) w fun q3 w =>
 gI pg (jI 56 q3 4) w fun q4 w =>
 gI pg (jQ 3 q4 q2) w fun _u w =>
 R (aEn 0) w
theorem NB (R : K1) (hr : HR nW R Q) (h : pJ R (g 0) (g 8) w) : jO pg mP (gH 2 (gH 1 (gH 8 (bI (gH 1 mI))))) Q g w :=
 kZ (kn := no) (l := []) h lU hr trivial
def Bn (kn : K2) (R : K1) (pO V6 tD : aEm) (w : aEl) : Prop :=
 gI pg (jI 101 V6 2) w fun n1 w =>
 gI pg (jG 4 n1) w fun n2 w =>
 Gd (kO n2 true) (fun K => K tD w) w fun n4 w =>
 Gd (kO n2 true) (fun K => gI pg (nX .len #[22] 3 [n4]) w K) w fun n5 w =>
 Gd (kO n2 true) (fun K => gI pg (nE 3 32 n5) w K) w fun n6 w =>
 Gd (kO n2 true) (fun K => gI pg (jI 101 V6 1) w K) w fun n7 w =>
 Gd (kO n2 true) (fun K => gI pg (jG 32 n7) w K) w fun n8 w =>
 Gd (kO n2 true) (fun K => gI pg (hU .neq 32 (.tmp 96) (.tmp 98) n6 n8) w K) w fun n9 w =>
 gI pg (mD n2 n9 (.bool false)) w fun o0 w =>
 lX o0
  (R (aEn 11) w)
  (gI pg (jI 101 V6 3) w fun o1 w =>
  gI pg (jG 4 o1) w fun o2 w =>
  lX o2
   (jE pg sD #[pO, tD] w fun o5 w =>
   gI pg (hU .neq 24 (.tmp 106) (.const (aEn 0)) o5 (aEn 0)) w fun o7 w =>
   lX o7
    (R o5 w)
    (kn pO tD w))
   (kn pO tD w))
theorem Nk (kn : K2) (R : K1) (hn : N2 Q kn 0 8) (hr : HR nW R Q) (h : Bn kn R (g 0) (g 4) (g 8) w) : jO pg mP (iB 2 (gH 1 (gH 8 (bI (gH 1 mI))))) Q g w :=
 kZ (l := []) h hn hr trivial
def rX (R : K1) (pO V6 tD : aEm) (w : aEl) : Prop :=
 Bn (fun pO tD w => pJ R pO tD w) R pO V6 tD w
def vD (kn : K4) (k0 : K3) (R : K1) (pO V6 g_7 tD : aEm) (w : aEl) : Prop :=
 gI pg (jG 110 g_7) w fun j9 w =>
 gI pg (jI 101 V6 0) w fun l0 w =>
 gI pg (jG 32 l0) w fun l1 w =>
 jE pg wB #[pO, tD, j9, l1] w fun l2 w =>
 gI pg (jS l2 0) w fun l3 w =>
 gI pg (jS l2 1) w fun l4 w =>
 gI pg (jS l2 2) w fun l5 w =>
 gI pg (jS l2 3) w fun l6 w =>
 gI pg (jQ 110 g_7 l4) w fun _u w =>
 gI pg (hU .neq 24 (.tmp 77) (.const (aEn 0)) l6 (aEn 0)) w fun l8 w =>
 lX l8
  (R l6 w)
  (gI pg (jI 101 V6 2) w fun m0 w =>
  gI pg (jG 4 m0) w fun m1 w =>
  Gd (kO m1 true) (fun K => K l3 w) w fun m3 w =>
  Gd (kO m1 true) (fun K => gI pg (nX .len #[22] 3 [m3]) w K) w fun m4 w =>
  Gd (kO m1 true) (fun K => gI pg (nE 3 32 m4) w K) w fun m5 w =>
  Gd (kO m1 true) (fun K => gI pg (jI 101 V6 1) w K) w fun m6 w =>
  Gd (kO m1 true) (fun K => gI pg (jG 32 m6) w K) w fun m7 w =>
  Gd (kO m1 true) (fun K => gI pg (hU .gtr 32 jC jC m5 m7) w K) w fun m8 w =>
  gI pg (mD m1 m8 (.bool false)) w fun m9 w =>
  lX m9
   (R (aEn 11) w)
   (lX l5
    (k0 pO V6 l3 w)
    (kn pO V6 g_7 l3 w)))
theorem NK (kn : K4) (k0 : K3) (R : K1) (hn : N4 Q kn 0 4 7 8) (h0 : E3 Q k0 0 0 4 8) (hr : HR nW R Q) (h : vD kn k0 R (g 0) (g 4) (g 7) (g 8) w) : jO pg mP (bI (bI (iB 1 (gH 8 (bI (gH 1 mI)))))) Q g w :=
 kZ (l := [(0, fun g w => k0 (g 0) (g 4) (g 8) w)]) h hn hr ⟨h0, trivial⟩
def A9 (k0 : K3) (R : K1) (pO V6 g_7 tD : aEm) (w : aEl) : Prop :=
 kP (fun (X : aEm -> K0) (t : aEm) (w : aEl) => vD (fun _ _ _ tD w => X tD w) k0 R pO V6 g_7 t w) tD w
theorem NO (k0 : K3) (R : K1) (h0 : E3 Q k0 0 0 4 8) (hr : HR nW R Q) (h : A9 k0 R (g 0) (g 4) (g 7) (g 8) w) : jO pg mP (bI (iB 1 (gH 8 (bI (gH 1 mI))))) Q g w := by
 refine Ov (fun g : Env => g 8) (fun X t w => vD (fun _ _ _ tD w => X tD w) k0 R (g 0) (g 4) (g 7) t w) h (fun X g1 w1 ha hL => ?_)
 rw [<- rI 0 ha, <- rI 4 ha, <- rI 7 ha] at hL
 exact (NK _ g1 w1 (fun _ _ _ tD w => X tD w) k0 R (fun _ _ h => h) h0 hr hL)
def Bh (kn : K3) (R : K1) (pO V6 g_7 tD : aEm) (w : aEl) : Prop :=
 A9 kn R pO V6 g_7 tD w
def sB (R : K1) (pO V6 g_7 tD : aEm) (w : aEl) : Prop :=
 Bh (fun pO V6 tD w => rX R pO V6 tD w) R pO V6 g_7 tD w
theorem M7 (kn : K3) (R : K1) (hn : N3 Q kn 0 4 8) (hr : HR nW R Q) (h : Bh kn R (g 0) (g 4) (g 7) (g 8) w) : jO pg mP (iB 1 (gH 8 (bI (gH 1 mI)))) Q g w :=
 Iw 0 (NO _ g w kn R hn hr h)
def AV (kn : K4) (R : K1) (pO : aEm) (w : aEl) : Prop :=
 (dr w) = (dr w) /\
 gI pg (nK pO) (dr w) fun c2 w_ => w_ = (dr w) /\
 gI pg (jI 56 c2 0) (dr w) fun c3 w_ => w_ = (dr w) /\
 gI pg (jG 54 c3) (dr w) fun c4 w_ => w_ = (dr w) /\
 (dr w) = (dr w) /\
 gI pg (nK pO) (dr w) fun c6 w_ => w_ = (dr w) /\
 gI pg (jI 56 c6 0) (dr w) fun c7 w_ => w_ = (dr w) /\
 gI pg (jG 54 c7) (dr w) fun c8 w_ => w_ = (dr w) /\
 jE pg oN #[c8] (dr w) fun c9 awA =>
 (jD pg (jG 54 c3) c4 awA /\ jD pg (jI 56 c2 0) c3 awA /\ jD pg (nK pO) c2 awA /\ True) /\
 jE pg qL #[c4, c9] awA fun d0 ayS =>
 ayS = ayS /\
 jE pg JO #[d0] ayS fun d3 w =>
 gI pg (jS d3 0) w fun d4 w =>
 gI pg (jS d3 1) w fun d5 w =>
 gI pg (jS d3 2) w fun d6 w =>
 gI pg (oK 101) w fun V6 w =>
 gI pg (jQ 101 V6 d4) w fun _u w =>
 gI pg (hU .neq 24 (.tmp 27) (.const (aEn 0)) d6 (aEn 0)) w fun d8 w =>
 lX d8
  (R d6 w)
  (gI pg (lR 22 d0 (some d5) none none) w fun e3 w =>
  jE pg pW #[e3] w fun e4 w =>
  gI pg (nK pO) w fun e5 w =>
  gI pg (jI 56 e5 0) w fun e6 w =>
  gI pg (jQ 54 e6 e4) w fun _u w =>
  gI pg (jI 101 V6 0) (dr w) fun e7 w_ => w_ = (dr w) /\
  gI pg (jG 32 e7) (dr w) fun e8 w_ => w_ = (dr w) /\
  (dr w) = (dr w) /\
  gI pg (nK pO) (dr w) fun f0 w_ => w_ = (dr w) /\
  gI pg (jI 56 f0 1) (dr w) fun f1 w_ => w_ = (dr w) /\
  gI pg (jG 32 f1) (dr w) fun f2 w_ => w_ = (dr w) /\
  gI pg (hU .gtr 32 jC jC e8 f2) (dr w) fun f3 w_ => w_ = (dr w) /\
  (dr w) = (dr w) /\
  Gd (kO f3 false) (fun K => gI pg (jI 101 V6 2) (dr w) K) (dr w) fun f5 w_ => w_ = (dr w) /\
  Gd (kO f3 false) (fun K => gI pg (jG 4 f5) (dr w) K) (dr w) fun f6 w_ => w_ = (dr w) /\
  Gd (kO f3 false) (fun K => K f6 (dr w)) (dr w) fun f7 w_ => w_ = (dr w) /\
  Gd (kO f7 true) (fun K => gI pg (jI 101 V6 1) (dr w) K) (dr w) fun f8 w_ => w_ = (dr w) /\
  Gd (kO f7 true) (fun K => gI pg (jG 32 f8) (dr w) K) (dr w) fun f9 w_ => w_ = (dr w) /\
  Gd (kO f7 true) (fun K => K pO (dr w)) (dr w) fun i0 w_ => w_ = (dr w) /\
  Gd (kO f7 true) (fun K => gI pg (nK i0) (dr w) K) (dr w) fun i1 w_ => w_ = (dr w) /\
  Gd (kO f7 true) (fun K => gI pg (jI 56 i1 2) (dr w) K) (dr w) fun i2 w_ => w_ = (dr w) /\
  Gd (kO f7 true) (fun K => gI pg (jG 3 i2) (dr w) K) (dr w) fun i3 w_ => w_ = (dr w) /\
  Gd (kO f7 true) (fun K => K pO (dr w)) (dr w) fun i4 w_ => w_ = (dr w) /\
  Gd (kO f7 true) (fun K => gI pg (nK i4) (dr w) K) (dr w) fun i5 w_ => w_ = (dr w) /\
  Gd (kO f7 true) (fun K => gI pg (jI 56 i5 3) (dr w) K) (dr w) fun i6 w_ => w_ = (dr w) /\
  Gd (kO f7 true) (fun K => gI pg (jG 22 i6) (dr w) K) (dr w) fun i7 w_ => w_ = (dr w) /\
  Gd (kO f7 true) (fun K => gI pg (nX .len #[22] 3 [i7]) (dr w) K) (dr w) fun i8 w_ => w_ = (dr w) /\
  Gd (kO f7 true) (fun K => gI pg (hU .sub 3 jC jC i3 i8) (dr w) K) (dr w) fun i9 w_ => w_ = (dr w) /\
  Gd (kO f7 true) (fun K => gI pg (nE 3 32 i9) (dr w) K) (dr w) fun j0 w_ => w_ = (dr w) /\
  Gd (kO f7 true) (fun K => gI pg (hU .gtr 32 jC jC f9 j0) (dr w) K) (dr w) fun j1 w_ => w_ = (dr w) /\
  Gd (kO f3 false) (fun K => gI pg (mD f7 j1 (.bool false)) (dr w) K) (dr w) fun j2 w_ => w_ = (dr w) /\
  gI pg (mD f3 (.bool true) j2) (dr w) fun j3 w_ => w_ = (dr w) /\
  lX j3
   (R (aEn 12) (dr w))
   (jE pg vJ #[] (dr w) fun j4 w =>
   gI pg (kV 110 [(2, j4)]) w fun j5 w =>
   gI pg (oK 110) w fun g_7 w =>
   gI pg (jQ 110 g_7 j5) w fun _u w =>
   kn pO V6 g_7 (.slice none 0 0) w))
theorem Ny (kn : K4) (R : K1) (hn : N4 Q kn 0 4 7 8) (hr : HR nW R Q) (h : AV kn R (g 0) w) : jO pg mP (iB 8 (bI (gH 1 mI))) Q g w :=
 kZ (l := []) h hn hr trivial
def Hi (R : K1) (pO : aEm) (w : aEl) : Prop :=
 AV (fun pO V6 g_7 tD w => sB R pO V6 g_7 tD w) R pO w
def Ap (R : K1) (pO : aEm) (w : aEl) : Prop :=
 Hi R pO w
def AE (kn : K1) (pO : aEm) (w : aEl) : Prop :=
 kn pO w
theorem Mk (kn : K1) (hn : N1 Q kn 0) (h : AE kn (g 0) w) : jO pg mP (iB 1 mI) Q g w :=
 kZ (kr := no) (l := []) h hn lU trivial
def zN (R : K1) (pO : aEm) (w : aEl) : Prop :=
 AE (fun pO w => Ap R pO w) pO w
theorem Mh (R : K1) (hr : HR nW R Q) (h : zN R (g 0) w) : jO pg mP mI Q g w :=
 nQ 1 (Mk _ g w (Ap R) (fun g w h => iZ (scD (nQ 8 (Ny _ g w (sB R) R (fun g w h => iZ (nQ 1 (M7 _ g w (rX R) R (fun g w h => iZ (nQ 2 (Nk _ g w (pJ R) R (fun g w h => iZ (NB _ g w R hr h)) hr h))) hr h))) hr h)))) h)
def KN (a0 : aEm) (w : aEl) (R : K1) : Prop :=
 zN R a0 w
theorem OM {a0 : aEm} {w : aEl} {R : K1} (h : KN a0 w R) : jE pg vN #[a0] w R := by
 refine wQ (ann := mP) Tryz.f40 mI [a0] nW 125 TryzM.mixed Tryz.func40 ?_
 exact (Mh _ _ _ R (fun _ _ h => h) h)
def Hl : FA := ⟨xA, fun i => .leaf ([], []) []⟩
def IX : List ResultVar := [.tmp 2]
noncomputable def FO : Code := jX Tryz.f41
def Cf (R : K1) (pO : aEm) (w : aEl) : Prop :=
 gI pg (nK pO) w fun b5 w =>
 gI pg (jI 56 b5 0) w fun b6 w =>
 gI pg (jG 54 b6) w fun b7 w =>
 jE pg lB #[b7, (aEn 4)] w fun b8 w =>
 gI pg (nK pO) w fun c0 w =>
 gI pg (jI 56 c0 0) w fun c1 w =>
 gI pg (jG 54 c1) w fun c2 w =>
 jE pg lZ #[c2] w fun c3 w =>
 gI pg (hU .neq 24 (.tmp 13) (.const (aEn 0)) c3 (aEn 0)) w fun c4 w =>
 Gd (kO c4 false) (fun K => K b8 w) w fun c6 w =>
 Gd (kO c4 false) (fun K => K pO w) w fun c7 w =>
 Gd (kO c4 false) (fun K => gI pg (nK c7) w K) w fun c8 w =>
 Gd (kO c4 false) (fun K => gI pg (jI 56 c8 0) w K) w fun c9 w =>
 Gd (kO c4 false) (fun K => gI pg (jG 54 c9) w K) w fun d0 w =>
 Gd (kO c4 false) (fun K => jE pg oN #[d0] w K) w fun d1 w =>
 Gd (kO c4 false) (fun K => gI pg (nE 3 32 d1) w K) w fun d2 w =>
 Gd (kO c4 false) (fun K => gI pg (hU .gtr 32 jC jC c6 d2) w K) w fun d3 w =>
 gI pg (mD c4 (.bool true) d3) w fun d4 w =>
 lX d4
  (R (aEn 10) w)
  (gI pg (nK pO) w fun d6 w =>
  gI pg (jI 56 d6 0) w fun d7 w =>
  gI pg (jG 54 d7) w fun d8 w =>
  gI pg (nE 32 3 b8) w fun e0 w =>
  jE pg qL #[d8, e0] w fun e1 w =>
  gI pg (nK pO) w fun e3 w =>
  gI pg (jI 56 e3 5) w fun e4 w =>
  gI pg (jG 3 e4) w fun e5 w =>
  gI pg (hU .add 3 jC jC e5 (aEn 1)) w fun e6 w =>
  gI pg (nK pO) w fun e7 w =>
  gI pg (jI 56 e7 5) w fun e8 w =>
  gI pg (jQ 3 e8 e6) w fun _u w =>
  R (aEn 0) w)
theorem PB (R : K1) (hr : HR IX R Q) (h : Cf R (g 0) w) : jO pg Hl FO Q g w :=
 kZ (kn := no) (l := []) h lU hr trivial
def MQ (a0 : aEm) (w : aEl) (R : K1) : Prop :=
 Cf R a0 w
theorem P8 {a0 : aEm} {w : aEl} {R : K1} (h : MQ a0 w R) : jE pg xA #[a0] w R := by
 refine wQ (ann := Hl) Tryz.f41 FO [a0] IX 39 TryzM.mixed Tryz.func41 ?_
 exact (PB _ _ _ R (fun _ _ h => h) h)
def AO : FA := ⟨uH, fun i => .leaf ([], []) []⟩
def Bx : List ResultVar := [.tmp 4]
noncomputable def yY : Code := jX Tryz.f42
def tV (R : K1) (pO Zp : aEm) (w : aEl) : Prop :=
 jE pg yV #[pO, Zp] w fun b7 w =>
 gI pg (hU .geq 3 jC jC b7 (aEn 0)) w fun b8 w =>
 R b8 w
theorem HD (R : K1) (hr : HR Bx R Q) (h : tV R (g 0) (g 1) w) : jO pg AO yY Q g w :=
 kZ (kn := no) (l := []) h lU hr trivial
def DH (a0 a1 : aEm) (w : aEl) (R : K1) : Prop :=
 tV R a0 a1 w
theorem IQ {a0 a1 : aEm} {w : aEl} {R : K1} (h : DH a0 a1 w R) : jE pg uH #[a0, a1] w R := by
 refine wQ (ann := AO) Tryz.f42 yY [a0, a1] Bx 9 TryzM.mixed Tryz.func42 ?_
 exact (HD _ _ _ R (fun _ _ h => h) h)
def LG : FA := ⟨yN, fun i => .leaf ([], []) []⟩
def MH : List ResultVar := [.tmp 3]
noncomputable def Jz : Code := jX Tryz.f43
def GO (R : K1) (X4 b1 : aEm) (w : aEl) : Prop :=
 gI pg (jG 22 b1) w fun b5 w =>
 gI pg (jT 22 b5 (aEn 0)) w fun b6 w =>
 gI pg (jG 5 b6) w fun b7 w =>
 gI pg (hU .neq 5 (.tmp 4) (.tmp 7) X4 b7) w fun b8 w =>
 R b8 w
theorem Tx (R : K1) (hr : HR MH R Q) (h : GO R (g 0) (g 1) w) : jO pg LG Jz Q g w :=
 kZ (kn := no) (l := []) h lU hr trivial
def SU (a0 a1 : aEm) (w : aEl) (R : K1) : Prop :=
 GO R a0 a1 w
theorem Us {a0 a1 : aEm} {w : aEl} {R : K1} (h : SU a0 a1 w R) : jE pg yN #[a0, a1] w R := by
 refine wQ (ann := LG) Tryz.f43 Jz [a0, a1] MH 9 TryzM.mixed Tryz.func43 ?_
 exact (Tx _ _ _ R (fun _ _ h => h) h)
def kY : FA := ⟨Gm, fun i => match Nat.beq i 5 with | true => .split 2 4 (.perm [0, 1, 2, 3, 4, 5, 6, 7, 8, 9] [(2, 4)] ([2, 4, 8], [(2, 6), (4, 6)]) [(false, []), (false, []), (true, []), (false, []), (true, []), (false, []), (false, [1, 3]), (false, []), (true, []), (false, [])]) (.perm [0, 1, 3, 4, 2, 5, 6, 7, 8, 9] [(4, 2)] ([3, 4, 8], [(3, 6), (4, 6)]) [(false, []), (false, []), (false, []), (true, []), (true, []), (false, []), (false, [1, 2]), (false, []), (true, []), (false, [])]) | false => .leaf ([], []) []⟩
def IL : List ResultVar := [.tmp 8, .tmp 9, .tmp 10]
noncomputable def kN : Code := jX Tryz.f44
def Ix (R : K1) (b2 jZ jY : aEm) (w : aEl) : Prop :=
 gI pg (hU .sub 3 jC jC b2 jY) w fun s5 w =>
 R (.tuple #[jZ, s5, (aEn 0)]) w
theorem X8 (R : K1) (hr : HR IL R Q) (h : Ix R (g 2) (g 13) (g 14) w) : jO pg kY (gH 1 (gH 2 (gH 1 (gH 4 kN)))) Q g w :=
 kZ (kn := no) (l := []) h lU hr trivial
def Iz (kn : K6) (b2 jL mF jZ lD : aEm) (w : aEl) : Prop :=
 kn b2 jL mF jZ lD lD w
theorem Yd (kn : K6) (hn : N6 Q kn 2 3 11 13 14 15) (h : Iz kn (g 2) (g 3) (g 11) (g 13) (g 15) w) : jO pg kY (gH 1 (gH 1 (gH 3 (bI (gH 1 (bI (bI (gH 1 (iB 1 (gH 2 (gH 1 (gH 4 kN)))))))))))) Q g w :=
 kZ (kr := no) (l := []) h hn lU trivial
def DU (kn : K6) (k4 : K5) (b2 jL mF jZ lD NL : aEm) (w : aEl) : Prop :=
 gI pg (hU .lss 3 jC jC lD NL) w fun q5 w =>
 lX q5
  (jE pg pH #[mF, lD] w fun s0 w =>
  gI pg (hU .add 3 jC jC lD (aEn 1)) w fun q7 w =>
  kn b2 jL mF jZ q7 NL w)
  (k4 b2 jL mF jZ lD w)
theorem YF (kn : K6) (k4 : K5) (hn : N6 Q kn 2 3 11 13 15 20) (h4 : E5 Q k4 4 2 3 11 13 15) (h : DU kn k4 (g 2) (g 3) (g 11) (g 13) (g 15) (g 20) w) : jO pg kY (bI (bI (gH 1 (iB 1 (gH 1 (gH 3 (bI (gH 1 (bI (bI (gH 1 (iB 1 (gH 2 (gH 1 (gH 4 kN))))))))))))))) Q g w :=
 kZ (kr := no) (l := [(4, fun g w => k4 (g 2) (g 3) (g 11) (g 13) (g 15) w)]) h hn lU ⟨h4, trivial⟩
def Iv (k4 : K5) (b2 jL mF jZ lD NL : aEm) (w : aEl) : Prop :=
 kP (fun (X : aEm -> K0) (t : aEm) (w : aEl) => DU (fun _ _ _ _ lD _ w => X lD w) k4 b2 jL mF jZ t NL w) lD w
theorem YT (k4 : K5) (h4 : E5 Q k4 4 2 3 11 13 15) (h : Iv k4 (g 2) (g 3) (g 11) (g 13) (g 15) (g 20) w) : jO pg kY (bI (gH 1 (iB 1 (gH 1 (gH 3 (bI (gH 1 (bI (bI (gH 1 (iB 1 (gH 2 (gH 1 (gH 4 kN)))))))))))))) Q g w := by
 refine Ov (fun g : Env => g 15) (fun X t w => DU (fun _ _ _ _ lD _ w => X lD w) k4 (g 2) (g 3) (g 11) (g 13) t (g 20) w) h (fun X g1 w1 ha hL => ?_)
 rw [<- rI 2 ha, <- rI 3 ha, <- rI 11 ha, <- rI 13 ha, <- rI 20 ha] at hL
 exact (YF _ g1 w1 (fun _ _ _ _ lD _ w => X lD w) k4 (fun _ _ h => h) h4 hL)
def Na (kn : K5) (b2 jL mF jZ lD NL : aEm) (w : aEl) : Prop :=
 Iv kn b2 jL mF jZ lD NL w
def M8 (kn : K6) (b2 jL mF jZ lD IZ : aEm) (w : aEl) : Prop :=
 gI pg (hU .add 3 jC jC lD IZ) w fun q2 w =>
 kn b2 jL mF jZ lD q2 w
theorem Yy (kn : K6) (hn : N6 Q kn 2 3 11 13 15 20) (h : M8 kn (g 2) (g 3) (g 11) (g 13) (g 15) (g 16) w) : jO pg kY (iB 1 (iB 1 (gH 1 (gH 3 (bI (gH 1 (bI (bI (gH 1 (iB 1 (gH 2 (gH 1 (gH 4 kN))))))))))))) Q g w :=
 kZ (kr := no) (l := []) h hn lU trivial
def MX (kn : K5) (b2 jL mF jZ lD IZ : aEm) (w : aEl) : Prop :=
 M8 (fun b2 jL mF jZ lD NL w => Na kn b2 jL mF jZ lD NL w) b2 jL mF jZ lD IZ w
def NI (kn : K6) (b2 jL mF jZ lD IZ : aEm) (w : aEl) : Prop :=
 MX (fun b2 jL mF jZ lD w => Iz kn b2 jL mF jZ lD w) b2 jL mF jZ lD IZ w
theorem YQ (kn : K5) (hn : N5 Q kn 2 3 11 13 15) (h : MX kn (g 2) (g 3) (g 11) (g 13) (g 15) (g 16) w) : jO pg kY (iB 1 (gH 1 (gH 3 (bI (gH 1 (bI (bI (gH 1 (iB 1 (gH 2 (gH 1 (gH 4 kN)))))))))))) Q g w :=
 nQ 1 (Yy _ g w (Na kn) (fun g w h => iZ (Iw 4 (YT _ g w kn hn h))) h)
def Oe (kn : K6) (b2 jL mF jZ jY lD IZ Wb : aEm) (w : aEl) : Prop :=
 gI pg (hU .sub 3 jC jC lD jY) w fun p1 w =>
 gI pg (nE 3 38 p1) w fun p2 w =>
 gI pg (nE 3 38 IZ) w fun p4 w =>
 gI pg (nE 3 38 Wb) w fun p6 w =>
 gI pg (kV 84 [(0, p2), (1, p4), (2, p6)]) w fun p7 w =>
 gI pg (lT 80 1 [(0, p7)]) w fun p8 w =>
 gI pg (nX .append #[80, 80] 80 [jZ, p8]) w fun p9 w =>
 kn b2 jL mF p9 lD IZ w
theorem Yk (kn : K6) (hn : N6 Q kn 2 3 11 13 15 16) (h : Oe kn (g 2) (g 3) (g 11) (g 13) (g 14) (g 15) (g 16) (g 17) w) : jO pg kY (iB 1 (gH 3 (bI (gH 1 (bI (bI (gH 1 (iB 1 (gH 2 (gH 1 (gH 4 kN))))))))))) Q g w :=
 kZ (kr := no) (l := []) h hn lU trivial
def BW (kn : K6) (b2 jL mF jZ jY lD IZ Wb : aEm) (w : aEl) : Prop :=
 Oe (fun b2 jL mF jZ lD IZ w => NI kn b2 jL mF jZ lD IZ w) b2 jL mF jZ jY lD IZ Wb w
def LJ (kn : K8) (k3 : K6) (b2 jL mF jZ jY lD : aEm) (w : aEl) : Prop :=
 jE pg tP #[mF, lD] w fun l2 w =>
 gI pg (jS l2 0) w fun l3 w =>
 gI pg (jS l2 1) w fun l4 w =>
 gI pg (hU .lss 3 jC jC l3 (aEn 4)) w fun l6 w =>
 lX l6
  (jE pg pH #[mF, lD] w fun l9 w =>
  gI pg (hU .add 3 jC jC lD (aEn 1)) w fun m1 w =>
  k3 b2 jL mF jZ jY m1 w)
  (gI pg (hU .gtr 3 jC jC jL (aEn 4)) w fun m3 w =>
  Gd (kO m3 true) (fun K => K lD w) w fun m5 w =>
  Gd (kO m3 true) (fun K => gI pg (hU .add 3 jC jC m5 (aEn 1)) w K) w fun m6 w =>
  Gd (kO m3 true) (fun K => K b2 w) w fun m7 w =>
  Gd (kO m3 true) (fun K => gI pg (hU .lss 3 jC jC m6 m7) w K) w fun m8 w =>
  gI pg (mD m3 m8 (.bool false)) w fun m9 w =>
  lX m9
   (jE pg pH #[mF, lD] w fun n2 w =>
   gI pg (hU .add 3 jC jC lD (aEn 1)) w fun n6 w =>
   jE pg tP #[mF, n6] w fun n7 w =>
   gI pg (jS n7 0) w fun n8 w =>
   gI pg (jS n7 1) w fun n9 w =>
   gI pg (hU .add 3 jC jC l3 (aEn 1)) w fun o2 w =>
   gI pg (hU .gtr 3 jC jC n8 o2) w fun o3 w =>
   lX o3
    (gI pg (hU .add 3 jC jC lD (aEn 1)) w fun o5 w =>
    kn b2 jL mF jZ jY o5 n8 n9 w)
    (kn b2 jL mF jZ jY lD l3 l4 w))
   (kn b2 jL mF jZ jY lD l3 l4 w))
theorem Xj (kn : K8) (k3 : K6) (hn : N8 Q kn 2 3 11 13 14 15 16 17) (h3 : E6 Q k3 3 2 3 11 13 14 15) (h : LJ kn k3 (g 2) (g 3) (g 11) (g 13) (g 14) (g 15) w) : jO pg kY (iB 3 (bI (gH 1 (bI (bI (gH 1 (iB 1 (gH 2 (gH 1 (gH 4 kN)))))))))) Q g w :=
 kZ (kr := no) (l := [(3, fun g w => k3 (g 2) (g 3) (g 11) (g 13) (g 14) (g 15) w)]) h hn lU ⟨h3, trivial⟩
def SD (kn : K6) (k3 : K6) (b2 jL mF jZ jY lD : aEm) (w : aEl) : Prop :=
 LJ (fun b2 jL mF jZ jY lD IZ Wb w => BW kn b2 jL mF jZ jY lD IZ Wb w) k3 b2 jL mF jZ jY lD w
def Kn (kn : K6) (b2 jL mF jZ jY lD : aEm) (w : aEl) : Prop :=
 SD kn kn b2 jL mF jZ jY lD w
def FU (kn : K6) (k2 : K3) (b2 jL mF jZ jY lD : aEm) (w : aEl) : Prop :=
 gI pg (hU .lss 3 jC jC lD b2) w fun j8 w =>
 lX j8
  (kn b2 jL mF jZ jY lD w)
  (k2 b2 jZ jY w)
theorem Xs (kn : K6) (k2 : K3) (hn : N6 Q kn 2 3 11 13 14 15) (h2 : E3 Q k2 2 2 13 14) (h : FU kn k2 (g 2) (g 3) (g 11) (g 13) (g 14) (g 15) w) : jO pg kY (iB 1 (bI (bI (gH 1 (iB 1 (gH 2 (gH 1 (gH 4 kN)))))))) Q g w :=
 kZ (kr := no) (l := [(2, fun g w => k2 (g 2) (g 13) (g 14) w)]) h hn lU ⟨h2, trivial⟩
def B8 (kn : K6) (k2 : K3) (b2 jL mF jZ jY lD : aEm) (w : aEl) : Prop :=
 FU (fun b2 jL mF jZ jY lD w => Kn kn b2 jL mF jZ jY lD w) k2 b2 jL mF jZ jY lD w
def GS (k2 : K3) (b2 jL mF jZ jY lD : aEm) (w : aEl) : Prop :=
 kP (fun (X : (aEm × aEm × aEm) -> K0) (t : aEm × aEm × aEm) (w : aEl) => B8 (fun _ _ _ jZ jY lD w => X (jZ, jY, lD) w) k2 b2 jL mF t.1 t.2.1 t.2.2 w) (jZ, jY, lD) w
theorem W0 (kn : K6) (k2 : K3) (hn : N6 Q kn 2 3 11 13 14 15) (h2 : E3 Q k2 2 2 13 14) (h : B8 kn k2 (g 2) (g 3) (g 11) (g 13) (g 14) (g 15) w) : jO pg kY (bI (bI (gH 1 (iB 1 (gH 2 (gH 1 (gH 4 kN))))))) Q g w :=
 nQ 1 (Xs _ g w (Kn kn) k2 (fun g w h => iZ (Iw 3 (nQ 3 (Xj _ g w (BW kn) kn (fun g w h => iZ (nQ 1 (Yk _ g w (NI kn) (fun g w h => iZ (nQ 1 (YQ _ g w (Iz kn) (fun g w h => iZ (Yd _ g w kn hn h)) h))) h))) hn h)))) h2 h)
theorem XU (k2 : K3) (h2 : E3 Q k2 2 2 13 14) (h : GS k2 (g 2) (g 3) (g 11) (g 13) (g 14) (g 15) w) : jO pg kY (bI (gH 1 (iB 1 (gH 2 (gH 1 (gH 4 kN)))))) Q g w := by
 refine Ov (fun g : Env => (g 13, g 14, g 15)) (fun X t w => B8 (fun _ _ _ jZ jY lD w => X (jZ, jY, lD) w) k2 (g 2) (g 3) (g 11) t.1 t.2.1 t.2.2 w) h (fun X g1 w1 ha hL => ?_)
 rw [<- rI 2 ha, <- rI 3 ha, <- rI 11 ha] at hL
 exact (W0 _ g1 w1 (fun _ _ _ jZ jY lD w => X (jZ, jY, lD) w) k2 (fun _ _ h => h) h2 hL)
def Kl (kn : K3) (b2 jL mF jZ jY lD : aEm) (w : aEl) : Prop :=
 GS kn b2 jL mF jZ jY lD w
def Lt (kn : K6) (lP b2 jL mF jZ jY : aEm) (w : aEl) : Prop :=
 kn b2 jL mF jZ jY lP w
theorem Xf (kn : K6) (hn : N6 Q kn 2 3 11 13 14 15) (h : Lt kn (g 1) (g 2) (g 3) (g 11) (g 13) (g 14) w) : jO pg kY (iB 1 (iB 1 (gH 2 (gH 1 (gH 4 kN))))) Q g w :=
 kZ (kr := no) (l := []) h hn lU trivial
def Lb (kn : K3) (lP b2 jL mF jZ jY : aEm) (w : aEl) : Prop :=
 Lt (fun b2 jL mF jZ jY lD w => Kl kn b2 jL mF jZ jY lD w) lP b2 jL mF jZ jY w
def Lq (R : K1) (lP b2 jL mF jZ jY : aEm) (w : aEl) : Prop :=
 Lb (fun b2 jZ jY w => Ix R b2 jZ jY w) lP b2 jL mF jZ jY w
theorem Xk (kn : K3) (hn : N3 Q kn 2 13 14) (h : Lb kn (g 1) (g 2) (g 3) (g 11) (g 13) (g 14) w) : jO pg kY (iB 1 (gH 2 (gH 1 (gH 4 kN)))) Q g w :=
 nQ 1 (Xf _ g w (Kl kn) (fun g w h => iZ (Iw 2 (XU _ g w kn hn h))) h)
def Km (kn : K6) (lP b2 jL mF : aEm) (w : aEl) : Prop :=
 kn lP b2 jL mF (.slice none 0 0) lP w
theorem WT (kn : K6) (hn : N6 Q kn 1 2 3 11 13 14) (h : Km kn (g 1) (g 2) (g 3) (g 11) w) : jO pg kY (iB 2 (gH 1 (gH 4 kN))) Q g w :=
 kZ (kr := no) (l := []) h hn lU trivial
def KE (R : K1) (lP b2 jL mF : aEm) (w : aEl) : Prop :=
 Km (fun lP b2 jL mF jZ jY w => Lq R lP b2 jL mF jZ jY w) lP b2 jL mF w
def B1 (kn : K6) (k0 : K4) (lP b2 jL mF i6 i7 : aEm) (w : aEl) : Prop :=
 gI pg (hU .lss 3 jC jC i7 i6) w fun i8 w =>
 lX i8
  (jE pg pH #[mF, i7] w fun j2 w =>
  gI pg (hU .add 3 jC jC i7 (aEn 1)) w fun j3 w =>
  kn lP b2 jL mF i6 j3 w)
  (k0 lP b2 jL mF w)
theorem XQ (kn : K6) (k0 : K4) (hn : N6 Q kn 1 2 3 11 56 57) (h0 : E4 Q k0 0 1 2 3 11) (h : B1 kn k0 (g 1) (g 2) (g 3) (g 11) (g 56) (g 57) w) : jO pg kY (bI (bI (gH 1 (iB 1 (gH 4 kN))))) Q g w :=
 kZ (kr := no) (l := [(0, fun g w => k0 (g 1) (g 2) (g 3) (g 11) w)]) h hn lU ⟨h0, trivial⟩
def KT (k0 : K4) (lP b2 jL mF i6 i7 : aEm) (w : aEl) : Prop :=
 kP (fun (X : aEm -> K0) (t : aEm) (w : aEl) => B1 (fun _ _ _ _ _ i7 w => X i7 w) k0 lP b2 jL mF i6 t w) i7 w
theorem Xa (k0 : K4) (h0 : E4 Q k0 0 1 2 3 11) (h : KT k0 (g 1) (g 2) (g 3) (g 11) (g 56) (g 57) w) : jO pg kY (bI (gH 1 (iB 1 (gH 4 kN)))) Q g w := by
 refine Ov (fun g : Env => g 57) (fun X t w => B1 (fun _ _ _ _ _ i7 w => X i7 w) k0 (g 1) (g 2) (g 3) (g 11) (g 56) t w) h (fun X g1 w1 ha hL => ?_)
 rw [<- rI 1 ha, <- rI 2 ha, <- rI 3 ha, <- rI 11 ha, <- rI 56 ha] at hL
 exact (XQ _ g1 w1 (fun _ _ _ _ _ i7 w => X i7 w) k0 (fun _ _ h => h) h0 hL)
def LN (kn : K4) (lP b2 jL mF i6 i7 : aEm) (w : aEl) : Prop :=
 KT kn lP b2 jL mF i6 i7 w
def KJ (kn : K6) (lP b2 jL mF : aEm) (w : aEl) : Prop :=
 kn lP b2 jL mF lP (aEn 0) w
theorem Xc (kn : K6) (hn : N6 Q kn 1 2 3 11 56 57) (h : KJ kn (g 1) (g 2) (g 3) (g 11) w) : jO pg kY (iB 1 (iB 1 (gH 4 kN))) Q g w :=
 kZ (kr := no) (l := []) h hn lU trivial
def J7 (kn : K4) (lP b2 jL mF : aEm) (w : aEl) : Prop :=
 KJ (fun lP b2 jL mF i6 i7 w => LN kn lP b2 jL mF i6 i7 w) lP b2 jL mF w
def F7 (R : K1) (lP b2 jL mF : aEm) (w : aEl) : Prop :=
 J7 (fun lP b2 jL mF w => KE R lP b2 jL mF w) lP b2 jL mF w
theorem XZ (kn : K4) (hn : N4 Q kn 1 2 3 11) (h : J7 kn (g 1) (g 2) (g 3) (g 11) w) : jO pg kY (iB 1 (gH 4 kN)) Q g w :=
 nQ 1 (Xc _ g w (LN kn) (fun g w h => iZ (Iw 0 (Xa _ g w kn hn h))) h)
def Lm (kn : K4) (R : K1) (nJ lP b2 jL : aEm) (w : aEl) : Prop :=
 gI pg (hU .lss 3 jC jC lP (aEn 0)) w fun d2 w =>
 Gd (kO d2 false) (fun K => K b2 w) w fun d4 w =>
 Gd (kO d2 false) (fun K => K lP w) w fun d5 w =>
 Gd (kO d2 false) (fun K => gI pg (hU .lss 3 jC jC d4 d5) w K) w fun d6 w =>
 gI pg (mD d2 (.bool true) d6) w fun d7 w =>
 Gd (kO d7 false) (fun K => K b2 w) w fun d9 w =>
 Gd (kO d7 false) (fun K => K nJ w) w fun e0 w =>
 Gd (kO d7 false) (fun K => gI pg (nX .len #[22] 3 [e0]) w K) w fun e1 w =>
 Gd (kO d7 false) (fun K => gI pg (hU .gtr 3 jC jC d9 e1) w K) w fun e2 w =>
 gI pg (mD d7 (.bool true) e2) w fun e3 w =>
 Gd (kO e3 false) (fun K => K jL w) w fun e5 w =>
 Gd (kO e3 false) (fun K => gI pg (hU .lss 3 jC jC e5 (aEn 0)) w K) w fun e6 w =>
 gI pg (mD e3 (.bool true) e6) w fun e7 w =>
 Gd (kO e7 false) (fun K => K jL w) w fun e9 w =>
 Gd (kO e7 false) (fun K => gI pg (hU .gtr 3 jC jC e9 (aEn 9)) w K) w fun f0 w =>
 gI pg (mD e7 (.bool true) f0) w fun f1 w =>
 lX f1
  (R (.tuple #[(.slice none 0 0), (aEn 0), (aEn 1)]) w)
  (gI pg (hU .eql 3 (.tmp 42) (.const (aEn 0)) jL (aEn 0)) w fun f3 w =>
  lX f3
   (gI pg (hU .sub 3 jC jC b2 lP) w fun f6 w =>
   R (.tuple #[(.slice none 0 0), f6, (aEn 0)]) w)
   (Ord (axB Gm 5 (Vi 5 kN) 2 4 w)
    ((dr w) = (dr w) /\
    (dr w) = (dr w) /\
    gI pg (Yp 116 none) (dr w) fun f9 axC =>
    axC = axC /\
    gI pg (sP 117 b2 b2) axC fun i1 Wj =>
    Wj = Wj /\
    gI pg (hU .shl 3 jC jC (aEn 1) jL) Wj fun i3 w_ => w_ = Wj /\
    (jD pg (hU .shl 3 jC jC (aEn 1) jL) i3 axC /\ jD pg (hU .shl 3 jC jC (aEn 1) jL) i3 (dr w) /\ True) /\
    gI pg (kV 119 [(0, nJ), (1, b2), (2, f9), (3, i1), (4, i3)]) Wj fun i4 w_ => w_ = Wj /\
    gI pg (RV 119 i4) Wj fun i5 alC =>
    alC = alC /\
    kn lP b2 jL i5 alC)
    ((dr w) = (dr w) /\
    (dr w) = (dr w) /\
    (dr w) = (dr w) /\
    gI pg (sP 117 b2 b2) (dr w) fun i1 akW =>
    gI pg (Yp 116 none) akW fun f9 Wj =>
    Wj = Wj /\
    gI pg (hU .shl 3 jC jC (aEn 1) jL) Wj fun i3 w_ => w_ = Wj /\
    (jD pg (hU .shl 3 jC jC (aEn 1) jL) i3 akW /\ jD pg (hU .shl 3 jC jC (aEn 1) jL) i3 (dr w) /\ True) /\
    gI pg (kV 119 [(0, nJ), (1, b2), (2, f9), (3, i1), (4, i3)]) Wj fun i4 w_ => w_ = Wj /\
    gI pg (RV 119 i4) Wj fun i5 alC =>
    alC = alC /\
    kn lP b2 jL i5 alC)))
theorem X2 (kn : K4) (R : K1) (hn : N4 Q kn 1 2 3 11) (hr : HR IL R Q) (h : Lm kn R (g 0) (g 1) (g 2) (g 3) w) : jO pg kY (iB 4 kN) Q g w :=
 kZ (l := []) h hn hr trivial
def Ly (R : K1) (nJ lP b2 jL : aEm) (w : aEl) : Prop :=
 Lm (fun lP b2 jL mF w => F7 R lP b2 jL mF w) R nJ lP b2 jL w
theorem XS (R : K1) (hr : HR IL R Q) (h : Ly R (g 0) (g 1) (g 2) (g 3) w) : jO pg kY kN Q g w :=
 nQ 4 (X2 _ g w (F7 R) R (fun g w h => iZ (nQ 1 (XZ _ g w (KE R) (fun g w h => iZ (nQ 2 (WT _ g w (Lq R) (fun g w h => iZ (nQ 1 (Xk _ g w (Ix R) (fun g w h => iZ (X8 _ g w R hr h)) h))) h))) h))) hr h)
def abX (a0 a1 a2 a3 : aEm) (w : aEl) (R : K1) : Prop :=
 Ly R a0 a1 a2 a3 w
theorem ZV {a0 a1 a2 a3 : aEm} {w : aEl} {R : K1} (h : abX a0 a1 a2 a3 w R) : jE pg Gm #[a0, a1, a2, a3] w R := by
 refine wQ (ann := kY) Tryz.f44 kN [a0, a1, a2, a3] IL 136 TryzM.mixed Tryz.func44 ?_
 exact (XS _ _ _ R (fun _ _ h => h) h)
end Go.Proofs.YtoecppploooloaaGreatDoor

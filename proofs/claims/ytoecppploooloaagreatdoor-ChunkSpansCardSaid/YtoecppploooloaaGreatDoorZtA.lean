/- Parts of the proof of ChunkSpans: merged and given short names by a program of ours. -/
import Derived.Orders
import Derived.Below
import Derived.KernelRfl
import Derived.Eval
import Derived.RangeFuncRecord
import Derived.Laws.Sem
import Derived.Scope
import Derived.Test.YtoecppploooloaaGreatDoorRows
set_option linter.unusedVariables false
set_option linter.unusedSimpArgs false
open Array renaming getD_eq_getD_getElem? → aoO, getElem?_eq_getElem → aoW, getElem?_setIfInBounds_self_of_lt → apI, getElem?_setIfInBounds_ne → apQ, getElem?_eq_none → aqI, all_eq_true' → aqL, length_toList → arJ, getElem?_toList → asC, mem_of_getElem? → atF
open Bool renaming false_eq_true → aoD, not_true → aoJ, and_eq_true → aoQ, or_eq_true → aqQ, not_eq_true' → aqV, or_eq_false_iff → asJ
open List renaming getElem?_cons_succ → aoC, getElem?_eq_getElem → aoM, getD_eq_getElem?_getD → aoN, mem_cons_of_mem → aoR, getElem?_eq_none → aoS, length_cons → aoV, map_cons → apJ, mem_cons_self → apL, all_eq_true → apO, length_eq_zero_iff → apT, mem_range → apV, mem_cons → apZ, mem_map → aqB, getElem_of_mem → aqF, mem_append → aqJ, map_congr_left → aqO, drop_eq_getElem_cons → aqP, mem_of_getElem? → aqT, mem_append_left → arH, mem_append_right → asA, mem_filter → atJ, map_nil → atL
open Nat renaming zero_add → aoH, le_refl → aoP, lt_or_ge → aoT, eq_of_beq_eq_true → apH, le_trans → aqC, le_of_ble_eq_true → arC, lt_of_lt_of_le → arL, add_assoc → arN, blt_eq → arU, lt_trichotomy → atB, le_total → atH, mod_lt → atK
open Option renaming map_some → apM, getD_some → arK
open Option.some renaming inj → apP
namespace Go.En
open Go
abbrev atO := World
abbrev atP := Value
abbrev Env := Nat -> atP
def put (g : Env) (d : Option Tmp) (v : atP) : Env :=
 match d with
 | some d => fun i => match Nat.beq i d with | true => v | false => g i
 | none => g
def ev (g : Env) : Operand -> atP
 | .tmp t => g t
 | .const v => v
 | .global b => .pointer (some ⟨b, 0, none⟩)
 | .func f => .func (.func f) #[] #[]
def Ret (P : Program) (f : FuncId) (args : Array atP) (w : atO) (v : atP) (w' : atO) : Prop :=
 Calls P f args w fun e w'' => e = .returned v /\ w'' = w'
def jD (P : Program) (f : FuncId) (args : Array atP) (w : atO) (R : atP -> atO -> Prop) : Prop :=
 ∃ v w', Ret P f args w v w' /\ R v w'
theorem jD.mono {P : Program} {f : FuncId} {args : Array atP} {w : atO} {R R' : atP -> atO -> Prop} (h : jD P f args w R)
 (hr : ∀ v w', R v w' -> R' v w') : jD P f args w R' :=
 let ⟨v, w', a, b⟩ := h; ⟨v, w', a, hr _ _ b⟩
def alR (P : Program) (l : Nat) (f : FuncId) (tmps : Array atP) (aoA bd : Code) (w : atO) (v : atP) (w' : atO) : Prop :=
 RoundIn Fence.wide 0 P l f tmps aoA bd w fun e w'' => e = .returned v /\ w'' = w'
def Wj (P : Program) (l : Nat) (f : FuncId) (tmps : Array atP) (aoA bd : Code) (w : atO) (R : atP -> atO -> Prop) : Prop :=
 ∃ v w', alR P l f tmps aoA bd w v w' /\ R v w'
def X8 (P : Program) (r : Result Next) (K : atP -> atO -> Prop) : Prop :=
 match r with
 | .ok (.value v) w => K v w
 | .ok .skip w => K undef w
 | .ok (.enter f args) w => jD P f args w K
 | .ok (.round l f tmps aoA bd) w => Wj P l f tmps aoA bd w K
 | _ => False
theorem cS (P : Program) (v : atP) (w : atO) (K : atP -> atO -> Prop) : X8 P (.ok (.value v) w) K = K v w := Eq.trans rfl rfl
theorem stepR_skip (P : Program) (w : atO) (K : atP -> atO -> Prop) : X8 P (.ok .skip w) K = K undef w := Eq.trans rfl rfl
theorem F6 (P : Program) (f : FuncId) (args : Array atP) (w : atO) (K : atP -> atO -> Prop) : X8 P (.ok (.enter f args) w) K = jD P f args w K := Eq.trans rfl rfl
theorem XE (P : Program) (l : Nat) (f : FuncId) (tmps : Array atP) (aoA bd : Code) (w : atO) (K : atP -> atO -> Prop) :
 X8 P (.ok (.round l f tmps aoA bd) w) K = Wj P l f tmps aoA bd w K := Eq.trans rfl rfl
def gE (P : Program) (s : Sem Next) (w : atO) (K : atP -> atO -> Prop) : Prop := X8 P (s.run P w) K
def jE (P : Program) (s : Sem Next) (v : atP) (w : atO) : Prop := s.run P w = .ok (.value v) w
def Gd (b : Bool) (s : (atP -> atO -> Prop) -> Prop) (w : atO) (K : atP -> atO -> Prop) : Prop :=
 match b with
 | true => s K
 | false => K undef w
def asB (v : atP) : Option Bool := match v with | .bool b => some b | _ => none
def kP (v : atP) (want : Bool) : Bool := asB v == some want
def mX (v : atP) (A B : Prop) : Prop :=
 match v with
 | .bool b => (match b with | true => A | false => B)
 | _ => False
def FI (ops : Array Oper) (j : Nat) : Option Tmp := (ops[j]?).bind (·.dst)
def Cm (g : Env) (t : Option Tmp) (want : Bool) : Bool := match t with | some t => kP (g t) want | none => false
def V (s : Sem atP) : Sem Next := do pure (.value (<- s))
def U (s : Sem Unit) : Sem Next := do s; pure .skip
def I0 (op : BinOp) : Bool := match op with | .eql | .neq => true | _ => false
def gW (op : BinOp) (t : TypeId) (ox oy : Operand) (x y : atP) : Sem Next :=
 match I0 op with
 | true => V (do eqGuard op t ox oy x y; binOp op t x y)
 | false => V (binOp op t x y)
def oD (b : Builtin) (ats : Array TypeId) (ty : TypeId) (args : List atP) : Sem Next := builtin b ats ty #[] args.toArray
def Cq (f : atP) (args : List atP) : Sem Next := do let d <- Deferred.ofValue f args.toArray; invoke d.target d.args
def Vy (fn : Fn) (first captured : List atP) : Sem Next := V (Instr.makeFunc fn first.toArray captured.toArray)
def mL (t : TypeId) (ps : List (Nat × atP)) : Sem Next := V (Instr.build t ps.toArray)
def lJ (t : TypeId) (n : Nat) (ps : List (Nat × atP)) : Sem Next := V (Instr.buildSlice t n ps.toArray)
def Lc (g : Env) (o : Oper) : Sem Next :=
 match o.op with
 | .binOp op t x y _ => gW op t x y (ev g x) (ev g y)
 | .makeFunc fn first captured => Vy fn (first.toList.map (ev g)) (captured.toList.map (ev g))
 | .build t ps => mL t (ps.toList.map fun p => (p.1, ev g p.2))
 | .buildSlice t n ps => lJ t n (ps.toList.map fun p => (p.1, ev g p.2))
 | .call c => (match c.callee with
   | .builtin b => oD b c.argTypes o.type (c.args.toList.map (ev g))
   | .value f => Cq (ev g f) (c.args.toList.map (ev g))
   | _ => execOp (ev g) o)
 | _ => execOp (ev g) o
def Jk (P : Program) (g : Env) (o : Oper) (w : atO) (K : atP -> atO -> Prop) : Prop :=
 match o.op with
 | .move x => K (ev g x) w
 | .assign x => K (ev g x) w
 | .call c => (match c.callee with
   | .value (.func f) => jD P f (c.args.toList.map (ev g)).toArray w K
   | _ => gE P (Lc g o) w K)
 | _ => gE P (Lc g o) w K
def Ie (P : Program) (ops : Array Oper) (g : Env) (o : Oper) (w : atO) (K : atP -> atO -> Prop) : Prop :=
 match o.guard with
 | none => Jk P g o w K
 | some (j, want) => Gd (Cm g (FI ops j) want) (Jk P g o w) w K
def Vb (P : Program) (ops : Array Oper) : List Oper -> Env -> atO -> (Env -> atO -> Prop) -> Prop
 | [], g, w, K => K g w
 | o :: rest, g, w, K => Ie P ops g o w fun v w' => Vb P ops rest (put g o.dst v) w' K
structure Rec where
 heavy : Bool
 o : Oper
 g : Env
 w : atO
 v : atP
def gOf (ops : Array Oper) (o : Oper) (g : Env) : Bool := match o.guard with | none => true | some (j, want) => Cm g (FI ops j) want
def Gs (b : Bool) (p : Prop) : Prop := match b with | true => p | false => True
def QR (P : Program) (ops : Array Oper) (q : Rec) (o : Oper) (g : Env) (w' : atO) (v : atP) : Prop :=
 match q.heavy with
 | true => Gs (gOf ops o g) (jE P (Lc g o) v q.w)
 | false => Gs (gOf ops q.o q.g) (jE P (Lc q.g q.o) q.v w')
def U9 (i j : Nat) : List (Nat × Nat) -> Bool
 | [] => false
 | (a, b) :: r => match Nat.beq a i with
   | true => (match Nat.beq b j with | true => true | false => U9 i j r)
   | false => U9 i j r
def tK (i : Nat) : List Nat -> Bool
 | [] => false
 | a :: r => match Nat.beq a i with | true => true | false => tK i r
def Yh : List Rec -> Nat -> Option Rec
 | [], _ => none
 | q :: _, 0 => some q
 | _ :: r, n + 1 => Yh r n
def aiM (P : Program) (ops : Array Oper) (o : Oper) (g : Env) (w' : atO) (v : atP) (hist : List Rec) : List Nat -> Prop
 | [] => True
 | k :: ks => (match Yh hist k with
   | some q => QR P ops q o g w' v
   | none => False) /\ aiM P ops o g w' v hist ks
abbrev ZN := List Nat × List (Nat × Nat)
abbrev X3 := List (Bool × List Nat)
def vF (P : Program) (ops : Array Oper) : List Oper -> X3 -> List Rec -> Env -> atO -> (Env -> atO -> Prop) -> Prop
 | [], _, _, g, w, K => K g w
 | _ :: _, [], _, _, _, _ => False
 | o :: rest, (hv, ks) :: pl, hist, g, w, K =>
   Ie P ops g o w fun v w' =>
    match hv, ks with
    | true, [] => vF P ops rest pl (⟨true, o, g, w, v⟩ :: hist) (put g o.dst v) w' K
    | true, k :: ks => aiM P ops o g w' v hist (k :: ks) /\ vF P ops rest pl (⟨true, o, g, w, v⟩ :: hist) (put g o.dst v) w' K
    | false, [] => w' = w /\ vF P ops rest pl (⟨false, o, g, w, v⟩ :: hist) (put g o.dst v) w K
    | false, k :: ks => w' = w /\ aiM P ops o g w v hist (k :: ks) /\ vF P ops rest pl (⟨false, o, g, w, v⟩ :: hist) (put g o.dst v) w K
def kE {α : Type} (F : (α -> atO -> Prop) -> α -> atO -> Prop) (g : α) (w : atO) : Prop :=
 ∃ I : Nat -> α -> atO -> Prop, (∃ n, I n g w) /\ ∀ n g w, I n g w -> F (fun g' w' => ∃ m, m < n /\ I m g' w') g w
def C7 (K : Env -> atO -> Prop) (Q : Exit -> Env -> atO -> Prop) : Exit -> Env -> atO -> Prop :=
 fun e g w => (fun (_ : Program -> Sem Next -> atO -> (atP -> atO -> Prop) -> Prop) => match e with | .normal => K g w | e => Q e g w) gE
def blk (id : Nat) (Q : Exit -> Env -> atO -> Prop) : Exit -> Env -> atO -> Prop :=
 fun e g w => (fun (_ : Program -> Sem Next -> atO -> (atP -> atO -> Prop) -> Prop) => match e with | .exit i => (match Nat.beq i id with | true => Q .normal g w | false => Q (.exit i) g w) | e => Q e g w) gE
inductive HT where
 | leaf (an : ZN) (pl : X3)
 | perm (π : List Nat) (es : List (Nat × Nat)) (an : ZN) (pl : X3)
 | split (a b : Nat) (x y : HT)
structure FA where
 f : FuncId
 t : Nat -> HT
def Aq : List Nat -> Nat -> Nat
 | [], _ => 0
 | a :: r, i => match Nat.beq a i with | true => 0 | false => Aq r i + 1
def G8 (π : List Nat) (i : Nat) : List (Nat × Nat) -> List Edge
 | [] => []
 | (a, b) :: r => match Nat.beq b i with | true => ⟨Aq π a, .data⟩ :: G8 π i r | false => G8 π i r
def Js (π : List Nat) (es : List (Nat × Nat)) (i : Nat) (o : Oper) : Oper :=
 { dst := o.dst, op := o.op, type := o.type, pos := o.pos, after := (o.after.toList.map (fun e => (⟨Aq π e.on, e.ground⟩ : Edge)) ++ G8 π i es).toArray,
   guard := match o.guard with | none => none | some (j, b) => some (Aq π j, b) }
def Sk (π : List Nat) (es : List (Nat × Nat)) (l : List Oper) : List Nat -> List Oper
 | [] => []
 | i :: r => match l[i]? with | some o => Js π es i o :: Sk π es l r | none => Sk π es l r
def tC (π : List Nat) (es : List (Nat × Nat)) (ops : Array Oper) : Array Oper := (Sk π es ops.toList π).toArray
def ahV (f : FuncId) (id : Nat) (ops : Array Oper) (a b : Nat) (w : atO) : Bool :=
 Nat.ble ((Region.schedule true ops (w.tape w.drawn (.order f id))).idxOf a) ((Region.schedule true ops (w.tape w.drawn (.order f id))).idxOf b)
def Ord (b : Bool) (A B : Prop) : Prop := match b with | true => A | false => B
def YB (P : Program) (f : FuncId) (id : Nat) (ops : Array Oper) : HT -> Env -> atO -> atO -> (Env -> atO -> Prop) -> Prop
 | .leaf _ pl, g, _, w, K => vF P ops ops.toList pl [] g w K
 | .perm π es _ pl, g, _, w, K => vF P (tC π es ops) (tC π es ops).toList pl [] g w K
 | .split a b x y, g, w0, w, K => Ord (ahV f id ops a b w0) (YB P f id ops x g w0 w K) (YB P f id ops y g w0 w K)
def DS : Nat := 1000003
def YF : atP -> List Deferred
 | .pointer (some a) => [{ target := .collected a.block, args := #[] }]
 | _ => []
def noMark : atP -> Bool
 | .pointer _ => false
 | _ => true
def tmpsOf (N : Nat) (g : Env) : Array atP := Array.ofFn (n := N) fun i => g i.val
def Tu (P : Program) (f : FuncId) : Nat := match P.funcs[f]? with | some fn => fn.ntmps | none => 0
def akC (Q : Exit -> Env -> atO -> Prop) (g : Env) : Option Code -> atO -> Prop
 | none, w => Q .normal g w
 | some .ret, w => Q .ret g w
 | some (.exit i), w => Q (.exit i) g w
 | _, _ => False
def afD (l : Nat) (Q : Exit -> Env -> atO -> Prop) (g : Env) (w : atO) : Prop :=
 ∃ r : Loop, w.heap[l]? = some (.loop r) /\ r.state ≠ .busy /\ akC Q g r.pending (w.putObj l (.loop { r with state := .exhausted }))
def rfW (f : FuncId) (N : Nat) (ps : Array Tmp) (aoA bd : Code) (g : Env) (w : atO) : atO :=
 (w.alloc (.deferred (some []))).alloc (.loop { state := .ready, pending := none, fn := f, tmps := tmpsOf N g, params := ps, assign := aoA, body := bd, defers := w.heap.size })
def alP (P : Program) (r : Result Next) (K : atP -> atO -> Prop) : Prop :=
 match r with
 | .ok (.enter f args) w => jD P f args w K
 | _ => False
def Iq (l : Nat) : atP := .func (.yield l) #[] #[]
def RF (P : Program) (f : FuncId) (gf : Operand) (ps : Array Tmp) (aoA bd : Code) (Q : Exit -> Env -> atO -> Prop) (g : Env) (w : atO) : Prop :=
 match noMark (g DS) with
 | true => alP P ((Cq (ev g gf) [Iq (w.heap.size + 1)]).run P (rfW f (Tu P f) ps aoA bd g w)) fun _ w3 =>
  afD (w.heap.size + 1) Q (put g (some DS) (.pointer (some ⟨w.heap.size, 0, none⟩))) w3
 | false => False
def jK (P : Program) (ann : FA) : Code -> (Exit -> Env -> atO -> Prop) -> Env -> atO -> Prop
 | .skip, Q, g, w => Q .normal g w
 | .region id ops draw, Q, g, w => match draw with
   | false => Vb P ops ops.toList g w (Q .normal)
   | true => YB P ann.f id ops (ann.t id) g w { w with drawn := w.drawn + 1 } (Q .normal)
 | .seq x y, Q, g, w => jK P ann x (C7 (fun g w => jK P ann y Q g w) Q) g w
 | .cond c x y, Q, g, w => mX (ev g c) (jK P ann x Q g w) (jK P ann y Q g w)
 | .block id c, Q, g, w => jK P ann c (blk id Q) g w
 | .loop c, Q, g, w => kE (fun X g w => jK P ann c (C7 X Q) g w) g w
 | .scope c, Q, g, w => jK P ann c Q g w
 | .label _, Q, g, w => Q .normal g w
 | .exit id, Q, g, w => Q (.exit id) g w
 | .ret, Q, g, w => Q .ret g w
 | .rangeFunc gf ps aoA bd, Q, g, w => RF P ann.f gf ps aoA bd Q g w
 | _, _, _, _ => False
def ZK (N : Nat) (o : Oper) : Bool := match o.dst with | some d => Nat.blt d N | none => true
def bef (b : Array Nat) (i j : Nat) : Bool := (b.getD j 0).testBit i
def looks (ops : Array Oper) (o : Oper) : List Tmp :=
 (o.op.operands.toList.filterMap fun | .tmp t => some t | _ => none) ++ (match o.guard with | some (j, _) => (FI ops j).toList | none => [])
def aeU (ops : Array Oper) (x y : Oper) : Bool :=
 (match x.dst with | some d => (looks ops y).contains d || y.dst == some d | none => false) ||
 (match y.dst with | some d => (looks ops x).contains d | none => false)
def Uo (o : Oper) : Bool := match o.op with | .select .. => true | _ => false
def afJ (o : Oper) : Bool := match o.op with | .call { callee := .value (.func _), .. } => true | _ => false
def Wx (o : Oper) : Bool := match o.op with | .defer .. => true | _ => false
def Wq : Operand -> Bool | .tmp t => Nat.blt t DS | _ => true
def UW (P : Program) (o : Oper) : Bool :=
 match o.op with
 | .call c => (match c.callee with
   | .value (.func f) => (match P.funcs[f]? with | some fn => fn.body.isSome && !(fn.name == "runtime.NumGoroutine") | none => false)
   | .builtin b => (match b with | .print | .println => false | _ => true)
   | _ => true)
 | _ => true
def Dn (P : Program) (o : Oper) : Bool := UW P o && (o.op.operands.toList.all Wq && (!Uo o && !Wx o))
def LL (o : Oper) : Bool := match o.op with | .move _ | .assign _ => true | _ => false
def Oe (ops : Array Oper) (b : Array Nat) (an : ZN) (i j : Nat) (x y : Oper) : Bool :=
 bef b i j ||
 (!aeU ops x y &&
   match tK i an.1, tK j an.1 with
   | true, true => false
   | false, false => true
   | true, false => LL y || U9 i j an.2
   | false, true => LL x || U9 i j an.2)
def Ye (ops : Array Oper) (b : Array Nat) (an : ZN) : Bool :=
 (List.range ops.size).all fun j => (List.range j).all fun i =>
  match ops[i]?, ops[j]? with
  | some x, some y => Oe ops b an i j x y
  | _, _ => false
def Wp (ops : Array Oper) : Bool :=
 (List.range ops.size).all fun i => match ops[i]? with
  | some o => o.after.all fun e => !Region.binds .any e || Nat.blt e.on i
  | none => false
def Wg (ops : Array Oper) (b : Array Nat) : Bool :=
 (List.range ops.size).all fun j => (List.range ops.size).all fun i =>
  !bef b i j || (match ops[j]? with
   | some o => o.after.any fun e => Region.binds .any e && (Nat.beq e.on i || bef b i e.on)
   | none => false)
def Vl (ops : Array Oper) (an : ZN) : Bool :=
 Wp ops && Wg ops (Region.before ops) && Ye ops (Region.before ops) an && (ops.all fun o => !Uo o) &&
  (List.range ops.size).all fun i => match ops[i]? with | some o => !afJ o || tK i an.1 | none => false
def Vk (n : Nat) (an : ZN) (pl : X3) : Bool :=
 (List.range n).all fun i => match pl[i]? with
  | some (h, ks) => h == tK i an.1 && an.2.all fun p => !Nat.beq p.2 i || (Nat.blt p.1 i && ks.contains (i - 1 - p.1))
  | none => false
def YS (π : List Nat) (ops : Array Oper) : Bool :=
 Nat.beq π.length ops.size && ((List.range ops.size).all fun k => match π[k]? with | some i => Nat.beq (Aq π i) k && Nat.blt i ops.size | none => false) &&
  ((List.range ops.size).all fun i => match π[Aq π i]? with | some j => Nat.beq j i | none => false) &&
  ((List.range ops.size).all fun i => match ops[i]? with
    | some o => (o.after.all fun e => Nat.blt e.on ops.size) && (match o.guard with | some (j, _) => Nat.blt j ops.size | none => true)
    | none => false)
def Q3 (P : Program) (N : Nat) (ops : Array Oper) : List (Nat × Nat) -> HT -> Bool
 | _, .leaf an pl => Vl ops an && Vk ops.size an pl
 | path, .perm π es an pl => (es.all fun p => U9 p.1 p.2 path && Nat.blt p.1 ops.size) && YS π ops && (tC π es ops).all (ZK N) && (tC π es ops).all (Dn P) &&
  Vl (tC π es ops) an && Vk (tC π es ops).size an pl
 | path, .split a b x y => !Nat.beq a b && Q3 P N ops ((a, b) :: path) x && Q3 P N ops ((b, a) :: path) y
def codeOk (P : Program) (N : Nat) (ann : FA) : Code -> Bool
 | .skip | .exit _ | .ret | .label _ => true
 | .scope c => codeOk P N ann c
 | .region id ops draw => ops.all (ZK N) && ops.all (Dn P) && (!draw || Q3 P N ops [] (ann.t id))
 | .seq x y => codeOk P N ann x && codeOk P N ann y
 | .cond c x y => Wq c && (codeOk P N ann x && codeOk P N ann y)
 | .block _ c => codeOk P N ann c
 | .loop c => codeOk P N ann c
 | .rangeFunc gf _ _ _ => Wq gf
 | _ => false
def vN : Code -> Bool
 | .seq x y => vN x && vN y
 | .cond _ x y => vN x && vN y
 | .block _ c => vN c
 | .loop c => vN c
 | .scope c => vN c
 | .rangeFunc .. => false
 | _ => true
def WH : ResultVar -> Bool
 | .tmp t => Nat.blt t DS
 | .cell a _ => Nat.blt a DS
theorem KX (g : Env) (d i : Nat) (v : atP) : put g (some d) v i = if i = d then v else g i := by
 unfold put
 by_cases h : i = d
 .subst h; simp
 .have : Nat.beq i d = false := by
   cases hb : Nat.beq i d
   .rfl
   .exact absurd (apH hb) h
  simp [this, h]
theorem Yl {P : Program} {o : Oper} (h : Dn P o = true) : UW P o = true := by
 unfold Dn at h; simp only [aoQ] at h; exact h.1
theorem Ze {P : Program} {o : Oper} (h : Dn P o = true) : ∀ x ∈ o.op.operands, Wq x = true := by
 unfold Dn at h; simp only [aoQ] at h
 intro x hx
 exact apO.1 h.2.1 x (by simpa using hx)
theorem Zd {P : Program} {o : Oper} (h : Dn P o = true) : Uo o = false := by
 unfold Dn at h; simp only [aoQ, aqV] at h; exact h.2.2.1
theorem YJ {P : Program} {o : Oper} (h : Dn P o = true) : Wx o = false := by
 unfold Dn at h; simp only [aoQ, aqV] at h; exact h.2.2.2
def QW (N : Nat) (ops : Array Oper) : Prop := ∀ (i : Nat) (o : Oper), ops[i]? = some o -> ∀ t, o.dst = some t -> t < N
structure NT (N : Nat) (g : Env) (a : Act) : Prop where
 le : N <= DS
 defers : a.defers = YF (g DS)
 size : a.tmps.size = N
 at_ : ∀ i, i ≠ DS -> a.tmps.getD i undef = g i
theorem NT.ev {N : Nat} {g : Env} {a : Act} (h : NT N g a) (x : Operand) (hx : Wq x = true) : a.eval x = ev g x := by
 cases x with
 | tmp t =>
   have : t < DS := (arU (x := t) (y := DS)) ▸ hx
   have e := h.at_ t (Nat.ne_of_lt this)
   simp [Act.eval, En.ev, <- e]
 | _ => simp [Act.eval, En.ev]
theorem NT.put {N : Nat} {g : Env} {a : Act} (h : NT N g a) (d : Option Tmp) (v : atP) (hd : ∀ t, d = some t -> t < N) :
 NT N (put g d v) (a.put d v) := by
 cases d with
 | none => exact h
 | some t =>
   obtain ⟨h0, h1, h2, h3⟩ := h
   have ht := hd t rfl
   refine ⟨h0, ?_, by simp [Act.put, h2], fun i hne => ?_⟩
   .rw [KX, if_neg (Nat.ne_of_gt (arL ht h0))]; exact h1
   .rw [KX, <- h3 i hne]
    by_cases hi : i = t
    .subst hi; simp [Act.put, h2, ht]
    .have hi' : t ≠ i := fun e => hi e.symm
     simp [Act.put, hi, apQ hi']
theorem NT.wanted {N : Nat} {g : Env} {a : Act} (h : NT N g a) (ops : Array Oper) (hd : QW N ops) (o : Oper) :
 Region.wanted o (yielded ops a.tmps) = match o.guard with | none => true | some (j, want) => Cm g (FI ops j) want := by
 unfold Region.wanted
 cases o.guard with
 | none => rfl
 | some p =>
   obtain ⟨j, want⟩ := p
   simp only [yielded, Cm, FI]
   cases ho : ops[j]? with
   | none => simp
   | some o' =>
     cases hdd : o'.dst with
     | none => simp [hdd]
     | some t =>
       have hlt := hd j o' ho t hdd
       have hle := h.le
       have h3 := h.at_ t (Nat.ne_of_lt (arL hlt hle))
       simp only [hdd, Option.bind_some, kP, asB, <- h3]
       simp only [aoO]
       cases ht : a.tmps[t]? with
       | none => simp [undef]
       | some v => cases v <;> simp
def upX (P : Program) (o : Oper) (a : Act) (next : Act -> atO -> Prop) : Result Next -> Prop
 | .ok (.value v) w' => next (a.put o.dst v) w'
 | .ok .skip w' => next (a.put o.dst undef) w'
 | .ok (.enter f args) w' => ∃ v w'', Ret P f args w' v w'' /\ next (a.put o.dst v) w''
 | .ok (.round l f tmps aoA bd) w' => ∃ v w'', alR P l f tmps aoA bd w' v w'' /\ next (a.put o.dst v) w''
 | _ => False
def Zq (P : Program) (o : Oper) (a : Act) (w : atO) (next : Act -> atO -> Prop) : Prop := Wx o = false /\ upX P o a next ((execOp a.eval o).run P w)
def NX (P : Program) (ops : Array Oper) (i : Nat) (K : Act -> atO -> Prop) (a : Act) (w : atO) : Prop :=
 match ops[i]? with
 | none => K a w
 | some o => if Region.wanted o (yielded ops a.tmps) then Zq P o a w K else K (a.put o.dst undef) w
def EN (P : Program) (ops : Array Oper) (Q : Act -> atO -> Prop) : List Nat -> Act -> atO -> Prop
 | [], a, w => Q a w
 | i :: rest, a, w => NX P ops i (EN P ops Q rest) a w
def Vs (P : Program) (ops : Array Oper) (Q : Act -> atO -> Prop) : Nat -> Array Bool -> Act -> atO -> Prop
 | 0, listed, a, w => Region.ready .any ops listed = [] /\ Q a w
 | fuel + 1, listed, a, w =>
   (Region.ready .any ops listed = [] -> Q a w) /\ ∀ i ∈ Region.ready .any ops listed, NX P ops i (Vs P ops Q fuel (listed.setIfInBounds i true)) a w
theorem WC {P : Program} {o : Oper} {a : Act} {w : atO} {K K' : Act -> atO -> Prop} (h : ∀ a w, K a w -> K' a w) (hh : Zq P o a w K) : Zq P o a w K' := by
 refine ⟨hh.1, ?_⟩
 have hh := hh.2
 generalize (execOp a.eval o).run P w = r at *
 cases r with
 | ok x w' =>
   cases x <;> simp only [upX] at hh ⊢ <;> first | exact h _ _ hh | (obtain ⟨v, w'', h1, h2⟩ := hh; exact ⟨v, w'', h1, h _ _ h2⟩) | exact hh
 | halt x w' => exact hh.elim
theorem Y8 {P : Program} {ops : Array Oper} {i : Nat} {a : Act} {w : atO} {K K' : Act -> atO -> Prop} (h : ∀ a w, K a w -> K' a w) (hh : NX P ops i K a w) : NX P ops i K' a w := by
 unfold NX at *
 split
 .exact h _ _ (by simpa [*] using hh)
 .rename_i o ho
  simp only [ho] at hh
  split
  .rename_i hw; simp only [hw, if_true] at hh; exact WC h hh
  .rename_i hw; simp only [hw] at hh; exact h _ _ hh
def Vw (ro : Option Nat) : Fence := { Fence.wide with round := ro }
theorem abN {P : Program} {ops : Array Oper} {Q : Act -> atO -> Prop} (ro : Option Nat) : ∀ (L : List Nat) (a : Act) (w : atO), EN P ops Q L a w →
 wpOpsIn (Vw ro) 0 P ops (fun e a w => e = .normal /\ Q a w) L a w := by
 intro L
 induction L with
 | nil => intro a w h; exact ⟨rfl, h⟩
 | cons i L ih =>
   intro a w h
   simp only [EN, NX] at h
   simp only [wpOpsIn]
   cases ho : ops[i]? with
   | none => rw [ho] at h; exact ih _ _ h
   | some o =>
     rw [ho] at h
     simp only at h ⊢
     by_cases hw : Region.wanted o (yielded ops a.tmps) = true
     .rw [if_pos hw] at h ⊢
      obtain ⟨hd, h⟩ := h
      refine ⟨fun _ _ => trivial, ?_⟩
      rw [Oper.semAt_eq _ _ _ (fun c hc => by simp [Wx, hc] at hd)]
      generalize (execOp a.eval o).run P w = r at *
      cases r with
      | halt x w' => exact h.elim
      | ok x w' =>
        cases x <;> simp only [upX] at h <;> simp only [Oper.uponIn] <;> try (exact h.elim)
        .exact ih _ _ h
        .exact ih _ _ h
        .obtain ⟨v, w'', h1, h2⟩ := h
         refine ⟨fun hn => by simp [Vw, Fence.wide] at hn, ?_⟩
         have := callsIn_wide (n := 0).2 h1
         refine CallsIn.mono (F := Vw ro) (n := 0) this ?_
         rintro e w3 ⟨rfl, rfl⟩
         exact ih _ _ h2
        .obtain ⟨v, w'', h1, h2⟩ := h
         refine ⟨fun hn => by simp [Vw, Fence.wide] at hn, ?_⟩
         refine RoundIn.mono (F := Vw ro) (n := 0) h1 ?_
         rintro e w3 ⟨rfl, rfl⟩
         exact ih _ _ h2
     .rw [if_neg hw] at h ⊢
      exact ⟨fun _ _ => trivial, ih _ _ h⟩
section
variable {P : Program} {ops : Array Oper}
def T7 (P : Program) (ops : Array Oper) (g : Env) (o : Oper) (w : atO) (v : atP) (w' : atO) : Prop :=
 ∀ K : atP -> atO -> Prop, K v w' -> Ie P ops g o w K
theorem ZI {s : Sem Next} {w : atO} {K : atP -> atO -> Prop} (h : gE P s w K) :
 ∃ v w', (∀ K' : atP -> atO -> Prop, K' v w' -> gE P s w K') /\ K v w' := by
 unfold gE at *
 generalize s.run P w = r at *
 match r, h with
 | .ok (.value v) w1, h => exact ⟨v, w1, fun _ h' => h', h⟩
 | .ok .skip w1, h => exact ⟨undef, w1, fun _ h' => h', h⟩
 | .ok (.enter f args) w1, h =>
   obtain ⟨v, w', hr, hk⟩ := h
   exact ⟨v, w', fun _ h' => ⟨v, w', hr, h'⟩, hk⟩
 | .ok (.round l f tmps aoA bd) w1, h =>
   obtain ⟨v, w', hr, hk⟩ := h
   exact ⟨v, w', fun _ h' => ⟨v, w', hr, h'⟩, hk⟩
theorem Wy {g : Env} {o : Oper} {w : atO} {K : atP -> atO -> Prop} (h : Jk P g o w K) :
 ∃ v w', (∀ K' : atP -> atO -> Prop, K' v w' -> Jk P g o w K') /\ K v w' := by
 unfold Jk at *
 split at h
 .exact ⟨_, _, fun _ h' => h', h⟩
 .exact ⟨_, _, fun _ h' => h', h⟩
 .split at h
  .obtain ⟨v, w', a, b⟩ := h
   exact ⟨v, w', fun _ h' => ⟨v, w', a, h'⟩, b⟩
  .exact ZI h
 .exact ZI h
theorem ahH (op : BinOp) (t : TypeId) (ox oy : Operand) (x y : atP) : gW op t ox oy x y = V (do eqGuard op t ox oy x y; binOp op t x y) := by
 cases op <;> simp [gW, I0, eqGuard]
theorem adI {g : Env} {o : Oper} (ho : Dn P o = true) : Lc g o = execOp (ev g) o := by
 have ho := Yl ho
 unfold Lc
 split
 .rename_i op t x y yt hx
  simp only [execOp, hx, ahH, V]
 .rename_i fn first captured hx
  have e1 : (List.map (ev g) first.toList).toArray = first.map (ev g) := by obtain ⟨l⟩ := first; simp
  have e2 : (List.map (ev g) captured.toList).toArray = captured.map (ev g) := by obtain ⟨l⟩ := captured; simp
  simp only [execOp, hx, Vy, V, e1, e2]
 .rename_i t ps hx
  have e : (List.map (fun p : Nat × Operand => (p.1, ev g p.2)) ps.toList).toArray = ps.map (fun p => (p.1, ev g p.2)) := by obtain ⟨l⟩ := ps; simp
  simp only [execOp, hx, mL, V, e]
 .rename_i t n ps hx
  have e : (List.map (fun p : Nat × Operand => (p.1, ev g p.2)) ps.toList).toArray = ps.map (fun p => (p.1, ev g p.2)) := by obtain ⟨l⟩ := ps; simp
  simp only [execOp, hx, lJ, V, e]
 .rename_i c hx
  split
  .rename_i b hb
   simp only [execOp, hx, resolve, hb, pure_bind, invoke, oD]
   unfold UW at ho
   simp only [hx, hb] at ho
   have e : (List.map (ev g) c.args.toList).toArray = c.args.map (ev g) := by obtain ⟨l⟩ := c.args; simp
   rw [e]
   cases b <;> first | rfl | (cases ho)
  .rename_i f hb
   have e : (List.map (ev g) c.args.toList).toArray = c.args.map (ev g) := by obtain ⟨l⟩ := c.args; simp
   simp only [execOp, hx, resolve, hb, Cq, e]
  .rfl
 .rfl
theorem Si {f : FuncId} {fn : Func} (hf : P.funcs[f]? = some fn) (hb : fn.body.isSome = true) (hn : (fn.name == "runtime.NumGoroutine") = false)
 (args : Array atP) (w : atO) : (callFunc f args).run P w = .ok (.enter f args) w := by
 unfold callFunc
 have hb' : fn.body.isNone = false := by cases h : fn.body <;> simp_all
 show Sem.run P (Sem.program fun p => _) w = _
 simp only [Sem.run]
 simp only [bind, Sem.bind, hf, hn, hb', aoD, if_false]
 rfl
theorem LC {g : Env} {o : Oper} {w : atO} {K : atP -> atO -> Prop} (h : Ie P ops g o w K) :
 ∃ v w', T7 P ops g o w v w' /\ K v w' := by
 unfold T7
 unfold Ie at *
 split at h
 .obtain ⟨v, w', h1, h2⟩ := Wy h
  exact ⟨v, w', h1, h2⟩
 .rename_i j want hg
  unfold Gd at *
  cases hb : Cm g (FI ops j) want with
  | true =>
    simp only [hb] at h
    obtain ⟨v, w', h1, h2⟩ := Wy h
    exact ⟨v, w', fun K hk => h1 K hk, h2⟩
  | false =>
    simp only [hb] at h
    exact ⟨_, _, fun K hk => hk, h⟩
theorem Uh {N i : Nat} {g : Env} {a : Act} {o : Oper} {w w' : atO} {v : atP} {next : Act -> atO -> Prop}
 (hi : ops[i]? = some o) (hc : Dn P o = true) (hd : QW N ops) (hr : NT N g a) (hy : T7 P ops g o w v w') (hn : next (a.put o.dst v) w') : NX P ops i next a w := by
 have h := hy (fun v2 w2 => v2 = v /\ w2 = w') ⟨rfl, rfl⟩
 unfold NX
 rw [hi]
 simp only [hr.wanted ops hd]
 have run : Jk P g o w (fun v2 w2 => v2 = v /\ w2 = w') -> Zq P o a w next := by
  intro h
  refine ⟨YJ hc, ?_⟩
  have hevs : execOp a.eval o = execOp (ev g) o := execOp_congr o (fun cs b he => by have := Zd hc; simp [Uo, he] at this) (fun x hx => hr.ev x (Ze hc x hx))
  have stp : gE P (Lc g o) w (fun v2 w2 => v2 = v /\ w2 = w') -> upX P o a next ((execOp (ev g) o).run P w) := by
   intro h
   rw [adI hc] at h
   unfold gE at h
   generalize (execOp (ev g) o).run P w = r at *
   match r, h with
   | .ok (.value v) w1, h => obtain ⟨rfl, rfl⟩ := h; exact hn
   | .ok .skip w1, h => obtain ⟨rfl, rfl⟩ := h; exact hn
   | .ok (.enter f args) w1, h =>
     obtain ⟨v2, w2, hret, rfl, rfl⟩ := h
     exact ⟨_, _, hret, hn⟩
   | .ok (.round l f tmps aoA bd) w1, h =>
     obtain ⟨v2, w2, hret, rfl, rfl⟩ := h
     exact ⟨_, _, hret, hn⟩
  rw [hevs]
  unfold Jk at h
  split at h
  .rename_i x hx
   obtain ⟨rfl, rfl⟩ := h
   simp only [execOp, hx]; exact hn
  .rename_i x hx
   obtain ⟨rfl, rfl⟩ := h
   simp only [execOp, hx]; exact hn
  .rename_i c hx
   split at h
   .rename_i f hcal
    obtain ⟨v2, w2, hret, rfl, rfl⟩ := h
    have e : (execOp (ev g) o).run P w = .ok (.enter f (List.map (ev g) c.args.toList).toArray) w := by
     have hc := Yl hc
     unfold UW at hc
     simp only [hx, hcal] at hc
     cases hfn : P.funcs[f]? with
     | none => rw [hfn] at hc; cases hc
     | some fn =>
       rw [hfn] at hc
       simp only [aoQ, aqV] at hc
       have ea : (List.map (ev g) c.args.toList).toArray = c.args.map (ev g) := by obtain ⟨l⟩ := c.args; simp
       rw [ea]
       simp only [execOp, hx, resolve, hcal, ev, Deferred.ofValue, pure_bind, invoke]
       simp only [Array.empty_append, Array.append_empty]
       exact Si hfn hc.1 hc.2 _ w
    rw [e]
    exact ⟨_, _, hret, hn⟩
   .exact stp h
  .exact stp h
 unfold Ie at h
 cases hg : o.guard with
 | none =>
   rw [hg] at h
   simp only [if_true]
   exact run h
 | some p =>
   obtain ⟨j, want⟩ := p
   simp only [hg] at h
   simp only
   by_cases hb : Cm g (FI ops j) want = true
   .rw [if_pos hb]
    simp only [hb, Gd] at h
    exact run h
   .rw [if_neg hb]
    have hb' : Cm g (FI ops j) want = false := by simpa using hb
    simp only [hb', Gd] at h
    obtain ⟨rfl, rfl⟩ := h
    exact hn
def Rr (P : Program) (ops : Array Oper) : Prop := ∀ (i : Nat) (o : Oper), ops[i]? = some o -> Dn P o = true
theorem abC {N : Nat} (hd : QW N ops) (hca : Rr P ops) {Q : Act -> atO -> Prop} {K : Env -> atO -> Prop}
 (hQ : ∀ g a w, NT N g a -> K g w -> Q a w) :
 ∀ (l : List Oper) (k : Nat) (g : Env) (a : Act) (w : atO), (∀ j, l[j]? = ops[k + j]?) -> NT N g a -> Vb P ops l g w K →
   EN P ops Q (List.range' k l.length) a w := by
 intro l
 induction l with
 | nil => intro k g a w _ hr h; exact hQ _ _ _ hr h
 | cons o l ih =>
   intro k g a w hl hr h
   have h0 : ops[k]? = some o := by have := hl 0; simpa using this.symm
   obtain ⟨v, w', hy, hk⟩ := LC h
   rw [aoV, List.range'_succ]
   show NX P ops k (EN P ops Q _) a w
   refine Uh h0 (hca k o h0) hd hr hy ?_
   refine ih (k + 1) _ _ _ (fun j => ?_) (hr.put _ _ (hd k o h0)) hk
   have := hl (j + 1)
   simp only [aoC] at this
   rw [this]; congr 1; omega
def T8 (an : ZN) (O : Nat -> Oper) (G : Nat -> Env) (W : Nat -> atO) (V : Nat -> atP) (i : Nat) : Rec :=
 ⟨tK i an.1, O i, G i, W i, V i⟩
def ZF (P : Program) (ops : Array Oper) (an : ZN) (O : Nat -> Oper) (G : Nat -> Env) (W : Nat -> atO) (V : Nat -> atP) (i j : Nat) : Prop :=
 QR P ops (T8 an O G W V i) (O j) (G j) (W (j + 1)) (V j)
structure Run (P : Program) (ops : Array Oper) (an : ZN) (g0 : Env) (w0 : atO) (n : Nat) (O : Nat -> Oper) (G : Nat -> Env) (W : Nat -> atO) (V : Nat -> atP) : Prop where
 g0 : G 0 = g0
 w0 : W 0 = w0
 op : ∀ i, i < n -> ops[i]? = some (O i)
 yld : ∀ i, i < n -> T7 P ops (G i) (O i) (W i) (V i) (W (i + 1))
 light : ∀ i, i < n -> tK i an.1 = false -> W (i + 1) = W i
 env : ∀ i, i < n -> G (i + 1) = put (G i) (O i).dst (V i)
 chk : ∀ i j, i < j -> j < n -> U9 i j an.2 = true -> ZF P ops an O G W V i j
theorem XY {o : Oper} {g : Env} {w' : atO} {v : atP} {hist : List Rec} : ∀ {ks : List Nat}, aiM P ops o g w' v hist ks -> ∀ k ∈ ks, ∃ q, Yh hist k = some q /\ QR P ops q o g w' v := by
 intro ks
 induction ks with
 | nil => intro _ k hk; cases hk
 | cons a ks ih =>
   rintro ⟨h1, h2⟩ k hk
   rcases apZ.1 hk with rfl | hk
   .cases hn : Yh hist k with
    | none => rw [hn] at h1; exact h1.elim
    | some q => rw [hn] at h1; exact ⟨q, rfl, h1⟩
   .exact ih h2 k hk
theorem abX {n : Nat} {an : ZN} {pl : X3} (h : Vk n an pl = true) {i : Nat} (hi : i < n) :
 ∃ ks, pl[i]? = some (tK i an.1, ks) /\ ∀ j, U9 j i an.2 = true -> j < i /\ (i - 1 - j) ∈ ks := by
 have := apO.1 h i (apV.2 hi)
 cases hp : pl[i]? with
 | none => rw [hp] at this; cases this
 | some p =>
   obtain ⟨hv, ks⟩ := p
   rw [hp] at this
   simp only [aoQ] at this
   obtain ⟨h1, h2⟩ := this
   have h1 : hv = tK i an.1 := by simpa using h1
   refine ⟨ks, by rw [h1], fun j hj => ?_⟩
   have mm : ∀ (l : List (Nat × Nat)), U9 j i l = true -> (j, i) ∈ l := by
    intro l
    induction l with
    | nil => intro h; cases h
    | cons q r ih =>
      obtain ⟨a, b⟩ := q
      intro h
      unfold U9 at h
      cases ha : Nat.beq a j with
      | true =>
        simp only [ha] at h
        cases hb : Nat.beq b i with
        | true =>
          obtain rfl := apH ha
          obtain rfl := apH hb
          exact apL
        | false => simp only [hb] at h; exact aoR _ (ih h)
      | false => simp only [ha] at h; exact aoR _ (ih h)
   have := apO.1 h2 (j, i) (mm _ hj)
   simp only [Nat.beq_refl, aoJ, Bool.false_or, aoQ] at this
   refine ⟨?_, by simpa using this.2⟩
   have hlt := this.1
   exact (arU (x := j) (y := i)) ▸ hlt
theorem XW {an : ZN} {pl : X3} {g0 : Env} {w0 : atO} {K : Env -> atO -> Prop} (hpl : Vk ops.size an pl = true) :
 ∀ (l : List Oper) (m : Nat) (hist : List Rec) (O : Nat -> Oper) (G : Nat -> Env) (W : Nat -> atO) (V : Nat -> atP),
   (∀ j, l[j]? = ops[m + j]?) -> m + l.length = ops.size -> Run P ops an g0 w0 m O G W V -> (∀ i, i < m -> Yh hist (m - 1 - i) = some (T8 an O G W V i)) →
   vF P ops l (pl.drop m) hist (G m) (W m) K →
   ∃ (O : Nat -> Oper) (G : Nat -> Env) (W : Nat -> atO) (V : Nat -> atP), Run P ops an g0 w0 (m + l.length) O G W V /\ K (G (m + l.length)) (W (m + l.length)) := by
 intro l
 induction l with
 | nil => intro m hist O G W V _ _ hr _ h; exact ⟨O, G, W, V, hr, by unfold vF at h; exact h⟩
 | cons o l ih =>
   intro m hist O G W V hl hlen hr hh h
   have h0 : ops[m]? = some o := by have := hl 0; simpa using this.symm
   have hmn : m < ops.size := by rw [aoV] at hlen; omega
   obtain ⟨ks, hk1, hk2⟩ := abX hpl hmn
   have hdrop : pl.drop m = (tK m an.1, ks) :: pl.drop (m + 1) := by
    have hlt : m < pl.length := by
     rcases aoT m pl.length with h | h
     .exact h
     .rw [aoS h] at hk1; cases hk1
    rw [aqP hlt]
    rw [aoM hlt] at hk1
    rw [apP hk1]
   rw [hdrop] at h
   obtain ⟨v, w', hy, hk⟩ := LC h
   have key : (tK m an.1 = false -> w' = W m) /\ (∀ k ∈ ks, ∃ q, Yh hist k = some q /\ QR P ops q o (G m) w' v) /\
       (vF P ops l (pl.drop (m + 1)) (⟨tK m an.1, o, G m, W m, v⟩ :: hist) (put (G m) o.dst v) w' K) := by
    have nil : ∀ w', ∀ k ∈ ([] : List Nat), ∃ q, Yh hist k = some q /\ QR P ops q o (G m) w' v := fun _ k hk => (by cases hk)
    cases hm : tK m an.1 with
    | true =>
      rw [hm] at hk
      cases ks with
      | nil => exact ⟨fun e => (by cases e), nil _, hk⟩
      | cons k ks => exact ⟨fun e => (by cases e), XY hk.1, hk.2⟩
    | false =>
      rw [hm] at hk
      cases ks with
      | nil => obtain ⟨rfl, hk⟩ := hk; exact ⟨fun _ => rfl, nil _, hk⟩
      | cons k ks => obtain ⟨rfl, hc, hk⟩ := hk; exact ⟨fun _ => rfl, XY hc, hk⟩
   obtain ⟨kl, c1, c2⟩ := key
   let O' : Nat -> Oper := fun i => if i = m then o else O i
   let V' : Nat -> atP := fun i => if i = m then v else V i
   let G' : Nat -> Env := fun i => if i = m + 1 then put (G m) o.dst v else G i
   let W' : Nat -> atO := fun i => if i = m + 1 then w' else W i
   have eO : ∀ i, i < m -> O' i = O i := fun i hi => if_neg (by omega)
   have eV : ∀ i, i < m -> V' i = V i := fun i hi => if_neg (by omega)
   have eG : ∀ i, i <= m -> G' i = G i := fun i hi => if_neg (by omega)
   have eW : ∀ i, i <= m -> W' i = W i := fun i hi => if_neg (by omega)
   have oO : O' m = o := if_pos rfl
   have oV : V' m = v := if_pos rfl
   have oG : G' (m + 1) = put (G m) o.dst v := if_pos rfl
   have oW : W' (m + 1) = w' := if_pos rfl
   have eR : ∀ i, i < m -> T8 an O' G' W' V' i = T8 an O G W V i := fun i hi => by
    simp only [T8, eO i hi, eV i hi, eG i (by omega), eW i (by omega)]
   have hr' : Run P ops an g0 w0 (m + 1) O' G' W' V' := by
    refine ⟨by rw [eG 0 (by omega)]; exact hr.g0, by rw [eW 0 (by omega)]; exact hr.w0, fun i hi => ?_, fun i hi => ?_, fun i hi hm => ?_, fun i hi => ?_, fun i j hij hj hm => ?_⟩
    .by_cases hi' : i = m
     .subst hi'; rw [oO]; exact h0
     .rw [eO i (by omega)]; exact hr.op i (by omega)
    .by_cases hi' : i = m
     .subst hi'; rw [oO, oV, oW, eG i (by omega), eW i (by omega)]; exact hy
     .rw [eO i (by omega), eV i (by omega), eG i (by omega), eW i (by omega), eW (i + 1) (by omega)]; exact hr.yld i (by omega)
    .by_cases hi' : i = m
     .subst hi'; rw [oW, eW i (by omega)]; exact kl hm
     .rw [eW i (by omega), eW (i + 1) (by omega)]; exact hr.light i (by omega) hm
    .by_cases hi' : i = m
     .subst hi'; rw [oO, oV, oG, eG i (by omega)]
     .rw [eO i (by omega), eV i (by omega), eG i (by omega), eG (i + 1) (by omega)]; exact hr.env i (by omega)
    .unfold ZF
     by_cases hj' : j = m
     .subst hj'
      rw [eR i (by omega), oO, oV, oW, eG j (by omega)]
      obtain ⟨q, hq, hc⟩ := c1 _ (hk2 i hm).2
      rw [hh i hij] at hq
      obtain rfl := apP hq
      exact hc
     .rw [eR i (by omega), eO j (by omega), eV j (by omega), eG j (by omega), eW (j + 1) (by omega)]
      exact hr.chk i j hij (by omega) hm
   have := ih (m + 1) (⟨tK m an.1, o, G m, W m, v⟩ :: hist) O' G' W' V' (fun j => by
       have := hl (j + 1)
       simp only [aoC] at this
       rw [this]; congr 1; omega) (by rw [aoV] at hlen; omega) hr' (fun i hi => by
       by_cases hi' : i = m
       .subst hi'
        rw [show i + 1 - 1 - i = 0 from by omega]
        simp only [Yh, T8, oO, oV, eG i (by omega), eW i (by omega)]
       .rw [eR i (by omega), show m + 1 - 1 - i = (m - 1 - i) + 1 from by omega]
        exact hh i (by omega)) (by rw [oG, oW]; exact c2)
   rw [aoV, show m + (l.length + 1) = m + 1 + l.length from by omega]
   exact this
end
section
variable {P : Program} {ops : Array Oper} {an : ZN} {g0 : Env} {w0 : atO} {O : Nat -> Oper} {G : Nat -> Env} {W : Nat -> atO} {V : Nat -> atP}
def Ls (n : Nat) (O : Nat -> Oper) (V : Nat -> atP) (g0 : Env) (S : Nat -> Prop) (g : Env) : Prop :=
 ∀ s, (∃ j, j < n /\ S j /\ (O j).dst = some s /\ (∀ k, k < n -> S k -> (O k).dst = some s -> k <= j) /\ g s = V j) ∨
   ((∀ j, j < n -> S j -> (O j).dst ≠ some s) /\ g s = g0 s)
theorem Ls.agree {n : Nat} {S T : Nat -> Prop} {g g' : Env} (h : Ls n O V g0 S g) (h' : Ls n O V g0 T g') (s : Nat)
 (hs : ∀ j, j < n -> (O j).dst = some s -> (S j ↔ T j)) : g s = g' s := by
 rcases h s with ⟨j, h1, h2, h3, h4, h5⟩ | ⟨h1, h2⟩ <;> rcases h' s with ⟨k, k1, k2, k3, k4, k5⟩ | ⟨k1, k2⟩
 .have a := h4 k k1 ((hs k k1 k3).2 k2) k3
  have b := k4 j h1 ((hs j h1 h3).1 h2) h3
  have : j = k := by omega
  subst this; rw [h5, k5]
 .exact absurd h3 (k1 j h1 ((hs j h1 h3).1 h2))
 .exact absurd k3 (h1 k k1 ((hs k k1 k3).2 k2))
 .rw [h2, k2]
theorem Ls.step {n : Nat} {S : Nat -> Prop} {g : Env} (h : Ls n O V g0 S g) (i : Nat) (hi : i < n)
 (hw : ∀ s, (O i).dst = some s -> ∀ j, j < n -> j ≠ i -> (O j).dst = some s -> S j -> j < i) :
 Ls n O V g0 (fun j => S j ∨ j = i) (put g (O i).dst (V i)) := by
 intro s
 cases hd : (O i).dst with
 | none =>
   rcases h s with ⟨j, h1, h2, h3, h4, h5⟩ | ⟨h1, h2⟩
   .refine .inl ⟨j, h1, .inl h2, h3, fun k k1 k2 k3 => ?_, h5⟩
    rcases k2 with k2 | rfl
    .exact h4 k k1 k2 k3
    .rw [hd] at k3; cases k3
   .refine .inr ⟨fun j h3 h4 h5 => ?_, h2⟩
    rcases h4 with h4 | rfl
    .exact h1 j h3 h4 h5
    .rw [hd] at h5; cases h5
 | some t =>
   rw [KX]
   by_cases hst : s = t
   .subst hst
    rw [if_pos rfl]
    refine .inl ⟨i, hi, .inr rfl, hd, fun k k1 k2 k3 => ?_, rfl⟩
    rcases k2 with k2 | rfl
    .by_cases hk : k = i
     .omega
     .have := hw s hd k k1 hk k3 k2; omega
    .omega
   .rw [if_neg hst]
    rcases h s with ⟨j, h1, h2, h3, h4, h5⟩ | ⟨h1, h2⟩
    .refine .inl ⟨j, h1, .inl h2, h3, fun k k1 k2 k3 => ?_, h5⟩
     rcases k2 with k2 | rfl
     .exact h4 k k1 k2 k3
     .rw [hd] at k3; exact absurd (apP k3).symm hst
    .refine .inr ⟨fun j h3 h4 h5 => ?_, h2⟩
     rcases h4 with h4 | rfl
     .exact h1 j h3 h4 h5
     .rw [hd] at h5; exact absurd (apP h5).symm hst
theorem Run.envFor {n : Nat} (r : Run P ops an g0 w0 n O G W V) : ∀ i, i <= n -> Ls n O V g0 (fun j => j < i) (G i) := by
 intro i
 induction i with
 | zero => intro _ s; exact .inr ⟨fun j _ h => absurd h (by omega), by rw [r.g0]⟩
 | succ i ih =>
   intro hi
   have h := ih (by omega)
   have := h.step (V := V) i (by omega) (fun s _ j _ _ _ hj => hj)
   rw [<- r.env i (by omega)] at this
   intro s
   rcases this s with ⟨j, h1, h2, h3, h4, h5⟩ | ⟨h1, h2⟩
   .exact .inl ⟨j, h1, by omega, h3, fun k k1 k2 k3 => h4 k k1 (by omega) k3, h5⟩
   .exact .inr ⟨fun j a b => h1 j a (by omega), h2⟩
theorem Run.still {n : Nat} (r : Run P ops an g0 w0 n O G W V) (i : Nat) : ∀ d, i + d <= n -> (∀ h, i <= h -> h < i + d -> tK h an.1 = false) -> W (i + d) = W i := by
 intro d
 induction d with
 | zero => intro _ _; rfl
 | succ d ih =>
   intro h1 h2
   rw [<- arN, r.light (i + d) (by omega) (h2 _ (by omega) (by omega))]
   exact ih (by omega) (fun h a b => h2 h a (by omega))
theorem Run.still' {n : Nat} (r : Run P ops an g0 w0 n O G W V) {i k : Nat} (hik : i <= k) (hk : k <= n) (hh : ∀ h, i <= h -> h < k -> tK h an.1 = false) : W k = W i := by
 have := r.still i (k - i) (by omega) (fun h a b => hh h a (by omega))
 rwa [show i + (k - i) = k from by omega] at this
theorem Ya {i k : Nat} : (∃ h, i <= h /\ h < k /\ tK h an.1 = true) -> ∃ h, i <= h /\ h < k /\ tK h an.1 = true /\ ∀ h', i <= h' -> h' < h -> tK h' an.1 = false := by
 rintro ⟨h, h1, h2, h3⟩
 induction h using Nat.strongRecOn with
 | _ h ih =>
   by_cases hx : ∃ h', i <= h' /\ h' < h /\ tK h' an.1 = true
   .obtain ⟨h', a, b, c⟩ := hx
    exact ih h' b a (by omega) c
   .refine ⟨h, h1, h2, h3, fun h' a b => ?_⟩
    cases hm : tK h' an.1
    .rfl
    .exact absurd ⟨h', a, b, hm⟩ hx
theorem VE {i k : Nat} : (∃ h, i <= h /\ h < k /\ tK h an.1 = true) -> ∃ h, i <= h /\ h < k /\ tK h an.1 = true /\ ∀ h', h < h' -> h' < k -> tK h' an.1 = false := by
 rintro ⟨h, h1, h2, h3⟩
 induction hd : k - h using Nat.strongRecOn generalizing h with
 | _ d ih =>
   by_cases hx : ∃ h', h < h' /\ h' < k /\ tK h' an.1 = true
   .obtain ⟨h', a, b, c⟩ := hx
    exact ih (k - h') (by omega) h' (by omega) b c rfl
   .refine ⟨h, h1, h2, h3, fun h' a b => ?_⟩
    cases hm : tK h' an.1
    .rfl
    .exact absurd ⟨h', a, b, hm⟩ hx
structure VO (ops : Array Oper) (an : ZN) (O : Nat -> Oper) (b : Array Nat) : Prop where
 back : ∀ i, i < ops.size -> ∀ e ∈ (O i).after, Region.binds .any e = true -> e.on < i
 closed : ∀ i j, i < ops.size -> j < ops.size -> bef b i j = true -> ∃ e ∈ (O j).after, Region.binds .any e = true /\ (e.on = i ∨ bef b i e.on = true)
 pair : ∀ i j, i < j -> j < ops.size -> Oe ops b an i j (O i) (O j) = true
 sel : ∀ i, i < ops.size -> Uo (O i) = false
 fn : ∀ i, i < ops.size -> afJ (O i) = true -> tK i an.1 = true
theorem abI (h : Vl ops an = true) (ho : ∀ i, i < ops.size -> ops[i]? = some (O i)) : VO ops an O (Region.before ops) := by
 unfold Vl at h
 simp only [aoQ] at h
 obtain ⟨⟨⟨⟨h1, h2⟩, h3⟩, h5⟩, h6⟩ := h
 refine ⟨fun i hi e he hb => ?_, fun i j hi hj hb => ?_, fun i j hij hj => ?_, fun i hi => ?_, fun i hi hf => ?_⟩
 .unfold Wp at h1
  have := apO.1 h1 i (apV.2 hi)
  rw [ho i hi] at this
  have := aqL.1 this e he
  simp only [hb, aoJ, Bool.false_or] at this
  exact (arU (x := e.on) (y := i)) ▸ this
 .unfold Wg at h2
  have := apO.1 (apO.1 h2 j (apV.2 hj)) i (apV.2 hi)
  rw [ho j hj] at this
  simp only [hb, aoJ, Bool.false_or] at this
  obtain ⟨e, he, h⟩ := Array.any_eq_true'.1 this
  simp only [aoQ, aqQ] at h
  refine ⟨e, he, h.1, h.2.imp (fun h => apH h) id⟩
 .unfold Ye at h3
  have := apO.1 (apO.1 h3 j (apV.2 hj)) i (apV.2 hij)
  rw [ho i (by omega), ho j hj] at this
  exact this
 .have := aqL.1 h5 (O i) (atF (ho i hi))
  simpa using this
 .have := apO.1 h6 i (apV.2 hi)
  rw [ho i hi] at this
  simpa [hf] using this
theorem afH {i j : Nat} : ∀ {l : List (Nat × Nat)}, U9 i j l = true -> (i, j) ∈ l := by
 intro l
 induction l with
 | nil => intro h; cases h
 | cons p r ih =>
   obtain ⟨a, b⟩ := p
   intro h
   unfold U9 at h
   cases ha : Nat.beq a i with
   | true =>
     simp only [ha] at h
     cases hb : Nat.beq b j with
     | true =>
       obtain rfl := apH ha
       obtain rfl := apH hb
       exact apL
     | false => simp only [hb] at h; exact aoR _ (ih h)
   | false => simp only [ha] at h; exact aoR _ (ih h)
theorem VO.order {b : Array Nat} (st : VO ops an O b) {S : Nat -> Prop} {i : Nat} (hi : i < ops.size)
 (hdown : ∀ j k, j < ops.size -> k < ops.size -> S k -> bef b j k = true -> S j) (hbi : ∀ j, j < ops.size -> bef b j i = true -> S j) (hni : ¬ S i)
 {s : Nat} (hs : s ∈ looks ops (O i) ∨ (O i).dst = some s) {j : Nat} (hj : j < ops.size) (hji : j ≠ i) (hd : (O j).dst = some s) : S j ↔ j < i := by
 rcases aoT j i with h | h
 .refine ⟨fun _ => h, fun _ => ?_⟩
  have p := st.pair j i h hi
  unfold Oe at p
  simp only [aqQ, aoQ, aqV] at p
  rcases p with p | p
  .exact hbi j hj p
  .exfalso
   have p1 := p.1
   unfold aeU at p1
   simp only [hd, asJ] at p1
   rcases hs with hs | hs
   .have := p1.1.1; simp [hs] at this
   .have := p1.1.2; simp [hs] at this
 .have h' : i < j := by omega
  refine ⟨fun hS => ?_, fun hh => by omega⟩
  exfalso
  have p := st.pair i j h' hj
  unfold Oe at p
  simp only [aqQ, aoQ, aqV] at p
  rcases p with p | p
  .exact hni (hdown i j hi hj hS p)
  .have p1 := p.1
   unfold aeU at p1
   simp only [hd, asJ] at p1
   rcases hs with hs | hs
   .have := p1.2; simp [hs] at this
   .have := p1.1; rw [hs] at this; simp at this
theorem Kh {g g' : Env} {o : Oper} (h : ∀ s ∈ looks ops o, g s = g' s) : ∀ x ∈ o.op.operands, ev g x = ev g' x := by
 intro x hx
 cases x with
 | tmp t => exact h t (arH _ (List.mem_filterMap.2 ⟨.tmp t, by simpa using hx, rfl⟩))
 | _ => rfl
theorem Yz {g g' : Env} {o : Oper} (hs : Uo o = false) (h : ∀ s ∈ looks ops o, g s = g' s) : Lc g o = Lc g' o := by
 have e := execOp_congr o (fun cs b he => by simp [Uo, he] at hs) (Kh h)
 have k := Kh h
 unfold Lc
 split
 .rename_i op t x y yt hx
  rw [k x (by simp [hx, Op.operands]), k y (by simp [hx, Op.operands])]
 .rename_i fn first captured hx
  have e1 : List.map (ev g) first.toList = List.map (ev g') first.toList := aqO fun p hp => k p (by simp [hx, Op.operands]; exact .inl (by simpa using hp))
  have e2 : List.map (ev g) captured.toList = List.map (ev g') captured.toList := aqO fun p hp => k p (by simp [hx, Op.operands]; exact .inr (by simpa using hp))
  rw [e1, e2]
 .rename_i t ps hx
  congr 1
  refine aqO fun p hp => ?_
  rw [k p.2 (by simp [hx, Op.operands]; exact ⟨p.1, by simpa using hp⟩)]
 .rename_i t n ps hx
  congr 1
  refine aqO fun p hp => ?_
  rw [k p.2 (by simp [hx, Op.operands]; exact ⟨p.1, by simpa using hp⟩)]
 .rename_i c hx
  split
  .rename_i b hb
   congr 1
   refine aqO fun p hp => ?_
   exact k p (by simp [hx, Op.operands, Call.operands, hb]; simpa using hp)
  .rename_i f hb
   have : List.map (ev g) c.args.toList = List.map (ev g') c.args.toList := aqO fun p hp => k p (by simp [hx, Op.operands, Call.operands, hb]; exact .inr (by simpa using hp))
   rw [this, k f (by simp [hx, Op.operands, Call.operands, hb])]
  .exact e
 .exact e
theorem Wf {g g' : Env} {o : Oper} {j : Nat} {want : Bool} (hg : o.guard = some (j, want)) (h : ∀ s ∈ looks ops o, g s = g' s) :
 Cm g (FI ops j) want = Cm g' (FI ops j) want := by
 cases hs : FI ops j with
 | none => rfl
 | some t =>
   have := h t (asA _ (by simp [hg, hs]))
   simp [Cm, this]
theorem Rz {g g' : Env} {o : Oper} {w : atO} {K : atP -> atO -> Prop} (hs : Uo o = false) (h : ∀ s ∈ looks ops o, g s = g' s)
 (hk : Ie P ops g o w K) : Ie P ops g' o w K := by
 have e := Yz (ops := ops) hs h
 have run : Jk P g o w = Jk P g' o w := by
  funext K
  unfold Jk
  split
  .rename_i x hx
   have := Kh (ops := ops) h x (by simp [hx, Op.operands])
   rw [this]
  .rename_i x hx
   have := Kh (ops := ops) h x (by simp [hx, Op.operands])
   rw [this]
  .rename_i c hx
   have k := Kh h
   have : List.map (ev g) c.args.toList = List.map (ev g') c.args.toList := aqO fun p hp => k p (by simp [hx, Op.operands, Call.operands]; exact .inr (by simpa using hp))
   rw [this, e]
  .rw [e]
 unfold Ie at *
 cases hg : o.guard with
 | none => rw [hg] at hk; simp only at hk ⊢; rwa [<- run]
 | some p =>
   obtain ⟨j, want⟩ := p
   simp only [hg] at hk ⊢
   rw [<- run, <- Wf hg h]
   exact hk
theorem XB {n : Nat} (hn : n = ops.size) {b : Array Nat} (r : Run P ops an g0 w0 n O G W V) (st : VO ops an O b) {S : Nat -> Prop} {i k : Nat} (hi : i < n) (hk : k <= n)
 (hdown : ∀ j k, j < ops.size -> k < ops.size -> S k -> bef b j k = true -> S j) (hbi : ∀ j, j < ops.size -> bef b j i = true -> S j) (hni : ¬ S i)
 (hS : ∀ h, h < n -> tK h an.1 = true -> (S h ↔ h < k)) (hl : tK i an.1 = false) :
 T7 P ops (G i) (O i) (W k) (V i) (W k) := by
 subst hn
 have same : Gs (gOf ops (O i) (G i)) (jE P (Lc (G i) (O i)) (V i) (W k)) -> LL (O i) = false -> T7 P ops (G i) (O i) (W k) (V i) (W k) := by
  intro hs hm K hK
  have run : jE P (Lc (G i) (O i)) (V i) (W k) -> Jk P (G i) (O i) (W k) K := by
   intro hs
   unfold jE at hs
   have stp : gE P (Lc (G i) (O i)) (W k) K := by unfold gE; rw [hs]; exact hK
   unfold Jk
   split
   .rename_i x hx; simp [LL, hx] at hm
   .rename_i x hx; simp [LL, hx] at hm
   .rename_i c hx
    have hf : afJ (O i) = false := by
     cases hh : afJ (O i)
     .rfl
     .rw [st.fn i hi hh] at hl; cases hl
    obtain ⟨cal, cargs, cats⟩ := c
    cases cal with
    | value f =>
      cases f with
      | func f => simp [afJ, hx] at hf
      | _ => exact stp
    | _ => exact stp
   .exact stp
  have hy := r.yld i hi (fun v _ => v = V i) rfl
  unfold Ie at hy ⊢
  unfold gOf at hs
  cases hg : (O i).guard with
  | none => rw [hg] at hs; exact run hs
  | some p =>
    obtain ⟨j, want⟩ := p
    rw [hg] at hs
    simp only [hg] at hs hy ⊢
    cases hb : Cm (G i) (FI ops j) want with
    | true => rw [hb] at hs; exact run hs
    | false =>
      rw [hb] at hy
      have : undef = V i := hy
      show K undef (W k)
      rw [this]; exact hK
 have moved : LL (O i) = true -> T7 P ops (G i) (O i) (W k) (V i) (W k) := by
  intro hm K hK
  have hy := r.yld i hi (fun v _ => v = V i) rfl
  unfold Ie at hy ⊢
  have mv : ∀ (K' : atP -> atO -> Prop) w, Jk P (G i) (O i) w K' ↔ ∃ x, ((O i).op = .move x ∨ (O i).op = .assign x) /\ K' (ev (G i) x) w := by
   intro K' w
   unfold Jk
   unfold LL at hm
   split
   .rename_i x hx; constructor
    .intro h; exact ⟨x, .inl hx, h⟩
    .rintro ⟨y, h | h, h'⟩
     .rw [hx] at h; cases h; exact h'
     .rw [hx] at h; cases h
   .rename_i x hx; constructor
    .intro h; exact ⟨x, .inr hx, h⟩
    .rintro ⟨y, h | h, h'⟩
     .rw [hx] at h; cases h
     .rw [hx] at h; cases h; exact h'
   .rename_i c hx; simp [hx] at hm
   .rename_i h1 h2 _; split at hm
    .rename_i x hx; exact absurd hx (h1 x)
    .rename_i x hx; exact absurd hx (h2 x)
    .cases hm
  cases hg : (O i).guard with
  | none =>
    rw [hg] at hy
    simp only at hy ⊢
    rw [mv] at hy ⊢
    obtain ⟨x, hx, h⟩ := hy
    exact ⟨x, hx, h ▸ hK⟩
  | some p =>
    obtain ⟨j, want⟩ := p
    simp only [hg] at hy ⊢
    unfold Gd at *
    cases hb : Cm (G i) (FI ops j) want with
    | true =>
      simp only [hb] at hy ⊢
      rw [mv] at hy ⊢
      obtain ⟨x, hx, h⟩ := hy
      exact ⟨x, hx, h ▸ hK⟩
    | false =>
      simp only [hb] at hy ⊢
      rwa [hy]
 rcases atH k i with hki | hki
 .by_cases hx : ∃ h, k <= h /\ h < i /\ tK h an.1 = true
  .obtain ⟨h, h1, h2, h3, h4⟩ := Ya hx
   have e : W h = W k := r.still' h1 (by omega) h4
   have p := st.pair h i h2 hi
   unfold Oe at p
   simp only [aqQ, aoQ, aqV] at p
   rcases p with p | p
   .have := hbi h (by omega) p
    have := (hS h (by omega) h3).1 this
    omega
   .have p2 := p.2
    rw [h3, hl] at p2
    simp only [aqQ] at p2
    cases hmv : LL (O i) with
    | true => exact moved hmv
    | false =>
      rcases p2 with p2 | p2
      .rw [hmv] at p2; cases p2
      .refine same ?_ hmv
       have c := r.chk h i h2 hi p2
       unfold ZF QR T8 at c
       simp only [h3] at c
       rw [<- e]; exact c
  .have e : W i = W k := r.still' hki (by omega) (fun h a b => by
    cases hm : tK h an.1
    .rfl
    .exact absurd ⟨h, a, b, hm⟩ hx)
   have hy := r.yld i hi
   rw [r.light i hi hl, e] at hy
   exact hy
 .by_cases hx : ∃ h, i <= h /\ h < k /\ tK h an.1 = true
  .obtain ⟨h, h1, h2, h3, h4⟩ := VE hx
   have hne : h ≠ i := fun e => by rw [e, hl] at h3; cases h3
   have e : W k = W (h + 1) := r.still' (by omega) hk (fun h' a b => h4 h' (by omega) b)
   have p := st.pair i h (by omega) (by omega)
   unfold Oe at p
   simp only [aqQ, aoQ, aqV] at p
   rcases p with p | p
   .exact absurd (hdown i h (by omega) (by omega) ((hS h (by omega) h3).2 h2) p) hni
   .have p2 := p.2
    rw [h3, hl] at p2
    simp only [aqQ] at p2
    cases hmv : LL (O i) with
    | true => exact moved hmv
    | false =>
      rcases p2 with p2 | p2
      .rw [hmv] at p2; cases p2
      .refine same ?_ hmv
       have c := r.chk i h (by omega) (by omega) p2
       unfold ZF QR T8 at c
       simp only [hl] at c
       rw [e]; exact c
  .have e : W k = W i := r.still' hki hk (fun h a b => by
    cases hm : tK h an.1
    .rfl
    .exact absurd ⟨h, a, b, hm⟩ hx)
   have hy := r.yld i hi
   rw [r.light i hi hl, <- e] at hy
   exact hy
def qM (listed : Array Bool) (i : Nat) : Prop := listed.getD i false = true
theorem aeS {N n : Nat} (hn : n = ops.size) (hd : QW N ops) (hca : Rr P ops) {b : Array Nat} (r : Run P ops an g0 w0 n O G W V) (st : VO ops an O b)
 {Q : Act -> atO -> Prop} (hQ : ∀ a, NT N (G n) a -> Q a (W n)) :
 ∀ (fuel : Nat) (listed : Array Bool) (g : Env) (a : Act) (k : Nat), listed.size = n -> NT N g a -> k <= n →
   (∀ j, j < n -> qM listed j -> ∀ e ∈ (O j).after, Region.binds .any e = true -> qM listed e.on) →
   Ls n O V g0 (qM listed) g -> (∀ h, h < n -> tK h an.1 = true -> (qM listed h ↔ h < k)) →
   ((List.range n).filter fun i => !listed.getD i false).length <= fuel →
   Vs P ops Q fuel listed a (W k) := by
 subst hn
 have ready_iff : ∀ (listed : Array Bool), listed.size = ops.size -> ∀ i, i ∈ Region.ready .any ops listed ↔ (i < ops.size /\ ¬ qM listed i /\ ∀ e ∈ (O i).after, Region.binds .any e = true -> qM listed e.on) := by
  intro listed hsz i
  unfold Region.ready qM
  rw [atJ, apV]
  constructor
  .rintro ⟨h1, h2⟩
   rw [r.op i h1] at h2
   simp only [aoQ, apM, arK] at h2
   refine ⟨h1, ?_, fun e he hb => ?_⟩
   .have := h2.1
    rw [aoO] at this ⊢
    rw [aoW (by omega)] at this ⊢
    simpa using this
   .have := aqL.1 h2.2 e he
    simpa [hb] using this
  .rintro ⟨h1, h2, h3⟩
   refine ⟨h1, ?_⟩
   rw [r.op i h1]
   simp only [aoQ, apM, arK]
   refine ⟨?_, aqL.2 fun e he => ?_⟩
   .rw [aoO] at h2 ⊢
    rw [aoW (by omega)] at h2 ⊢
    simpa using h2
   .by_cases hb : Region.binds .any e = true
    .simp [hb, h3 e he hb]
    .simp [hb]
 have none_ready : ∀ (listed : Array Bool), listed.size = ops.size -> Region.ready .any ops listed = [] -> ∀ i, i < ops.size -> qM listed i := by
  intro listed hsz hr i
  induction i using Nat.strongRecOn with
  | _ i ih =>
    intro hi
    refine Classical.byContradiction fun hl => ?_
    have : i ∈ Region.ready .any ops listed := (ready_iff listed hsz i).2 ⟨hi, hl, fun e he hb => by
     have := st.back i hi e he hb
     exact ih e.on this (by omega)⟩
    rw [hr] at this; cases this
 have all_done : ∀ (listed : Array Bool) (g : Env) (a : Act) (k : Nat), NT N g a -> k <= ops.size -> Ls ops.size O V g0 (qM listed) g →
     (∀ h, h < ops.size -> tK h an.1 = true -> (qM listed h ↔ h < k)) -> (∀ i, i < ops.size -> qM listed i) -> Q a (W k) := by
  intro listed g a k hr hk he hh hall
  have e : W ops.size = W k := r.still' hk (aoP _) (fun h h1 h2 => by
   cases hm : tK h an.1
   .rfl
   .have := (hh h h2 hm).1 (hall h h2); omega)
  have eg : g = G ops.size := funext fun s => he.agree (r.envFor ops.size (aoP _)) s (fun j hj _ => ⟨fun _ => hj, fun _ => hall j hj⟩)
  rw [<- e]; exact hQ a (eg ▸ hr)
 intro fuel
 induction fuel with
 | zero =>
   intro listed g a k hsz hr hk hdep henv hh hc
   have hall : ∀ i, i < ops.size -> qM listed i := by
    intro i hi
    have hnil : ((List.range ops.size).filter fun i => !listed.getD i false) = [] := apT.1 (by omega)
    have := List.filter_eq_nil_iff.1 hnil i (apV.2 hi)
    unfold qM; simpa using this
   refine ⟨?_, all_done listed g a k hr hk henv hh hall⟩
   rw [List.eq_nil_iff_forall_not_mem]
   intro i hi
   have := (ready_iff listed hsz i).1 hi
   exact this.2.1 (hall i this.1)
 | succ fuel ih =>
   intro listed g a k hsz hr hk hdep henv hh hc
   refine ⟨fun hn => all_done listed g a k hr hk henv hh (none_ready listed hsz hn), fun i hi => ?_⟩
   obtain ⟨h1, h2, h3⟩ := (ready_iff listed hsz i).1 hi
   have hdown : ∀ k j, j < ops.size -> k < ops.size -> qM listed k -> bef b j k = true -> qM listed j := by
    intro k
    induction k using Nat.strongRecOn with
    | _ k ihk =>
      intro j hj hk hl hb
      obtain ⟨e, he, hbi, h⟩ := st.closed j k hj hk hb
      have hle := hdep k hk hl e he hbi
      rcases h with h | h
      .exact h ▸ hle
      .have hlt := st.back k hk e he hbi
       exact ihk e.on hlt j hj (by omega) hle h
   have hbi : ∀ j, j < ops.size -> bef b j i = true -> qM listed j := by
    intro j hj hb
    obtain ⟨e, he, hbi, h⟩ := st.closed j i hj h1 hb
    have hle := h3 e he hbi
    rcases h with h | h
    .exact h ▸ hle
    .have hlt := st.back i h1 e he hbi
     exact hdown e.on j hj (by omega) hle h
   have hdown' : ∀ j k, j < ops.size -> k < ops.size -> qM listed k -> bef b j k = true -> qM listed j := fun j k => hdown k j
   have hlooks : ∀ s ∈ looks ops (O i), (G i) s = g s := fun s hs =>
    (r.envFor i (by omega)).agree henv s (fun j hj hd => by
      by_cases hji : j = i
      .subst hji
       exact ⟨fun h => absurd h (by omega), fun h => absurd h h2⟩
      .exact (st.order h1 hdown' hbi h2 (.inl hs) hj hji hd).symm)
   have hl' : ∀ j, qM (listed.setIfInBounds i true) j ↔ (qM listed j ∨ j = i) := by
    intro j
    unfold qM
    rw [aoO, aoO]
    by_cases hji : j = i
    .subst hji
     rw [apI (by omega)]
     simp
    .rw [apQ (fun e => hji e.symm)]
     simp [hji]
   have next : ∀ k', k' <= ops.size -> (∀ h, h < ops.size -> tK h an.1 = true -> ((qM listed h ∨ h = i) ↔ h < k')) -> T7 P ops g (O i) (W k) (V i) (W k') →
       NX P ops i (Vs P ops Q fuel (listed.setIfInBounds i true)) a (W k) := by
    intro k' hk' hh' hy
    refine Uh (r.op i h1) (hca i _ (r.op i h1)) hd hr hy ?_
    refine ih _ (put g (O i).dst (V i)) _ k' (by simp [hsz]) (hr.put _ _ (hd i _ (r.op i h1))) hk' ?_ ?_ ?_ ?_
    .intro j hj hlj e he hb
     rw [hl'] at hlj ⊢
     rcases hlj with hlj | rfl
     .exact .inl (hdep j hj hlj e he hb)
     .exact .inl (h3 e he hb)
    .have := henv.step i h1 (fun s hs j hj hji hd hlj => (st.order h1 hdown' hbi h2 (.inr hs) hj hji hd).1 hlj)
     intro s
     rcases this s with ⟨j, j1, j2, j3, j4, j5⟩ | ⟨j1, j2⟩
     .exact .inl ⟨j, j1, (hl' j).2 j2, j3, fun k k1 k2 k3 => j4 k k1 ((hl' k).1 k2) k3, j5⟩
     .exact .inr ⟨fun j a b => j1 j a ((hl' j).1 b), j2⟩
    .intro h a b; rw [hl']; exact hh' h a b
    .have hin : i ∈ (List.range ops.size).filter fun i => !listed.getD i false :=
      atJ.2 ⟨apV.2 h1, by unfold qM at h2; simpa using h2⟩
     have e1 : ((List.range ops.size).filter fun j => !(listed.setIfInBounds i true).getD j false) = ((List.range ops.size).filter fun j => !listed.getD j false).filter fun j => j != i := by
      rw [List.filter_filter]
      refine List.filter_congr fun j _ => ?_
      have := hl' j
      unfold qM at this
      by_cases hji : j = i
      .have hh : (listed.setIfInBounds i true).getD j false = true := this.2 (.inr hji)
       rw [hh, hji]; simp
      .have hne : (j != i) = true := by simpa using hji
       rw [hne, Bool.true_and]
       cases ha : listed.getD j false with
       | true => rw [this.2 (.inl ha)]
       | false =>
         cases hb : (listed.setIfInBounds i true).getD j false with
         | false => rfl
         | true => rcases this.1 hb with h | h
                   .rw [ha] at h; cases h
                   .exact absurd h hji
     have hnd : ((List.range ops.size).filter fun j => !listed.getD j false).Nodup := List.nodup_range.filter _
     rw [e1, <- List.Nodup.erase_eq_filter hnd, List.length_erase_of_mem hin]
     omega
   cases hm : tK i an.1 with
   | true =>
     have hS : ∀ h, h < ops.size -> tK h an.1 = true -> (qM listed h ↔ h < i) := by
      intro h hh1 hhm
      rcases atB h i with hlt | heq | hgt
      .refine ⟨fun _ => hlt, fun _ => ?_⟩
       have p := st.pair h i hlt h1
       unfold Oe at p
       rw [hhm, hm] at p
       simp only [aqQ, aoQ, aoD, and_false, or_false] at p
       exact hbi h hh1 p
      .subst heq; exact ⟨fun hh => absurd hh h2, fun hh => absurd hh (by omega)⟩
      .refine ⟨fun hl => ?_, fun hh => absurd hh (by omega)⟩
       have p := st.pair i h hgt hh1
       unfold Oe at p
       rw [hhm, hm] at p
       simp only [aqQ, aoQ, aoD, and_false, or_false] at p
       exact absurd (hdown h i h1 hh1 hl p) h2
     have eW : W k = W i := by
      rcases atH k i with hki | hki
      .exact (r.still' hki (by omega) (fun h a b => by
        cases hx : tK h an.1
        .rfl
        .have := (hh h (by omega) hx).1 ((hS h (by omega) hx).2 b); omega)).symm
      .exact r.still' hki hk (fun h a b => by
        cases hx : tK h an.1
        .rfl
        .have := (hS h (by omega) hx).1 ((hh h (by omega) hx).2 b); omega)
     refine next (i + 1) (by omega) (fun h a b => ?_) ?_
     .rw [hS h a b]; omega
     .rw [eW]
      intro K hK
      exact Rz (ops := ops) (st.sel i h1) hlooks (r.yld i h1 K hK)
   | false =>
     refine next k hk (fun h a b => ?_) ?_
     .rw [<- hh h a b]
      constructor
      .rintro (h' | rfl)
       .exact h'
       .rw [hm] at b; cases b
      .exact .inl
     .intro K hK
      exact Rz (ops := ops) (st.sel i h1) hlooks (XB rfl r st h1 hk hdown' hbi h2 hh hm K hK)
end
abbrev Vg (P : Program) : Machine -> Prop := Machine.fenced P Fence.wide
def VU (P : Program) (f : FuncId) (ro : Option Nat) (c : Code) (Q : Exit -> Act -> atO -> Prop) (a : Act) (w : atO) : Prop :=
 ∀ (b : Frame) (k : List Item) (cs : List Frame), b.fn = f -> b.roundOf = ro -> ∃ e a' w', Q e a' w' /\ ArrivesIn (Vg P) P (lone (b.atR a (.code c :: k)) cs w) b k cs e a' w'
section
variable {P : Program} {f : FuncId} {ro : Option Nat} {Q : Exit -> Act -> atO -> Prop} {a : Act} {w : atO}
theorem He {m m1 : Machine} (h : step P m = .next m1) : StepsIn (Vg P) P m m1 := .one (fenced_wide P m) h
theorem Mu {m m1 m2 : Machine} (h : step P m = .next m1) (h' : StepsIn (Vg P) P m1 m2) : StepsIn (Vg P) P m m2 := .head (fenced_wide P m) h h'
theorem aeF (h : Q .normal a w) : VU P f ro .skip Q a w := fun _ _ _ _ _ => ⟨.normal, a, w, h, He Go.stepR_skip⟩
theorem aaW {l : Nat} (h : Q .normal a w) : VU P f ro (.label l) Q a w := fun _ _ _ _ _ => ⟨.normal, a, w, h, He stepR_label⟩
theorem Xz {id : Nat} (h : Q (.exit id) a w) : VU P f ro (.exit id) Q a w :=
 fun _ k _ _ _ => ⟨.exit id, a, w, h, fun _ hk => He (stepR_exit hk), fun _ hk => ⟨k, hk, .refl _⟩⟩
theorem ZX (h : Q .ret a w) : VU P f ro .ret Q a w :=
 fun _ k _ _ _ => ⟨.ret, a, w, h, fun hn => ⟨_, He (stepR_ret hn)⟩, fun _ => ⟨k, .refl _⟩⟩
theorem ahU {x y : Code} (h : VU P f ro x (Exit.then (VU P f ro y Q) Q) a w) : VU P f ro (.seq x y) Q a w := by
 intro b k cs hb hro
 obtain ⟨e, a1, w1, hq, har⟩ := h b (.code y :: k) cs hb hro
 cases e with
 | normal =>
   obtain ⟨e2, a2, w2, hq2, har2⟩ := hq b k cs hb hro
   exact ⟨e2, a2, w2, hq2, .of_steps (Mu stepR_seq har) har2⟩
 | _ => exact ⟨_, a1, w1, hq, .of_steps (He stepR_seq) (.pass (x := .code y) rfl (fun _ _ => .inl (by simp)) har)⟩
theorem adK {c : Operand} {x y : Code} {t : Bool} (hc : a.eval c = .bool t) (h : VU P f ro (if t then x else y) Q a w) : VU P f ro (.cond c x y) Q a w :=
 fun b k cs hb hro => let ⟨e, a1, w1, q, r⟩ := h b k cs hb hro; ⟨e, a1, w1, q, .of_steps (He (stepR_cond hc)) r⟩
theorem abG {id : Nat} {c : Code} (h : VU P f ro c (Exit.inBlock id Q) a w) : VU P f ro (.block id c) Q a w := by
 intro b k cs hb hro
 obtain ⟨e, a1, w1, hq, har⟩ := h b (.inBlock id :: k) cs hb hro
 cases e with
 | normal => exact ⟨.normal, a1, w1, hq, Mu stepR_block (StepsIn.trans har (He stepR_inBlock))⟩
 | exit i =>
   by_cases hid : i = id
   .simp only [Exit.inBlock, hid, if_true] at hq
    exact ⟨.normal, a1, w1, hq, Mu stepR_block (har.1 k (by simp [exitTo, hid]))⟩
   .simp only [Exit.inBlock, hid, if_false] at hq
    have this : (id == i) = false := by simp; exact fun h => hid h.symm
    have hx : exitTo i (.inBlock id :: k) = exitTo i k := by simp [exitTo, this]
    exact ⟨.exit i, a1, w1, hq, fun k' hk => Mu stepR_block (har.1 k' (by rw [hx]; exact hk)),
     fun hr' hk => let ⟨k1, h1, h2⟩ := har.2 hr' (by rw [hx]; exact hk); ⟨k1, h1, Mu stepR_block h2⟩⟩
 | goto l =>
   have hx : gotoIn l (.inBlock id :: k) = gotoIn l k := by simp [gotoIn]
   exact ⟨_, a1, w1, hq, fun k' hk => Mu stepR_block (har.1 k' (by rw [hx]; exact hk)),
    fun hr' hk => let ⟨k1, h1, h2⟩ := har.2 hr' (by rw [hx]; exact hk); ⟨k1, h1, Mu stepR_block h2⟩⟩
 | ret => exact ⟨_, a1, w1, hq, .of_steps (He stepR_block) har⟩
 | panic ch => exact ⟨_, a1, w1, hq, .of_steps (He stepR_block) har⟩
 | outgrown => exact ⟨_, a1, w1, hq, .of_steps (He stepR_block) har⟩
theorem C9 {b : Frame} {k : List Item} {cs : List Frame} {c : Code} :
 step P (lone (b.atR a (.code (.scope c) :: k)) cs w) = .next (lone (b.atR a (.code c :: .inScope c :: k)) cs w) :=
 step_lone_go (by simp [stepG, stepG.exec, Frame.atR])
theorem Wb {b : Frame} {k : List Item} {cs : List Frame} {c : Code} :
 step P (lone (b.atR a (.inScope c :: k)) cs w) = .next (lone (b.atR a k) cs w) :=
 step_lone_go (by simp [stepG, stepG.exec, Frame.atR])
theorem abM {c : Code} (h : VU P f ro c (Exit.noGoto Q) a w) : VU P f ro (.scope c) Q a w := by
 intro b k cs hb hro
 obtain ⟨e, a1, w1, hq, har⟩ := h b (.inScope c :: k) cs hb hro
 cases e with
 | normal => exact ⟨.normal, a1, w1, hq, Mu C9 (StepsIn.trans har (He Wb))⟩
 | exit id =>
   have hx : exitTo id (.inScope c :: k) = exitTo id k := by simp [exitTo]
   exact ⟨.exit id, a1, w1, hq, fun k' hk => Mu C9 (har.1 k' (by rw [hx]; exact hk)),
    fun hr' hk => let ⟨k1, h1, h2⟩ := har.2 hr' (by rw [hx]; exact hk); ⟨k1, h1, Mu C9 h2⟩⟩
 | goto l => exact hq.elim
 | ret => exact ⟨_, a1, w1, hq, .of_steps (He C9) har⟩
 | panic ch => exact ⟨_, a1, w1, hq, .of_steps (He C9) har⟩
 | outgrown => exact ⟨_, a1, w1, hq, .of_steps (He C9) har⟩
theorem adC {c : Code} (I : Act -> atO -> Prop) (μ : Act -> atO -> Nat) (h0 : I a w)
 (round : ∀ a w, I a w -> VU P f ro c (Exit.then (fun a' w' => I a' w' /\ μ a' w' < μ a w) Q) a w) : VU P f ro (.loop c) Q a w := by
 intro b k cs hb hro
 have key : ∀ n a w, μ a w = n -> I a w →
     ∃ e a' w', Q e a' w' /\ ArrivesIn (Vg P) P (lone (b.atR a (.code c :: .inLoop c :: k)) cs w) b k cs e a' w' := by
  intro n
  induction n using Nat.strongRecOn with
  | _ n ih =>
    intro a w hn hI
    obtain ⟨e, a1, w1, hq, har⟩ := round a w hI b (.inLoop c :: k) cs hb hro
    cases e with
    | normal =>
      obtain ⟨hI1, hlt⟩ := hq
      obtain ⟨e2, a2, w2, hq2, har2⟩ := ih (μ a1 w1) (hn ▸ hlt) a1 w1 rfl hI1
      exact ⟨e2, a2, w2, hq2, .of_steps (StepsIn.trans har (He stepR_inLoop)) har2⟩
    | _ => exact ⟨_, a1, w1, hq, .pass (x := .inLoop c) rfl (fun _ _ => .inl (by simp)) har⟩
 obtain ⟨e, a', w', hq, har⟩ := key _ a w rfl h0
 exact ⟨e, a', w', hq, .of_steps (He stepR_loop) har⟩
theorem Z4 {ops : Array Oper} {L : List Nat} (h : EN P ops (Q .normal) L a w) (b : Frame) (k : List Item) (cs : List Frame) (hro : b.roundOf = ro) :
 ∃ e a' w', Q e a' w' /\ ArrivesIn (Vg P) P (lone (b.atR a (.inRegion ops L :: k)) cs w) b k cs e a' w' := by
 obtain ⟨e, a', w', ⟨rfl, hq⟩, hs⟩ := wp_opsIn (F := Vw ro) (n := 0) L a w (abN ro L a w h) b k cs hro trivial (fun _ h => by simp [Vw, Fence.wide] at h)
 exact ⟨.normal, a', w', hq, hs⟩
theorem YP {id : Nat} {ops : Array Oper} (h : EN P ops (Q .normal) (List.range ops.size) a w) : VU P f ro (.region id ops false) Q a w := by
 intro b k cs hb hro
 obtain ⟨e, a1, w1, q, r⟩ := Z4 h b k cs hro
 exact ⟨e, a1, w1, q, .of_steps (He stepR_region) r⟩
theorem UL (hm : P.follows .mixedOrders = true) {id : Nat} {ops : Array Oper}
 (h : EN P ops (Q .normal) (Region.schedule true ops (w.tape w.drawn (.order f id))) a { w with drawn := w.drawn + 1 }) : VU P f ro (.region id ops true) Q a w := by
 intro b k cs hb hro
 obtain ⟨e, a1, w1, q, r⟩ := Z4 h b k cs hro
 refine ⟨e, a1, w1, q, .of_steps (He ?_) r⟩
 have := @stepR_region_draw P b a k cs w ops id
 rw [hm, hb] at this
 exact this
def Ey (v : atP) (w : atO) (K : atO -> Prop) : Prop :=
 match v with
 | .pointer (some a) => w.heap[a.block]? = some (.deferred (some [])) /\ K (w.putObj a.block (.deferred none))
 | _ => K w
def acQ (P : Program) (fn : Func) (R : atP -> atO -> Prop) : Exit -> Act -> atO -> Prop
 | .normal, a, w | .ret, a, w => ∃ m, a.defers = YF m /\ Ey m w fun w' => ∃ v, (results fn a.tmps).run P w' = .ok v w' /\ R v w'
 | _, _, _ => False
theorem YA {fn : Func} {R : atP -> atO -> Prop} {fr : Frame} {cs : List Frame} (hm : fr.mode = .returning) (hf : P.funcs[fr.fn]? = some fn) (hk : fr.kind = .normal) {m : atP} (hd : fr.defers = YF m)
 (h : Ey m w fun w' => ∃ v, (results fn fr.tmps).run P w' = .ok v w' /\ R v w') :
 ∃ v w' fr', R v w' /\ Steps P (lone fr cs w) (lone fr' cs w') /\ fr'.fn = fr.fn /\ fr'.leaving P w' (.returned v) := by
 have nil : fr.defers = [] -> (∃ v, (results fn fr.tmps).run P w = .ok v w /\ R v w) →
     ∃ v w' fr', R v w' /\ Steps P (lone fr cs w) (lone fr' cs w') /\ fr'.fn = fr.fn /\ fr'.leaving P w' (.returned v) := by
  rintro hd ⟨v, hv, hR⟩
  exact ⟨v, w, fr, hR, .refl _ _, rfl, hm, hd, hk, fn, hf, hv⟩
 cases m with
 | pointer p =>
   cases p with
   | none => exact nil hd h
   | some a =>
     obtain ⟨h1, v, hv, hR⟩ := h
     have hs := step_collected (P := P) (fr := fr) (cs := cs) (w := w) (d := { target := .collected a.block, args := #[] }) (r := a.block) (ds := []) (calls := [])
      (by rw [hm]; simp) hd rfl (run_takeDeferred h1)
     exact ⟨v, _, { fr with defers := [] }, hR, .head hs (.refl _ _), rfl, hm, rfl, hk, fn, hf, hv⟩
 | _ => exact nil hd h
theorem Xp {fn : Func} {c : Code} {args : Array atP} {w : atO} {R : atP -> atO -> Prop}
 (hf : P.funcs[f]? = some fn) (hb : fn.body = some c)
 (h : VU P f none c (acQ P fn R) { tmps := args ++ Array.replicate (fn.ntmps - args.size) undef, defers := [] } w) : Calls P f args w fun e w' => ∃ v, e = .returned v /\ R v w' := by
 intro cs
 let b : Frame := { (default : Frame) with fn := f, kind := .normal, roundOf := none }
 have henter : Frame.enter P f args .normal = b.atR { tmps := args ++ Array.replicate (fn.ntmps - args.size) undef, defers := [] } [.code c] := by
  simp [Frame.enter, Frame.atR, hf, hb, b]
 obtain ⟨e, a', w', hq, har⟩ := h b [] cs rfl rfl
 rw [<- henter] at har
 cases e with
 | normal =>
   obtain ⟨m, hd, hq⟩ := hq
   obtain ⟨v, w2, fr, hR, hs, hfn, hl⟩ := YA (P := P) (cs := cs) (fr := { b.atR a' [] with mode := .returning }) rfl hf rfl hd hq
   exact ⟨.returned v, w2, fr, ⟨v, rfl, hR⟩, (StepsIn.steps har).trans (.head (stepR_end rfl) hs), hfn, hl⟩
 | ret =>
   obtain ⟨m, hd, hq⟩ := hq
   obtain ⟨todo, hs0⟩ := har.1 rfl
   obtain ⟨v, w2, fr, hR, hs, hfn, hl⟩ := YA (P := P) (cs := cs) (fr := { b.atR a' todo with mode := .returning }) rfl hf rfl hd hq
   exact ⟨.returned v, w2, fr, ⟨v, rfl, hR⟩, (StepsIn.steps hs0).trans hs, hfn, hl⟩
 | panic chain => exact hq.elim
 | exit id => exact hq.elim
 | goto l => exact hq.elim
 | outgrown => exact hq.elim
def aiS (P : Program) (f : FuncId) (Q : Exit -> Act -> atO -> Prop) (a : Act) (w : atO) : Option Code -> Prop
 | none => Q .normal a w
 | some c => VU P f none c Q a w
theorem aaS {gf : Operand} {ps : Array Tmp} {aoA bd : Code} {d : Deferred} {g : FuncId} {args : Array atP} {w1 : atO} {l : Nat} {mark : List Deferred} {w2 w3 : atO} {v : atP}
 (he : (Instr.enterLoop f a.tmps ps aoA bd none).run P w = .ok (l, mark) w1)
 (hres : (resolve a.eval (rangeCall gf l) 0).run P w1 = .ok d w1) (hinv : (invoke d.target d.args).run P w1 = .ok (.enter g args) w2)
 (hcall : Ret P g args w2 v w3)
 {jump : Option Code} {w4 : atO} (hend : (Instr.endLoop l).run P w3 = .ok jump w4)
 (hj : aiS P f Q { a with defers := mark ++ a.defers } w4 jump) :
 VU P f none (.rangeFunc gf ps aoA bd) Q a w := by
 intro b k cs hb hro
 rw [<- hb, <- hro] at he
 have henter := stepR_rangeFunc (P := P) (b := b) (a := a) (k := k) (cs := cs) (w := w) he hres hinv
 obtain ⟨e, w3', fr, ⟨rfl, rfl⟩, hsteps, hfn, hleave⟩ := hcall (b.atR { a with defers := mark ++ a.defers } (.inRangeFunc l :: k) :: cs)
 have sback : StepsIn (Vg P) P (lone (b.atR a (.code (.rangeFunc gf ps aoA bd) :: k)) cs w) (lone (b.atR { a with defers := mark ++ a.defers } ((jump.map Item.code).toList ++ k)) cs w4) := by
  refine Mu henter (StepsIn.trans (stepsIn_wide.2 hsteps) (Mu (m1 := lone (b.atR { a with defers := mark ++ a.defers } (.endRangeFunc l :: k)) cs w3') ?_ (He (stepR_endRangeFunc hend))))
  rw [<- finish_atR_inRangeFunc l v]; exact step_leave_returned hleave
 cases jump with
 | none => exact ⟨.normal, _, w4, hj, sback⟩
 | some c =>
   obtain ⟨e', a'', w5, hq, harr⟩ := hj b k cs hb hro
   exact ⟨e', a'', w5, hq, .of_steps sback harr⟩
def ZD (P : Program) (l : Nat) (R : atP -> atO -> Prop) : Exit -> Act -> atO -> Prop
 | .normal, _, w => ∃ v w', (Instr.endRound l none).run P w = .ok v w' /\ R v w'
 | .ret, _, w => ∃ v w', (Instr.endRound l (some .ret)).run P w = .ok v w' /\ R v w'
 | .exit id, _, w => ∃ v w', (Instr.endRound l (some (.exit id))).run P w = .ok v w' /\ R v w'
 | _, _, _ => False
theorem W9 {l : Nat} {tmps : Array atP} {aoA bd : Code} {R : atP -> atO -> Prop}
 (h : VU P f (some l) aoA (Exit.then (fun a1 w1 => ∃ w2, (Instr.beginRound l).run P w1 = .ok () w2 /\ VU P f (some l) bd (ZD P l R) a1 w2) (fun _ _ _ => False))
   { tmps := tmps, defers := [] } w) :
 RoundIn Fence.wide 0 P l f tmps aoA bd w fun e w' => ∃ v, e = .returned v /\ R v w' := by
 refine ⟨trivial, fun c cs _ => ?_⟩
 let b : Frame := { (default : Frame) with fn := f, kind := .normal, roundOf := some l }
 have hb0 : Frame.round l f tmps aoA bd .normal = b.atR { tmps := tmps, defers := [] } [.code aoA, .beginRound, .code bd] := by
  simp [Frame.round, Frame.atR, b]
 obtain ⟨e, a1, w1, hq, harr⟩ := h b [.beginRound, .code bd] (c :: cs) rfl rfl
 rw [<- hb0] at harr
 cases e with
 | normal =>
   obtain ⟨w2, hbr, hbody⟩ := hq
   have s1 := He (stepR_beginRound (P := P) (b := b) (a := a1) (k := [.code bd]) (cs := c :: cs) rfl hbr)
   obtain ⟨e2, a2, w3, hq2, harr2⟩ := hbody b [] (c :: cs) rfl rfl
   cases e2 with
   | normal =>
     obtain ⟨v, w4, hend, hR⟩ := hq2
     exact ⟨.returned v, w4, ⟨v, rfl, hR⟩, (StepsIn.trans harr s1).trans (StepsIn.trans harr2 (He (stepR_round_end rfl rfl hend)))⟩
   | ret =>
     obtain ⟨v, w4, hend, hR⟩ := hq2
     obtain ⟨k1, hs⟩ := harr2.2 rfl
     exact ⟨.returned v, w4, ⟨v, rfl, hR⟩, (StepsIn.trans harr s1).trans (StepsIn.trans hs (He (stepR_round_ret rfl rfl hend)))⟩
   | exit id =>
     obtain ⟨v, w4, hend, hR⟩ := hq2
     obtain ⟨k1, hk, hs⟩ := harr2.2 rfl rfl
     exact ⟨.returned v, w4, ⟨v, rfl, hR⟩, (StepsIn.trans harr s1).trans (StepsIn.trans hs (He (stepR_round_exit rfl rfl hk hend)))⟩
   | goto t => exact hq2.elim
   | panic chain => exact hq2.elim
   | outgrown => exact hq2.elim
 | exit id => exact hq.elim
 | goto t => exact hq.elim
 | ret => exact hq.elim
 | panic chain => exact hq.elim
 | outgrown => exact hq.elim
end
def W5 (ops : Array Oper) : Nat -> Array Bool -> List Nat -> Prop
 | 0, _, L => L = []
 | _ + 1, listed, [] => Region.ready .any ops listed = []
 | n + 1, listed, i :: L => i ∈ Region.ready .any ops listed /\ W5 ops n (listed.setIfInBounds i true) L
section
variable {P : Program} {ops : Array Oper} {Q : Act -> atO -> Prop}
theorem aiH : ∀ (fuel t : Nat) (listed : Array Bool), W5 ops fuel listed (Region.linearise.go .any ops fuel t listed []) := by
 intro fuel
 induction fuel with
 | zero => intro t listed; simp [Region.linearise.go, W5]
 | succ fuel ih =>
   intro t listed
   simp only [Region.linearise.go]
   change W5 ops (fuel + 1) listed (match (Region.ready .any ops listed)[t % (Region.ready .any ops listed).length]? with
    | some i => Region.linearise.go .any ops fuel (t / (Region.ready .any ops listed).length) (listed.setIfInBounds i true) [i]
    | none => [].reverse)
   cases hi : (Region.ready .any ops listed)[t % (Region.ready .any ops listed).length]? with
   | none =>
     have : Region.ready .any ops listed = [] := by
      cases hr : Region.ready .any ops listed with
      | nil => rfl
      | cons x xs =>
        rw [hr] at hi
        have hlt : t % (x :: xs).length < (x :: xs).length := atK _ (by simp)
        rw [aoM hlt] at hi
        cases hi
     simpa [W5] using this
   | some i =>
     simp only []
     rw [linearise_go_acc]
     exact ⟨aqT hi, ih _ _⟩
theorem SH : ∀ (fuel : Nat) (listed : Array Bool) (L : List Nat) (a : Act) (w : atO), Vs P ops Q fuel listed a w -> W5 ops fuel listed L -> EN P ops Q L a w := by
 intro fuel
 induction fuel with
 | zero => intro listed L a w h hL; obtain rfl : L = [] := hL; exact h.2
 | succ fuel ih =>
   intro listed L a w h hL
   cases L with
   | nil => exact h.1 hL
   | cons i L =>
     exact Y8 (fun a w hh => ih _ _ a w hh hL.2) (h.2 i hL.1)
end
structure Wa (π : List Nat) (ops : Array Oper) : Prop where
 len : π.length = ops.size
 to : ∀ i, i < ops.size -> Aq π i < ops.size /\ π[Aq π i]? = some i
 back : ∀ k, k < ops.size -> ∃ i, π[k]? = some i /\ Aq π i = k /\ i < ops.size
 after : ∀ (i : Nat) (o : Oper), ops[i]? = some o -> ∀ e ∈ o.after, e.on < ops.size
 guard : ∀ (i : Nat) (o : Oper) (j : Nat) (b : Bool), ops[i]? = some o -> o.guard = some (j, b) -> j < ops.size
theorem aiN {π : List Nat} {ops : Array Oper} (h : YS π ops = true) : Wa π ops := by
 unfold YS at h
 simp only [aoQ] at h
 obtain ⟨⟨⟨h1, h2⟩, h3⟩, h4⟩ := h
 have h1 := apH h1
 have at4 : ∀ (i : Nat) (o : Oper), ops[i]? = some o -> (o.after.all fun e => Nat.blt e.on ops.size) = true /\ (match o.guard with | some (j, _) => Nat.blt j ops.size | none => true) = true := by
  intro i o ho
  have hi : i < ops.size := by
   rcases aoT i ops.size with h | h
   .exact h
   .rw [aqI h] at ho; cases ho
  have := apO.1 h4 i (apV.2 hi)
  rw [ho] at this
  simp only [aoQ] at this
  refine ⟨this.1, ?_⟩
  have h := this.2
  revert h
  cases o.guard <;> exact id
 refine ⟨h1, fun i hi => ?_, fun k hk => ?_, fun i o ho e he => ?_, fun i o j b ho hg => ?_⟩
 .have := apO.1 h3 i (apV.2 hi)
  cases hp : π[Aq π i]? with
  | none => rw [hp] at this; cases this
  | some j =>
    rw [hp] at this
    obtain rfl := apH this
    refine ⟨?_, rfl⟩
    rcases aoT (Aq π j) π.length with h | h
    .omega
    .rw [aoS h] at hp; cases hp
 .have := apO.1 h2 k (apV.2 hk)
  cases hp : π[k]? with
  | none => rw [hp] at this; cases this
  | some i =>
    rw [hp] at this
    simp only [aoQ] at this
    exact ⟨i, rfl, apH this.1, (arU (x := i) (y := ops.size)) ▸ this.2⟩
 .have := aqL.1 (at4 i o ho).1 e he
  exact (arU (x := e.on) (y := ops.size)) ▸ this
 .have := (at4 i o ho).2
  rw [hg] at this
  exact (arU (x := j) (y := ops.size)) ▸ this
theorem WQ {π : List Nat} {es : List (Nat × Nat)} {l : List Oper} : ∀ (r : List Nat), (∀ i ∈ r, i < l.length) -> (Sk π es l r).length = r.length /\ ∀ k i : Nat, r[k]? = some i -> (Sk π es l r)[k]? = (l[i]?).map (Js π es i) := by
 intro r
 induction r with
 | nil => intro _; exact ⟨rfl, fun k i h => by simp at h⟩
 | cons j r ih =>
   intro h
   obtain ⟨h1, h2⟩ := ih fun i hi => h i (aoR _ hi)
   have hj : j < l.length := h j (by simp)
   simp only [Sk, aoM hj]
   refine ⟨by simp [h1], fun k i hk => ?_⟩
   cases k with
   | zero => simp at hk; subst hk; simp [aoM hj]
   | succ k => simp at hk ⊢; exact h2 k i hk
section
variable {P : Program} {ops : Array Oper} {Q : Act -> atO -> Prop} {π : List Nat} {es : List (Nat × Nat)}
theorem Wa.mem (p : Wa π ops) : ∀ i ∈ π, i < ops.toList.length := by
 intro i hi
 obtain ⟨k, hk, e⟩ := aqF hi
 obtain ⟨j, h1, _, h2⟩ := p.back k (by rw [<- p.len]; exact hk)
 rw [aoM hk] at h1
 cases h1
 rw [<- e]; simpa using h2
theorem Wa.size (p : Wa π ops) : (tC π es ops).size = ops.size := by
 unfold tC
 rw [List.size_toArray, (WQ (es := es) (π := π) π p.mem).1, p.len]
theorem Wa.get (p : Wa π ops) {i : Nat} (hi : i < ops.size) : (tC π es ops)[Aq π i]? = (ops[i]?).map (Js π es i) := by
 unfold tC
 have := (WQ (es := es) (π := π) π p.mem).2 (Aq π i) i (p.to i hi).2
 rw [asC] at this
 simpa using this
theorem YL {i : Nat} {o : Oper} {a : Act} {w : atO} {K : Act -> atO -> Prop} : Zq P (Js π es i o) a w K ↔ Zq P o a w K := by
 unfold Zq
 have h1 : execOp a.eval (Js π es i o) = execOp a.eval o := by
  obtain ⟨d, op, ty, ps, af, g⟩ := o
  cases op <;> rfl
 have h2 : Wx (Js π es i o) = Wx o := rfl
 rw [h1, h2]
 generalize (execOp a.eval o).run P w = r
 cases r with
 | ok n w => cases n <;> exact Iff.rfl
 | halt x w => exact Iff.rfl
theorem X7 (p : Wa π ops) {i : Nat} {o : Oper} (ho : ops[i]? = some o) (tmps : Array atP) :
 Region.wanted (Js π es i o) (yielded (tC π es ops) tmps) = Region.wanted o (yielded ops tmps) := by
 unfold Region.wanted Js
 simp only
 cases hg : o.guard with
 | none => rfl
 | some q =>
   obtain ⟨j, b⟩ := q
   simp only
   have hj := p.guard i o j b ho hg
   have : (tC π es ops)[Aq π j]?.bind (·.dst) = (ops[j]?).bind (·.dst) := by
    rw [p.get hj]
    cases ops[j]? <;> rfl
   unfold yielded
   rw [this]
theorem YX (p : Wa π ops) : ∀ (L : List Nat), (∀ i ∈ L, i < ops.size) -> ∀ (a : Act) (w : atO), EN P (tC π es ops) Q (L.map (Aq π)) a w -> EN P ops Q L a w := by
 intro L
 induction L with
 | nil => intro _ a w h; exact h
 | cons i L ih =>
   intro hL a w h
   rw [apJ] at h
   simp only [EN] at h ⊢
   have hi := hL i (by simp)
   have ih := ih fun i hi => hL i (aoR _ hi)
   unfold NX at h ⊢
   rw [p.get hi] at h
   rw [aoW hi] at h ⊢
   simp only [apM] at h
   rw [X7 p (aoW hi)] at h
   simp only
   split
   .rename_i hw
    rw [if_pos hw, YL] at h
    exact WC (fun a w => ih a w) h
   .rename_i hw
    rw [if_neg hw] at h
    exact ih _ _ h
theorem Pd {ops : Array Oper} {listed : Array Bool} (hsz : listed.size = ops.size) (i : Nat) :
 i ∈ Region.ready .any ops listed ↔ (i < ops.size /\ listed.getD i false = false /\ ∀ o, ops[i]? = some o -> ∀ e ∈ o.after, Region.binds .any e = true -> listed.getD e.on false = true) := by
 unfold Region.ready
 rw [atJ, apV]
 constructor
 .rintro ⟨h1, h2⟩
  rw [aoW h1] at h2
  simp only [aoQ, apM, arK] at h2
  refine ⟨h1, ?_, fun o ho e he hb => ?_⟩
  .have := h2.1
   rw [aoO] at this ⊢
   rw [aoW (by omega)] at this ⊢
   simpa using this
  .rw [aoW h1] at ho
   cases ho
   have := aqL.1 h2.2 e he
   simpa [hb] using this
 .rintro ⟨h1, h2, h3⟩
  refine ⟨h1, ?_⟩
  rw [aoW h1]
  simp only [aoQ, apM, arK]
  refine ⟨?_, aqL.2 fun e he => ?_⟩
  .rw [aoO] at h2 ⊢
   rw [aoW (by omega)] at h2 ⊢
   simpa using h2
  .by_cases hb : Region.binds .any e = true
   .simp [hb, h3 _ (aoW h1) e he hb]
   .simp [hb]
theorem afL {π : List Nat} {i : Nat} : ∀ {es : List (Nat × Nat)} {e : Edge}, e ∈ G8 π i es -> ∃ a, (a, i) ∈ es /\ e.on = Aq π a := by
 intro es
 induction es with
 | nil => intro e h; simp [G8] at h
 | cons q r ih =>
   obtain ⟨a, b⟩ := q
   intro e h
   simp only [G8] at h
   cases hb : Nat.beq b i with
   | true =>
     rw [hb] at h
     obtain rfl := apH hb
     rcases apZ.1 h with rfl | h
     .exact ⟨a, by simp, rfl⟩
     .obtain ⟨a, h1, h2⟩ := ih h; exact ⟨a, aoR _ h1, h2⟩
   | false => rw [hb] at h; obtain ⟨a, h1, h2⟩ := ih h; exact ⟨a, aoR _ h1, h2⟩
theorem abJ (p : Wa π ops) {L0 : List Nat} (hes : ∀ q ∈ es, L0.idxOf q.1 <= L0.idxOf q.2 /\ q.1 ≠ q.2 /\ q.1 < ops.size) :
 ∀ (fuel : Nat) (listed listed' : Array Bool) (pre L : List Nat), L0 = pre ++ L -> listed.size = ops.size -> listed'.size = ops.size →
   (∀ j, j < ops.size -> listed'.getD (Aq π j) false = listed.getD j false) -> (∀ j ∈ pre, listed.getD j false = true) -> (∀ j, listed.getD j false = true -> j ∈ pre) →
   W5 ops fuel listed L -> W5 (tC π es ops) fuel listed' (L.map (Aq π)) /\ ∀ i ∈ L, i < ops.size := by
 intro fuel
 induction fuel with
 | zero => intro listed listed' pre L _ _ _ _ _ _ h; obtain rfl : L = [] := h; exact ⟨rfl, by simp⟩
 | succ fuel ih =>
   intro listed listed' pre L hL0 hs hs' hrel hpre hpre' h
   have hsz : (tC π es ops).size = ops.size := p.size
   cases L with
   | nil =>
     refine ⟨?_, by simp⟩
     show Region.ready .any (tC π es ops) listed' = []
     rw [List.eq_nil_iff_forall_not_mem]
     intro k hk
     obtain ⟨h1, h2, h3⟩ := (Pd (by omega) k).1 hk
     obtain ⟨i, hi1, hi2, hi3⟩ := p.back k (by omega)
     have : i ∈ Region.ready .any ops listed := by
      refine (Pd hs i).2 ⟨hi3, ?_, fun o ho e he hb => ?_⟩
      .rw [<- hrel i hi3, hi2]; exact h2
      .have g := p.get (es := es) hi3
       rw [hi2, ho] at g
       have hon := p.after i o ho e he
       have := h3 _ g ⟨Aq π e.on, e.ground⟩ (by
        simp only [Js, List.mem_toArray, aqJ, aqB]
        exact .inl ⟨e, by simpa using he, rfl⟩) (by unfold Region.binds at hb ⊢; exact hb)
       rw [<- hrel e.on hon]; exact this
     rw [show Region.ready .any ops listed = [] from h] at this
     cases this
   | cons i L =>
     obtain ⟨h1, h2⟩ := h
     obtain ⟨r1, r2, r3⟩ := (Pd hs i).1 h1
     have hnot : i ∉ pre := fun hm => by rw [hpre i hm] at r2; cases r2
     have hidx : L0.idxOf i = pre.length := by
      rw [hL0, List.idxOf_append, if_neg hnot]; simp
     have ready' : Aq π i ∈ Region.ready .any (tC π es ops) listed' := by
      refine (Pd (by omega) _).2 ⟨by rw [hsz]; exact (p.to i r1).1, by rw [hrel i r1]; exact r2, fun o' ho' e' he' hb => ?_⟩
      rw [p.get r1, aoW r1] at ho'
      simp only [apM, Option.some.injEq] at ho'
      subst ho'
      simp only [Js, List.mem_toArray, aqJ, aqB] at he'
      rcases he' with ⟨e, he, rfl⟩ | he'
      .have ho := aoW r1
       have he2 : e ∈ ops[i].after := by simpa using he
       rw [hrel e.on (p.after i _ ho e he2)]
       exact r3 _ ho e he2 (by unfold Region.binds at hb ⊢; exact hb)
      .obtain ⟨a, ha, hon⟩ := afL he'
       obtain ⟨q1, q2, q3⟩ := hes _ ha
       simp only at q1 q2 q3
       rw [hon, hrel a q3]
       refine hpre a ?_
       rw [hidx] at q1
       rw [hL0, List.idxOf_append] at q1
       by_cases hm : a ∈ pre
       .exact hm
       .rw [if_neg hm] at q1
        exfalso
        have hz : (i :: L).idxOf a = 0 := by omega
        rw [List.idxOf_cons] at hz
        cases hb : (i == a) with
        | true => exact q2 (by simpa using (beq_iff_eq.1 hb).symm)
        | false => rw [hb] at hz; simp at hz
     have hlen' : listed'.size = ops.size := hs'
     obtain ⟨k1, k2⟩ := ih (listed.setIfInBounds i true) (listed'.setIfInBounds (Aq π i) true) (pre ++ [i]) L (by rw [hL0]; simp) (by simp [hs]) (by simp [hs'])
      (fun j hj => by
       by_cases hji : j = i
       .subst hji
        rw [aoO, aoO, apI (by rw [hs']; exact (p.to j hj).1), apI (by omega)]
       .have hne : Aq π i ≠ Aq π j := fun e => by
         have a1 := (p.to i r1).2
         have a2 := (p.to j hj).2
         rw [e] at a1
         rw [a1] at a2
         exact hji (apP a2).symm
        have := hrel j hj
        rw [aoO, aoO] at this ⊢
        rw [apQ hne, apQ (fun e => hji e.symm)]
        exact this)
      (fun j hj => by
       rw [aoO]
       rcases aqJ.1 hj with hj | hj
       .by_cases hji : j = i
        .subst hji; rw [apI (by omega)] <;> rfl
        .rw [apQ (fun e => hji e.symm), <- aoO]; exact hpre j hj
       .have : j = i := by simpa using hj
        subst this
        rw [apI (by omega)] <;> rfl)
      (fun j hj => by
       by_cases hji : j = i
       .subst hji; simp
       .rw [aoO, apQ (fun e => hji e.symm), <- aoO] at hj
        exact arH _ (hpre' j hj))
      h2
     exact ⟨⟨ready', k1⟩, fun j hj => (apZ.1 hj).elim (fun e => e ▸ r1) (k2 j)⟩
end
section
variable {P : Program} {ops : Array Oper}
theorem Ub {N : Nat} {an : ZN} {pl : X3} (hok : Vl ops an = true) (hpl : Vk ops.size an pl = true) (hd : QW N ops) (hca : Rr P ops)
 {K : Env -> atO -> Prop} {Q : Act -> atO -> Prop} (hQ : ∀ g a w, NT N g a -> K g w -> Q a w) {g : Env} {a : Act} {w : atO} (hr : NT N g a)
 (h : vF P ops ops.toList pl [] g w K) : Vs P ops Q ops.size (Array.replicate ops.size false) a w := by
 have r0 : Run P ops an g w 0 (fun _ => default) (fun _ => g) (fun _ => w) (fun _ => undef) :=
  ⟨rfl, rfl, fun i hi => by omega, fun i hi => by omega, fun i hi => by omega, fun i hi => by omega, fun i j _ hj => by omega⟩
 obtain ⟨O, G, W, V, r, hk⟩ := XW hpl ops.toList 0 [] _ _ _ _ (fun j => by simp) (by simp) r0 (fun i hi => by omega) h
 simp only [aoH, arJ] at r hk
 have st := abI hok r.op
 have := aeS (Q := Q) (n := ops.size) rfl hd hca r st (fun a hra => hQ _ a _ hra hk) ops.size (Array.replicate ops.size false) g a 0 (by simp) hr (by omega)
  (fun j hj hl => by unfold qM at hl; simp [aoO, hj] at hl)
  (fun s => .inr ⟨fun j hj hl => by unfold qM at hl; simp [aoO, hj] at hl, rfl⟩)
  (fun h hh _ => ⟨fun hl => by unfold qM at hl; simp [aoO, hh] at hl, fun hl => by omega⟩)
  (aqC (List.length_filter_le _ _) (by simp))
 rw [r.w0] at this
 exact this
theorem Tl {N : Nat} {ops : Array Oper} (h : ops.all (ZK N) = true) : QW N ops := by
 intro i o ho t ht
 have := aqL.1 h o (atF ho)
 unfold ZK at this
 rw [ht] at this
 exact (arU (x := t) (y := N)) ▸ this
theorem Vq {ops : Array Oper} (h : ops.all (Dn P) = true) : Rr P ops :=
 fun _ o ho => aqL.1 h o (atF ho)
theorem Zb {N : Nat} {f : FuncId} {id : Nat} (hd : QW N ops) (hca : Rr P ops)
 {K : Env -> atO -> Prop} {Q : Act -> atO -> Prop} (hQ : ∀ g a w, NT N g a -> K g w -> Q a w) {g : Env} {a : Act} {w0 w : atO} (hr : NT N g a) :
 ∀ (T : HT) (path : List (Nat × Nat)), Q3 P N ops path T = true →
   (∀ q ∈ path, (Region.schedule true ops (w0.tape w0.drawn (.order f id))).idxOf q.1 <= (Region.schedule true ops (w0.tape w0.drawn (.order f id))).idxOf q.2 /\ q.1 ≠ q.2) →
   YB P f id ops T g w0 w K -> EN P ops Q (Region.schedule true ops (w0.tape w0.drawn (.order f id))) a w := by
 have lin : W5 ops ops.size (Array.replicate ops.size false) (Region.schedule true ops (w0.tape w0.drawn (.order f id))) := by
  unfold Region.schedule
  simp only [Bool.true_or, if_true]
  exact aiH _ _ _
 generalize hL : Region.schedule true ops (w0.tape w0.drawn (.order f id)) = L at lin ⊢
 intro T
 induction T with
 | leaf an pl =>
   intro path hok _ h
   simp only [Q3, aoQ] at hok
   exact SH _ _ _ _ _ (Ub hok.1 hok.2 hd hca hQ hr h) lin
 | perm π es an pl =>
   intro path hok hpath h
   simp only [Q3, aoQ] at hok
   obtain ⟨⟨⟨⟨⟨h1, h2⟩, h3⟩, h4⟩, h5⟩, h6⟩ := hok
   have p := aiN h2
   have hes : ∀ q ∈ es, L.idxOf q.1 <= L.idxOf q.2 /\ q.1 ≠ q.2 /\ q.1 < ops.size := fun q hq => by
    have := apO.1 h1 q hq
    simp only [aoQ] at this
    have hp := hpath q (afH this.1)
    exact ⟨hp.1, hp.2, (arU (x := q.1) (y := ops.size)) ▸ this.2⟩
   obtain ⟨k1, k2⟩ := abJ (es := es) p hes ops.size (Array.replicate ops.size false) (Array.replicate ops.size false) [] L rfl (by simp) (by simp)
    (fun j hj => by simp [aoO, hj, (p.to j hj).1]) (by simp)
    (fun j hj => by rw [aoO] at hj; by_cases hh : j < ops.size <;> simp [hh] at hj) lin
   have hw := Ub h5 h6 (Tl h3) (Vq h4) hQ hr h
   rw [p.size] at hw
   exact YX (es := es) p L k2 a w (SH _ _ _ _ _ hw k1)
 | split x y A B ihA ihB =>
   intro path hok hpath h
   simp only [Q3, aoQ] at hok
   have hne : x ≠ y := by
    intro e
    have := hok.1.1
    rw [e] at this
    simp at this
   simp only [YB] at h
   unfold Ord ahV at h
   rw [hL] at h
   cases hb : Nat.ble (L.idxOf x) (L.idxOf y) with
   | true =>
     rw [hb] at h
     refine ihA _ hok.1.2 (fun q hq => ?_) h
     rcases apZ.1 hq with rfl | hq
     .exact ⟨arC hb, hne⟩
     .exact hpath q hq
   | false =>
     rw [hb] at h
     refine ihB _ hok.2 (fun q hq => ?_) h
     rcases apZ.1 hq with rfl | hq
     .refine ⟨?_, hne.symm⟩
      simp only
      rcases aoT (L.idxOf y) (L.idxOf x) with hh | hh
      .omega
      .have := Nat.ble_eq_true_of_le hh; rw [this] at hb; cases hb
     .exact hpath q hq
end
section
variable {P : Program} {ann : FA}
def sB : List Oper -> List Nat
 | [] => []
 | o :: r => match o.dst with | some d => d :: sB r | none => sB r
def Pz : Code -> List Nat
 | .region _ ops _ => sB ops.toList
 | .seq x y => Pz x ++ Pz y
 | .cond _ x y => Pz x ++ Pz y
 | .block _ c => Pz c
 | .scope c => Pz c
 | .loop c => Pz c
 | .rangeFunc .. => [DS]
 | _ => []
def qJ (l : List Nat) (g g' : Env) : Prop := ∀ s, s ∉ l -> g' s = g s
theorem qJ.refl (l : List Nat) (g : Env) : qJ l g g := fun _ _ => rfl
theorem qJ.trans {l l1 l2 : List Nat} {a b c : Env} (h : qJ l1 a b) (k : qJ l2 b c) (h1 : ∀ s, s ∈ l1 -> s ∈ l) (h2 : ∀ s, s ∈ l2 -> s ∈ l) : qJ l a c :=
 fun s hs => (k s fun h => hs (h2 s h)).trans (h s fun h => hs (h1 s h))
theorem qJ.mono {l l1 : List Nat} {a b : Env} (h : qJ l1 a b) (h1 : ∀ s, s ∈ l1 -> s ∈ l) : qJ l a b := fun s hs => h s fun hh => hs (h1 s hh)
theorem qJ.put {l : List Nat} {a : Env} (d : Option Tmp) (v : atP) (h : ∀ t, d = some t -> t ∈ l) : qJ l a (put a d v) := by
 intro s hs
 cases d with
 | none => rfl
 | some t =>
   rw [KX, if_neg (fun e => hs (by rw [e]; exact h t rfl))]
theorem Zi {ops : Array Oper} {K : Env -> atO -> Prop} : ∀ (l : List Oper) (g : Env) (w : atO), Vb P ops l g w K →
 ∃ g' w', K g' w' /\ qJ (sB l) g g' /\ ∀ K' : Env -> atO -> Prop, K' g' w' -> Vb P ops l g w K' := by
 intro l
 induction l with
 | nil => intro g w h; exact ⟨g, w, h, qJ.refl _ _, fun _ h => h⟩
 | cons o l ih =>
   intro g w h
   obtain ⟨v, w1, hy, h1⟩ := LC h
   obtain ⟨g', w', hk, ha, hall⟩ := ih _ _ h1
   refine ⟨g', w', hk, ?_, fun K' hk' => hy _ (hall K' hk')⟩
   refine qJ.trans (qJ.put o.dst v (l := sB (o :: l)) fun t ht => by simp [sB, ht]) ha (fun _ h => h) (fun s hs => ?_)
   unfold sB
   split
   .exact aoR _ hs
   .exact hs
theorem Uf {ops : Array Oper} {K : Env -> atO -> Prop} : ∀ (l : List Oper) (pl : X3) (hist : List Rec) (g : Env) (w : atO), vF P ops l pl hist g w K →
 ∃ g' w', K g' w' /\ qJ (sB l) g g' /\ ∀ K' : Env -> atO -> Prop, K' g' w' -> vF P ops l pl hist g w K' := by
 intro l
 induction l with
 | nil => intro pl hist g w h; unfold vF at h; exact ⟨g, w, h, qJ.refl _ _, fun _ h => (by unfold vF; exact h)⟩
 | cons o l ih =>
   intro pl hist g w h
   cases pl with
   | nil => exact h.elim
   | cons p pl =>
     obtain ⟨hv, ks⟩ := p
     obtain ⟨v, w1, hy, h1⟩ := LC h
     have tail : ∀ (w2 : atO) (hist' : List Rec), vF P ops l pl hist' (put g o.dst v) w2 K →
         ∃ g' w', K g' w' /\ qJ (sB (o :: l)) g g' /\ ∀ K' : Env -> atO -> Prop, K' g' w' -> vF P ops l pl hist' (put g o.dst v) w2 K' := by
      intro w2 hist' c2
      obtain ⟨g', w', hk, ha, hall⟩ := ih _ _ _ _ c2
      refine ⟨g', w', hk, ?_, hall⟩
      refine qJ.trans (qJ.put o.dst v (l := sB (o :: l)) fun t ht => by simp [sB, ht]) ha (fun _ h => h) (fun s hs => ?_)
      unfold sB
      split
      .exact aoR _ hs
      .exact hs
     cases hv with
     | true =>
       cases ks with
       | nil =>
         obtain ⟨g', w', hk, ha, hall⟩ := tail w1 _ h1
         exact ⟨g', w', hk, ha, fun K' hk' => hy _ (hall K' hk')⟩
       | cons k ks =>
         obtain ⟨hc, h1⟩ := h1
         obtain ⟨g', w', hk, ha, hall⟩ := tail w1 _ h1
         exact ⟨g', w', hk, ha, fun K' hk' => hy _ ⟨hc, hall K' hk'⟩⟩
     | false =>
       cases ks with
       | nil =>
         obtain ⟨rfl, h1⟩ := h1
         obtain ⟨g', w', hk, ha, hall⟩ := tail w1 _ h1
         exact ⟨g', w', hk, ha, fun K' hk' => hy _ ⟨rfl, hall K' hk'⟩⟩
       | cons k ks =>
         obtain ⟨rfl, hc, h1⟩ := h1
         obtain ⟨g', w', hk, ha, hall⟩ := tail w1 _ h1
         exact ⟨g', w', hk, ha, fun K' hk' => hy _ ⟨rfl, hc, hall K' hk'⟩⟩
theorem I7 {l : List Oper} {s : Nat} : s ∈ sB l ↔ ∃ o ∈ l, o.dst = some s := by
 induction l with
 | nil => simp [sB]
 | cons o l ih =>
   unfold sB
   cases hd : o.dst with
   | none => simp [ih, hd]
   | some d => simp [ih, hd, eq_comm]
theorem Y9 {π : List Nat} {es : List (Nat × Nat)} {l : List Oper} {s : Nat} : ∀ (r : List Nat), s ∈ sB (Sk π es l r) -> s ∈ sB l := by
 intro r
 induction r with
 | nil => intro h; simp [Sk, sB] at h
 | cons i r ih =>
   intro h
   simp only [Sk] at h
   cases ho : l[i]? with
   | none => rw [ho] at h; exact ih h
   | some o =>
     rw [ho] at h
     obtain ⟨o', h1, h2⟩ := I7.1 h
     rcases apZ.1 h1 with rfl | h1
     .exact I7.2 ⟨o, aqT ho, h2⟩
     .exact ih (I7.2 ⟨o', h1, h2⟩)
theorem agH {f : FuncId} {id : Nat} {ops : Array Oper} {K : Env -> atO -> Prop} {g : Env} {w0 : atO} : ∀ (T : HT) (w : atO), YB P f id ops T g w0 w K →
 ∃ g' w', K g' w' /\ qJ (sB ops.toList) g g' /\ ∀ K' : Env -> atO -> Prop, K' g' w' -> YB P f id ops T g w0 w K' := by
 intro T
 induction T with
 | leaf an pl => intro w h; exact Uf _ _ _ _ _ h
 | perm π es an pl =>
   intro w h
   obtain ⟨g', w', a, b, c⟩ := Uf _ _ _ _ _ h
   exact ⟨g', w', a, b.mono (fun s hs => Y9 π (by simpa [tC] using hs)), c⟩
 | split x y A B ihA ihB =>
   intro w h
   simp only [YB, Ord] at h ⊢
   cases hb : ahV f id ops x y w0 with
   | true => rw [hb] at h; exact ihA w h
   | false => rw [hb] at h; exact ihB w h
theorem kE.head {α : Type} {F : (α -> atO -> Prop) -> α -> atO -> Prop} (hmono : ∀ X Y g w, (∀ g w, X g w -> Y g w) -> F X g w -> F Y g w)
 {g : α} {w : atO} (h : F (fun g' w' => kE F g' w') g w) (hdet : ∃ g' w', kE F g' w' /\ ∀ X : α -> atO -> Prop, X g' w' -> F X g w) : kE F g w := by
 obtain ⟨g1, w1, ⟨I, ⟨n1, h1⟩, hI⟩, hF⟩ := hdet
 refine ⟨fun n g' w' => I n g' w' ∨ (n = n1 + 1 /\ g' = g /\ w' = w), ⟨n1 + 1, .inr ⟨rfl, rfl, rfl⟩⟩, ?_⟩
 rintro n g' w' (h | ⟨rfl, rfl, rfl⟩)
 .exact hmono _ _ _ _ (fun _ _ ⟨m, hm, hh⟩ => ⟨m, hm, .inl hh⟩) (hI _ _ _ h)
 .exact hF _ ⟨n1, by omega, .inl h1⟩
theorem akW {f : FuncId} {gf : Operand} {ps : Array Tmp} {aoA bd : Code} {Q : Exit -> Env -> atO -> Prop} {g : Env} {w : atO} (h : RF P f gf ps aoA bd Q g w) :
 ∃ e g' w', Q e g' w' /\ qJ [DS] g g' /\ ∀ Q' : Exit -> Env -> atO -> Prop, Q' e g' w' -> RF P f gf ps aoA bd Q' g w := by
 unfold RF at h ⊢
 cases hn : noMark (g DS) with
 | false => rw [hn] at h; exact h.elim
 | true =>
   rw [hn] at h
   simp only at h ⊢
   generalize (Cq (ev g gf) [Iq (w.heap.size + 1)]).run P (rfW f (Tu P f) ps aoA bd g w) = r at *
   match r, h with
   | .ok (.enter f2 args) w1, h =>
     obtain ⟨v, w3, hret, r, h1, h2, h3⟩ := h
     have ha : qJ [DS] g (put g (some DS) (.pointer (some ⟨w.heap.size, 0, none⟩))) := qJ.put _ _ (fun t ht => by cases ht; simp)
     cases hp : r.pending with
     | none =>
       rw [hp] at h3
       exact ⟨.normal, _, _, h3, ha, fun Q' h => ⟨v, w3, hret, r, h1, h2, by rw [hp]; exact h⟩⟩
     | some c =>
       rw [hp] at h3
       cases c <;> first
        | exact h3.elim
        | exact ⟨.ret, _, _, h3, ha, fun Q' h => ⟨v, w3, hret, r, h1, h2, by rw [hp]; exact h⟩⟩
        | exact ⟨.exit _, _, _, h3, ha, fun Q' h => ⟨v, w3, hret, r, h1, h2, by rw [hp]; exact h⟩⟩
theorem U0 : ∀ (c : Code) (Q : Exit -> Env -> atO -> Prop) (g : Env) (w : atO), jK P ann c Q g w →
 ∃ e g' w', Q e g' w' /\ qJ (Pz c) g g' /\ ∀ Q' : Exit -> Env -> atO -> Prop, Q' e g' w' -> jK P ann c Q' g w := by
 intro c
 induction c with
 | skip => intro Q g w h; exact ⟨_, _, _, h, qJ.refl _ _, fun _ h => h⟩
 | region id ops draw =>
   intro Q g w h
   cases draw with
   | false =>
     obtain ⟨g', w', a, b, c⟩ := Zi _ _ _ h
     exact ⟨.normal, g', w', a, b, fun Q' h => c _ h⟩
   | true =>
     obtain ⟨g', w', a, b, c⟩ := agH _ _ h
     exact ⟨.normal, g', w', a, b, fun Q' h => c _ h⟩
 | seq x y ihx ihy =>
   intro Q g w h
   obtain ⟨e, g1, w1, a, b, c⟩ := ihx _ _ _ h
   cases e with
   | normal =>
     obtain ⟨e2, g2, w2, a2, b2, c2⟩ := ihy _ _ _ a
     exact ⟨e2, g2, w2, a2, b.trans b2 (fun s h => arH _ h) (fun s h => asA _ h), fun Q' h => c _ (c2 _ h)⟩
   | _ => exact ⟨_, g1, w1, a, b.mono (fun s h => arH _ h), fun Q' h => c _ h⟩
 | cond c x y ihx ihy =>
   intro Q g w h
   simp only [jK] at h ⊢
   unfold mX at h ⊢
   cases hc : ev g c with
   | bool b =>
     rw [hc] at h
     cases b with
     | true =>
       obtain ⟨e, g', w', a, b, c⟩ := ihx _ _ _ h
       exact ⟨e, g', w', a, b.mono (fun s h => arH _ h), c⟩
     | false =>
       obtain ⟨e, g', w', a, b, c⟩ := ihy _ _ _ h
       exact ⟨e, g', w', a, b.mono (fun s h => asA _ h), c⟩
   | _ => rw [hc] at h; exact h.elim
 | block id c ih =>
   intro Q g w h
   obtain ⟨e, g', w', a, b, c⟩ := ih _ _ _ h
   cases e with
   | exit i =>
     simp only [blk] at a
     cases hb : Nat.beq i id with
     | true =>
       simp only [hb] at a
       refine ⟨.normal, g', w', a, b, fun Q' h => c _ ?_⟩
       simp only [blk, hb]; exact h
     | false =>
       simp only [hb] at a
       refine ⟨.exit i, g', w', a, b, fun Q' h => c _ ?_⟩
       simp only [blk, hb]; exact h
   | _ => exact ⟨_, g', w', a, b, fun Q' h => c _ h⟩
 | loop c ih =>
   intro Q g w h
   have hmono : ∀ (Q : Exit -> Env -> atO -> Prop) (X Y : Env -> atO -> Prop) g w, (∀ g w, X g w -> Y g w) -> jK P ann c (C7 X Q) g w -> jK P ann c (C7 Y Q) g w := by
    intro Q X Y g w hxy h
    obtain ⟨e, g', w', a, _, k⟩ := ih _ _ _ h
    refine k _ ?_
    cases e with
    | normal => exact hxy _ _ a
    | _ => exact a
   obtain ⟨I, ⟨n, h0⟩, hI⟩ := h
   have key : ∀ n g w, I n g w -> ∃ e g' w', Q e g' w' /\ qJ (Pz c) g g' /\ ∀ Q' : Exit -> Env -> atO -> Prop, Q' e g' w' -> kE (fun X g w => jK P ann c (C7 X Q') g w) g w := by
    intro n
    induction n using Nat.strongRecOn with
    | _ n ih2 =>
      intro g w hg
      obtain ⟨e, g1, w1, a, b, k⟩ := ih _ _ _ (hI n g w hg)
      have once : ∀ (Q' : Exit -> Env -> atO -> Prop), (∀ X : Env -> atO -> Prop, jK P ann c (C7 X Q') g w) -> kE (fun X g w => jK P ann c (C7 X Q') g w) g w := by
       intro Q' h
       refine ⟨fun n g' w' => g' = g /\ w' = w, ⟨0, rfl, rfl⟩, ?_⟩
       rintro _ g' w' ⟨rfl, rfl⟩
       exact h _
      cases e with
      | normal =>
        obtain ⟨m, hm, hIm⟩ := a
        obtain ⟨e2, g2, w2, a2, b2, k2⟩ := ih2 m hm g1 w1 hIm
        refine ⟨e2, g2, w2, a2, b.trans b2 (fun _ h => h) (fun _ h => h), fun Q' h => ?_⟩
        have hl := k2 Q' h
        exact kE.head (hmono Q') (k _ hl) ⟨g1, w1, hl, fun X hx => k _ hx⟩
      | _ => exact ⟨_, g1, w1, a, b, fun Q' h => once Q' fun X => k _ h⟩
   exact key n g w h0
 | exit id => intro Q g w h; exact ⟨_, _, _, h, qJ.refl _ _, fun _ h => h⟩
 | label l => intro Q g w h; exact ⟨_, _, _, h, qJ.refl _ _, fun _ h => h⟩
 | scope c ih => intro Q g w h; exact ih Q g w h
 | ret => intro Q g w h; exact ⟨_, _, _, h, qJ.refl _ _, fun _ h => h⟩
 | rangeFunc gf ps aoA bd => intro Q g w h; exact akW h
 | _ => intro Q g w h; exact h.elim
theorem Gm {c : Code} {Q Q' : Exit -> Env -> atO -> Prop} {g : Env} {w : atO} (h : jK P ann c Q g w)
 (hq : ∀ e g' w', qJ (Pz c) g g' -> Q e g' w' -> Q' e g' w') : jK P ann c Q' g w :=
 let ⟨_, _, _, a, b, k⟩ := U0 c Q g w h
 k _ (hq _ _ _ b a)
def noG (Q : Exit -> Env -> atO -> Prop) : Exit -> Env -> atO -> Prop
 | .goto _, _, _ => False
 | e, g, w => Q e g w
theorem YW : ∀ (c : Code) (Q : Exit -> Env -> atO -> Prop) (g : Env) (w : atO), jK P ann c Q g w -> jK P ann c (noG Q) g w := by
 intro c
 induction c with
 | skip => intro Q g w h; exact h
 | region id ops draw => intro Q g w h; cases draw <;> exact h
 | seq x y ihx ihy =>
   intro Q g w h
   show jK P ann x (C7 (fun g w => jK P ann y (noG Q) g w) (noG Q)) g w
   refine Gm (ihx _ _ _ h) (fun e g' w' _ hq => ?_)
   cases e with
   | normal => exact ihy _ _ _ hq
   | goto l => exact hq.elim
   | _ => exact hq
 | cond c x y ihx ihy =>
   intro Q g w h
   simp only [jK] at h ⊢
   unfold mX at h ⊢
   cases hc : ev g c with
   | bool b =>
     rw [hc] at h
     cases b with
     | true => exact ihx _ _ _ h
     | false => exact ihy _ _ _ h
   | _ => rw [hc] at h; exact h.elim
 | block id c ih =>
   intro Q g w h
   show jK P ann c (blk id (noG Q)) g w
   refine Gm (ih _ _ _ h) (fun e g' w' _ hq => ?_)
   cases e with
   | exit i =>
     simp only [noG, blk] at hq ⊢
     cases hb : Nat.beq i id with
     | true => rw [hb] at hq; exact hq
     | false => rw [hb] at hq; exact hq
   | goto l => exact hq.elim
   | _ => exact hq
 | loop c ih =>
   intro Q g w h
   obtain ⟨I, h0, hI⟩ := h
   refine ⟨I, h0, fun n g w hi => ?_⟩
   refine Gm (ih _ _ _ (hI n g w hi)) (fun e g' w' _ hq => ?_)
   cases e with
   | normal => exact hq
   | goto l => exact hq.elim
   | _ => exact hq
 | exit id => intro Q g w h; exact h
 | label l => intro Q g w h; exact h
 | scope c ih => intro Q g w h; exact ih Q g w h
 | ret => intro Q g w h; exact h
 | rangeFunc gf ps aoA bd =>
   intro Q g w h
   have h : RF P ann.f gf ps aoA bd Q g w := h
   show RF P ann.f gf ps aoA bd (noG Q) g w
   unfold RF at h ⊢
   cases hn : noMark (g DS) with
   | false => rw [hn] at h; exact h.elim
   | true =>
     rw [hn] at h
     simp only at h ⊢
     generalize (Cq (ev g gf) [Iq (w.heap.size + 1)]).run P (rfW ann.f (Tu P ann.f) ps aoA bd g w) = r at *
     match r, h with
     | .ok (.enter f2 args) w1, h =>
       obtain ⟨v, w3, hret, r, h1, h2, h3⟩ := h
       refine ⟨v, w3, hret, r, h1, h2, ?_⟩
       cases hp : r.pending with
       | none => rw [hp] at h3; exact h3
       | some c => rw [hp] at h3; cases c <;> exact h3
 | _ => intro Q g w h; exact h.elim
theorem VJ {N : Nat} {g : Env} {a : Act} (h : NT N g a) : a.tmps = tmpsOf N g := by
 refine Array.ext (by simp [tmpsOf, h.size]) fun i h1 h2 => ?_
 have hi : i < N := by rw [<- h.size]; exact h1
 have := h.at_ i (Nat.ne_of_lt (arL hi h.le))
 rw [aoO, aoW h1] at this
 simp [tmpsOf] at this ⊢
 exact this
theorem afZ {v : atP} (h : noMark v = true) : YF v = [] := by cases v <;> first | rfl | cases h
theorem TW {N : Nat} (hm : P.follows .mixedOrders = true) {ro : Option Nat} (hN : Tu P ann.f = N) : ∀ (c : Code), codeOk P N ann c = true -> ro = none ∨ vN c = true →
 ∀ (Q : Exit -> Env -> atO -> Prop) (QA : Exit -> Act -> atO -> Prop) (g : Env) (a : Act) (w : atO), NT N g a →
   (∀ e g a w, NT N g a -> Q e g w -> QA e a w) -> jK P ann c Q g w -> VU P ann.f ro c QA a w := by
 intro c
 induction c with
 | skip => intro _ _ Q QA g a w hr hq h; exact aeF (hq _ _ _ _ hr h)
 | region id ops draw =>
   intro hok _ Q QA g a w hr hq h
   simp only [codeOk, aoQ, aqQ, aqV] at hok
   have hd := Tl hok.1.1
   have hca := Vq hok.1.2
   cases draw with
   | false =>
     refine YP ?_
     have := abC hd hca (P := P) (Q := QA .normal) (K := Q .normal) (fun g a w => hq .normal g a w) ops.toList 0 g a w (fun j => by simp) hr h
     rw [List.range_eq_range']
     simpa using this
   | true =>
     rcases hok.2 with h1 | h1
     .cases h1
     .exact UL hm (Zb hd hca (fun g a w => hq .normal g a w) hr _ [] h1 (by simp) h)
 | seq x y ihx ihy =>
   intro hok hfl Q QA g a w hr hq h
   simp only [codeOk, aoQ] at hok
   have hfx : ro = none ∨ vN x = true := hfl.imp id fun h => by simp only [vN, aoQ] at h; exact h.1
   have hfy : ro = none ∨ vN y = true := hfl.imp id fun h => by simp only [vN, aoQ] at h; exact h.2
   refine ahU (ihx hok.1 hfx _ _ g a w hr (fun e g a w hr h => ?_) h)
   cases e with
   | normal => exact ihy hok.2 hfy _ _ g a w hr hq h
   | _ => exact hq _ _ _ _ hr h
 | cond c x y ihx ihy =>
   intro hok hfl Q QA g a w hr hq h
   simp only [codeOk, aoQ] at hok
   have hfx : ro = none ∨ vN x = true := hfl.imp id fun h => by simp only [vN, aoQ] at h; exact h.1
   have hfy : ro = none ∨ vN y = true := hfl.imp id fun h => by simp only [vN, aoQ] at h; exact h.2
   simp only [jK] at h
   unfold mX at h
   have he := hr.ev c hok.1
   cases hc : ev g c with
   | bool b =>
     rw [hc] at h he
     refine adK he ?_
     cases b with
     | true => exact ihx hok.2.1 hfx _ _ g a w hr hq h
     | false => exact ihy hok.2.2 hfy _ _ g a w hr hq h
   | _ => rw [hc] at h; exact h.elim
 | block id c ih =>
   intro hok hfl Q QA g a w hr hq h
   refine abG (ih hok hfl _ _ g a w hr (fun e g a w hr h => ?_) h)
   cases e with
   | exit i =>
     unfold Exit.inBlock
     simp only [blk] at h
     by_cases hi : i = id
     .subst hi
      simp only [if_true]
      simp only [Nat.beq_refl] at h
      exact hq _ _ _ _ hr h
     .simp only [hi, if_false]
      have : Nat.beq i id = false := by
       cases hb : Nat.beq i id
       .rfl
       .exact absurd (apH hb) hi
      simp only [this] at h
      exact hq _ _ _ _ hr h
   | _ => exact hq _ _ _ _ hr h
 | loop c ih =>
   intro hok hfl Q QA g a w hr hq h
   obtain ⟨I, h0, hround⟩ := h
   have hex : ∀ a w, (∃ n g, NT N g a /\ I n g w) -> ∃ n, (∃ g, NT N g a /\ I n g w) /\ ∀ m, (∃ g, NT N g a /\ I m g w) -> n <= m := by
    rintro a w ⟨n, hn⟩
    induction n using Nat.strongRecOn with
    | _ n ih2 =>
      by_cases hx : ∃ m, m < n /\ ∃ g, NT N g a /\ I m g w
      .obtain ⟨m, hm, h⟩ := hx; exact ih2 m hm h
      .exact ⟨n, hn, fun m hm => Nat.le_of_not_lt fun hlt => hx ⟨m, hlt, hm⟩⟩
   have hdec : ∀ a w, Decidable (∃ n g, NT N g a /\ I n g w) := fun a w => Classical.propDecidable _
   let μ : Act -> atO -> Nat := fun a w => if hh : ∃ n g, NT N g a /\ I n g w then Classical.choose (hex a w hh) else 0
   have hμ : ∀ a w n g, NT N g a -> I n g w -> μ a w <= n /\ ∃ g, NT N g a /\ I (μ a w) g w := by
    intro a w n g hr hI
    have hh : ∃ n g, NT N g a /\ I n g w := ⟨n, g, hr, hI⟩
    have e : μ a w = Classical.choose (hex a w hh) := dif_pos hh
    have s := Classical.choose_spec (hex a w hh)
    rw [e]
    exact ⟨s.2 n ⟨g, hr, hI⟩, s.1⟩
   obtain ⟨n0, h0⟩ := h0
   refine adC (fun a w => ∃ n g, NT N g a /\ I n g w) μ ⟨n0, g, hr, h0⟩ ?_
   rintro a w ⟨n, g, hr, hI⟩
   obtain ⟨_, g', hr', hI'⟩ := hμ a w n g hr hI
   refine ih hok hfl _ _ g' a w hr' (fun e g1 a1 w1 hr1 h => ?_) (hround _ _ _ hI')
   cases e with
   | normal =>
     obtain ⟨m, hm, hIm⟩ := h
     have := hμ a1 w1 m g1 hr1 hIm
     exact ⟨⟨m, g1, hr1, hIm⟩, by omega⟩
   | _ => exact hq _ _ _ _ hr1 h
 | label l => intro _ _ Q QA g a w hr hq h; exact aaW (hq _ _ _ _ hr h)
 | scope c ih =>
   intro hok hfl Q QA g a w hr hq h
   refine abM (ih hok hfl (noG Q) _ g a w hr (fun e g a w hr h => ?_) (YW c _ g w h))
   cases e with
   | goto l => exact h.elim
   | _ => exact hq _ _ _ _ hr h
 | exit id => intro _ _ Q QA g a w hr hq h; exact Xz (hq _ _ _ _ hr h)
 | ret => intro _ _ Q QA g a w hr hq h; exact ZX (hq _ _ _ _ hr h)
 | rangeFunc gf ps aoA bd =>
   intro hok hfl Q QA g a w hr hq h
   have hro : ro = none := hfl.resolve_right (by simp [vN])
   subst hro
   have hok : Wq gf = true := hok
   have h : RF P ann.f gf ps aoA bd Q g w := h
   unfold RF at h
   cases hn : noMark (g DS) with
   | false => rw [hn] at h; exact h.elim
   | true =>
     rw [hn] at h
     simp only [hN] at h
     have ed : a.defers = [] := by rw [hr.defers, afZ hn]
     have er := run_enterLoop_outer (P := P) (w := w) ann.f a.tmps ps aoA bd
     rw [VJ hr] at er
     have er : (Instr.enterLoop ann.f a.tmps ps aoA bd none).run P w = .ok (w.heap.size + 1, [{ target := .collected w.heap.size, args := #[] }]) (rfW ann.f N ps aoA bd g w) := by rw [VJ hr]; exact er
     generalize rfW ann.f N ps aoA bd g w = w1 at *
     have ee := hr.ev gf hok
     unfold Cq at h
     have hres : resolve a.eval (rangeCall gf (w.heap.size + 1)) 0 = Deferred.ofValue (ev g gf) #[Iq (w.heap.size + 1)] := by
      have : resolve a.eval (rangeCall gf (w.heap.size + 1)) 0 = Deferred.ofValue (a.eval gf) #[Iq (w.heap.size + 1)] := by
       simp only [resolve, List.map_toArray, apJ, atL]; rfl
      rw [this, ee]
     rw [show ([Iq (w.heap.size + 1)] : List atP).toArray = #[Iq (w.heap.size + 1)] from rfl, <- hres, Sem.run_bind] at h
     cases hv : (resolve a.eval (rangeCall gf (w.heap.size + 1)) 0).run P w1 with
     | halt x wx => rw [hv] at h; exact h.elim
     | ok d wx =>
       have hwx : wx = w1 := by
        rw [hres] at hv
        unfold Deferred.ofValue at hv
        split at hv <;> first | (simp only [Sem.run_pure] at hv; cases hv; rfl) | (simp [stuck] at hv)
       subst hwx
       rw [hv] at h
       simp only [Result.andThen] at h
       cases hi : (invoke d.target d.args).run P wx with
       | halt x w2 => rw [hi] at h; exact h.elim
       | ok nx w2 =>
         rw [hi] at h
         cases nx <;> try (exact h.elim)
         obtain ⟨v, w3, hret, r, h1, h2, h3⟩ := h
         have hrel : ∀ w, NT N (put g (some DS) (.pointer (some ⟨w, 0, none⟩))) { a with defers := [{ target := .collected w, args := #[] }] ++ a.defers } := fun w => by
          refine ⟨hr.le, ?_, hr.size, fun i hi => ?_⟩
          .rw [KX, if_pos rfl, ed] <;> rfl
          .rw [KX, if_neg hi]; exact hr.at_ i hi
         have key : ∀ (j : Option Code) (w5 : atO), akC Q (put g (some DS) (.pointer (some ⟨w.heap.size, 0, none⟩))) j w5 →
             aiS P ann.f QA { a with defers := [{ target := .collected w.heap.size, args := #[] }] ++ a.defers } w5 j := by
          intro j w5 h
          cases j with
          | none => exact hq _ _ _ _ (hrel _) h
          | some c =>
            cases c <;> first
             | exact h.elim
             | exact ZX (hq _ _ _ _ (hrel _) h)
             | exact Xz (hq _ _ _ _ (hrel _) h)
         exact aaS er hv hi hret (run_endLoop h1 h2) (key _ _ h3)
 | _ => intro hok; simp [codeOk] at hok
def uE (P : Program) : List ResultVar -> Env -> atO -> (List atP -> Prop) -> Prop
 | [], _, _, K => K []
 | .tmp t :: r, g, w, K => uE P r g w fun vs => K (g t :: vs)
 | .cell a t :: r, g, w, K => ∃ v, (do loadVar t (<- asAddr (g a)) : Sem atP).run P w = .ok v w /\ uE P r g w fun vs => K (v :: vs)
def VY : List atP -> atP
 | [v] => v
 | vs => .tuple vs.toArray
def alA (P : Program) (rs : List ResultVar) (R : atP -> atO -> Prop) : Exit -> Env -> atO -> Prop
 | .normal, g, w => uE P rs g w fun vs => R (VY vs) w
 | .ret, g, w => uE P rs g w fun vs => R (VY vs) w
 | _, _, _ => False
theorem Yu {N : Nat} {g : Env} {a : Act} {w : atO} (hr : NT N g a) : ∀ (rs : List ResultVar), rs.all WH = true -> ∀ (K : List atP -> Prop), uE P rs g w K →
 ∃ vs, K vs /\ (rs.mapM fun | .tmp t => pure (a.tmps.getD t undef) | .cell b t => do loadVar t (<- asAddr (a.tmps.getD b undef)) : Sem (List atP)).run P w = .ok vs w := by
 have ne : ∀ t : Nat, Nat.blt t DS = true -> a.tmps.getD t undef = g t := fun t h => hr.at_ t (Nat.ne_of_lt ((arU (x := t) (y := DS)) ▸ h))
 intro rs
 induction rs with
 | nil => intro _ K h; exact ⟨[], h, by simp⟩
 | cons r rs ih =>
   intro hok K h
   simp only [List.all_cons, aoQ] at hok
   cases r with
   | tmp t =>
     obtain ⟨vs, h1, h2⟩ := ih hok.2 _ h
     refine ⟨_, h1, ?_⟩
     rw [List.mapM_cons]
     rw [pure_bind, Sem.run_bind]
     simp only [h2, Result.andThen, Sem.run_pure, ne t hok.1]
   | cell b t =>
     obtain ⟨v, hv, h⟩ := h
     obtain ⟨vs, h1, h2⟩ := ih hok.2 _ h
     refine ⟨_, h1, ?_⟩
     rw [List.mapM_cons]
     rw [<- ne b hok.1] at hv
     rw [Sem.run_bind]
     simp only [hv, Result.andThen]
     rw [Sem.run_bind]
     simp only [h2, Result.andThen]
     rfl
theorem ajQ (vs : Array atP) : (if h : vs.size = 1 then vs[0] else Value.tuple vs) = VY vs.toList := by
 obtain ⟨l⟩ := vs
 match l with
 | [] => rfl
 | [v] => rfl
 | a :: b :: r => simp [VY]
theorem Yx {N : Nat} {g : Env} {a : Act} {w : atO} (fn : Func) {rs : List ResultVar} (hok : rs.all WH = true) (hrs : fn.results = rs.toArray) (hr : NT N g a) {R : atP -> atO -> Prop}
 (h : uE P rs g w fun vs => R (VY vs) w) : ∃ v, (results fn a.tmps).run P w = .ok v w /\ R v w := by
 obtain ⟨vs, h1, h2⟩ := Yu hr rs hok _ h
 refine ⟨VY vs, ?_, h1⟩
 unfold results
 rw [hrs, Array.mapM_eq_mapM_toList, List.toList_toArray]
 simp only [bind_assoc, map_eq_pure_bind]
 rw [Sem.run_bind]
 refine Eq.trans (congrArg (fun r => Result.andThen r _) h2) ?_
 simp only [Result.andThen]
 simp only [pure_bind, Sem.run_pure, ajQ]
def Up (args : List atP) : Env := fun i => args.getD i undef
def ajC (P : Program) (rs : List ResultVar) (R : atP -> atO -> Prop) : Exit -> Env -> atO -> Prop
 | .normal, g, w => Ey (g DS) w fun w => uE P rs g w fun vs => R (VY vs) w
 | .ret, g, w => Ey (g DS) w fun w => uE P rs g w fun vs => R (VY vs) w
 | _, _, _ => False
theorem XP {g : Env} {w : atO} : ∀ (rs : List ResultVar) (K : List atP -> Prop), uE P rs g w K -> ∃ vs, K vs /\ ∀ K' : List atP -> Prop, K' vs -> uE P rs g w K' := by
 intro rs
 induction rs with
 | nil => intro K h; exact ⟨_, h, fun _ h => h⟩
 | cons r rs ih =>
   intro K h
   cases r with
   | tmp t =>
     obtain ⟨vs, a, b⟩ := ih _ h
     exact ⟨_, a, fun K' h => b _ h⟩
   | cell b t =>
     obtain ⟨v, hv, h⟩ := h
     obtain ⟨vs, a, b⟩ := ih _ h
     exact ⟨_, a, fun K' h => ⟨v, hv, b _ h⟩⟩
theorem Wn {v : atP} {w : atO} {K : atO -> Prop} (h : Ey v w K) : ∃ w', K w' /\ ∀ K' : atO -> Prop, K' w' -> Ey v w K' := by
 cases v with
 | pointer p =>
   cases p with
   | none => exact ⟨_, h, fun _ h => h⟩
   | some a => exact ⟨_, h.2, fun _ h' => ⟨h.1, h'⟩⟩
 | _ => exact ⟨_, h, fun _ h => h⟩
theorem Zj {v : atP} {w : atO} {K K' : atO -> Prop} (h : Ey v w K) (hk : ∀ w, K w -> K' w) : Ey v w K' :=
 let ⟨w', a, b⟩ := Wn h; b _ (hk w' a)
theorem X5 {args : List atP} {N i : Nat} (hle : args.length <= N) (hi : N <= i) : Up args i = undef := by
 unfold Up
 rw [aoN, aoS (by omega)] <;> rfl
theorem SY {f : FuncId} {fn : Func} {c : Code} {args : List atP} {w : atO} {rs : List ResultVar} {R : atP -> atO -> Prop} (hm : P.follows .mixedOrders = true) (hAf : ann.f = f)
 (hf : P.funcs[f]? = some fn) (hb : fn.body = some c) (hrs : fn.results = rs.toArray) {N : Nat} (hN : fn.ntmps = N) (hle : args.length <= N)
 (hok : codeOk P N ann c = true) (hro : rs.all WH = true) (hND : Nat.ble N DS = true) (h : jK P ann c (ajC P rs R) (Up args) w) : jD P f args.toArray w R := by
 obtain ⟨e, g', w', hq, _, hall⟩ := U0 _ _ _ _ h
 have hND := arC hND
 have hNt : Tu P ann.f = N := by unfold Tu; rw [hAf, hf]; exact hN
 have hrv : Ey (g' DS) w' fun w => uE P rs g' w fun vs => R (VY vs) w := by cases e <;> first | exact hq | exact hq.elim
 obtain ⟨w2, hrv2, hsh⟩ := Wn hrv
 obtain ⟨vs, hv, hrest⟩ := XP _ _ hrv2
 refine ⟨VY vs, w2, ?_, hv⟩
 have hrel : NT N (Up args) { tmps := args.toArray ++ Array.replicate (fn.ntmps - args.toArray.size) undef, defers := [] } := by
  refine ⟨hND, by rw [X5 hle hND] <;> rfl, by simp [hN]; omega, fun i _ => ?_⟩
  simp only [Up, aoO, aoN]
  by_cases hi : i < args.length
  .simp [Array.getElem?_append, hi]
  .simp only [Array.getElem?_append, List.size_toArray, hi, if_false, Array.getElem?_replicate]
   rw [aoS (by omega)]
   split <;> rfl
 have key := Xp (P := P) (f := f) hf hb (R := fun v3 w3 => v3 = VY vs /\ w3 = w2) (args := args.toArray) (w := w)
  (hAf ▸ TW hm hNt c hok (.inl rfl) (ajC P rs fun v3 w3 => v3 = VY vs /\ w3 = w2) _ _ _ _ hrel (fun e g a w hr h => ?_) (hall _ ?_))
 .refine Calls.mono key ?_
  rintro e w3 ⟨v, rfl, rfl, rfl⟩
  exact ⟨rfl, rfl⟩
 .have hx : ∀ {w}, (Ey (g DS) w fun w => uE P rs g w fun vs' => VY vs' = VY vs /\ w = w2) -> ∃ m, a.defers = YF m /\ Ey m w fun w' => ∃ v, (results fn a.tmps).run P w' = .ok v w' /\ (v = VY vs /\ w' = w2) := by
   intro w h
   exact ⟨_, hr.defers, Zj h fun w h => Yx fn hro hrs hr (R := fun v3 w3 => v3 = VY vs /\ w3 = w2) h⟩
  cases e with
  | normal => exact hx h
  | ret => exact hx h
  | _ => exact h.elim
 .have := hsh (fun w => uE P rs g' w fun vs' => VY vs' = VY vs /\ w = w2) (hrest _ ⟨rfl, rfl⟩)
  cases e <;> first | exact this | exact hq.elim
theorem aiJ {N : Nat} : ∀ (c : Code), codeOk P N ann c = true -> vN c = true -> ∀ s ∈ Pz c, s < N := by
 intro c
 induction c with
 | region id ops draw =>
   intro hok _ s hs
   simp only [codeOk, aoQ] at hok
   obtain ⟨o, h1, h2⟩ := I7.1 hs
   obtain ⟨i, hi, rfl⟩ := aqF h1
   exact Tl hok.1.1 i _ (by simp at hi ⊢) s h2
 | seq x y ihx ihy =>
   intro hok hfl s hs
   simp only [codeOk, vN, aoQ] at hok hfl
   rcases aqJ.1 hs with hs | hs
   .exact ihx hok.1 hfl.1 s hs
   .exact ihy hok.2 hfl.2 s hs
 | cond c x y ihx ihy =>
   intro hok hfl s hs
   simp only [codeOk, vN, aoQ] at hok hfl
   rcases aqJ.1 hs with hs | hs
   .exact ihx hok.2.1 hfl.1 s hs
   .exact ihy hok.2.2 hfl.2 s hs
 | block id c ih => intro hok hfl s hs; exact ih hok hfl s hs
 | loop c ih => intro hok hfl s hs; exact ih hok hfl s hs
 | scope c ih => intro hok hfl s hs; exact ih hok hfl s hs
 | rangeFunc => intro _ hfl; simp [vN] at hfl
 | _ => intro _ _ s hs; simp [Pz] at hs
theorem Yo {f : FuncId} {fn : Func} {c : Code} {args : List atP} {w : atO} {rs : List ResultVar} {R : atP -> atO -> Prop} (hm : P.follows .mixedOrders = true) (hAf : ann.f = f)
 (hf : P.funcs[f]? = some fn) (hb : fn.body = some c) (hrs : fn.results = rs.toArray) {N : Nat} (hN : fn.ntmps = N) (hle : args.length <= N)
 (hok : codeOk P N ann c = true) (hro : rs.all WH = true) (hND : Nat.ble N DS = true) (hfl : vN c = true) (h : jK P ann c (alA P rs R) (Up args) w) : jD P f args.toArray w R := by
 refine SY hm hAf hf hb hrs hN hle hok hro hND (Gm h fun e g' w' ha hq => ?_)
 have hND := arC hND
 have : g' DS = undef := by
  rw [ha DS (fun hd => absurd (aiJ c hok hfl DS hd) (Nat.not_lt.2 hND)), X5 hle hND]
 cases e with
 | normal => show Ey (g' DS) w' (fun w => uE P rs g' w fun vs => R (VY vs) w); rw [this]; exact hq
 | ret => show Ey (g' DS) w' (fun w => uE P rs g' w fun vs => R (VY vs) w); rw [this]; exact hq
 | _ => exact hq.elim
def MV (tmps : Array atP) : Env := fun i => tmps.getD i undef
def Xh (l : Nat) (R : atP -> atO -> Prop) : Exit -> Env -> atO -> Prop
 | .normal, _, w => ∃ r : Loop, w.heap[l]? = some (.loop r) /\ R (.bool true) (w.putObj l (.loop { r with state := .ready, pending := none }))
 | .ret, _, w => ∃ r : Loop, w.heap[l]? = some (.loop r) /\ R (.bool false) (w.putObj l (.loop { r with state := .done, pending := some .ret }))
 | .exit i, _, w => ∃ r : Loop, w.heap[l]? = some (.loop r) /\ R (.bool false) (w.putObj l (.loop { r with state := .done, pending := some (.exit i) }))
 | _, _, _ => False
def asQ (P : Program) (ann : FA) (l : Nat) (bd : Code) (R : atP -> atO -> Prop) : Exit -> Env -> atO -> Prop
 | .normal, g, w => ∃ r : Loop, w.heap[l]? = some (.loop r) /\ r.state = .ready /\ jK P ann bd (Xh l R) g (w.putObj l (.loop { r with state := .busy }))
 | _, _, _ => False
theorem Xi {f : FuncId} {l : Nat} {tmps : Array atP} {aoA bd : Code} {w : atO} {R : atP -> atO -> Prop} (hm : P.follows .mixedOrders = true) (hAf : ann.f = f) {N : Nat} (hN : Tu P f = N) (hND : Nat.ble N DS = true)
 (hsz : tmps.size = N) (hok1 : codeOk P N ann aoA = true) (hf1 : vN aoA = true) (hok2 : codeOk P N ann bd = true) (hf2 : vN bd = true)
 (h : jK P ann aoA (asQ P ann l bd R) (MV tmps) w) : Wj P l f tmps aoA bd w R := by
 subst hAf
 have hND := arC hND
 obtain ⟨e, g1, w1, hq, ha, hall⟩ := U0 _ _ _ _ h
 cases e with
 | normal =>
   obtain ⟨r, h1, h2, hd⟩ := hq
   obtain ⟨e2, g2, w2, hq2, ha2, hall2⟩ := U0 _ _ _ _ hd
   have hx : ∃ v w4, R v w4 /\ ∀ R' : atP -> atO -> Prop, R' v w4 -> Xh l R' e2 g2 w2 := by
    cases e2 with
    | normal => obtain ⟨r2, k1, k2⟩ := hq2; exact ⟨_, _, k2, fun R' h => ⟨r2, k1, h⟩⟩
    | ret => obtain ⟨r2, k1, k2⟩ := hq2; exact ⟨_, _, k2, fun R' h => ⟨r2, k1, h⟩⟩
    | exit i => obtain ⟨r2, k1, k2⟩ := hq2; exact ⟨_, _, k2, fun R' h => ⟨r2, k1, h⟩⟩
    | _ => exact hq2.elim
   obtain ⟨v, w4, hR, hrest⟩ := hx
   refine ⟨v, w4, ?_, hR⟩
   have hrel : NT N (MV tmps) { tmps := tmps, defers := [] } := by
    refine ⟨hND, ?_, hsz, fun i _ => rfl⟩
    have : MV tmps DS = undef := by unfold MV; rw [aoO, aqI (by omega)] <;> rfl
    rw [this] <;> rfl
   have key : RoundIn Fence.wide 0 P l ann.f tmps aoA bd w fun e w' => ∃ v', e = .returned v' /\ (v' = v /\ w' = w4) := by
    refine W9 (TW hm hN aoA hok1 (.inr hf1) (fun e g w => e = .normal /\ g = g1 /\ w = w1) _ _ _ _ hrel ?_ (hall _ ⟨rfl, rfl, rfl⟩))
    rintro e g a w hra ⟨rfl, rfl, rfl⟩
    refine ⟨_, run_beginRound h1 h2, TW hm hN bd hok2 (.inr hf2) (Xh l fun v' w' => v' = v /\ w' = w4) _ _ _ _ hra ?_ (hall2 _ (hrest _ ⟨rfl, rfl⟩))⟩
    intro e g a w _ h
    cases e with
    | normal => obtain ⟨r, k1, k2⟩ := h; exact ⟨_, _, run_endRound none k1, k2⟩
    | ret => obtain ⟨r, k1, k2⟩ := h; exact ⟨_, _, run_endRound (some .ret) k1, k2⟩
    | exit i => obtain ⟨r, k1, k2⟩ := h; exact ⟨_, _, run_endRound (some (.exit i)) k1, k2⟩
    | _ => exact h.elim
   refine RoundIn.mono key ?_
   rintro e w' ⟨v', rfl, rfl, rfl⟩
   exact ⟨rfl, rfl⟩
 | _ => exact hq.elim
theorem V3 {f : FuncId} {args : Array atP} {w : atO} {R : atP -> atO -> Prop} (h : jD P f args w R) :
 Calls P f args w fun e w' => ∃ v, e = .returned v /\ R v w' := by
 obtain ⟨v, w', hr, hR⟩ := h
 refine Calls.mono hr ?_
 rintro e w'' ⟨rfl, rfl⟩
 exact ⟨v, rfl, hR⟩
end
def sA : Code -> Code | .seq a _ => a | c => c
def cT : Code -> Code | .cond _ a _ => a | c => c
def cE : Code -> Code | .cond _ _ b => b | c => c
def bI : Code -> Code | .block _ c => c | .loop c => c | .scope c => c | c => c
def kB (f : Func) : Code := match f.body with | some c => c | none => .skip
def gS : Nat -> Code -> Code
 | 0, c => c
 | 1, c => sA c
 | n + 1, .seq a b => .seq a (gS n b)
 | _, c => c
def fV : Nat -> Code -> Code
 | 0, c => c
 | n + 1, .seq _ b => fV n b
 | _, c => c
def ZE : Nat -> Code -> Bool
 | 1, .seq _ _ => true
 | n + 1, .seq _ b => ZE n b
 | _, _ => false
def dr (w : atO) : atO := { w with drawn := w.drawn + 1 }
def UE (P : Program) (t : TypeId) (a : atP) (w : atO) (K : atP -> Prop) : Prop := ∃ v, (do loadVar t (<- asAddr a) : Sem atP).run P w = .ok v w /\ K v
def exL : List (Nat × (Env -> atO -> Prop)) -> Nat -> Env -> atO -> Prop
 | [], _, _, _ => False
 | (j, k) :: r, i, g, w => match Nat.beq i j with | true => k g w | false => exL r i g w
def exQ (kn kr : Env -> atO -> Prop) (l : List (Nat × (Env -> atO -> Prop))) : Exit -> Env -> atO -> Prop
 | .normal, g, w => kn g w
 | .ret, g, w => kr g w
 | .exit i, g, w => exL l i g w
 | _, _, _ => False
def Z7 (Q : Exit -> Env -> atO -> Prop) : List (Nat × (Env -> atO -> Prop)) -> Prop
 | [] => True
 | (i, k) :: r => (∀ g w, k g w -> Q (.exit i) g w) /\ Z7 Q r
def mJ (c a b : atP) : Sem Next := do pure (.value (if <- asBool c then a else b))
def pX (t : TypeId) : Sem Next := V (Instr.alloc t true (.tuple #[]))
def QM (t : TypeId) (x : atP) : Sem Next := V (Instr.box t x)
def jF (t : TypeId) (a : atP) : Sem Next := V (Instr.loadAt t a)
def kA (t : TypeId) (a x : atP) : Sem Next := U (Instr.storeAt t a x)
def rN (x : atP) : Sem Next := execOp (fun _ => x) ⟨none, .nilCheck (.tmp 0), 0, default, #[], none⟩
def YG (op : UnOp) (x : atP) : Sem Next := V (Op.unary op x)
def nS (s d : TypeId) (x : atP) : Sem Next := V (convert s d x)
def ahW (t : TypeId) (x : atP) : Sem Next := V (Instr.arrayAt t x)
def Vt (t : TypeId) (x : atP) : Sem Next := V (Instr.makeInterface t x)
def Tz (t : TypeId) (r : Option atP) : Sem Next := V (Instr.makeMap t r)
def uF (t : TypeId) (l c : atP) : Sem Next := V (Instr.makeSlice t l c)
def lR (t : TypeId) (x : atP) (lo hi mx : Option atP) : Sem Next := V (Instr.sliceAt t x lo hi mx)
def jJ (t : TypeId) (x : atP) (f : Nat) : Sem Next := V (Instr.fieldAt t x f)
def jO (t : TypeId) (x i : atP) : Sem Next := V (Instr.indexAt t x i)
def P8 (t : TypeId) (x i : atP) : Sem Next := V (Instr.index t x i)
def Yg (t : TypeId) (x i : atP) (ok : Bool) : Sem Next := V (Instr.lookup t x i ok)
def Vv (t : TypeId) (m k x : atP) : Sem Next := U (Instr.mapUpdate t m k x)
def jU (t : atP) (i : Nat) : Sem Next := V (Instr.extract t i)
section
variable {P : Program} {ann : FA}
theorem akH {Q : Exit -> Env -> atO -> Prop} : ∀ {l : List (Nat × (Env -> atO -> Prop))}, Z7 Q l -> ∀ {i : Nat} {g : Env} {w : atO}, exL l i g w -> Q (.exit i) g w := by
 intro l
 induction l with
 | nil => intro _ i g w h; exact h.elim
 | cons p r ih =>
   obtain ⟨j, k⟩ := p
   rintro ⟨h1, h2⟩ i g w h
   simp only [exL] at h
   cases hb : Nat.beq i j with
   | true =>
     simp only [hb] at h
     obtain rfl := apH hb
     exact h1 _ _ h
   | false => simp only [hb] at h; exact ih h2 h
theorem aiB {c : Code} {kn kr : Env -> atO -> Prop} {l : List (Nat × (Env -> atO -> Prop))} {Q : Exit -> Env -> atO -> Prop} {g : Env} {w : atO} {A : Prop}
 (e : A = jK P ann c (exQ kn kr l) g w) (h : A) (hn : ∀ g w, kn g w -> Q .normal g w) (hr : ∀ g w, kr g w -> Q .ret g w) (hl : Z7 Q l) : jK P ann c Q g w := by
 rw [e] at h
 refine Gm h (fun e g' w' _ hq => ?_)
 cases e with
 | normal => exact hn _ _ hq
 | ret => exact hr _ _ hq
 | exit i => exact akH hl hq
 | _ => exact hq.elim
theorem aaT {x y z : Code} {Q : Exit -> Env -> atO -> Prop} {g : Env} {w : atO} (h : jK P ann (.seq (.seq x y) z) Q g w) : jK P ann (.seq x (.seq y z)) Q g w := by
 show jK P ann x (C7 (fun g w => jK P ann y (C7 (fun g w => jK P ann z Q g w) Q) g w) Q) g w
 have h : jK P ann x (C7 (fun g w => jK P ann y (C7 (fun g w => jK P ann z Q g w) Q) g w) (C7 (fun g w => jK P ann z Q g w) Q)) g w := h
 refine Gm h (fun e g' w' _ hq => ?_)
 cases e <;> exact hq
theorem iB {K : Env -> atO -> Prop} {Q : Exit -> Env -> atO -> Prop} {g : Env} {w : atO} (h : K g w) : C7 K Q .normal g w := h
theorem acN {Q : Exit -> Env -> atO -> Prop} : ∀ (n : Nat) (c : Code) (g : Env) (w : atO), ZE n c = true -> jK P ann (.seq (gS n c) (fV n c)) Q g w -> jK P ann c Q g w := by
 intro n
 induction n with
 | zero => intro c g w h; simp [ZE] at h
 | succ n ih =>
   intro c g w h hd
   cases c with
   | seq a b =>
     cases n with
     | zero => exact hd
     | succ n =>
       have hb : ZE (n + 1) b = true := by simpa [ZE] using h
       have hd' : jK P ann (.seq (.seq a (gS (n + 1) b)) (fV (n + 1) b)) Q g w := hd
       have := aaT hd'
       show jK P ann a (C7 (fun g w => jK P ann b Q g w) Q) g w
       have h2 : jK P ann a (C7 (fun g w => jK P ann (.seq (gS (n + 1) b) (fV (n + 1) b)) Q g w) Q) g w := this
       refine Gm h2 (fun e g' w' _ hq => ?_)
       cases e with
       | normal => exact ih b g' w' hb hq
       | _ => exact hq
   | _ => cases n <;> simp [ZE] at h
def aiZ (id : Nat) : Code -> Bool | .block i _ => Nat.beq i id | _ => false
def adD : Code -> Bool | .loop _ => true | _ => false
def aeP : Code -> Option Operand | .cond o _ _ => some o | _ => none
theorem ahO {Q : Exit -> Env -> atO -> Prop} (id : Nat) (c : Code) (g : Env) (w : atO) (h : aiZ id c = true) (hd : jK P ann (bI c) (blk id Q) g w) : jK P ann c Q g w := by
 cases c with
 | block i c =>
   obtain rfl := apH (show Nat.beq i id = true from h)
   exact hd
 | _ => cases h
def aiT : Code -> Bool | .scope _ => true | _ => false
theorem ahJ {Q : Exit -> Env -> atO -> Prop} (c : Code) (g : Env) (w : atO) (h : aiT c = true) (hd : jK P ann (bI c) Q g w) : jK P ann c Q g w := by
 cases c with
 | scope c => exact hd
 | _ => cases h
theorem aiK {Q : Exit -> Env -> atO -> Prop} (o : Operand) (c : Code) (g : Env) (w : atO) (h : aeP c = some o)
 (hd : mX (ev g o) (jK P ann (cT c) Q g w) (jK P ann (cE c) Q g w)) : jK P ann c Q g w := by
 cases c with
 | cond o' a b => obtain rfl := apP h; exact hd
 | _ => cases h
theorem agF {v : atP} {A B A' B' : Prop} (ha : A -> A') (hb : B -> B') (h : mX v A B) : mX v A' B' := by
 unfold mX at *
 cases v with
 | bool b => cases b <;> first | exact ha h | exact hb h
 | _ => exact h
theorem afF {T : Type} (proj : Env -> T) (F : (T -> atO -> Prop) -> T -> atO -> Prop) {c : Code} {Q : Exit -> Env -> atO -> Prop} {g : Env} {w : atO}
 (hF : ∀ (X : T -> atO -> Prop) g' w', qJ (Pz c) g g' -> F X (proj g') w' -> jK P ann c (C7 (fun g'' w'' => X (proj g'') w'') Q) g' w')
 (h : kE F (proj g) w) : jK P ann (.loop c) Q g w := by
 obtain ⟨I, ⟨n, h0⟩, hI⟩ := h
 refine ⟨fun n g' w' => qJ (Pz c) g g' /\ I n (proj g') w', ⟨n, qJ.refl _ _, h0⟩, ?_⟩
 rintro n g' w' ⟨ha, hi⟩
 have := hF _ g' w' ha (hI n _ _ hi)
 refine Gm this (fun e g2 w2 ha2 hq => ?_)
 cases e with
 | normal =>
   obtain ⟨m, hm, hh⟩ := hq
   exact ⟨m, hm, ha.trans ha2 (fun _ h => h) (fun _ h => h), hh⟩
 | _ => exact hq
theorem abR {T : Type} (proj : Env -> T) (F : (T -> atO -> Prop) -> T -> atO -> Prop) (c : Code) {Q : Exit -> Env -> atO -> Prop} {g : Env} {w : atO} (hl : adD c = true)
 (h : kE F (proj g) w)
 (hF : ∀ (X : T -> atO -> Prop) g' w', qJ (Pz (bI c)) g g' -> F X (proj g') w' -> jK P ann (bI c) (C7 (fun g'' w'' => X (proj g'') w'') Q) g' w') : jK P ann c Q g w := by
 cases c with
 | loop c => exact afF proj F hF h
 | _ => cases hl
theorem YK {l : List Nat} {s : Nat} (hs : tK s l = false) : s ∉ l := by
 induction l with
 | nil => simp
 | cons a r ih =>
   unfold tK at hs
   cases hb : Nat.beq a s with
   | true => simp only [hb] at hs; cases hs
   | false =>
     simp only [hb] at hs
     intro hm
     rcases apZ.1 hm with e | hm
     .subst e; simp at hb
     .exact ih hs hm
theorem adX {l : List Nat} {g g' : Env} (h : qJ l g g') {s : Nat} (hs : tK s l = false) : g' s = g s := h s (YK hs)
def Qn (id : Nat) : Code -> Array Oper
 | .region i ops _ => match Nat.beq i id with | true => ops | false => #[]
 | .seq a b => match (Qn id a).size with | 0 => Qn id b | _ + 1 => Qn id a
 | .cond _ a b => match (Qn id a).size with | 0 => Qn id b | _ + 1 => Qn id a
 | .block _ c => Qn id c
 | .loop c => Qn id c
 | .scope c => Qn id c
 | _ => #[]
theorem adS {b : Bool} {A B : Prop} (ha : A) (hb : B) : Ord b A B := by cases b <;> assumption
theorem kE.rule {α : Type} {F : (α -> atO -> Prop) -> α -> atO -> Prop} (I : Nat -> α -> atO -> Prop) {g : α} {w : atO} (n : Nat) (h0 : I n g w)
 (hr : ∀ n g w, I n g w -> F (fun g' w' => ∃ m, m < n /\ I m g' w') g w) : kE F g w := ⟨I, ⟨n, h0⟩, hr⟩
theorem fZ (A B : Prop) : mX (.bool true) A B = A := Eq.trans rfl rfl
theorem fU (A B : Prop) : mX (.bool false) A B = B := Eq.trans rfl rfl
theorem gM (s : (atP -> atO -> Prop) -> Prop) (w : atO) (K : atP -> atO -> Prop) : Gd true s w K = s K := Eq.trans rfl rfl
theorem gI (s : (atP -> atO -> Prop) -> Prop) (w : atO) (K : atP -> atO -> Prop) : Gd false s w K = K undef w := Eq.trans rfl rfl
theorem gN (p : Prop) : Gs true p = p := Eq.trans rfl rfl
theorem gK (p : Prop) : Gs false p = True := Eq.trans rfl rfl
theorem gV : kP (.bool true) true = true := Eq.trans rfl rfl
theorem gU : kP (.bool true) false = false := Eq.trans rfl rfl
theorem gX : kP (.bool false) true = false := Eq.trans rfl rfl
theorem gT : kP (.bool false) false = true := Eq.trans rfl rfl
def iK : Operand := .tmp 0
theorem lM {c : Code} {kn kr : Env -> atO -> Prop} {l : List (Nat × (Env -> atO -> Prop))} {Q : Exit -> Env -> atO -> Prop} {g : Env} {w : atO} {A : Prop}
 (h : A) (hn : ∀ g w, kn g w -> Q .normal g w) (hr : ∀ g w, kr g w -> Q .ret g w) (hl : Z7 Q l) (e : A = jK P ann c (exQ kn kr l) g w := by kernel_rfl) : jK P ann c Q g w := aiB e h hn hr hl
theorem oB {Q : Exit -> Env -> atO -> Prop} (n : Nat) {c : Code} {g : Env} {w : atO}
 (hd : jK P ann (gS n c) (C7 (fun g w => jK P ann (fV n c) Q g w) Q) g w) (h : ZE n c = true := by kernel_rfl) : jK P ann c Q g w := acN n c g w h hd
theorem GV {Q : Exit -> Env -> atO -> Prop} (id : Nat) {c : Code} {g : Env} {w : atO} (hd : jK P ann (bI c) (blk id Q) g w) (h : aiZ id c = true := by kernel_rfl) : jK P ann c Q g w := ahO id c g w h hd
theorem scD {Q : Exit -> Env -> atO -> Prop} {c : Code} {g : Env} {w : atO} (hd : jK P ann (bI c) Q g w) (h : aiT c = true := by kernel_rfl) : jK P ann c Q g w := ahJ c g w h hd
theorem cdD {Q : Exit -> Env -> atO -> Prop} (o : Operand) {c : Code} {g : Env} {w : atO} {A B : Prop} (ha : A -> jK P ann (cT c) Q g w) (hb : B -> jK P ann (cE c) Q g w) (hd : mX (ev g o) A B) (h : aeP c = some o := by kernel_rfl) : jK P ann c Q g w :=
 aiK o c g w h (agF ha hb hd)
theorem MG {T : Type} (proj : Env -> T) (F : (T -> atO -> Prop) -> T -> atO -> Prop) {c : Code} {Q : Exit -> Env -> atO -> Prop} {g : Env} {w : atO}
 (h : kE F (proj g) w)
 (hF : ∀ (X : T -> atO -> Prop) g' w', qJ (Pz (bI c)) g g' -> F X (proj g') w' -> jK P ann (bI c) (C7 (fun g'' w'' => X (proj g'') w'') Q) g' w') (hl : adD c = true := by kernel_rfl) : jK P ann c Q g w := abR proj F c hl h hF
theorem qO {l : List Nat} {g g' : Env} (s : Nat) (h : qJ l g g') (hs : tK s l = false := by kernel_rfl) : g' s = g s := adX h hs
theorem Bp {ann : FA} (fn : Func) (c : Code) (args : List atP) (rs : List ResultVar) (N : Nat) {f : FuncId} {w : atO} {R : atP -> atO -> Prop} (hm : P.follows .mixedOrders = true)
 (hf : P.funcs[f]? = some fn) (h : jK P ann c (alA P rs R) (Up args) w) (hAf : ann.f = f := by kernel_rfl) (hb : fn.body = some c := by kernel_rfl) (hrs : fn.results = rs.toArray := by kernel_rfl) (hN : fn.ntmps = N := by kernel_rfl) (hle : Nat.ble args.length N = true := by kernel_rfl)
 (hok : codeOk P N ann c = true := by kernel_rfl) (hro : rs.all WH = true := by kernel_rfl) (hND : Nat.ble N DS = true := by kernel_rfl) (hfl : vN c = true := by kernel_rfl) : jD P f args.toArray w R :=
 Yo hm hAf hf hb hrs hN (arC hle) hok hro hND hfl h
def V2 : Code -> Option (Operand × Array Tmp × Code × Code)
 | .rangeFunc g ps aoA bd => some (g, ps, aoA, bd)
 | .seq a b => (match V2 a with | some r => some r | none => V2 b)
 | .cond _ a b => (match V2 a with | some r => some r | none => V2 b)
 | .block _ c => V2 c
 | .loop c => V2 c
 | .scope c => V2 c
 | _ => none
def agL (c : Code) : Array Tmp := match V2 c with | some (_, ps, _) => ps | none => #[]
def abE (c : Code) : Code := match V2 c with | some (_, _, aoA, _) => aoA | none => .skip
def YU (c : Code) : Code := match V2 c with | some (_, _, _, bd) => bd | none => .skip
def Rdy (l : Nat) (w : atO) (K : atO -> Prop) : Prop := ∃ r : Loop, w.heap[l]? = some (.loop r) /\ r.state = .ready /\ K (w.putObj l (.loop { r with state := .busy }))
def jSt : Option Code -> LoopState
 | none => .ready
 | some _ => .done
def XT (l : Nat) (j : Option Code) (R : atP -> atO -> Prop) (w : atO) : Prop :=
 ∃ r : Loop, w.heap[l]? = some (.loop r) /\ R (.bool j.isNone) (w.putObj l (.loop { r with state := jSt j, pending := j }))
def ajT : List ResultVar := []
theorem dsF {ann : FA} (fn : Func) (c : Code) (args : List atP) (rs : List ResultVar) (N : Nat) {f : FuncId} {w : atO} {R : atP -> atO -> Prop} (hm : P.follows .mixedOrders = true)
 (hf : P.funcs[f]? = some fn) (h : jK P ann c (ajC P rs R) (Up args) w) (hAf : ann.f = f := by kernel_rfl) (hb : fn.body = some c := by kernel_rfl) (hrs : fn.results = rs.toArray := by kernel_rfl) (hN : fn.ntmps = N := by kernel_rfl) (hle : Nat.ble args.length N = true := by kernel_rfl)
 (hok : codeOk P N ann c = true := by kernel_rfl) (hro : rs.all WH = true := by kernel_rfl) (hND : Nat.ble N DS = true := by kernel_rfl) : jD P f args.toArray w R :=
 SY hm hAf hf hb hrs hN (arC hle) hok hro hND h
theorem dsR {ann : FA} (N : Nat) {f : FuncId} {l : Nat} {tmps : Array atP} {aoA bd : Code} {w : atO} {R : atP -> atO -> Prop} (hm : P.follows .mixedOrders = true) (hsz : tmps.size = N)
 (h : jK P ann aoA (asQ P ann l bd R) (MV tmps) w) (hN : Tu P f = N) (hok1 : codeOk P N ann aoA = true) (hok2 : codeOk P N ann bd = true) (hAf : ann.f = f := by kernel_rfl) (hND : Nat.ble N DS = true := by kernel_rfl)
 (hf1 : vN aoA = true := by kernel_rfl) (hf2 : vN bd = true := by kernel_rfl) : Wj P l f tmps aoA bd w R :=
 Xi hm hAf hN hND hsz hok1 hf1 hok2 hf2 h
end
end Go.En
namespace Go.Proofs.YtoecppploooloaaGreatDoor
open Go Go.En
noncomputable abbrev pg : Program := Tryz.prog
theorem TryzM.mixed : pg.follows .mixedOrders = true := Tryz.checked.mixed
abbrev K0 := atO -> Prop
abbrev K1 := atP -> K0
abbrev K2 := atP -> K1
abbrev K3 := atP -> K2
abbrev K4 := atP -> K3
abbrev K5 := atP -> K4
abbrev K6 := atP -> K5
abbrev K7 := atP -> K6
abbrev K8 := atP -> K7
abbrev K9 := atP -> K8
abbrev K10 := atP -> K9
abbrev HR (rs : List ResultVar) (R : K1) (Q : Exit -> Env -> atO -> Prop) : Prop := ∀ g w, (uE pg rs g w fun vs => R (VY vs) w) -> Q .ret g w
abbrev HRF (rs : List ResultVar) (R : K1) (Q : Exit -> Env -> atO -> Prop) : Prop := ∀ g w, (Ey (g DS) w fun w => uE pg rs g w fun vs => R (VY vs) w) -> Q .ret g w
abbrev no : Env -> atO -> Prop := fun _ _ => False
theorem mH {Q : Env -> atO -> Prop} : ∀ g w, no g w -> Q g w := fun _ _ h => h.elim
abbrev CB : FuncId := 5
abbrev B7 : FuncId := 9
abbrev Uz : FuncId := 12
abbrev FX : FuncId := 13
abbrev yM : FuncId := 14
abbrev B5 : FuncId := 15
abbrev Dy : FuncId := 16
abbrev GZ : FuncId := 17
abbrev GW : FuncId := 18
abbrev Eg : FuncId := 19
abbrev FQ : FuncId := 20
abbrev Ck : FuncId := 21
abbrev DL : FuncId := 22
abbrev Ox : FuncId := 23
abbrev pE : FuncId := 25
abbrev UG : FuncId := 26
abbrev nR : FuncId := 27
abbrev jL : FuncId := 28
abbrev nE : FuncId := 29
abbrev Ai : FuncId := 30
abbrev Cg : FuncId := 31
abbrev wZ : FuncId := 32
abbrev Pb : FuncId := 33
abbrev AG : FuncId := 34
abbrev DV : FuncId := 35
abbrev sM : FuncId := 42
abbrev vP : FuncId := 43
abbrev Du : FuncId := 44
abbrev VR : FuncId := 45
abbrev AS : FuncId := 46
abbrev zN : FuncId := 47
abbrev tV : FuncId := 48
abbrev C3 : FuncId := 49
abbrev A5 : FuncId := 50
abbrev zL : FuncId := 51
abbrev mD : FuncId := 52
abbrev wE : FuncId := 58
abbrev nY : FuncId := 59
abbrev rU : FuncId := 60
abbrev DT : FuncId := 63
abbrev pL : FuncId := 64
abbrev zR : FuncId := 65
abbrev Ca : FuncId := 66
abbrev GY : FuncId := 67
abbrev zS : FuncId := 68
abbrev SJ : FuncId := 69
abbrev U3 : FuncId := 70
abbrev QX : FuncId := 71
abbrev nZ : FuncId := 72
abbrev wU : FuncId := 73
abbrev qX : FuncId := 79
abbrev uU : FuncId := 80
abbrev vU : FuncId := 81
abbrev yY : FuncId := 82
abbrev uP : FuncId := 83
abbrev zH : FuncId := 84
abbrev zT : FuncId := 85
abbrev yK : FuncId := 86
abbrev vC : FuncId := 87
abbrev AT : FuncId := 97
abbrev qE : FuncId := 100
abbrev tO : FuncId := 102
abbrev uB : FuncId := 107
abbrev yH : FuncId := 108
abbrev F1 : FuncId := 109
abbrev Dj : FuncId := 110
abbrev SZ : FuncId := 112
abbrev Cf : FuncId := 115
abbrev Cj : FuncId := 132
abbrev tE : FuncId := 133
abbrev tL : FuncId := 134
abbrev nI : FuncId := 135
abbrev G1 : FuncId := 136
abbrev xE : FuncId := 145
abbrev oR : FuncId := 151
abbrev N0 (Q : Exit -> Env -> atO -> Prop) (k : K0) : Prop := ∀ g w, k w -> Q .normal g w
abbrev E0 (Q : Exit -> Env -> atO -> Prop) (k : K0) (x0 : Nat) : Prop := ∀ g w, k w -> Q (.exit x0) g w
abbrev N1 (Q : Exit -> Env -> atO -> Prop) (k : K1) (a_ : Nat) : Prop := ∀ g w, k (g a_) w -> Q .normal g w
abbrev E1 (Q : Exit -> Env -> atO -> Prop) (k : K1) (x0 : Nat) (a_ : Nat) : Prop := ∀ g w, k (g a_) w -> Q (.exit x0) g w
abbrev N2 (Q : Exit -> Env -> atO -> Prop) (k : K2) (a_ b_ : Nat) : Prop := ∀ g w, k (g a_) (g b_) w -> Q .normal g w
abbrev E2 (Q : Exit -> Env -> atO -> Prop) (k : K2) (x0 : Nat) (a_ b_ : Nat) : Prop := ∀ g w, k (g a_) (g b_) w -> Q (.exit x0) g w
abbrev N3 (Q : Exit -> Env -> atO -> Prop) (k : K3) (a_ b_ c_ : Nat) : Prop := ∀ g w, k (g a_) (g b_) (g c_) w -> Q .normal g w
abbrev E3 (Q : Exit -> Env -> atO -> Prop) (k : K3) (x0 : Nat) (a_ b_ c_ : Nat) : Prop := ∀ g w, k (g a_) (g b_) (g c_) w -> Q (.exit x0) g w
abbrev N4 (Q : Exit -> Env -> atO -> Prop) (k : K4) (a_ b_ c_ d_ : Nat) : Prop := ∀ g w, k (g a_) (g b_) (g c_) (g d_) w -> Q .normal g w
abbrev E4 (Q : Exit -> Env -> atO -> Prop) (k : K4) (x0 : Nat) (a_ b_ c_ d_ : Nat) : Prop := ∀ g w, k (g a_) (g b_) (g c_) (g d_) w -> Q (.exit x0) g w
abbrev N5 (Q : Exit -> Env -> atO -> Prop) (k : K5) (a_ b_ c_ d_ e_ : Nat) : Prop := ∀ g w, k (g a_) (g b_) (g c_) (g d_) (g e_) w -> Q .normal g w
abbrev E5 (Q : Exit -> Env -> atO -> Prop) (k : K5) (x0 : Nat) (a_ b_ c_ d_ e_ : Nat) : Prop := ∀ g w, k (g a_) (g b_) (g c_) (g d_) (g e_) w -> Q (.exit x0) g w
abbrev N6 (Q : Exit -> Env -> atO -> Prop) (k : K6) (a_ b_ c_ d_ e_ f_ : Nat) : Prop := ∀ g w, k (g a_) (g b_) (g c_) (g d_) (g e_) (g f_) w -> Q .normal g w
abbrev E6 (Q : Exit -> Env -> atO -> Prop) (k : K6) (x0 : Nat) (a_ b_ c_ d_ e_ f_ : Nat) : Prop := ∀ g w, k (g a_) (g b_) (g c_) (g d_) (g e_) (g f_) w -> Q (.exit x0) g w
abbrev N7 (Q : Exit -> Env -> atO -> Prop) (k : K7) (a_ b_ c_ d_ e_ f_ g_ : Nat) : Prop := ∀ g w, k (g a_) (g b_) (g c_) (g d_) (g e_) (g f_) (g g_) w -> Q .normal g w
abbrev E7 (Q : Exit -> Env -> atO -> Prop) (k : K7) (x0 : Nat) (a_ b_ c_ d_ e_ f_ g_ : Nat) : Prop := ∀ g w, k (g a_) (g b_) (g c_) (g d_) (g e_) (g f_) (g g_) w -> Q (.exit x0) g w
abbrev N8 (Q : Exit -> Env -> atO -> Prop) (k : K8) (a_ b_ c_ d_ e_ f_ g_ h_ : Nat) : Prop := ∀ g w, k (g a_) (g b_) (g c_) (g d_) (g e_) (g f_) (g g_) (g h_) w -> Q .normal g w
abbrev N10 (Q : Exit -> Env -> atO -> Prop) (k : K10) (a_ b_ c_ d_ e_ f_ g_ h_ i_ j_ : Nat) : Prop := ∀ g w, k (g a_) (g b_) (g c_) (g d_) (g e_) (g f_) (g g_) (g h_) (g i_) (g j_) w -> Q .normal g w
abbrev atQ (n_ : Int) : atP := .int .i64 n_
end Go.Proofs.YtoecppploooloaaGreatDoor
namespace Go.Proofs.YtoecppploooloaaGreatDoor
open Go Go.En
set_option maxRecDepth 20000
attribute [local irreducible] Go.En.jK
variable (Q : Exit -> Env -> atO -> Prop) (g : Env) (w : atO)
def Gg : FA := ⟨CB, fun i => .leaf ([], []) []⟩
def GN : List ResultVar := [.tmp 6]
noncomputable def Er : Code := kB Tryz.f5
def Bu (R : K1) (kF mI i_2 : atP) (w : atO) : Prop :=
 jD pg FX #[] w fun c8 w =>
 gE pg (YG .not c8) w fun d0 w =>
 mX d0
  (R (.bool false) w)
  (jD pg yM #[kF, mI] w fun d4 w =>
  gE pg (jU d4 0) w fun d5 w =>
  gE pg (jU d4 1) w fun d6 w =>
  jD pg B5 #[kF, mI] w fun e0 w =>
  gE pg (jU e0 0) w fun e1 w =>
  gE pg (jU e0 1) w fun e2 w =>
  jD pg Dy #[kF, mI, i_2] w fun e7 w =>
  gE pg (jU e7 0) w fun e8 w =>
  gE pg (jU e7 1) w fun e9 w =>
  gE pg (jU e7 2) w fun f0 w =>
  jD pg GZ #[kF, mI, i_2] w fun f5 w =>
  gE pg (jU f5 0) w fun f6 w =>
  gE pg (jU f5 1) w fun f7 w =>
  gE pg (jU f5 2) w fun f8 w =>
  gE pg (gW .eql 3 (.tmp 49) (.tmp 50) d5 e1) w fun i1 w =>
  Gd (kP i1 true) (fun K => K d6 w) w fun i3 w =>
  Gd (kP i1 true) (fun K => K e2 w) w fun i4 w =>
  Gd (kP i1 true) (fun K => gE pg (gW .eql 24 (.tmp 53) (.tmp 54) i3 i4) w K) w fun i5 w =>
  gE pg (mJ i1 i5 (.bool false)) w fun i6 w =>
  Gd (kP i6 true) (fun K => K e8 w) w fun i8 w =>
  Gd (kP i6 true) (fun K => K f6 w) w fun i9 w =>
  Gd (kP i6 true) (fun K => gE pg (gW .eql 32 (.tmp 58) (.tmp 59) i8 i9) w K) w fun j0 w =>
  gE pg (mJ i6 j0 (.bool false)) w fun j1 w =>
  Gd (kP j1 true) (fun K => K e9 w) w fun j3 w =>
  Gd (kP j1 true) (fun K => K f7 w) w fun j4 w =>
  Gd (kP j1 true) (fun K => gE pg (gW .eql 3 (.tmp 63) (.tmp 64) j3 j4) w K) w fun j5 w =>
  gE pg (mJ j1 j5 (.bool false)) w fun j6 w =>
  Gd (kP j6 true) (fun K => K f0 w) w fun j8 w =>
  Gd (kP j6 true) (fun K => K f8 w) w fun j9 w =>
  Gd (kP j6 true) (fun K => gE pg (gW .eql 24 (.tmp 68) (.tmp 69) j8 j9) w K) w fun l0 w =>
  gE pg (mJ j6 l0 (.bool false)) w fun l1 w =>
  R l1 w)
theorem Md (R : K1) (hr : HR GN R Q) (h : Bu R (g 0) (g 1) (g 2) w) : jK pg Gg Er Q g w :=
 lM (kn := no) (l := []) h mH hr trivial
def Ky (a0 a1 a2 : atP) (w : atO) (R : K1) : Prop :=
 Bu R a0 a1 a2 w
theorem M3 {a0 a1 a2 : atP} {w : atO} {R : K1} (h : Ky a0 a1 a2 w R) : jD pg CB #[a0, a1, a2] w R := by
 refine Bp (ann := Gg) Tryz.f5 Er [a0, a1, a2] GN 72 TryzM.mixed Tryz.func5 ?_
 exact (Md _ _ _ R (fun _ _ h => h) h)
def oE : FA := ⟨B7, fun i => match Nat.beq i 13 with | true => .leaf ([2, 5], [(2, 3)]) [(false, []), (false, []), (true, []), (false, [0]), (false, []), (true, [])] | false => .leaf ([], []) []⟩
def qP : List ResultVar := [.tmp 6, .tmp 7]
noncomputable def nO : Code := kB Tryz.f9
def vK (R : K1) (pP : atP) (w : atO) : Prop :=
 R (.tuple #[pP, (atQ 0)]) w
theorem PM (R : K1) (hr : HR qP R Q) (h : vK R (g 8) w) : jK pg oE (fV 1 (fV 1 (fV 4 nO))) Q g w :=
 lM (kn := no) (l := []) h mH hr trivial
def Fb (kn : K1) (qV rT pP : atP) (w : atO) : Prop :=
 mX rT
  (jD pg Ox #[qV] w fun j5 w =>
  gE pg (nS 32 5 j5) w fun j8 w =>
  gE pg (gW .shr 32 iK iK j5 (.int .u64 8)) w fun l0 w =>
  gE pg (nS 32 5 l0) w fun l1 w =>
  gE pg (gW .shr 32 iK iK j5 (.int .u64 16)) w fun l3 w =>
  gE pg (nS 32 5 l3) w fun l4 w =>
  gE pg (gW .shr 32 iK iK j5 (.int .u64 24)) w fun l6 w =>
  gE pg (nS 32 5 l6) w fun l7 w =>
  gE pg (lJ 22 4 [(0, j8), (1, l1), (2, l4), (3, l7)]) w fun l8 w =>
  gE pg (oD .append #[22, 22] 22 [pP, l8]) w fun l9 w =>
  kn l9 w)
  (kn pP w)
theorem PS (kn : K1) (hn : N1 Q kn 8) (h : Fb kn (g 0) (g 2) (g 8) w) : jK pg oE (gS 1 (fV 1 (fV 4 nO))) Q g w :=
 lM (kr := no) (l := []) h hn mH trivial
def A8 (R : K1) (qV rT pP : atP) (w : atO) : Prop :=
 Fb (fun pP w => vK R pP w) qV rT pP w
def vT (kn : K6) (k1 : K3) (R : K1) (qV oI rT pP zM De : atP) (w : atO) : Prop :=
 gE pg (gW .eql 3 (.tmp 32) (.const (atQ 0)) De (atQ 0)) w fun e3 w =>
 Gd (kP e3 false) (fun K => K De w) w fun e5 w =>
 Gd (kP e3 false) (fun K => K qV w) w fun e6 w =>
 Gd (kP e3 false) (fun K => gE pg (oD .len #[22] 3 [e6]) w K) w fun e7 w =>
 Gd (kP e3 false) (fun K => gE pg (gW .lss 3 iK iK e5 e7) w K) w fun e8 w =>
 gE pg (mJ e3 (.bool true) e8) w fun e9 w =>
 mX e9
  (gE pg (gW .add 3 iK iK De (atQ 65536)) w fun f6 w =>
  gE pg (oD .len #[22] 3 [qV]) w fun f8 w =>
  gE pg (oD .min #[3, 3] 3 [f6, f8]) w fun f9 w =>
  gE pg (jF 45 zM) w fun i1 w =>
  jD pg DL #[qV, De, f9, oI, i1] w fun i2 w =>
  gE pg (jU i2 0) w fun i3 w =>
  gE pg (jU i2 1) w fun i4 w =>
  gE pg (jU i2 2) w fun i5 w =>
  gE pg (pX 45) w fun c2 w =>
  gE pg (kA 45 c2 i4) w fun _u w =>
  gE pg (gW .neq 24 (.tmp 56) (.const (atQ 0)) i5 (atQ 0)) w fun i7 w =>
  mX i7
   (R (.tuple #[(.slice none 0 0), i5]) w)
   ((dr w) = (dr w) /\
   (dr w) = (dr w) /\
   gE pg (oD .append #[22, 22] 22 [pP, i3]) (dr w) fun j1 XL =>
   gE pg (jF 45 c2) XL fun j2 w_ => w_ = XL /\
   (jE pg (jF 45 c2) j2 (dr w) /\ True) /\
   XL = XL /\
   gE pg (kA 45 zM j2) XL fun _u5 amF =>
   gE pg (gW .add 3 iK iK De (atQ 65536)) amF fun f1 w =>
   kn qV oI rT j1 zM f1 w))
  (k1 qV rT pP w)
theorem P5 (kn : K6) (k1 : K3) (R : K1) (hn : N6 Q kn 0 1 2 8 9 10) (h1 : E3 Q k1 1 0 2 8) (hr : HR qP R Q) (h : vT kn k1 R (g 0) (g 1) (g 2) (g 8) (g 9) (g 10) w) : jK pg oE (bI (bI (fV 1 (gS 1 (fV 4 nO))))) Q g w :=
 lM (l := [(1, fun g w => k1 (g 0) (g 2) (g 8) w)]) h hn hr ⟨h1, trivial⟩
def ET (k1 : K3) (R : K1) (qV oI rT pP zM De : atP) (w : atO) : Prop :=
 kE (fun (X : (atP × atP) -> K0) (t : atP × atP) (w : atO) => vT (fun _ _ _ pP _ De w => X (pP, De) w) k1 R qV oI rT t.1 zM t.2 w) (pP, De) w
theorem Py (k1 : K3) (R : K1) (h1 : E3 Q k1 1 0 2 8) (hr : HR qP R Q) (h : ET k1 R (g 0) (g 1) (g 2) (g 8) (g 9) (g 10) w) : jK pg oE (bI (fV 1 (gS 1 (fV 4 nO)))) Q g w := by
 refine MG (fun g : Env => (g 8, g 10)) (fun X t w => vT (fun _ _ _ pP _ De w => X (pP, De) w) k1 R (g 0) (g 1) (g 2) t.1 (g 9) t.2 w) h (fun X g1 w1 ha hL => ?_)
 rw [<- qO 0 ha, <- qO 1 ha, <- qO 2 ha, <- qO 9 ha] at hL
 exact (P5 _ g1 w1 (fun _ _ _ pP _ De w => X (pP, De) w) k1 R (fun _ _ h => h) h1 hr hL)
def Fg (kn : K3) (R : K1) (qV oI rT pP zM De : atP) (w : atO) : Prop :=
 ET kn R qV oI rT pP zM De w
def EJ (kn : K6) (qV oI rT pP zM : atP) (w : atO) : Prop :=
 kn qV oI rT pP zM (atQ 0) w
theorem Ps (kn : K6) (hn : N6 Q kn 0 1 2 8 9 10) (h : EJ kn (g 0) (g 1) (g 2) (g 8) (g 9) w) : jK pg oE (gS 1 (gS 1 (fV 4 nO))) Q g w :=
 lM (kr := no) (l := []) h hn mH trivial
def FB (kn : K3) (R : K1) (qV oI rT pP zM : atP) (w : atO) : Prop :=
 EJ (fun qV oI rT pP zM De w => Fg kn R qV oI rT pP zM De w) qV oI rT pP zM w
def Fe (R : K1) (qV oI rT pP zM : atP) (w : atO) : Prop :=
 FB (fun qV rT pP w => A8 R qV rT pP w) R qV oI rT pP zM w
theorem Qb (kn : K3) (R : K1) (hn : N3 Q kn 0 2 8) (hr : HR qP R Q) (h : FB kn R (g 0) (g 1) (g 2) (g 8) (g 9) w) : jK pg oE (gS 1 (fV 4 nO)) Q g w :=
 oB 1 (Ps _ g w (Fg kn R) (fun g w h => iB (GV 1 (Py _ g w kn R hn hr h))) h)
def Dg (kn : K5) (R : K1) (qV oI rT : atP) (w : atO) : Prop :=
 gE pg (gW .lss 3 iK iK oI (atQ 0)) w fun c7 w =>
 Gd (kP c7 false) (fun K => K oI w) w fun c9 w =>
 Gd (kP c7 false) (fun K => gE pg (gW .gtr 3 iK iK c9 (atQ 9)) w K) w fun d0 w =>
 gE pg (mJ c7 (.bool true) d0) w fun d1 w =>
 mX d1
  (R (.tuple #[(.slice none 0 0), (atQ 1)]) w)
  (gE pg (oD .len #[22] 3 [qV]) w fun d4 w =>
  gE pg (gW .gtr 3 iK iK d4 (atQ 4194304)) w fun d5 w =>
  mX d5
   (R (.tuple #[(.slice none 0 0), (atQ 12)]) w)
   (gE pg (oD .len #[22] 3 [qV]) w fun d7 w =>
   gE pg (nS 3 32 d7) w fun d8 w =>
   jD pg FQ #[d8, rT] w fun e0 w =>
   jD pg Ck #[] w fun e1 w =>
   gE pg (pX 45) w fun zM w =>
   gE pg (kA 45 zM e1) w fun _u w =>
   kn qV oI rT e0 zM w))
theorem Ov (kn : K5) (R : K1) (hn : N5 Q kn 0 1 2 8 9) (hr : HR qP R Q) (h : Dg kn R (g 0) (g 1) (g 2) w) : jK pg oE (gS 4 nO) Q g w :=
 lM (l := []) h hn hr trivial
def D5 (R : K1) (qV oI rT : atP) (w : atO) : Prop :=
 Dg (fun qV oI rT pP zM w => Fe R qV oI rT pP zM w) R qV oI rT w
theorem Oy (R : K1) (hr : HR qP R Q) (h : D5 R (g 0) (g 1) (g 2) w) : jK pg oE nO Q g w :=
 oB 4 (Ov _ g w (Fe R) R (fun g w h => iB (oB 1 (Qb _ g w (A8 R) R (fun g w h => iB (oB 1 (PS _ g w (vK R) (fun g w h => iB (PM _ g w R hr h)) h))) hr h))) hr h)
def Qv (a0 a1 a2 : atP) (w : atO) (R : K1) : Prop :=
 D5 R a0 a1 a2 w
theorem Q0 {a0 a1 a2 : atP} {w : atO} {R : K1} (h : Qv a0 a1 a2 w R) : jD pg B7 #[a0, a1, a2] w R := by
 refine Bp (ann := oE) Tryz.f9 nO [a0, a1, a2] qP 81 TryzM.mixed Tryz.func9 ?_
 exact (Oy _ _ _ R (fun _ _ h => h) h)
def MH : FA := ⟨FX, fun i => .leaf ([], []) []⟩
def OY : List ResultVar := [.tmp 0]
noncomputable def KW : Code := kB Tryz.f13
def Hg (R : K1)  (w : atO) : Prop :=
 jD pg yM #[(.int .u64 10), (atQ 4)] w fun c2 w =>
 gE pg (jU c2 0) w fun c3 w =>
 gE pg (jU c2 1) w fun c4 w =>
 jD pg Dy #[(.int .u64 10), (atQ 4), (atQ 2)] w fun c6 w =>
 gE pg (jU c6 0) w fun c7 w =>
 gE pg (jU c6 1) w fun c8 w =>
 gE pg (jU c6 2) w fun c9 w =>
 gE pg (lJ 22 2 [(0, (.int .u8 1)), (1, (.int .u8 2))]) w fun d1 w =>
 jD pg GW #[d1, (atQ 5)] w fun d2 w =>
 gE pg (jU d2 0) w fun d3 w =>
 gE pg (jU d2 1) w fun d4 w =>
 gE pg (jU d2 2) w fun d5 w =>
 jD pg Eg #[d3, d4, (atQ 2)] w fun d9 w =>
 gE pg (jU d9 0) w fun e0 w =>
 gE pg (jU d9 1) w fun e1 w =>
 gE pg (gW .eql 3 (.tmp 32) (.const (atQ 3)) c3 (atQ 3)) w fun e3 w =>
 Gd (kP e3 true) (fun K => K c4 w) w fun e5 w =>
 Gd (kP e3 true) (fun K => gE pg (gW .eql 24 (.tmp 35) (.const (atQ 0)) e5 (atQ 0)) w K) w fun e6 w =>
 gE pg (mJ e3 e6 (.bool false)) w fun e7 w =>
 Gd (kP e7 true) (fun K => K c7 w) w fun e9 w =>
 Gd (kP e7 true) (fun K => gE pg (gW .eql 32 (.tmp 39) (.const (.int .u64 8)) e9 (.int .u64 8)) w K) w fun f0 w =>
 gE pg (mJ e7 f0 (.bool false)) w fun f1 w =>
 Gd (kP f1 true) (fun K => K c8 w) w fun f3 w =>
 Gd (kP f1 true) (fun K => gE pg (gW .eql 3 (.tmp 43) (.const (atQ 2)) f3 (atQ 2)) w K) w fun f4 w =>
 gE pg (mJ f1 f4 (.bool false)) w fun f5 w =>
 Gd (kP f5 true) (fun K => K c9 w) w fun f7 w =>
 Gd (kP f5 true) (fun K => gE pg (gW .eql 24 (.tmp 47) (.const (atQ 0)) f7 (atQ 0)) w K) w fun f8 w =>
 gE pg (mJ f5 f8 (.bool false)) w fun f9 w =>
 Gd (kP f9 true) (fun K => K d3 w) w fun i1 w =>
 Gd (kP f9 true) (fun K => gE pg (gW .eql 5 (.tmp 51) (.const (.int .u8 0)) i1 (.int .u8 0)) w K) w fun i2 w =>
 gE pg (mJ f9 i2 (.bool false)) w fun i3 w =>
 Gd (kP i3 true) (fun K => K d5 w) w fun i5 w =>
 Gd (kP i3 true) (fun K => gE pg (gW .eql 24 (.tmp 55) (.const (atQ 0)) i5 (atQ 0)) w K) w fun i6 w =>
 gE pg (mJ i3 i6 (.bool false)) w fun i7 w =>
 Gd (kP i7 true) (fun K => K e0 w) w fun i9 w =>
 Gd (kP i7 true) (fun K => gE pg (nS 22 9 i9) w K) w fun j0 w =>
 Gd (kP i7 true) (fun K => gE pg (gW .eql 9 (.tmp 60) (.const (.string ⟨#[1, 2]⟩)) j0 (.string ⟨#[1, 2]⟩)) w K) w fun j1 w =>
 gE pg (mJ i7 j1 (.bool false)) w fun j2 w =>
 Gd (kP j2 true) (fun K => K e1 w) w fun j4 w =>
 Gd (kP j2 true) (fun K => gE pg (gW .eql 24 (.tmp 64) (.const (atQ 0)) j4 (atQ 0)) w K) w fun j5 w =>
 gE pg (mJ j2 j5 (.bool false)) w fun j6 w =>
 R j6 w
theorem Sg (R : K1) (hr : HR OY R Q) (h : Hg R w) : jK pg MH KW Q g w :=
 lM (kn := no) (l := []) h mH hr trivial
def Ut (w : atO) (R : K1) : Prop :=
 Hg R w
theorem TE {w : atO} {R : K1} (h : Ut w R) : jD pg FX #[] w R := by
 refine Bp (ann := MH) Tryz.f13 KW [] OY 67 TryzM.mixed Tryz.func13 ?_
 exact (Sg _ _ _ R (fun _ _ h => h) h)
def B8 : FA := ⟨yM, fun i => .leaf ([], []) []⟩
def DR : List ResultVar := [.tmp 4, .tmp 5]
noncomputable def AX : Code := kB Tryz.f14
def sW (R : K1) (Lg : atP) (w : atO) : Prop :=
 gE pg (gW .gtr 32 iK iK Lg (.int .u64 1024)) w fun d5 w =>
 mX d5
  (R (.tuple #[(atQ 0), (atQ 12)]) w)
  (gE pg (nS 32 3 Lg) w fun d7 w =>
  R (.tuple #[d7, (atQ 0)]) w)
theorem R3 (R : K1) (hr : HR DR R Q) (h : sW R (g 6) w) : jK pg B8 (fV 4 AX) Q g w :=
 lM (kn := no) (l := []) h mH hr trivial
def Ib (kn : K1) (R : K1) (kF mI : atP) (w : atO) : Prop :=
 gE pg (gW .lss 3 iK iK mI (atQ 1)) w fun b8 w =>
 Gd (kP b8 false) (fun K => K mI w) w fun c0 w =>
 Gd (kP b8 false) (fun K => gE pg (gW .gtr 3 iK iK c0 (atQ 65536)) w K) w fun c1 w =>
 gE pg (mJ b8 (.bool true) c1) w fun c2 w =>
 mX c2
  (R (.tuple #[(atQ 0), (atQ 1)]) w)
  (gE pg (nS 3 32 mI) w fun c5 w =>
  gE pg (gW .quo 32 iK iK kF c5) w fun c6 w =>
  gE pg (nS 3 32 mI) w fun c9 w =>
  gE pg (gW .rem 32 iK iK kF c9) w fun d0 w =>
  gE pg (gW .gtr 32 iK iK d0 (.int .u64 0)) w fun d1 w =>
  mX d1
   (gE pg (gW .add 32 iK iK c6 (.int .u64 1)) w fun d3 w =>
   kn d3 w)
   (kn c6 w))
theorem RQ (kn : K1) (R : K1) (hn : N1 Q kn 6) (hr : HR DR R Q) (h : Ib kn R (g 0) (g 1) w) : jK pg B8 (gS 4 AX) Q g w :=
 lM (l := []) h hn hr trivial
def Hr (R : K1) (kF mI : atP) (w : atO) : Prop :=
 Ib (fun Lg w => sW R Lg w) R kF mI w
theorem R6 (R : K1) (hr : HR DR R Q) (h : Hr R (g 0) (g 1) w) : jK pg B8 AX Q g w :=
 oB 4 (RQ _ g w (sW R) R (fun g w h => iB (R3 _ g w R hr h)) hr h)
def Ue (a0 a1 : atP) (w : atO) (R : K1) : Prop :=
 Hr R a0 a1 w
theorem T6 {a0 a1 : atP} {w : atO} {R : K1} (h : Ue a0 a1 w R) : jD pg yM #[a0, a1] w R := by
 refine Bp (ann := B8) Tryz.f14 AX [a0, a1] DR 28 TryzM.mixed Tryz.func14 ?_
 exact (R6 _ _ _ R (fun _ _ h => h) h)
def qH : FA := ⟨B5, fun i => .leaf ([], []) []⟩
def sL : List ResultVar := [.tmp 4, .tmp 5]
noncomputable def pM : Code := kB Tryz.f15
def DJ (R : K1)  (w : atO) : Prop :=
 R (.tuple #[(atQ 0), (atQ 12)]) w
theorem RI (R : K1) (hr : HR sL R Q) (h : DJ R w) : jK pg qH (fV 1 (fV 2 pM)) Q g w :=
 lM (kn := no) (l := []) h mH hr trivial
def AF (kn : K3) (k0 : K0) (R : K1) (kF mI Lg : atP) (w : atO) : Prop :=
 gE pg (gW .leq 32 iK iK Lg (.int .u64 1024)) w fun c4 w =>
 mX c4
  (gE pg (nS 3 32 mI) w fun c9 w =>
  gE pg (gW .mul 32 iK iK Lg c9) w fun d0 w =>
  gE pg (gW .geq 32 iK iK d0 kF) w fun d2 w =>
  mX d2
   (gE pg (nS 32 3 Lg) w fun d4 w =>
   R (.tuple #[d4, (atQ 0)]) w)
   (gE pg (gW .add 32 iK iK Lg (.int .u64 1)) w fun c6 w =>
   kn kF mI c6 w))
  (k0 w)
theorem RL (kn : K3) (k0 : K0) (R : K1) (hn : N3 Q kn 0 1 6) (h0 : E0 Q k0 0) (hr : HR sL R Q) (h : AF kn k0 R (g 0) (g 1) (g 6) w) : jK pg qH (bI (bI (fV 1 (gS 1 (fV 2 pM))))) Q g w :=
 lM (l := [(0, fun g w => k0 w)]) h hn hr ⟨h0, trivial⟩
def Hi (k0 : K0) (R : K1) (kF mI Lg : atP) (w : atO) : Prop :=
 kE (fun (X : atP -> K0) (t : atP) (w : atO) => AF (fun _ _ Lg w => X Lg w) k0 R kF mI t w) Lg w
theorem SV (k0 : K0) (R : K1) (h0 : E0 Q k0 0) (hr : HR sL R Q) (h : Hi k0 R (g 0) (g 1) (g 6) w) : jK pg qH (bI (fV 1 (gS 1 (fV 2 pM)))) Q g w := by
 refine MG (fun g : Env => g 6) (fun X t w => AF (fun _ _ Lg w => X Lg w) k0 R (g 0) (g 1) t w) h (fun X g1 w1 ha hL => ?_)
 rw [<- qO 0 ha, <- qO 1 ha] at hL
 exact (RL _ g1 w1 (fun _ _ Lg w => X Lg w) k0 R (fun _ _ h => h) h0 hr hL)
def Ij (kn : K0) (R : K1) (kF mI Lg : atP) (w : atO) : Prop :=
 Hi kn R kF mI Lg w
def Iy (kn : K3) (kF mI : atP) (w : atO) : Prop :=
 kn kF mI (.int .u64 0) w
theorem Rt (kn : K3) (hn : N3 Q kn 0 1 6) (h : Iy kn (g 0) (g 1) w) : jK pg qH (gS 1 (gS 1 (fV 2 pM))) Q g w :=
 lM (kr := no) (l := []) h hn mH trivial
def Hf (kn : K0) (R : K1) (kF mI : atP) (w : atO) : Prop :=
 Iy (fun kF mI Lg w => Ij kn R kF mI Lg w) kF mI w
def HG (R : K1) (kF mI : atP) (w : atO) : Prop :=
 Hf (fun  w => DJ R w) R kF mI w
theorem RP (kn : K0) (R : K1) (hn : N0 Q kn) (hr : HR sL R Q) (h : Hf kn R (g 0) (g 1) w) : jK pg qH (gS 1 (fV 2 pM)) Q g w :=
 oB 1 (Rt _ g w (Ij kn R) (fun g w h => iB (GV 0 (SV _ g w kn R hn hr h))) h)
def HH (kn : K2) (R : K1) (kF mI : atP) (w : atO) : Prop :=
 gE pg (gW .lss 3 iK iK mI (atQ 1)) w fun b8 w =>
 Gd (kP b8 false) (fun K => K mI w) w fun c0 w =>
 Gd (kP b8 false) (fun K => gE pg (gW .gtr 3 iK iK c0 (atQ 65536)) w K) w fun c1 w =>
 gE pg (mJ b8 (.bool true) c1) w fun c2 w =>
 mX c2
  (R (.tuple #[(atQ 0), (atQ 1)]) w)
  (kn kF mI w)
theorem RX (kn : K2) (R : K1) (hn : N2 Q kn 0 1) (hr : HR sL R Q) (h : HH kn R (g 0) (g 1) w) : jK pg qH (gS 2 pM) Q g w :=
 lM (l := []) h hn hr trivial
def HF (R : K1) (kF mI : atP) (w : atO) : Prop :=
 HH (fun kF mI w => HG R kF mI w) R kF mI w
theorem SE (R : K1) (hr : HR sL R Q) (h : HF R (g 0) (g 1) w) : jK pg qH pM Q g w :=
 oB 2 (RX _ g w (HG R) R (fun g w h => iB (oB 1 (RP _ g w (fun  w => DJ R w) R (fun g w h => iB (RI _ g w R hr h)) hr h))) hr h)
def Uc (a0 a1 : atP) (w : atO) (R : K1) : Prop :=
 HF R a0 a1 w
theorem T3 {a0 a1 : atP} {w : atO} {R : K1} (h : Uc a0 a1 w R) : jD pg B5 #[a0, a1] w R := by
 refine Bp (ann := qH) Tryz.f15 pM [a0, a1] sL 25 TryzM.mixed Tryz.func15 ?_
 exact (SE _ _ _ R (fun _ _ h => h) h)
def NW : FA := ⟨Dy, fun i => .leaf ([], []) []⟩
def Qj : List ResultVar := [.tmp 6, .tmp 7, .tmp 8]
noncomputable def MI : Code := kB Tryz.f16
def JE (R : K1) (kF mI i_2 : atP) (w : atO) : Prop :=
 jD pg yM #[kF, mI] w fun c5 w =>
 gE pg (jU c5 0) w fun c6 w =>
 gE pg (jU c5 1) w fun c7 w =>
 gE pg (gW .neq 24 (.tmp 19) (.const (atQ 0)) c7 (atQ 0)) w fun d0 w =>
 mX d0
  (R (.tuple #[(.int .u64 0), (atQ 0), c7]) w)
  (gE pg (gW .lss 3 iK iK i_2 (atQ 0)) w fun d4 w =>
  Gd (kP d4 false) (fun K => K i_2 w) w fun d6 w =>
  Gd (kP d4 false) (fun K => K c6 w) w fun d7 w =>
  Gd (kP d4 false) (fun K => gE pg (gW .geq 3 iK iK d6 d7) w K) w fun d8 w =>
  gE pg (mJ d4 (.bool true) d8) w fun d9 w =>
  mX d9
   (R (.tuple #[(.int .u64 0), (atQ 0), (atQ 17)]) w)
   (gE pg (nS 3 32 mI) w fun e1 w =>
   gE pg (nS 3 32 i_2) w fun e3 w =>
   gE pg (gW .mul 32 iK iK e1 e3) w fun e4 w =>
   gE pg (gW .sub 32 iK iK kF e4) w fun e8 w =>
   gE pg (nS 3 32 mI) w fun f0 w =>
   gE pg (oD .min #[32, 32] 32 [e8, f0]) w fun f1 w =>
   gE pg (nS 32 3 f1) w fun f2 w =>
   R (.tuple #[e4, f2, (atQ 0)]) w))
theorem Tv (R : K1) (hr : HR Qj R Q) (h : JE R (g 0) (g 1) (g 2) w) : jK pg NW MI Q g w :=
 lM (kn := no) (l := []) h mH hr trivial
def Ve (a0 a1 a2 : atP) (w : atO) (R : K1) : Prop :=
 JE R a0 a1 a2 w
theorem UB {a0 a1 a2 : atP} {w : atO} {R : K1} (h : Ve a0 a1 a2 w R) : jD pg Dy #[a0, a1, a2] w R := by
 refine Bp (ann := NW) Tryz.f16 MI [a0, a1, a2] Qj 43 TryzM.mixed Tryz.func16 ?_
 exact (Tv _ _ _ R (fun _ _ h => h) h)
def OF : FA := ⟨GZ, fun i => .leaf ([], []) []⟩
def Qq : List ResultVar := [.tmp 6, .tmp 7, .tmp 8]
noncomputable def MF : Code := kB Tryz.f17
def JD (R : K1) (kF mI i_2 : atP) (w : atO) : Prop :=
 jD pg B5 #[kF, mI] w fun c5 w =>
 gE pg (jU c5 0) w fun c6 w =>
 gE pg (jU c5 1) w fun c7 w =>
 gE pg (gW .neq 24 (.tmp 18) (.const (atQ 0)) c7 (atQ 0)) w fun c9 w =>
 mX c9
  (R (.tuple #[(.int .u64 0), (atQ 0), c7]) w)
  (gE pg (gW .lss 3 iK iK i_2 (atQ 0)) w fun d2 w =>
  Gd (kP d2 false) (fun K => K i_2 w) w fun d4 w =>
  Gd (kP d2 false) (fun K => K c6 w) w fun d5 w =>
  Gd (kP d2 false) (fun K => gE pg (gW .geq 3 iK iK d4 d5) w K) w fun d6 w =>
  gE pg (mJ d2 (.bool true) d6) w fun d7 w =>
  mX d7
   (R (.tuple #[(.int .u64 0), (atQ 0), (atQ 17)]) w)
   (gE pg (nS 3 32 mI) w fun d9 w =>
   gE pg (nS 3 32 i_2) w fun e1 w =>
   gE pg (gW .mul 32 iK iK d9 e1) w fun e2 w =>
   gE pg (gW .sub 32 iK iK kF e2) w fun e5 w =>
   gE pg (nS 3 32 mI) w fun e7 w =>
   gE pg (gW .lss 32 iK iK e5 e7) w fun e8 w =>
   mX e8
    (gE pg (gW .sub 32 iK iK kF e2) w fun f2 w =>
    gE pg (nS 32 3 f2) w fun f3 w =>
    R (.tuple #[e2, f3, (atQ 0)]) w)
    (R (.tuple #[e2, mI, (atQ 0)]) w)))
theorem TB (R : K1) (hr : HR Qq R Q) (h : JD R (g 0) (g 1) (g 2) w) : jK pg OF MF Q g w :=
 lM (kn := no) (l := []) h mH hr trivial
def Vh (a0 a1 a2 : atP) (w : atO) (R : K1) : Prop :=
 JD R a0 a1 a2 w
theorem UN {a0 a1 a2 : atP} {w : atO} {R : K1} (h : Vh a0 a1 a2 w R) : jD pg GZ #[a0, a1, a2] w R := by
 refine Bp (ann := OF) Tryz.f17 MF [a0, a1, a2] Qq 46 TryzM.mixed Tryz.func17 ?_
 exact (TB _ _ _ R (fun _ _ h => h) h)
def NN : FA := ⟨GW, fun i => .leaf ([], []) []⟩
def Qt : List ResultVar := [.tmp 4, .tmp 5, .tmp 6]
noncomputable def ME : Code := kB Tryz.f18
def JK (R : K1) (qV oI : atP) (w : atO) : Prop :=
 gE pg (oD .len #[22] 3 [qV]) w fun c0 w =>
 gE pg (gW .gtr 3 iK iK c0 (atQ 65536)) w fun c1 w =>
 mX c1
  (R (.tuple #[(.int .u8 0), (.slice none 0 0), (atQ 1)]) w)
  (jD pg B7 #[qV, oI, (.bool false)] w fun c5 w =>
  gE pg (jU c5 0) w fun c6 w =>
  gE pg (jU c5 1) w fun c7 w =>
  gE pg (gW .neq 24 (.tmp 19) (.const (atQ 0)) c7 (atQ 0)) w fun d0 w =>
  mX d0
   (R (.tuple #[(.int .u8 0), (.slice none 0 0), c7]) w)
   (gE pg (oD .len #[22] 3 [c6]) w fun d4 w =>
   gE pg (oD .len #[22] 3 [qV]) w fun d6 w =>
   gE pg (gW .lss 3 iK iK d4 d6) w fun d7 w =>
   mX d7
    (R (.tuple #[(.int .u8 1), c6, (atQ 0)]) w)
    (jD pg pE #[qV] w fun e0 w =>
    R (.tuple #[(.int .u8 0), e0, (atQ 0)]) w)))
theorem Ta (R : K1) (hr : HR Qt R Q) (h : JK R (g 0) (g 1) w) : jK pg NN ME Q g w :=
 lM (kn := no) (l := []) h mH hr trivial
def VW (a0 a1 : atP) (w : atO) (R : K1) : Prop :=
 JK R a0 a1 w
theorem US {a0 a1 : atP} {w : atO} {R : K1} (h : VW a0 a1 w R) : jD pg GW #[a0, a1] w R := by
 refine Bp (ann := NN) Tryz.f18 ME [a0, a1] Qt 31 TryzM.mixed Tryz.func18 ?_
 exact (Ta _ _ _ R (fun _ _ h => h) h)
def Km : FA := ⟨Eg, fun i => .leaf ([], []) []⟩
def MC : List ResultVar := [.tmp 6, .tmp 7]
noncomputable def Jo : Code := kB Tryz.f19
def GF (R : K1) (NH wP TC : atP) (w : atO) : Prop :=
 gE pg (gW .lss 3 iK iK TC (atQ 0)) w fun c5 w =>
 Gd (kP c5 false) (fun K => K TC w) w fun c7 w =>
 Gd (kP c5 false) (fun K => gE pg (gW .gtr 3 iK iK c7 (atQ 65536)) w K) w fun c8 w =>
 gE pg (mJ c5 (.bool true) c8) w fun c9 w =>
 mX c9
  (R (.tuple #[(.slice none 0 0), (atQ 1)]) w)
  (gE pg (gW .eql 5 (.tmp 21) (.const (.int .u8 0)) NH (.int .u8 0)) w fun d2 w =>
  Gd (kP d2 true) (fun K => K wP w) w fun d4 w =>
  Gd (kP d2 true) (fun K => gE pg (oD .len #[22] 3 [d4]) w K) w fun d5 w =>
  Gd (kP d2 true) (fun K => K TC w) w fun d6 w =>
  Gd (kP d2 true) (fun K => gE pg (gW .eql 3 (.tmp 25) (.tmp 26) d5 d6) w K) w fun d7 w =>
  gE pg (mJ d2 d7 (.bool false)) w fun d8 w =>
  mX d8
   (jD pg pE #[wP] w fun e0 w =>
   R (.tuple #[e0, (atQ 0)]) w)
   (gE pg (gW .neq 5 (.tmp 32) (.const (.int .u8 1)) NH (.int .u8 1)) w fun e3 w =>
   mX e3
    (R (.tuple #[(.slice none 0 0), (atQ 11)]) w)
    (jD pg Uz #[wP, (atQ 22), TC] w fun e7 w =>
    gE pg (jU e7 0) w fun e8 w =>
    gE pg (jU e7 1) w fun e9 w =>
    gE pg (gW .neq 24 (.tmp 40) (.const (atQ 0)) e9 (atQ 0)) w fun f1 w =>
    mX f1
     (R (.tuple #[(.slice none 0 0), e9]) w)
     (jD pg UG #[wP, (atQ 22), TC] w fun f6 w =>
     gE pg (jU f6 0) w fun f7 w =>
     gE pg (jU f6 1) w fun f8 w =>
     gE pg (jU f6 2) w fun f9 w =>
     gE pg (gW .neq 3 (.tmp 50) (.const (atQ 1)) f7 (atQ 1)) w fun i1 w =>
     Gd (kP i1 false) (fun K => K f8 w) w fun i3 w =>
     Gd (kP i1 false) (fun K => gE pg (gW .neq 3 (.tmp 53) (.const (atQ 0)) i3 (atQ 0)) w K) w fun i4 w =>
     gE pg (mJ i1 (.bool true) i4) w fun i5 w =>
     Gd (kP i5 false) (fun K => K e8 w) w fun i7 w =>
     Gd (kP i5 false) (fun K => gE pg (oD .len #[22] 3 [i7]) w K) w fun i8 w =>
     Gd (kP i5 false) (fun K => K TC w) w fun i9 w =>
     Gd (kP i5 false) (fun K => gE pg (gW .neq 3 (.tmp 58) (.tmp 59) i8 i9) w K) w fun j0 w =>
     gE pg (mJ i5 (.bool true) j0) w fun j1 w =>
     mX j1
      (R (.tuple #[(.slice none 0 0), (atQ 11)]) w)
      (R (.tuple #[e8, (atQ 0)]) w)))))
theorem QQ (R : K1) (hr : HR MC R Q) (h : GF R (g 0) (g 1) (g 2) w) : jK pg Km Jo Q g w :=
 lM (kn := no) (l := []) h mH hr trivial
def Rw (a0 a1 a2 : atP) (w : atO) (R : K1) : Prop :=
 GF R a0 a1 a2 w
theorem Sb {a0 a1 a2 : atP} {w : atO} {R : K1} (h : Rw a0 a1 a2 w R) : jD pg Eg #[a0, a1, a2] w R := by
 refine Bp (ann := Km) Tryz.f19 Jo [a0, a1, a2] MC 63 TryzM.mixed Tryz.func19 ?_
 exact (QQ _ _ _ R (fun _ _ h => h) h)
def yF : FA := ⟨FQ, fun i => .leaf ([], []) []⟩
def Is : List ResultVar := [.tmp 4]
noncomputable def wA : Code := kB Tryz.f20
def Ao (R : K1) (kF ZJ Lg Ej : atP) (w : atO) : Prop :=
 jD pg nR #[] w fun d7 w =>
 jD pg jL #[d7, (.int .u64 4247762216), (atQ 4)] w fun d9 w =>
 jD pg jL #[d7, ZJ, (atQ 1)] w fun e2 w =>
 gE pg (gW .sub 32 iK iK kF Ej) w fun e6 w =>
 jD pg jL #[d7, e6, Lg] w fun e8 w =>
 jD pg nE #[d7] w fun f0 w =>
 R f0 w
theorem SR (R : K1) (hr : HR Is R Q) (h : Ao R (g 0) (g 5) (g 6) (g 7) w) : jK pg yF (fV 1 (fV 3 wA)) Q g w :=
 lM (kn := no) (l := []) h mH hr trivial
def Ic (kn : K4) (kF oF ZJ Lg Ej : atP) (w : atO) : Prop :=
 mX oF
  (gE pg (gW .or 32 iK iK ZJ (.int .u64 4)) w fun d6 w =>
  kn kF d6 Lg Ej w)
  (kn kF ZJ Lg Ej w)
theorem RM (kn : K4) (hn : N4 Q kn 0 5 6 7) (h : Ic kn (g 0) (g 1) (g 5) (g 6) (g 7) w) : jK pg yF (gS 1 (fV 3 wA)) Q g w :=
 lM (kr := no) (l := []) h hn mH trivial
def IA (R : K1) (kF oF ZJ Lg Ej : atP) (w : atO) : Prop :=
 Ic (fun kF ZJ Lg Ej w => Ao R kF ZJ Lg Ej w) kF oF ZJ Lg Ej w
def HI (kn : K5) (kF oF : atP) (w : atO) : Prop :=
 gE pg (gW .lss 32 iK iK kF (.int .u64 256)) w fun c3 w =>
 mX c3
  (kn kF oF (.int .u64 32) (atQ 1) (.int .u64 0) w)
  (gE pg (gW .lss 32 iK iK kF (.int .u64 65792)) w fun c6 w =>
  mX c6
   (gE pg (gW .or 32 iK iK (.int .u64 32) (.int .u64 64)) w fun c8 w =>
   kn kF oF c8 (atQ 2) (.int .u64 256) w)
   (gE pg (gW .lss 32 iK iK kF (.int .u64 4294967296)) w fun d1 w =>
   mX d1
    (gE pg (gW .or 32 iK iK (.int .u64 32) (.int .u64 128)) w fun d3 w =>
    kn kF oF d3 (atQ 4) (.int .u64 0) w)
    (gE pg (gW .or 32 iK iK (.int .u64 32) (.int .u64 192)) w fun c0 w =>
    kn kF oF c0 (atQ 8) (.int .u64 0) w)))
theorem RH (kn : K5) (hn : N5 Q kn 0 1 5 6 7) (h : HI kn (g 0) (g 1) w) : jK pg yF (gS 3 wA) Q g w :=
 lM (kr := no) (l := []) h hn mH trivial
def Hy (R : K1) (kF oF : atP) (w : atO) : Prop :=
 HI (fun kF oF ZJ Lg Ej w => IA R kF oF ZJ Lg Ej w) kF oF w
theorem Sz (R : K1) (hr : HR Is R Q) (h : Hy R (g 0) (g 1) w) : jK pg yF wA Q g w :=
 oB 3 (RH _ g w (IA R) (fun g w h => iB (oB 1 (RM _ g w (Ao R) (fun g w h => iB (SR _ g w R hr h)) h))) h)
def Uk (a0 a1 : atP) (w : atO) (R : K1) : Prop :=
 Hy R a0 a1 w
theorem TY {a0 a1 : atP} {w : atO} {R : K1} (h : Uk a0 a1 w R) : jD pg FQ #[a0, a1] w R := by
 refine Bp (ann := yF) Tryz.f20 wA [a0, a1] Is 41 TryzM.mixed Tryz.func20 ?_
 exact (Sz _ _ _ R (fun _ _ h => h) h)
def Jf : FA := ⟨Ck, fun i => .leaf ([], []) []⟩
def Kn : List ResultVar := [.cell 0 45]
noncomputable def HN : Code := kB Tryz.f21
def Fl (R : K1)  (w : atO) : Prop :=
 gE pg (pX 45) w fun b0 w =>
 gE pg (mL 45 [(0, (.int .u32 1)), (1, (.int .u32 4)), (2, (.int .u32 8))]) w fun b1 w =>
 gE pg (kA 45 b0 b1) w fun _u w =>
 UE pg 45 b0 w fun r0 => R r0 w
theorem P2 (R : K1) (hr : HR Kn R Q) (h : Fl R w) : jK pg Jf HN Q g w :=
 lM (kn := no) (l := []) h mH hr trivial
def Qh (w : atO) (R : K1) : Prop :=
 Fl R w
theorem Rd {w : atO} {R : K1} (h : Qh w R) : jD pg Ck #[] w R := by
 refine Bp (ann := Jf) Tryz.f21 HN [] Kn 2 TryzM.mixed Tryz.func21 ?_
 exact (P2 _ _ _ R (fun _ _ h => h) h)
def AK : FA := ⟨DL, fun i => match Nat.beq i 5 with | true => .leaf ([3], [(1, 3)]) [(false, []), (false, []), (false, []), (true, [1]), (false, [])] | false => match Nat.beq i 8 with | true => .leaf ([5, 7, 9], [(1, 5), (3, 5), (3, 7)]) [(false, []), (false, []), (false, []), (false, []), (false, []), (true, [1, 3]), (false, []), (true, [3]), (false, []), (true, [])] | false => match Nat.beq i 11 with | true => .leaf ([3], []) [(false, []), (false, []), (false, []), (true, []), (false, [])] | false => match Nat.beq i 12 with | true => .leaf ([2, 5], [(2, 3)]) [(false, []), (false, []), (true, []), (false, [0]), (false, []), (true, []), (false, [])] | false => .leaf ([], []) []⟩
def Gn : List ResultVar := [.tmp 10, .cell 11 45, .tmp 12]
noncomputable def zX : Code := kB Tryz.f22
def tM (R : K1) (zM c1 TJ RY : atP) (w : atO) : Prop :=
 gE pg (jF 65 TJ) w fun j4 w =>
 jD pg wZ #[j4] w fun j5 w =>
 gE pg (jU j5 0) w fun j6 w =>
 gE pg (jU j5 1) w fun j7 w =>
 gE pg (gW .neq 24 (.tmp 68) (.const (atQ 0)) j7 (atQ 0)) w fun j9 w =>
 mX j9
  (gE pg (jF 45 zM) (dr w) fun l0 w_ => w_ = (dr w) /\
  (dr w) = (dr w) /\
  (dr w) = (dr w) /\
  gE pg (kA 45 c1 l0) (dr w) fun _u3 aaH =>
  aaH = aaH /\
  UE pg 45 c1 aaH fun r1 => R (.tuple #[(.slice none 0 0), r1, j7]) aaH)
  ((dr w) = (dr w) /\
  (dr w) = (dr w) /\
  gE pg (oD .append #[22, 22] 22 [j6, RY]) (dr w) fun l4 Yd =>
  gE pg (jF 45 zM) Yd fun l5 w_ => w_ = Yd /\
  (jE pg (jF 45 zM) l5 (dr w) /\ True) /\
  Yd = Yd /\
  gE pg (kA 45 c1 l5) Yd fun _u5 aaC =>
  aaC = aaC /\
  UE pg 45 c1 aaC fun r1 => R (.tuple #[l4, r1, (atQ 0)]) aaC)
theorem QS (R : K1) (hr : HR Gn R Q) (h : tM R (g 9) (g 11) (g 14) (g 15) w) : jK pg AK (fV 5 zX) Q g w :=
 lM (kn := no) (l := []) h mH hr trivial
def Gy (kn : K4) (qV kZ b2 iZ r_4 : atP) (w : atO) : Prop :=
 gE pg (QM 45 r_4) w fun zM w =>
 gE pg (pX 45) w fun c1 w =>
 gE pg (lR 22 qV (some kZ) (some b2) none) w fun d4 w =>
 gE pg (oD .len #[22] 3 [qV]) w fun d7 w =>
 gE pg (gW .eql 3 (.tmp 25) (.tmp 27) b2 d7) w fun d8 w =>
 gE pg (oD .len #[22] 3 [d4]) w fun e0 w =>
 gE pg (mL 65 [(0, d8), (1, (atQ 0)), (2, e0)]) w fun e1 w =>
 gE pg (pX 65) w fun TJ w =>
 gE pg (kA 65 TJ e1) w fun _u w =>
 jD pg Ai #[d4] w fun e4 w =>
 mX e4
  ((dr w) = (dr w) /\
  gE pg (lR 22 d4 none (some (atQ 1)) none) (dr w) fun e6 w_ => w_ = (dr w) /\
  gE pg (jJ 65 TJ 1) (dr w) fun e7 w_ => w_ = (dr w) /\
  gE pg (kA 3 e7 (atQ 1)) (dr w) fun _u3 Zt =>
  (jE pg (lR 22 d4 none (some (atQ 1)) none) e6 Zt /\ True) /\
  Zt = Zt /\
  kn zM c1 TJ e6 Zt)
  (gE pg (jF 45 zM) w fun f3 w =>
  jD pg Cg #[qV, kZ, b2, iZ, f3] w fun f4 w =>
  gE pg (jU f4 0) w fun f5 w =>
  gE pg (jU f4 1) w fun f6 w =>
  gE pg (jU f4 2) w fun f7 w =>
  gE pg (pX 45) w fun c7 w =>
  gE pg (kA 45 c7 f6) w fun _u w =>
  gE pg (gW .eql 24 (.tmp 48) (.const (atQ 0)) f7 (atQ 0)) w fun f9 w =>
  Gd (kP f9 true) (fun K => K f5 w) w fun i1 w =>
  Gd (kP f9 true) (fun K => gE pg (oD .len #[22] 3 [i1]) w K) w fun i2 w =>
  Gd (kP f9 true) (fun K => K d4 w) w fun i3 w =>
  Gd (kP f9 true) (fun K => gE pg (oD .len #[22] 3 [i3]) w K) w fun i4 w =>
  Gd (kP f9 true) (fun K => gE pg (gW .lss 3 iK iK i2 i4) w K) w fun i5 w =>
  gE pg (mJ f9 i5 (.bool false)) w fun i6 w =>
  mX i6
   ((dr w) = (dr w) /\
   gE pg (oD .len #[22] 3 [f5]) (dr w) fun i8 w_ => w_ = (dr w) /\
   (dr w) = (dr w) /\
   gE pg (jF 45 c7) (dr w) fun j0 w_ => w_ = (dr w) /\
   gE pg (jJ 65 TJ 1) (dr w) fun j1 w_ => w_ = (dr w) /\
   gE pg (kA 3 j1 (atQ 2)) (dr w) fun _u5 aeR =>
   (jE pg (jF 45 c7) j0 aeR /\ jE pg (oD .len #[22] 3 [f5]) i8 aeR /\ True) /\
   gE pg (jJ 65 TJ 2) aeR fun j2 w_ => w_ = aeR /\
   gE pg (kA 3 j2 i8) aeR fun _u7 ahR =>
   (jE pg (jF 45 c7) j0 ahR /\ True) /\
   ahR = ahR /\
   gE pg (kA 45 zM j0) ahR fun _u9 amZ =>
   kn zM c1 TJ f5 amZ)
   (kn zM c1 TJ d4 w))
theorem QG (kn : K4) (hn : N4 Q kn 9 11 14 15) (h : Gy kn (g 0) (g 1) (g 2) (g 3) (g 4) w) : jK pg AK (gS 5 zX) Q g w :=
 lM (kr := no) (l := []) h hn mH trivial
def GC (R : K1) (qV kZ b2 iZ r_4 : atP) (w : atO) : Prop :=
 Gy (fun zM c1 TJ RY w => tM R zM c1 TJ RY w) qV kZ b2 iZ r_4 w
theorem QE (R : K1) (hr : HR Gn R Q) (h : GC R (g 0) (g 1) (g 2) (g 3) (g 4) w) : jK pg AK zX Q g w :=
 oB 5 (QG _ g w (tM R) (fun g w h => iB (QS _ g w R hr h)) h)
def RU (a0 a1 a2 a3 a4 : atP) (w : atO) (R : K1) : Prop :=
 GC R a0 a1 a2 a3 a4 w
theorem Ro {a0 a1 a2 a3 a4 : atP} {w : atO} {R : K1} (h : RU a0 a1 a2 a3 a4 w R) : jD pg DL #[a0, a1, a2, a3, a4] w R := by
 refine Bp (ann := AK) Tryz.f22 zX [a0, a1, a2, a3, a4] Gn 76 TryzM.mixed Tryz.func22 ?_
 exact (QE _ _ _ R (fun _ _ h => h) h)
def Vz : FA := ⟨Ox, fun i => .leaf ([], []) []⟩
def WU : List ResultVar := [.tmp 2]
noncomputable def Uw : Code := kB Tryz.f23
def Ti (R : K1) (qV : atP) (w : atO) : Prop :=
 jD pg Pb #[] w fun b4 w =>
 jD pg AG #[b4, qV] w fun b7 w =>
 jD pg DV #[b4] w fun b9 w =>
 R b9 w
theorem W6 (R : K1) (hr : HR WU R Q) (h : Ti R (g 0) w) : jK pg Vz Uw Q g w :=
 lM (kn := no) (l := []) h mH hr trivial
def afY (a0 : atP) (w : atO) (R : K1) : Prop :=
 Ti R a0 w
theorem XF {a0 : atP} {w : atO} {R : K1} (h : afY a0 w R) : jD pg Ox #[a0] w R := by
 refine Bp (ann := Vz) Tryz.f23 Uw [a0] WU 10 TryzM.mixed Tryz.func23 ?_
 exact (W6 _ _ _ R (fun _ _ h => h) h)
def ED : FA := ⟨pE, fun i => .leaf ([], []) []⟩
def Gi : List ResultVar := [.tmp 2]
noncomputable def Di : Code := kB Tryz.f25
def Am (R : K1) (EB : atP) (w : atO) : Prop :=
 gE pg (gW .eql 22 (.tmp 3) (.const (.slice none 0 0)) EB (.slice none 0 0)) w fun b4 w =>
 mX b4
  (R (.slice none 0 0) w)
  (gE pg (lJ 22 0 []) w fun b5 w =>
  gE pg (oD .append #[22, 22] 22 [b5, EB]) w fun b7 w =>
  R b7 w)
theorem Kd (R : K1) (hr : HR Gi R Q) (h : Am R (g 0) w) : jK pg ED Di Q g w :=
 lM (kn := no) (l := []) h mH hr trivial
def Je (a0 : atP) (w : atO) (R : K1) : Prop :=
 Am R a0 w
theorem LQ {a0 : atP} {w : atO} {R : K1} (h : Je a0 w R) : jD pg pE #[a0] w R := by
 refine Bp (ann := ED) Tryz.f25 Di [a0] Gi 8 TryzM.mixed Tryz.func25 ?_
 exact (Kd _ _ _ R (fun _ _ h => h) h)
def F7 : FA := ⟨nR, fun i => .leaf ([], []) []⟩
def GR : List ResultVar := [.tmp 0]
noncomputable def Ez : Code := kB Tryz.f27
def Bh (R : K1)  (w : atO) : Prop :=
 gE pg (mL 77 []) w fun b1 w =>
 gE pg (QM 77 b1) w fun b2 w =>
 R b2 w
theorem Mn (R : K1) (hr : HR GR R Q) (h : Bh R w) : jK pg F7 Ez Q g w :=
 lM (kn := no) (l := []) h mH hr trivial
def KY (w : atO) (R : K1) : Prop :=
 Bh R w
theorem Nn {w : atO} {R : K1} (h : KY w R) : jD pg nR #[] w R := by
 refine Bp (ann := F7) Tryz.f27 Ez [] GR 3 TryzM.mixed Tryz.func27 ?_
 exact (Mn _ _ _ R (fun _ _ h => h) h)
def pI : FA := ⟨jL, fun i => .leaf ([], []) []⟩
def vI : List ResultVar := []
noncomputable def pD : Code := kB Tryz.f28
def rH (kn : K4) (k0 : K0) (yC BT c7 c8 : atP) (w : atO) : Prop :=
 gE pg (gW .lss 3 iK iK c8 c7) w fun c9 w =>
 mX c9
  (gE pg (rN yC) w fun d3 w =>
  gE pg (jJ 77 d3 0) w fun d4 w =>
  gE pg (jF 22 d4) w fun d5 w =>
  gE pg (gW .mul 3 iK iK (atQ 8) c8) w fun d8 w =>
  gE pg (nS 3 50 d8) w fun d9 w =>
  gE pg (gW .shr 32 iK iK BT d9) w fun e0 w =>
  gE pg (nS 32 5 e0) w fun e1 w =>
  gE pg (lJ 22 1 [(0, e1)]) w fun e2 w =>
  gE pg (oD .append #[22, 22] 22 [d5, e2]) w fun e3 w =>
  gE pg (rN yC) w fun e4 w =>
  gE pg (jJ 77 e4 0) w fun e5 w =>
  gE pg (kA 22 e5 e3) w fun _u w =>
  gE pg (gW .add 3 iK iK c8 (atQ 1)) w fun e6 w =>
  kn yC BT c7 e6 w)
  (k0 w)
theorem Hc (kn : K4) (k0 : K0) (hn : N4 Q kn 0 1 17 18) (h0 : E0 Q k0 0) (h : rH kn k0 (g 0) (g 1) (g 17) (g 18) w) : jK pg pI (bI (bI (fV 2 pD))) Q g w :=
 lM (kr := no) (l := [(0, fun g w => k0 w)]) h hn mH ⟨h0, trivial⟩
def vR (k0 : K0) (yC BT c7 c8 : atP) (w : atO) : Prop :=
 kE (fun (X : atP -> K0) (t : atP) (w : atO) => rH (fun _ _ _ c8 w => X c8 w) k0 yC BT c7 t w) c8 w
theorem Io (k0 : K0) (h0 : E0 Q k0 0) (h : vR k0 (g 0) (g 1) (g 17) (g 18) w) : jK pg pI (bI (fV 2 pD)) Q g w := by
 refine MG (fun g : Env => g 18) (fun X t w => rH (fun _ _ _ c8 w => X c8 w) k0 (g 0) (g 1) (g 17) t w) h (fun X g1 w1 ha hL => ?_)
 rw [<- qO 0 ha, <- qO 1 ha, <- qO 17 ha] at hL
 exact (Hc _ g1 w1 (fun _ _ _ c8 w => X c8 w) k0 (fun _ _ h => h) h0 hL)
def vY (kn : K0) (yC BT c7 c8 : atP) (w : atO) : Prop :=
 vR kn yC BT c7 c8 w
def wF (kn : K4) (R : K1) (yC BT O1 : atP) (w : atO) : Prop :=
 gE pg (gW .eql 60 (.tmp 7) (.const (.pointer none)) yC (.pointer none)) w fun b8 w =>
 Gd (kP b8 false) (fun K => K O1 w) w fun c0 w =>
 Gd (kP b8 false) (fun K => gE pg (gW .lss 3 iK iK c0 (atQ 1)) w K) w fun c1 w =>
 gE pg (mJ b8 (.bool true) c1) w fun c2 w =>
 Gd (kP c2 false) (fun K => K O1 w) w fun c4 w =>
 Gd (kP c2 false) (fun K => gE pg (gW .gtr 3 iK iK c4 (atQ 8)) w K) w fun c5 w =>
 gE pg (mJ c2 (.bool true) c5) w fun c6 w =>
 mX c6
  (R (.tuple #[]) w)
  (kn yC BT O1 (atQ 0) w)
theorem Ik (kn : K4) (R : K1) (hn : N4 Q kn 0 1 17 18) (hr : HR vI R Q) (h : wF kn R (g 0) (g 1) (g 2) w) : jK pg pI (gS 2 pD) Q g w :=
 lM (l := []) h hn hr trivial
def wG (kn : K0) (R : K1) (yC BT O1 : atP) (w : atO) : Prop :=
 wF (fun yC BT c7 c8 w => vY kn yC BT c7 c8 w) R yC BT O1 w
theorem Hl (kn : K0) (R : K1) (hn : N0 Q kn) (hr : HR vI R Q) (h : wG kn R (g 0) (g 1) (g 2) w) : jK pg pI pD Q g w :=
 oB 2 (Ik _ g w (vY kn) R (fun g w h => iB (GV 0 (Io _ g w kn hn h))) hr h)
def Gb (a0 a1 a2 : atP) (w : atO) (R : K1) : Prop :=
 wG (fun  w => R (.tuple #[]) w) R a0 a1 a2 w
theorem IY {a0 a1 a2 : atP} {w : atO} {R : K1} (h : Gb a0 a1 a2 w R) : jD pg jL #[a0, a1, a2] w R := by
 refine Bp (ann := pI) Tryz.f28 pD [a0, a1, a2] vI 37 TryzM.mixed Tryz.func28 ?_
 exact (Hl _ _ _ (fun  w => R (.tuple #[]) w) R (fun _ _ h => h) (fun _ _ h => h) h)
def Es : FA := ⟨nE, fun i => .leaf ([], []) []⟩
def Gk : List ResultVar := [.tmp 2]
noncomputable def D1 : Code := kB Tryz.f29
def Al (R : K1) (yC : atP) (w : atO) : Prop :=
 gE pg (gW .eql 60 (.tmp 3) (.const (.pointer none)) yC (.pointer none)) w fun b4 w =>
 mX b4
  (R (.slice none 0 0) w)
  (gE pg (rN yC) w fun b6 w =>
  gE pg (jJ 77 b6 0) w fun b7 w =>
  gE pg (jF 22 b7) w fun b8 w =>
  jD pg pE #[b8] w fun b9 w =>
  R b9 w)
theorem KG (R : K1) (hr : HR Gk R Q) (h : Al R (g 0) w) : jK pg Es D1 Q g w :=
 lM (kn := no) (l := []) h mH hr trivial
def Jj (a0 : atP) (w : atO) (R : K1) : Prop :=
 Al R a0 w
theorem Li {a0 : atP} {w : atO} {R : K1} (h : Jj a0 w R) : jD pg nE #[a0] w R := by
 refine Bp (ann := Es) Tryz.f29 D1 [a0] Gk 10 TryzM.mixed Tryz.func29 ?_
 exact (KG _ _ _ R (fun _ _ h => h) h)
def Ku : FA := ⟨Ai, fun i => .leaf ([], []) []⟩
def MK : List ResultVar := [.tmp 2]
noncomputable def Ji : Code := kB Tryz.f30
def Gr (R : K1) (qV : atP) (w : atO) : Prop :=
 gE pg (QM 22 qV) w fun wP w =>
 gE pg (jF 22 wP) w fun b3 w =>
 gE pg (oD .len #[22] 3 [b3]) w fun b4 w =>
 gE pg (gW .gtr 3 iK iK b4 (atQ 0)) w fun b5 w =>
 Gd (kP b5 true) (fun K => gE pg (jF 22 wP) w K) w fun b7 w =>
 Gd (kP b5 true) (fun K => gE pg (Vy (.func 43) [] [wP]) w K) w fun b8 w =>
 Gd (kP b5 true) (fun K => jD pg sM #[b7, b8] w K) w fun b9 w =>
 Gd (kP b5 true) (fun K => gE pg (YG .not b9) w K) w fun c0 w =>
 gE pg (mJ b5 c0 (.bool false)) w fun c1 w =>
 R c1 w
theorem Rg (R : K1) (hr : HR MK R Q) (h : Gr R (g 0) w) : jK pg Ku Ji Q g w :=
 lM (kn := no) (l := []) h mH hr trivial
def RE (a0 : atP) (w : atO) (R : K1) : Prop :=
 Gr R a0 w
theorem RV {a0 : atP} {w : atO} {R : K1} (h : RE a0 w R) : jD pg Ai #[a0] w R := by
 refine Bp (ann := Ku) Tryz.f30 Ji [a0] MK 12 TryzM.mixed Tryz.func30 ?_
 exact (Rg _ _ _ R (fun _ _ h => h) h)
def pF : FA := ⟨Cg, fun i => match Nat.beq i 3 with | true => .leaf ([3], []) [(false, []), (false, []), (false, []), (true, []), (false, [])] | false => match Nat.beq i 16 with | true => .leaf ([3], []) [(false, []), (false, []), (false, []), (true, []), (false, [])] | false => match Nat.beq i 19 with | true => .leaf ([3], []) [(false, []), (false, []), (false, []), (true, []), (false, [])] | false => match Nat.beq i 20 with | true => .leaf ([2, 3, 6], [(2, 4), (3, 4)]) [(false, []), (false, []), (true, []), (true, []), (false, [0, 1]), (false, []), (true, []), (false, [])] | false => .leaf ([], []) []⟩
def A0 : List ResultVar := [.tmp 10, .cell 11 45, .tmp 12]
noncomputable def oU : Code := kB Tryz.f31
def A6 (R : K1) (qV b2 zM c1 Dh mA rI : atP) (w : atO) : Prop :=
 gE pg (lR 22 qV (some rI) (some b2) none) w fun m0 w =>
 gE pg (oD .append #[22, 22] 22 [mA, m0]) w fun m1 w =>
 jD pg AS #[m1] w fun m4 w =>
 gE pg (jU m4 0) w fun m5 w =>
 gE pg (jU m4 1) w fun m6 w =>
 gE pg (gW .neq 24 (.tmp 87) (.const (atQ 0)) m6 (atQ 0)) w fun m8 w =>
 mX m8
  (gE pg (jF 45 zM) (dr w) fun m9 w_ => w_ = (dr w) /\
  (dr w) = (dr w) /\
  (dr w) = (dr w) /\
  gE pg (kA 45 c1 m9) (dr w) fun _u3 aaA =>
  aaA = aaA /\
  UE pg 45 c1 aaA fun r1 => R (.tuple #[(.slice none 0 0), r1, m6]) aaA)
  (jD pg zN #[Dh] w fun n3 w =>
  gE pg (jU n3 0) w fun n4 w =>
  gE pg (jU n3 1) w fun n5 w =>
  gE pg (gW .neq 24 (.tmp 96) (.const (atQ 0)) n5 (atQ 0)) w fun n7 w =>
  mX n7
   (gE pg (jF 45 zM) (dr w) fun n8 w_ => w_ = (dr w) /\
   (dr w) = (dr w) /\
   (dr w) = (dr w) /\
   gE pg (kA 45 c1 n8) (dr w) fun _u3 Z3 =>
   Z3 = Z3 /\
   UE pg 45 c1 Z3 fun r1 => R (.tuple #[(.slice none 0 0), r1, n5]) Z3)
   ((dr w) = (dr w) /\
   (dr w) = (dr w) /\
   gE pg (lJ 137 2 [(0, m5), (1, n4)]) (dr w) fun o2 aiR =>
   jD pg tV #[o2] aiR fun o3 Yv =>
   gE pg (jF 45 zM) Yv fun o4 w_ => w_ = Yv /\
   (jE pg (jF 45 zM) o4 aiR /\ jE pg (jF 45 zM) o4 (dr w) /\ True) /\
   Yv = Yv /\
   gE pg (kA 45 c1 o4) Yv fun _u6 Z1 =>
   Z1 = Z1 /\
   UE pg 45 c1 Z1 fun r1 => R (.tuple #[o3, r1, (atQ 0)]) Z1))
theorem PO (R : K1) (hr : HR A0 R Q) (h : A6 R (g 0) (g 2) (g 9) (g 11) (g 13) (g 16) (g 17) w) : jK pg pF (fV 1 (fV 5 oU)) Q g w :=
 lM (kn := no) (l := []) h mH hr trivial
def AW (kn : K10) (k0 : K7) (qV b2 zM c1 Dh mA rI e6 e7 e8 : atP) (w : atO) : Prop :=
 gE pg (gW .lss 3 iK iK e8 e7) w fun e9 w =>
 mX e9
  (gE pg (jO 80 e6 e8) w fun f1 w =>
  gE pg (jF 84 f1) w fun f2 w =>
  gE pg (pX 84) w fun abK w =>
  gE pg (kA 84 abK f2) w fun _u w =>
  gE pg (jJ 84 abK 0) w fun f7 w =>
  gE pg (jF 38 f7) w fun f8 w =>
  gE pg (nS 38 3 f8) w fun f9 w =>
  gE pg (gW .add 3 iK iK rI f9) w fun i0 w =>
  gE pg (lR 22 qV (some rI) (some i0) none) w fun i1 w =>
  gE pg (oD .append #[22, 22] 22 [mA, i1]) w fun i2 w =>
  gE pg (jJ 84 abK 0) w fun i4 w =>
  gE pg (jF 38 i4) w fun i5 w =>
  gE pg (nS 38 3 i5) w fun i6 w =>
  gE pg (jJ 84 abK 1) w fun i7 w =>
  gE pg (jF 38 i7) w fun i8 w =>
  gE pg (nS 38 3 i8) w fun i9 w =>
  gE pg (gW .add 3 iK iK i6 i9) w fun j0 w =>
  gE pg (gW .add 3 iK iK rI j0) w fun j1 w =>
  gE pg (jF 45 zM) w fun j5 w =>
  gE pg (jJ 84 abK 0) w fun j6 w =>
  gE pg (jF 38 j6) w fun j7 w =>
  gE pg (jJ 84 abK 2) w fun j8 w =>
  gE pg (jF 38 j8) w fun j9 w =>
  jD pg VR #[j5, j7, j9] w fun l0 w =>
  gE pg (jU l0 0) w fun l1 w =>
  gE pg (jU l0 1) w fun l2 w =>
  gE pg (jO 80 Dh e8) w fun l3 w =>
  gE pg (jJ 84 l3 2) w fun l4 w =>
  gE pg (kA 38 l4 l1) w fun _u w =>
  gE pg (kA 45 zM l2) w fun _u w =>
  gE pg (gW .add 3 iK iK e8 (atQ 1)) w fun l5 w =>
  kn qV b2 zM c1 Dh i2 j1 e6 e7 l5 w)
  (k0 qV b2 zM c1 Dh mA rI w)
theorem PW (kn : K10) (k0 : K7) (hn : N10 Q kn 0 2 9 11 13 16 17 36 37 38) (h0 : E7 Q k0 0 0 2 9 11 13 16 17) (h : AW kn k0 (g 0) (g 2) (g 9) (g 11) (g 13) (g 16) (g 17) (g 36) (g 37) (g 38) w) : jK pg pF (bI (bI (fV 1 (gS 1 (fV 5 oU))))) Q g w :=
 lM (kr := no) (l := [(0, fun g w => k0 (g 0) (g 2) (g 9) (g 11) (g 13) (g 16) (g 17) w)]) h hn mH ⟨h0, trivial⟩
def Fj (k0 : K7) (qV b2 zM c1 Dh mA rI e6 e7 e8 : atP) (w : atO) : Prop :=
 kE (fun (X : (atP × atP × atP) -> K0) (t : atP × atP × atP) (w : atO) => AW (fun _ _ _ _ _ mA rI _ _ e8 w => X (mA, rI, e8) w) k0 qV b2 zM c1 Dh t.1 t.2.1 e6 e7 t.2.2 w) (mA, rI, e8) w
theorem Qa (k0 : K7) (h0 : E7 Q k0 0 0 2 9 11 13 16 17) (h : Fj k0 (g 0) (g 2) (g 9) (g 11) (g 13) (g 16) (g 17) (g 36) (g 37) (g 38) w) : jK pg pF (bI (fV 1 (gS 1 (fV 5 oU)))) Q g w := by
 refine MG (fun g : Env => (g 16, g 17, g 38)) (fun X t w => AW (fun _ _ _ _ _ mA rI _ _ e8 w => X (mA, rI, e8) w) k0 (g 0) (g 2) (g 9) (g 11) (g 13) t.1 t.2.1 (g 36) (g 37) t.2.2 w) h (fun X g1 w1 ha hL => ?_)
 rw [<- qO 0 ha, <- qO 2 ha, <- qO 9 ha, <- qO 11 ha, <- qO 13 ha, <- qO 36 ha, <- qO 37 ha] at hL
 exact (PW _ g1 w1 (fun _ _ _ _ _ mA rI _ _ e8 w => X (mA, rI, e8) w) k0 (fun _ _ h => h) h0 hL)
def EV (kn : K7) (qV b2 zM c1 Dh mA rI e6 e7 e8 : atP) (w : atO) : Prop :=
 Fj kn qV b2 zM c1 Dh mA rI e6 e7 e8 w
def Fa (kn : K10) (qV b2 zM c1 Dh mA rI : atP) (w : atO) : Prop :=
 gE pg (oD .len #[80] 3 [Dh]) w fun e7 w =>
 kn qV b2 zM c1 Dh mA rI Dh e7 (atQ 0) w
theorem P4 (kn : K10) (hn : N10 Q kn 0 2 9 11 13 16 17 36 37 38) (h : Fa kn (g 0) (g 2) (g 9) (g 11) (g 13) (g 16) (g 17) w) : jK pg pF (gS 1 (gS 1 (fV 5 oU))) Q g w :=
 lM (kr := no) (l := []) h hn mH trivial
def EL (kn : K7) (qV b2 zM c1 Dh mA rI : atP) (w : atO) : Prop :=
 Fa (fun qV b2 zM c1 Dh mA rI e6 e7 e8 w => EV kn qV b2 zM c1 Dh mA rI e6 e7 e8 w) qV b2 zM c1 Dh mA rI w
def Fc (R : K1) (qV b2 zM c1 Dh mA rI : atP) (w : atO) : Prop :=
 EL (fun qV b2 zM c1 Dh mA rI w => A6 R qV b2 zM c1 Dh mA rI w) qV b2 zM c1 Dh mA rI w
theorem PQ (kn : K7) (hn : N7 Q kn 0 2 9 11 13 16 17) (h : EL kn (g 0) (g 2) (g 9) (g 11) (g 13) (g 16) (g 17) w) : jK pg pF (gS 1 (fV 5 oU)) Q g w :=
 oB 1 (P4 _ g w (EV kn) (fun g w h => iB (GV 0 (Qa _ g w kn hn h))) h)
def EF (kn : K7) (R : K1) (qV kZ b2 iZ r_4 : atP) (w : atO) : Prop :=
 gE pg (QM 45 r_4) w fun zM w =>
 gE pg (pX 45) w fun c1 w =>
 jD pg Du #[qV, kZ, b2, iZ] w fun d7 w =>
 gE pg (jU d7 0) w fun d8 w =>
 gE pg (jU d7 1) w fun d9 w =>
 gE pg (jU d7 2) w fun e0 w =>
 gE pg (gW .neq 24 (.tmp 31) (.const (atQ 0)) e0 (atQ 0)) w fun e2 w =>
 mX e2
  (gE pg (jF 45 zM) (dr w) fun e3 w_ => w_ = (dr w) /\
  (dr w) = (dr w) /\
  (dr w) = (dr w) /\
  gE pg (kA 45 c1 e3) (dr w) fun _u3 ahF =>
  ahF = ahF /\
  UE pg 45 c1 ahF fun r1 => R (.tuple #[(.slice none 0 0), r1, e0]) ahF)
  (kn qV b2 zM c1 d8 (.slice none 0 0) kZ w)
theorem Pr (kn : K7) (R : K1) (hn : N7 Q kn 0 2 9 11 13 16 17) (hr : HR A0 R Q) (h : EF kn R (g 0) (g 1) (g 2) (g 3) (g 4) w) : jK pg pF (gS 5 oU) Q g w :=
 lM (l := []) h hn hr trivial
def Fs (R : K1) (qV kZ b2 iZ r_4 : atP) (w : atO) : Prop :=
 EF (fun qV b2 zM c1 Dh mA rI w => Fc R qV b2 zM c1 Dh mA rI w) R qV kZ b2 iZ r_4 w
theorem PX (R : K1) (hr : HR A0 R Q) (h : Fs R (g 0) (g 1) (g 2) (g 3) (g 4) w) : jK pg pF oU Q g w :=
 oB 5 (Pr _ g w (Fc R) R (fun g w h => iB (oB 1 (PQ _ g w (A6 R) (fun g w h => iB (PO _ g w R hr h)) h))) hr h)
def Qr (a0 a1 a2 a3 a4 : atP) (w : atO) (R : K1) : Prop :=
 Fs R a0 a1 a2 a3 a4 w
theorem QZ {a0 a1 a2 a3 a4 : atP} {w : atO} {R : K1} (h : Qr a0 a1 a2 a3 a4 w R) : jD pg Cg #[a0, a1, a2, a3, a4] w R := by
 refine Bp (ann := pF) Tryz.f31 oU [a0, a1, a2, a3, a4] A0 105 TryzM.mixed Tryz.func31 ?_
 exact (PX _ _ _ R (fun _ _ h => h) h)
def tX : FA := ⟨wZ, fun i => .leaf ([], []) []⟩
def vB : List ResultVar := [.tmp 2, .tmp 3]
noncomputable def tF : Code := kB Tryz.f32
def rS (R : K1) (F4 : atP) (w : atO) : Prop :=
 jD pg nR #[] w fun e5 w =>
 gE pg (nS 3 32 F4) w fun e8 w =>
 jD pg jL #[e5, e8, (atQ 3)] w fun e9 w =>
 jD pg nE #[e5] w fun f1 w =>
 R (.tuple #[f1, (atQ 0)]) w
theorem LR (R : K1) (hr : HR vB R Q) (h : rS R (g 4) w) : jK pg tX (fV 4 tF) Q g w :=
 lM (kn := no) (l := []) h mH hr trivial
def Bm (kn : K1) (R : K1) (nM : atP) (w : atO) : Prop :=
 gE pg (QM 65 nM) w fun BT w =>
 gE pg (jJ 65 BT 1) w fun b6 w =>
 gE pg (jF 3 b6) w fun b7 w =>
 gE pg (gW .lss 3 iK iK b7 (atQ 0)) w fun b8 w =>
 Gd (kP b8 false) (fun K => gE pg (jJ 65 BT 1) w K) w fun c0 w =>
 Gd (kP b8 false) (fun K => gE pg (jF 3 c0) w K) w fun c1 w =>
 Gd (kP b8 false) (fun K => gE pg (gW .gtr 3 iK iK c1 (atQ 2)) w K) w fun c2 w =>
 gE pg (mJ b8 (.bool true) c2) w fun c3 w =>
 Gd (kP c3 false) (fun K => gE pg (jJ 65 BT 2) w K) w fun c5 w =>
 Gd (kP c3 false) (fun K => gE pg (jF 3 c5) w K) w fun c6 w =>
 Gd (kP c3 false) (fun K => gE pg (gW .lss 3 iK iK c6 (atQ 0)) w K) w fun c7 w =>
 gE pg (mJ c3 (.bool true) c7) w fun c8 w =>
 Gd (kP c8 false) (fun K => gE pg (jJ 65 BT 2) w K) w fun d0 w =>
 Gd (kP c8 false) (fun K => gE pg (jF 3 d0) w K) w fun d1 w =>
 Gd (kP c8 false) (fun K => gE pg (gW .geq 3 iK iK d1 (atQ 2097152)) w K) w fun d2 w =>
 gE pg (mJ c8 (.bool true) d2) w fun d3 w =>
 mX d3
  (R (.tuple #[(.slice none 0 0), (atQ 1)]) w)
  (gE pg (jJ 65 BT 2) w fun d4 w =>
  gE pg (jF 3 d4) w fun d5 w =>
  gE pg (gW .shl 3 iK iK d5 (.int .u64 3)) w fun d6 w =>
  gE pg (jJ 65 BT 1) w fun d7 w =>
  gE pg (jF 3 d7) w fun d8 w =>
  gE pg (gW .shl 3 iK iK d8 (.int .u64 1)) w fun d9 w =>
  gE pg (gW .or 3 iK iK d6 d9) w fun e0 w =>
  gE pg (jJ 65 BT 0) w fun e1 w =>
  gE pg (jF 4 e1) w fun e2 w =>
  mX e2
   (gE pg (gW .or 3 iK iK e0 (atQ 1)) w fun e4 w =>
   kn e4 w)
   (kn e0 w))
theorem Mh (kn : K1) (R : K1) (hn : N1 Q kn 4) (hr : HR vB R Q) (h : Bm kn R (g 0) w) : jK pg tX (gS 4 tF) Q g w :=
 lM (l := []) h hn hr trivial
def Bv (R : K1) (nM : atP) (w : atO) : Prop :=
 Bm (fun F4 w => rS R F4 w) R nM w
theorem LN (R : K1) (hr : HR vB R Q) (h : Bv R (g 0) w) : jK pg tX tF Q g w :=
 oB 4 (Mh _ g w (rS R) R (fun g w h => iB (LR _ g w R hr h)) hr h)
def KF (a0 : atP) (w : atO) (R : K1) : Prop :=
 Bv R a0 w
theorem NA {a0 : atP} {w : atO} {R : K1} (h : KF a0 w R) : jD pg wZ #[a0] w R := by
 refine Bp (ann := tX) Tryz.f32 tF [a0] vB 42 TryzM.mixed Tryz.func32 ?_
 exact (LN _ _ _ R (fun _ _ h => h) h)
def Uq : FA := ⟨Pb, fun i => .leaf ([], []) []⟩
def Vm : List ResultVar := [.tmp 0]
noncomputable def SQ : Code := kB Tryz.f33
def QF (R : K1)  (w : atO) : Prop :=
 gE pg (gW .add 32 iK iK (.int .u64 11400714785074694791) (.int .u64 14029467366897019727)) w fun b3 w =>
 gE pg (YG .neg (.int .u64 11400714785074694791)) w fun b5 w =>
 gE pg (mL 90 [(0, b3), (1, (.int .u64 14029467366897019727)), (2, (.int .u64 0)), (3, b5)]) w fun b6 w =>
 gE pg (mL 93 [(0, b6)]) w fun b7 w =>
 gE pg (QM 93 b7) w fun b8 w =>
 R b8 w
theorem V7 (R : K1) (hr : HR Vm R Q) (h : QF R w) : jK pg Uq SQ Q g w :=
 lM (kn := no) (l := []) h mH hr trivial
def aaJ (w : atO) (R : K1) : Prop :=
 QF R w
theorem Xj {w : atO} {R : K1} (h : aaJ w R) : jD pg Pb #[] w R := by
 refine Bp (ann := Uq) Tryz.f33 SQ [] Vm 9 TryzM.mixed Tryz.func33 ?_
 exact (V7 _ _ _ R (fun _ _ h => h) h)
def lL : FA := ⟨AG, fun i => match Nat.beq i 3 with | true => .leaf ([9], []) [(false, []), (false, []), (false, []), (false, []), (false, []), (false, []), (false, []), (false, []), (false, []), (true, []), (false, [])] | false => match Nat.beq i 10 with | true => .leaf ([17, 18, 22], [(4, 17), (5, 17), (6, 17), (7, 17), (17, 19), (17, 20), (18, 19), (18, 20)]) [(false, []), (false, []), (false, []), (false, []), (false, []), (false, []), (false, []), (false, []), (false, []), (false, []), (false, []), (false, []), (false, []), (false, []), (false, []), (false, []), (false, []), (true, [9, 10, 11, 12]), (true, []), (false, [0, 1]), (false, [1, 2]), (false, []), (true, [])] | false => .leaf ([], []) []⟩
def Dr : List ResultVar := []
noncomputable def kY : Code := kB Tryz.f34
def rJ (kn : K2) (qD wP : atP) (w : atO) : Prop :=
 gE pg (rN qD) w fun l4 w =>
 gE pg (jJ 93 l4 2) w fun l5 w =>
 gE pg (kA 3 l5 (atQ 0)) w fun _u w =>
 kn qD wP w
theorem Od (kn : K2) (hn : N2 Q kn 0 1) (h : rJ kn (g 0) (g 1) w) : jK pg lL (fV 1 (cT (fV 4 (bI (fV 1 (bI (bI (fV 2 kY)))))))) Q g w :=
 lM (kr := no) (l := []) h hn mH trivial
def tR (kn : K3) (k2 : K2) (qD wP f7 : atP) (w : atO) : Prop :=
 gE pg (gW .lss 3 iK iK f7 (atQ 4)) w fun f8 w =>
 mX f8
  ((dr w) = (dr w) /\
  (dr w) = (dr w) /\
  (dr w) = (dr w) /\
  (dr w) = (dr w) /\
  gE pg (rN qD) (dr w) fun i4 w_ => w_ = (dr w) /\
  gE pg (jJ 93 i4 0) (dr w) fun i5 w_ => w_ = (dr w) /\
  gE pg (jO 90 i5 f7) (dr w) fun i6 w_ => w_ = (dr w) /\
  gE pg (jF 32 i6) (dr w) fun i7 w_ => w_ = (dr w) /\
  (dr w) = (dr w) /\
  gE pg (rN qD) (dr w) fun i9 w_ => w_ = (dr w) /\
  gE pg (jJ 93 i9 1) (dr w) fun j0 w_ => w_ = (dr w) /\
  (dr w) = (dr w) /\
  gE pg (gW .mul 3 iK iK (atQ 8) f7) (dr w) fun j2 w_ => w_ = (dr w) /\
  (dr w) = (dr w) /\
  gE pg (gW .mul 3 iK iK (atQ 8) f7) (dr w) fun j4 w_ => w_ = (dr w) /\
  gE pg (gW .add 3 iK iK j4 (atQ 8)) (dr w) fun j5 w_ => w_ = (dr w) /\
  gE pg (lR 91 j0 (some j2) (some j5) none) (dr w) fun j6 w_ => w_ = (dr w) /\
  jD pg A5 #[j6] (dr w) fun j7 Rc =>
  (jE pg (jF 32 i6) i7 Rc /\ jE pg (jO 90 i5 f7) i6 Rc /\ jE pg (jJ 93 i4 0) i5 Rc /\ jE pg (rN qD) i4 Rc /\ True) /\
  jD pg C3 #[i7, j7] Rc fun j8 QI =>
  gE pg (rN qD) QI fun j9 w_ => w_ = QI /\
  (jE pg (rN qD) j9 Rc /\ jE pg (rN qD) j9 (dr w) /\ True) /\
  gE pg (jJ 93 j9 0) QI fun l0 w_ => w_ = QI /\
  (jE pg (jJ 93 j9 0) l0 Rc /\ jE pg (jJ 93 j9 0) l0 (dr w) /\ True) /\
  gE pg (jO 90 l0 f7) QI fun l1 w_ => w_ = QI /\
  gE pg (kA 32 l1 j8) QI fun _u22 ajP =>
  gE pg (gW .add 3 iK iK f7 (atQ 1)) ajP fun l2 w =>
  kn qD wP l2 w)
  (k2 qD wP w)
theorem O8 (kn : K3) (k2 : K2) (hn : N3 Q kn 0 1 47) (h2 : E2 Q k2 2 0 1) (h : tR kn k2 (g 0) (g 1) (g 47) w) : jK pg lL (bI (bI (fV 1 (gS 1 (cT (fV 4 (bI (fV 1 (bI (bI (fV 2 kY))))))))))) Q g w :=
 lM (kr := no) (l := [(2, fun g w => k2 (g 0) (g 1) w)]) h hn mH ⟨h2, trivial⟩
def Df (k2 : K2) (qD wP f7 : atP) (w : atO) : Prop :=
 kE (fun (X : atP -> K0) (t : atP) (w : atO) => tR (fun _ _ f7 w => X f7 w) k2 qD wP t w) f7 w
theorem OK (k2 : K2) (h2 : E2 Q k2 2 0 1) (h : Df k2 (g 0) (g 1) (g 47) w) : jK pg lL (bI (fV 1 (gS 1 (cT (fV 4 (bI (fV 1 (bI (bI (fV 2 kY)))))))))) Q g w := by
 refine MG (fun g : Env => g 47) (fun X t w => tR (fun _ _ f7 w => X f7 w) k2 (g 0) (g 1) t w) h (fun X g1 w1 ha hL => ?_)
 rw [<- qO 0 ha, <- qO 1 ha] at hL
 exact (O8 _ g1 w1 (fun _ _ f7 w => X f7 w) k2 (fun _ _ h => h) h2 hL)
def DI (kn : K2) (qD wP f7 : atP) (w : atO) : Prop :=
 Df kn qD wP f7 w
def Eh (kn : K3) (qD wP : atP) (w : atO) : Prop :=
 kn qD wP (atQ 0) w
theorem Oh (kn : K3) (hn : N3 Q kn 0 1 47) (h : Eh kn (g 0) (g 1) w) : jK pg lL (gS 1 (gS 1 (cT (fV 4 (bI (fV 1 (bI (bI (fV 2 kY))))))))) Q g w :=
 lM (kr := no) (l := []) h hn mH trivial
def Ab (kn : K2) (qD wP : atP) (w : atO) : Prop :=
 Eh (fun qD wP f7 w => DI kn qD wP f7 w) qD wP w
def zF (kn : K2) (qD wP : atP) (w : atO) : Prop :=
 Ab (fun qD wP w => rJ kn qD wP w) qD wP w
theorem OV (kn : K2) (hn : N2 Q kn 0 1) (h : Ab kn (g 0) (g 1) w) : jK pg lL (gS 1 (cT (fV 4 (bI (fV 1 (bI (bI (fV 2 kY)))))))) Q g w :=
 oB 1 (Oh _ g w (DI kn) (fun g w h => iB (GV 2 (OK _ g w kn hn h))) h)
def uG (kn : K2) (qD wP : atP) (w : atO) : Prop :=
 kn qD wP w
theorem Oi (kn : K2) (hn : N2 Q kn 0 1) (h : uG kn (g 0) (g 1) w) : jK pg lL (cE (fV 4 (bI (fV 1 (bI (bI (fV 2 kY))))))) Q g w :=
 lM (kr := no) (l := []) h hn mH trivial
def tS (kn : K2) (qD wP f6 : atP) (w : atO) : Prop :=
 mX f6 (zF kn qD wP w) (uG kn qD wP w)
def sN (kn : K3) (qD wP : atP) (w : atO) : Prop :=
 (dr w) = (dr w) /\
 gE pg (rN qD) (dr w) fun d2 w_ => w_ = (dr w) /\
 gE pg (jJ 93 d2 1) (dr w) fun d3 w_ => w_ = (dr w) /\
 (dr w) = (dr w) /\
 gE pg (rN qD) (dr w) fun d5 w_ => w_ = (dr w) /\
 gE pg (jJ 93 d5 2) (dr w) fun d6 w_ => w_ = (dr w) /\
 gE pg (jF 3 d6) (dr w) fun d7 w_ => w_ = (dr w) /\
 gE pg (lR 91 d3 (some d7) none none) (dr w) fun d8 w_ => w_ = (dr w) /\
 (dr w) = (dr w) /\
 gE pg (oD .copy #[22, 22] 3 [d8, wP]) (dr w) fun e0 ajD =>
 ajD = ajD /\
 gE pg (rN qD) ajD fun e2 w =>
 gE pg (jJ 93 e2 2) w fun e3 w =>
 gE pg (jF 3 e3) w fun e4 w =>
 gE pg (gW .add 3 iK iK e4 e0) w fun e6 w =>
 gE pg (rN qD) w fun e7 w =>
 gE pg (jJ 93 e7 2) w fun e8 w =>
 gE pg (kA 3 e8 e6) w fun _u w =>
 gE pg (lR 22 wP (some e0) none none) w fun f1 w =>
 gE pg (rN qD) w fun f3 w =>
 gE pg (jJ 93 f3 2) w fun f4 w =>
 gE pg (jF 3 f4) w fun f5 w =>
 gE pg (gW .eql 3 (.tmp 45) (.const (atQ 32)) f5 (atQ 32)) w fun f6 w =>
 kn qD f1 f6 w
theorem MM (kn : K3) (hn : N3 Q kn 0 1 46) (h : sN kn (g 0) (g 1) w) : jK pg lL (gS 4 (bI (fV 1 (bI (bI (fV 2 kY)))))) Q g w :=
 lM (kr := no) (l := []) h hn mH trivial
def wT (kn : K2) (qD wP : atP) (w : atO) : Prop :=
 sN (fun qD wP f6 w => tS kn qD wP f6 w) qD wP w
def sR (kn : K2) (qD wP : atP) (w : atO) : Prop :=
 wT kn qD wP w
def sV (kn : K2) (k0 : K0) (qD wP : atP) (w : atO) : Prop :=
 gE pg (oD .len #[22] 3 [wP]) w fun c9 w =>
 gE pg (gW .gtr 3 iK iK c9 (atQ 0)) w fun d0 w =>
 mX d0
  (kn qD wP w)
  (k0 w)
theorem Ns (kn : K2) (k0 : K0) (hn : N2 Q kn 0 1) (h0 : E0 Q k0 0) (h : sV kn k0 (g 0) (g 1) w) : jK pg lL (gS 1 (bI (bI (fV 2 kY)))) Q g w :=
 lM (kr := no) (l := [(0, fun g w => k0 w)]) h hn mH ⟨h0, trivial⟩
def qR (kn : K2) (k0 : K0) (qD wP : atP) (w : atO) : Prop :=
 sV (fun qD wP w => sR kn qD wP w) k0 qD wP w
def xD (k0 : K0) (qD wP : atP) (w : atO) : Prop :=
 kE (fun (X : atP -> K0) (t : atP) (w : atO) => qR (fun _ wP w => X wP w) k0 qD t w) wP w
theorem Ny (kn : K2) (k0 : K0) (hn : N2 Q kn 0 1) (h0 : E0 Q k0 0) (h : qR kn k0 (g 0) (g 1) w) : jK pg lL (bI (bI (fV 2 kY))) Q g w :=
 oB 1 (Ns _ g w (sR kn) k0 (fun g w h => iB (GV 1 (oB 4 (MM _ g w (tS kn) (fun g w h => iB (cdD (.tmp 46) (fun h => (oB 1 (OV _ g w (rJ kn) (fun g w h => iB (Od _ g w kn hn h)) h))) (fun h => (Oi _ g w kn hn h)) h)) h)))) h0 h)
theorem Nx (k0 : K0) (h0 : E0 Q k0 0) (h : xD k0 (g 0) (g 1) w) : jK pg lL (bI (fV 2 kY)) Q g w := by
 refine MG (fun g : Env => g 1) (fun X t w => qR (fun _ wP w => X wP w) k0 (g 0) t w) h (fun X g1 w1 ha hL => ?_)
 rw [<- qO 0 ha] at hL
 exact (Ny _ g1 w1 (fun _ wP w => X wP w) k0 (fun _ _ h => h) h0 hL)
def Ct (kn : K0) (qD wP : atP) (w : atO) : Prop :=
 xD kn qD wP w
def CI (kn : K2) (R : K1) (qD wP : atP) (w : atO) : Prop :=
 gE pg (gW .eql 68 (.tmp 6) (.const (.pointer none)) qD (.pointer none)) w fun b7 w =>
 mX b7
  (R (.tuple #[]) w)
  (gE pg (rN qD) w fun b9 w =>
  gE pg (jJ 93 b9 3) w fun c0 w =>
  gE pg (jF 32 c0) w fun c1 w =>
  gE pg (oD .len #[22] 3 [wP]) w fun c3 w =>
  gE pg (nS 3 32 c3) w fun c4 w =>
  gE pg (gW .add 32 iK iK c1 c4) w fun c5 w =>
  gE pg (rN qD) w fun c6 w =>
  gE pg (jJ 93 c6 3) w fun c7 w =>
  gE pg (kA 32 c7 c5) w fun _u w =>
  kn qD wP w)
theorem Nz (kn : K2) (R : K1) (hn : N2 Q kn 0 1) (hr : HR Dr R Q) (h : CI kn R (g 0) (g 1) w) : jK pg lL (gS 2 kY) Q g w :=
 lM (l := []) h hn hr trivial
def CL (kn : K0) (R : K1) (qD wP : atP) (w : atO) : Prop :=
 CI (fun qD wP w => Ct kn qD wP w) R qD wP w
theorem Na (kn : K0) (R : K1) (hn : N0 Q kn) (hr : HR Dr R Q) (h : CL kn R (g 0) (g 1) w) : jK pg lL kY Q g w :=
 oB 2 (Nz _ g w (Ct kn) R (fun g w h => iB (GV 0 (Nx _ g w kn hn h))) hr h)
def OL (a0 a1 : atP) (w : atO) (R : K1) : Prop :=
 CL (fun  w => R (.tuple #[]) w) R a0 a1 w
theorem PV {a0 a1 : atP} {w : atO} {R : K1} (h : OL a0 a1 w R) : jD pg AG #[a0, a1] w R := by
 refine Bp (ann := lL) Tryz.f34 kY [a0, a1] Dr 76 TryzM.mixed Tryz.func34 ?_
 exact (Na _ _ _ (fun  w => R (.tuple #[]) w) R (fun _ _ h => h) (fun _ _ h => h) h)
def mM : FA := ⟨DV, fun i => match Nat.beq i 3 with | true => .leaf ([1], [(1, 3), (1, 4), (1, 5)]) [(false, []), (true, []), (false, []), (false, [1]), (false, [2]), (false, [3]), (false, []), (false, [])] | false => match Nat.beq i 4 with | true => .leaf ([], []) [(false, []), (false, []), (false, []), (false, []), (false, []), (false, []), (false, []), (false, []), (false, [])] | false => .leaf ([], []) []⟩
def Cb : List ResultVar := [.tmp 2]
noncomputable def mG : Code := kB Tryz.f35
def Ce (R : K1) (nV : atP) (w : atO) : Prop :=
 gE pg (gW .shr 32 iK iK nV (.int .u64 33)) w fun j9 w =>
 gE pg (gW .xor 32 iK iK nV j9) w fun l0 w =>
 gE pg (gW .mul 32 iK iK l0 (.int .u64 14029467366897019727)) w fun l1 w =>
 gE pg (gW .shr 32 iK iK l1 (.int .u64 29)) w fun l4 w =>
 gE pg (gW .xor 32 iK iK l1 l4) w fun l5 w =>
 gE pg (gW .mul 32 iK iK l5 (.int .u64 1609587929392839161)) w fun l6 w =>
 gE pg (gW .shr 32 iK iK l6 (.int .u64 32)) w fun l9 w =>
 gE pg (gW .xor 32 iK iK l6 l9) w fun m0 w =>
 R m0 w
theorem QY (R : K1) (hr : HR Cb R Q) (h : Ce R (g 3) w) : jK pg mM (fV 1 (fV 1 (fV 1 (fV 4 mG)))) Q g w :=
 lM (kn := no) (l := []) h mH hr trivial
def yJ (kn : K4) (k2 : K1) (nV i3 i4 i5 : atP) (w : atO) : Prop :=
 gE pg (gW .lss 3 iK iK i5 i4) w fun i6 w =>
 mX i6
  (gE pg (jO 22 i3 i5) w fun i7 w =>
  gE pg (jF 5 i7) w fun i8 w =>
  gE pg (nS 5 32 i8) w fun j1 w =>
  gE pg (gW .mul 32 iK iK j1 (.int .u64 2870177450012600261)) w fun j2 w =>
  gE pg (gW .xor 32 iK iK nV j2) w fun j3 w =>
  jD pg mD #[j3, (atQ 11)] w fun j4 w =>
  gE pg (gW .mul 32 iK iK j4 (.int .u64 11400714785074694791)) w fun j5 w =>
  gE pg (gW .add 3 iK iK i5 (atQ 1)) w fun j6 w =>
  kn j5 i3 i4 j6 w)
  (k2 nV w)
theorem Q4 (kn : K4) (k2 : K1) (hn : N4 Q kn 3 53 54 55) (h2 : E1 Q k2 2 3) (h : yJ kn k2 (g 3) (g 53) (g 54) (g 55) w) : jK pg mM (bI (bI (fV 1 (gS 1 (fV 1 (fV 1 (fV 4 mG))))))) Q g w :=
 lM (kr := no) (l := [(2, fun g w => k2 (g 3) w)]) h hn mH ⟨h2, trivial⟩
def Gu (k2 : K1) (nV i3 i4 i5 : atP) (w : atO) : Prop :=
 kE (fun (X : (atP × atP) -> K0) (t : atP × atP) (w : atO) => yJ (fun nV _ _ i5 w => X (nV, i5) w) k2 t.1 i3 i4 t.2 w) (nV, i5) w
theorem Q2 (k2 : K1) (h2 : E1 Q k2 2 3) (h : Gu k2 (g 3) (g 53) (g 54) (g 55) w) : jK pg mM (bI (fV 1 (gS 1 (fV 1 (fV 1 (fV 4 mG)))))) Q g w := by
 refine MG (fun g : Env => (g 3, g 55)) (fun X t w => yJ (fun nV _ _ i5 w => X (nV, i5) w) k2 t.1 (g 53) (g 54) t.2 w) h (fun X g1 w1 ha hL => ?_)
 rw [<- qO 53 ha, <- qO 54 ha] at hL
 exact (Q4 _ g1 w1 (fun nV _ _ i5 w => X (nV, i5) w) k2 (fun _ _ h => h) h2 hL)
def Gq (kn : K1) (nV i3 i4 i5 : atP) (w : atO) : Prop :=
 Gu kn nV i3 i4 i5 w
def Gt (kn : K4) (nV J9 : atP) (w : atO) : Prop :=
 gE pg (oD .len #[22] 3 [J9]) w fun i4 w =>
 kn nV J9 i4 (atQ 0) w
theorem Ri (kn : K4) (hn : N4 Q kn 3 53 54 55) (h : Gt kn (g 3) (g 4) w) : jK pg mM (gS 1 (gS 1 (fV 1 (fV 1 (fV 4 mG))))) Q g w :=
 lM (kr := no) (l := []) h hn mH trivial
def GA (kn : K1) (nV J9 : atP) (w : atO) : Prop :=
 Gt (fun nV i3 i4 i5 w => Gq kn nV i3 i4 i5 w) nV J9 w
def Ch (R : K1) (nV J9 : atP) (w : atO) : Prop :=
 GA (fun nV w => Ce R nV w) nV J9 w
theorem Q8 (kn : K1) (hn : N1 Q kn 3) (h : GA kn (g 3) (g 4) w) : jK pg mM (gS 1 (fV 1 (fV 1 (fV 4 mG)))) Q g w :=
 oB 1 (Ri _ g w (Gq kn) (fun g w h => iB (GV 2 (Q2 _ g w kn hn h))) h)
def B9 (kn : K2) (nV J9 : atP) (w : atO) : Prop :=
 gE pg (oD .len #[22] 3 [J9]) w fun f0 w =>
 gE pg (gW .geq 3 iK iK f0 (atQ 4)) w fun f1 w =>
 mX f1
  (gE pg (lR 22 J9 none (some (atQ 4)) none) w fun f4 w =>
  jD pg A5 #[f4] w fun f5 w =>
  gE pg (gW .mul 32 iK iK f5 (.int .u64 11400714785074694791)) w fun f6 w =>
  gE pg (gW .xor 32 iK iK nV f6) w fun f7 w =>
  jD pg mD #[f7, (atQ 23)] w fun f8 w =>
  gE pg (gW .mul 32 iK iK f8 (.int .u64 14029467366897019727)) w fun f9 w =>
  gE pg (gW .add 32 iK iK f9 (.int .u64 1609587929392839161)) w fun i0 w =>
  gE pg (lR 22 J9 (some (atQ 4)) none none) w fun i2 w =>
  kn i0 i2 w)
  (kn nV J9 w)
theorem QO (kn : K2) (hn : N2 Q kn 3 4) (h : B9 kn (g 3) (g 4) w) : jK pg mM (gS 1 (fV 1 (fV 4 mG))) Q g w :=
 lM (kr := no) (l := []) h hn mH trivial
def Cd (R : K1) (nV J9 : atP) (w : atO) : Prop :=
 B9 (fun nV J9 w => Ch R nV J9 w) nV J9 w
def wB (kn : K2) (k0 : K2) (nV J9 : atP) (w : atO) : Prop :=
 gE pg (oD .len #[22] 3 [J9]) w fun d6 w =>
 gE pg (gW .geq 3 iK iK d6 (atQ 8)) w fun d7 w =>
 mX d7
  (gE pg (lR 22 J9 none (some (atQ 8)) none) w fun e0 w =>
  jD pg A5 #[e0] w fun e1 w =>
  jD pg C3 #[(.int .u64 0), e1] w fun e2 w =>
  gE pg (gW .xor 32 iK iK nV e2) w fun e3 w =>
  jD pg mD #[e3, (atQ 27)] w fun e4 w =>
  gE pg (gW .mul 32 iK iK e4 (.int .u64 11400714785074694791)) w fun e5 w =>
  gE pg (gW .add 32 iK iK e5 (.int .u64 9650029242287828579)) w fun e6 w =>
  gE pg (lR 22 J9 (some (atQ 8)) none none) w fun e8 w =>
  kn e6 e8 w)
  (k0 nV J9 w)
theorem PR (kn : K2) (k0 : K2) (hn : N2 Q kn 3 4) (h0 : E2 Q k0 0 3 4) (h : wB kn k0 (g 3) (g 4) w) : jK pg mM (bI (bI (gS 1 (fV 4 mG)))) Q g w :=
 lM (kr := no) (l := [(0, fun g w => k0 (g 3) (g 4) w)]) h hn mH ⟨h0, trivial⟩
def FC (k0 : K2) (nV J9 : atP) (w : atO) : Prop :=
 kE (fun (X : (atP × atP) -> K0) (t : atP × atP) (w : atO) => wB (fun nV J9 w => X (nV, J9) w) k0 t.1 t.2 w) (nV, J9) w
theorem PG (k0 : K2) (h0 : E2 Q k0 0 3 4) (h : FC k0 (g 3) (g 4) w) : jK pg mM (bI (gS 1 (fV 4 mG))) Q g w := by
 refine MG (fun g : Env => (g 3, g 4)) (fun X t w => wB (fun nV J9 w => X (nV, J9) w) k0 t.1 t.2 w) h (fun X g1 w1 ha hL => ?_)
 exact (PR _ g1 w1 (fun nV J9 w => X (nV, J9) w) k0 (fun _ _ h => h) h0 hL)
def Fv (kn : K2) (nV J9 : atP) (w : atO) : Prop :=
 FC kn nV J9 w
def AQ (R : K1) (nV J9 : atP) (w : atO) : Prop :=
 Fv (fun nV J9 w => Cd R nV J9 w) nV J9 w
theorem PF (kn : K2) (hn : N2 Q kn 3 4) (h : Fv kn (g 3) (g 4) w) : jK pg mM (gS 1 (fV 4 mG)) Q g w :=
 GV 0 (PG _ g w kn hn h)
def FL (kn : K2) (R : K1) (qD : atP) (w : atO) : Prop :=
 gE pg (gW .eql 68 (.tmp 7) (.const (.pointer none)) qD (.pointer none)) w fun b8 w =>
 mX b8
  (jD pg Ox #[(.slice none 0 0)] w fun b9 w =>
  R b9 w)
  ((dr w) = (dr w) /\
  jD pg zL #[qD] (dr w) fun c1 Cu =>
  Cu = Cu /\
  gE pg (rN qD) Cu fun c3 w_ => w_ = Cu /\
  (jE pg (rN qD) c3 (dr w) /\ True) /\
  gE pg (jJ 93 c3 3) Cu fun c4 w_ => w_ = Cu /\
  (jE pg (jJ 93 c3 3) c4 (dr w) /\ True) /\
  gE pg (jF 32 c4) Cu fun c5 w_ => w_ = Cu /\
  (jE pg (jF 32 c4) c5 (dr w) /\ True) /\
  gE pg (gW .add 32 iK iK c1 c5) Cu fun c6 w_ => w_ = Cu /\
  Cu = Cu /\
  (dr Cu) = (dr Cu) /\
  gE pg (rN qD) (dr Cu) fun c8 w_ => w_ = (dr Cu) /\
  gE pg (jJ 93 c8 1) (dr Cu) fun c9 w_ => w_ = (dr Cu) /\
  (dr Cu) = (dr Cu) /\
  gE pg (rN qD) (dr Cu) fun d1 w_ => w_ = (dr Cu) /\
  gE pg (jJ 93 d1 2) (dr Cu) fun d2 w_ => w_ = (dr Cu) /\
  gE pg (jF 3 d2) (dr Cu) fun d3 w_ => w_ = (dr Cu) /\
  gE pg (lR 91 c9 none (some d3) none) (dr Cu) fun d4 w_ => w_ = (dr Cu) /\
  (dr Cu) = (dr Cu) /\
  kn c6 d4 (dr Cu))
theorem Qg (kn : K2) (R : K1) (hn : N2 Q kn 3 4) (hr : HR Cb R Q) (h : FL kn R (g 0) w) : jK pg mM (gS 4 mG) Q g w :=
 lM (l := []) h hn hr trivial
def EZ (R : K1) (qD : atP) (w : atO) : Prop :=
 FL (fun nV J9 w => AQ R nV J9 w) R qD w
theorem Pm (R : K1) (hr : HR Cb R Q) (h : EZ R (g 0) w) : jK pg mM mG Q g w :=
 oB 4 (Qg _ g w (AQ R) R (fun g w h => iB (oB 1 (PF _ g w (Cd R) (fun g w h => iB (oB 1 (QO _ g w (Ch R) (fun g w h => iB (oB 1 (Q8 _ g w (Ce R) (fun g w h => iB (QY _ g w R hr h)) h))) h))) h))) hr h)
def Sd (a0 : atP) (w : atO) (R : K1) : Prop :=
 EZ R a0 w
theorem RB {a0 : atP} {w : atO} {R : K1} (h : Sd a0 w R) : jD pg DV #[a0] w R := by
 refine Bp (ann := mM) Tryz.f35 mG [a0] Cb 81 TryzM.mixed Tryz.func35 ?_
 exact (Pm _ _ _ R (fun _ _ h => h) h)
def yG : FA := ⟨sM, fun i => .leaf ([], []) []⟩
def zI : List ResultVar := [.tmp 4]
noncomputable def wH : Code := kB Tryz.f42
def sD (R : K1) (EB Us : atP) (w : atO) : Prop :=
 jD pg wE #[EB, Us] w fun b7 w =>
 gE pg (gW .geq 3 iK iK b7 (atQ 0)) w fun b8 w =>
 R b8 w
theorem FK (R : K1) (hr : HR zI R Q) (h : sD R (g 0) (g 1) w) : jK pg yG wH Q g w :=
 lM (kn := no) (l := []) h mH hr trivial
def BY (a0 a1 : atP) (w : atO) (R : K1) : Prop :=
 sD R a0 a1 w
theorem F9 {a0 a1 : atP} {w : atO} {R : K1} (h : BY a0 a1 w R) : jD pg sM #[a0, a1] w R := by
 refine Bp (ann := yG) Tryz.f42 wH [a0, a1] zI 9 TryzM.mixed Tryz.func42 ?_
 exact (FK _ _ _ R (fun _ _ h => h) h)
def H4 : FA := ⟨vP, fun i => .leaf ([], []) []⟩
def Jh : List ResultVar := [.tmp 3]
noncomputable def GS : Code := kB Tryz.f43
def DO (R : K1) (c_0 b1 : atP) (w : atO) : Prop :=
 gE pg (jF 22 b1) w fun b5 w =>
 gE pg (jO 22 b5 (atQ 0)) w fun b6 w =>
 gE pg (jF 5 b6) w fun b7 w =>
 gE pg (gW .neq 5 (.tmp 4) (.tmp 7) c_0 b7) w fun b8 w =>
 R b8 w
theorem Og (R : K1) (hr : HR Jh R Q) (h : DO R (g 0) (g 1) w) : jK pg H4 GS Q g w :=
 lM (kn := no) (l := []) h mH hr trivial
def OO (a0 a1 : atP) (w : atO) (R : K1) : Prop :=
 DO R a0 a1 w
theorem P3 {a0 a1 : atP} {w : atO} {R : K1} (h : OO a0 a1 w R) : jD pg vP #[a0, a1] w R := by
 refine Bp (ann := H4) Tryz.f43 GS [a0, a1] Jh 9 TryzM.mixed Tryz.func43 ?_
 exact (Og _ _ _ R (fun _ _ h => h) h)
def kH : FA := ⟨Du, fun i => match Nat.beq i 5 with | true => .split 2 4 (.perm [0, 1, 2, 3, 4, 5, 6, 7, 8, 9] [(2, 4)] ([2, 4, 8], [(2, 6), (4, 6)]) [(false, []), (false, []), (true, []), (false, []), (true, []), (false, []), (false, [1, 3]), (false, []), (true, []), (false, [])]) (.perm [0, 1, 3, 4, 2, 5, 6, 7, 8, 9] [(4, 2)] ([3, 4, 8], [(3, 6), (4, 6)]) [(false, []), (false, []), (false, []), (true, []), (true, []), (false, []), (false, [1, 2]), (false, []), (true, []), (false, [])]) | false => .leaf ([], []) []⟩
def FU : List ResultVar := [.tmp 8, .tmp 9, .tmp 10]
noncomputable def jX : Code := kB Tryz.f44
def FV (R : K1) (b2 jQ jP : atP) (w : atO) : Prop :=
 gE pg (gW .sub 3 iK iK b2 jP) w fun s5 w =>
 R (.tuple #[jQ, s5, (atQ 0)]) w
theorem TT (R : K1) (hr : HR FU R Q) (h : FV R (g 2) (g 13) (g 14) w) : jK pg kH (fV 1 (fV 2 (fV 1 (fV 4 jX)))) Q g w :=
 lM (kn := no) (l := []) h mH hr trivial
def F0 (kn : K6) (b2 iZ lS jQ kL : atP) (w : atO) : Prop :=
 kn b2 iZ lS jQ kL kL w
theorem TR (kn : K6) (hn : N6 Q kn 2 3 11 13 14 15) (h : F0 kn (g 2) (g 3) (g 11) (g 13) (g 15) w) : jK pg kH (fV 1 (fV 1 (fV 3 (bI (fV 1 (bI (bI (fV 1 (gS 1 (fV 2 (fV 1 (fV 4 jX)))))))))))) Q g w :=
 lM (kr := no) (l := []) h hn mH trivial
def BX (kn : K6) (k4 : K5) (b2 iZ lS jQ kL JZ : atP) (w : atO) : Prop :=
 gE pg (gW .lss 3 iK iK kL JZ) w fun q5 w =>
 mX q5
  (jD pg nY #[lS, kL] w fun s0 w =>
  gE pg (gW .add 3 iK iK kL (atQ 1)) w fun q7 w =>
  kn b2 iZ lS jQ q7 JZ w)
  (k4 b2 iZ lS jQ kL w)
theorem T1 (kn : K6) (k4 : K5) (hn : N6 Q kn 2 3 11 13 15 20) (h4 : E5 Q k4 4 2 3 11 13 15) (h : BX kn k4 (g 2) (g 3) (g 11) (g 13) (g 15) (g 20) w) : jK pg kH (bI (bI (fV 1 (gS 1 (fV 1 (fV 3 (bI (fV 1 (bI (bI (fV 1 (gS 1 (fV 2 (fV 1 (fV 4 jX))))))))))))))) Q g w :=
 lM (kr := no) (l := [(4, fun g w => k4 (g 2) (g 3) (g 11) (g 13) (g 15) w)]) h hn mH ⟨h4, trivial⟩
def FY (k4 : K5) (b2 iZ lS jQ kL JZ : atP) (w : atO) : Prop :=
 kE (fun (X : atP -> K0) (t : atP) (w : atO) => BX (fun _ _ _ _ kL _ w => X kL w) k4 b2 iZ lS jQ t JZ w) kL w
theorem T2 (k4 : K5) (h4 : E5 Q k4 4 2 3 11 13 15) (h : FY k4 (g 2) (g 3) (g 11) (g 13) (g 15) (g 20) w) : jK pg kH (bI (fV 1 (gS 1 (fV 1 (fV 3 (bI (fV 1 (bI (bI (fV 1 (gS 1 (fV 2 (fV 1 (fV 4 jX)))))))))))))) Q g w := by
 refine MG (fun g : Env => g 15) (fun X t w => BX (fun _ _ _ _ kL _ w => X kL w) k4 (g 2) (g 3) (g 11) (g 13) t (g 20) w) h (fun X g1 w1 ha hL => ?_)
 rw [<- qO 2 ha, <- qO 3 ha, <- qO 11 ha, <- qO 13 ha, <- qO 20 ha] at hL
 exact (T1 _ g1 w1 (fun _ _ _ _ kL _ w => X kL w) k4 (fun _ _ h => h) h4 hL)
def JL (kn : K5) (b2 iZ lS jQ kL JZ : atP) (w : atO) : Prop :=
 FY kn b2 iZ lS jQ kL JZ w
def JS (kn : K6) (b2 iZ lS jQ kL MX : atP) (w : atO) : Prop :=
 gE pg (gW .add 3 iK iK kL MX) w fun q2 w =>
 kn b2 iZ lS jQ kL q2 w
theorem Tj (kn : K6) (hn : N6 Q kn 2 3 11 13 15 20) (h : JS kn (g 2) (g 3) (g 11) (g 13) (g 15) (g 16) w) : jK pg kH (gS 1 (gS 1 (fV 1 (fV 3 (bI (fV 1 (bI (bI (fV 1 (gS 1 (fV 2 (fV 1 (fV 4 jX))))))))))))) Q g w :=
 lM (kr := no) (l := []) h hn mH trivial
def JY (kn : K5) (b2 iZ lS jQ kL MX : atP) (w : atO) : Prop :=
 JS (fun b2 iZ lS jQ kL JZ w => JL kn b2 iZ lS jQ kL JZ w) b2 iZ lS jQ kL MX w
def JO (kn : K6) (b2 iZ lS jQ kL MX : atP) (w : atO) : Prop :=
 JY (fun b2 iZ lS jQ kL w => F0 kn b2 iZ lS jQ kL w) b2 iZ lS jQ kL MX w
theorem TH (kn : K5) (hn : N5 Q kn 2 3 11 13 15) (h : JY kn (g 2) (g 3) (g 11) (g 13) (g 15) (g 16) w) : jK pg kH (gS 1 (fV 1 (fV 3 (bI (fV 1 (bI (bI (fV 1 (gS 1 (fV 2 (fV 1 (fV 4 jX)))))))))))) Q g w :=
 oB 1 (Tj _ g w (JL kn) (fun g w h => iB (GV 4 (T2 _ g w kn hn h))) h)
def J3 (kn : K6) (b2 iZ lS jQ jP kL MX QU : atP) (w : atO) : Prop :=
 gE pg (gW .sub 3 iK iK kL jP) w fun p1 w =>
 gE pg (nS 3 38 p1) w fun p2 w =>
 gE pg (nS 3 38 MX) w fun p4 w =>
 gE pg (nS 3 38 QU) w fun p6 w =>
 gE pg (mL 84 [(0, p2), (1, p4), (2, p6)]) w fun p7 w =>
 gE pg (lJ 80 1 [(0, p7)]) w fun p8 w =>
 gE pg (oD .append #[80, 80] 80 [jQ, p8]) w fun p9 w =>
 kn b2 iZ lS p9 kL MX w
theorem TI (kn : K6) (hn : N6 Q kn 2 3 11 13 15 16) (h : J3 kn (g 2) (g 3) (g 11) (g 13) (g 14) (g 15) (g 16) (g 17) w) : jK pg kH (gS 1 (fV 3 (bI (fV 1 (bI (bI (fV 1 (gS 1 (fV 2 (fV 1 (fV 4 jX))))))))))) Q g w :=
 lM (kr := no) (l := []) h hn mH trivial
def Ar (kn : K6) (b2 iZ lS jQ jP kL MX QU : atP) (w : atO) : Prop :=
 J3 (fun b2 iZ lS jQ kL MX w => JO kn b2 iZ lS jQ kL MX w) b2 iZ lS jQ jP kL MX QU w
def HQ (kn : K8) (k3 : K6) (b2 iZ lS jQ jP kL : atP) (w : atO) : Prop :=
 jD pg rU #[lS, kL] w fun l2 w =>
 gE pg (jU l2 0) w fun l3 w =>
 gE pg (jU l2 1) w fun l4 w =>
 gE pg (gW .lss 3 iK iK l3 (atQ 4)) w fun l6 w =>
 mX l6
  (jD pg nY #[lS, kL] w fun l9 w =>
  gE pg (gW .add 3 iK iK kL (atQ 1)) w fun m1 w =>
  k3 b2 iZ lS jQ jP m1 w)
  (gE pg (gW .gtr 3 iK iK iZ (atQ 4)) w fun m3 w =>
  Gd (kP m3 true) (fun K => K kL w) w fun m5 w =>
  Gd (kP m3 true) (fun K => gE pg (gW .add 3 iK iK m5 (atQ 1)) w K) w fun m6 w =>
  Gd (kP m3 true) (fun K => K b2 w) w fun m7 w =>
  Gd (kP m3 true) (fun K => gE pg (gW .lss 3 iK iK m6 m7) w K) w fun m8 w =>
  gE pg (mJ m3 m8 (.bool false)) w fun m9 w =>
  mX m9
   (jD pg nY #[lS, kL] w fun n2 w =>
   gE pg (gW .add 3 iK iK kL (atQ 1)) w fun n6 w =>
   jD pg rU #[lS, n6] w fun n7 w =>
   gE pg (jU n7 0) w fun n8 w =>
   gE pg (jU n7 1) w fun n9 w =>
   gE pg (gW .add 3 iK iK l3 (atQ 1)) w fun o2 w =>
   gE pg (gW .gtr 3 iK iK n8 o2) w fun o3 w =>
   mX o3
    (gE pg (gW .add 3 iK iK kL (atQ 1)) w fun o5 w =>
    kn b2 iZ lS jQ jP o5 n8 n9 w)
    (kn b2 iZ lS jQ jP kL l3 l4 w))
   (kn b2 iZ lS jQ jP kL l3 l4 w))
theorem S1 (kn : K8) (k3 : K6) (hn : N8 Q kn 2 3 11 13 14 15 16 17) (h3 : E6 Q k3 3 2 3 11 13 14 15) (h : HQ kn k3 (g 2) (g 3) (g 11) (g 13) (g 14) (g 15) w) : jK pg kH (gS 3 (bI (fV 1 (bI (bI (fV 1 (gS 1 (fV 2 (fV 1 (fV 4 jX)))))))))) Q g w :=
 lM (kr := no) (l := [(3, fun g w => k3 (g 2) (g 3) (g 11) (g 13) (g 14) (g 15) w)]) h hn mH ⟨h3, trivial⟩
def Ot (kn : K6) (k3 : K6) (b2 iZ lS jQ jP kL : atP) (w : atO) : Prop :=
 HQ (fun b2 iZ lS jQ jP kL MX QU w => Ar kn b2 iZ lS jQ jP kL MX QU w) k3 b2 iZ lS jQ jP kL w
def HW (kn : K6) (b2 iZ lS jQ jP kL : atP) (w : atO) : Prop :=
 Ot kn kn b2 iZ lS jQ jP kL w
def DZ (kn : K6) (k2 : K3) (b2 iZ lS jQ jP kL : atP) (w : atO) : Prop :=
 gE pg (gW .lss 3 iK iK kL b2) w fun j8 w =>
 mX j8
  (kn b2 iZ lS jQ jP kL w)
  (k2 b2 jQ jP w)
theorem Su (kn : K6) (k2 : K3) (hn : N6 Q kn 2 3 11 13 14 15) (h2 : E3 Q k2 2 2 13 14) (h : DZ kn k2 (g 2) (g 3) (g 11) (g 13) (g 14) (g 15) w) : jK pg kH (gS 1 (bI (bI (fV 1 (gS 1 (fV 2 (fV 1 (fV 4 jX)))))))) Q g w :=
 lM (kr := no) (l := [(2, fun g w => k2 (g 2) (g 13) (g 14) w)]) h hn mH ⟨h2, trivial⟩
def Ak (kn : K6) (k2 : K3) (b2 iZ lS jQ jP kL : atP) (w : atO) : Prop :=
 DZ (fun b2 iZ lS jQ jP kL w => HW kn b2 iZ lS jQ jP kL w) k2 b2 iZ lS jQ jP kL w
def D0 (k2 : K3) (b2 iZ lS jQ jP kL : atP) (w : atO) : Prop :=
 kE (fun (X : (atP × atP × atP) -> K0) (t : atP × atP × atP) (w : atO) => Ak (fun _ _ _ jQ jP kL w => X (jQ, jP, kL) w) k2 b2 iZ lS t.1 t.2.1 t.2.2 w) (jQ, jP, kL) w
theorem Rq (kn : K6) (k2 : K3) (hn : N6 Q kn 2 3 11 13 14 15) (h2 : E3 Q k2 2 2 13 14) (h : Ak kn k2 (g 2) (g 3) (g 11) (g 13) (g 14) (g 15) w) : jK pg kH (bI (bI (fV 1 (gS 1 (fV 2 (fV 1 (fV 4 jX))))))) Q g w :=
 oB 1 (Su _ g w (HW kn) k2 (fun g w h => iB (GV 3 (oB 3 (S1 _ g w (Ar kn) kn (fun g w h => iB (oB 1 (TI _ g w (JO kn) (fun g w h => iB (oB 1 (TH _ g w (F0 kn) (fun g w h => iB (TR _ g w kn hn h)) h))) h))) hn h)))) h2 h)
theorem RW (k2 : K3) (h2 : E3 Q k2 2 2 13 14) (h : D0 k2 (g 2) (g 3) (g 11) (g 13) (g 14) (g 15) w) : jK pg kH (bI (fV 1 (gS 1 (fV 2 (fV 1 (fV 4 jX)))))) Q g w := by
 refine MG (fun g : Env => (g 13, g 14, g 15)) (fun X t w => Ak (fun _ _ _ jQ jP kL w => X (jQ, jP, kL) w) k2 (g 2) (g 3) (g 11) t.1 t.2.1 t.2.2 w) h (fun X g1 w1 ha hL => ?_)
 rw [<- qO 2 ha, <- qO 3 ha, <- qO 11 ha] at hL
 exact (Rq _ g1 w1 (fun _ _ _ jQ jP kL w => X (jQ, jP, kL) w) k2 (fun _ _ h => h) h2 hL)
def HE (kn : K3) (b2 iZ lS jQ jP kL : atP) (w : atO) : Prop :=
 D0 kn b2 iZ lS jQ jP kL w
def HZ (kn : K6) (kZ b2 iZ lS jQ jP : atP) (w : atO) : Prop :=
 kn b2 iZ lS jQ jP kZ w
theorem Sr (kn : K6) (hn : N6 Q kn 2 3 11 13 14 15) (h : HZ kn (g 1) (g 2) (g 3) (g 11) (g 13) (g 14) w) : jK pg kH (gS 1 (gS 1 (fV 2 (fV 1 (fV 4 jX))))) Q g w :=
 lM (kr := no) (l := []) h hn mH trivial
def HB (kn : K3) (kZ b2 iZ lS jQ jP : atP) (w : atO) : Prop :=
 HZ (fun b2 iZ lS jQ jP kL w => HE kn b2 iZ lS jQ jP kL w) kZ b2 iZ lS jQ jP w
def Hj (R : K1) (kZ b2 iZ lS jQ jP : atP) (w : atO) : Prop :=
 HB (fun b2 jQ jP w => FV R b2 jQ jP w) kZ b2 iZ lS jQ jP w
theorem RT (kn : K3) (hn : N3 Q kn 2 13 14) (h : HB kn (g 1) (g 2) (g 3) (g 11) (g 13) (g 14) w) : jK pg kH (gS 1 (fV 2 (fV 1 (fV 4 jX)))) Q g w :=
 oB 1 (Sr _ g w (HE kn) (fun g w h => iB (GV 2 (RW _ g w kn hn h))) h)
def HS (kn : K6) (kZ b2 iZ lS : atP) (w : atO) : Prop :=
 kn kZ b2 iZ lS (.slice none 0 0) kZ w
theorem SG (kn : K6) (hn : N6 Q kn 1 2 3 11 13 14) (h : HS kn (g 1) (g 2) (g 3) (g 11) w) : jK pg kH (gS 2 (fV 1 (fV 4 jX))) Q g w :=
 lM (kr := no) (l := []) h hn mH trivial
def Hq (R : K1) (kZ b2 iZ lS : atP) (w : atO) : Prop :=
 HS (fun kZ b2 iZ lS jQ jP w => Hj R kZ b2 iZ lS jQ jP w) kZ b2 iZ lS w
def Af (kn : K6) (k0 : K4) (kZ b2 iZ lS i6 i7 : atP) (w : atO) : Prop :=
 gE pg (gW .lss 3 iK iK i7 i6) w fun i8 w =>
 mX i8
  (jD pg nY #[lS, i7] w fun j2 w =>
  gE pg (gW .add 3 iK iK i7 (atQ 1)) w fun j3 w =>
  kn kZ b2 iZ lS i6 j3 w)
  (k0 kZ b2 iZ lS w)
theorem Sp (kn : K6) (k0 : K4) (hn : N6 Q kn 1 2 3 11 56 57) (h0 : E4 Q k0 0 1 2 3 11) (h : Af kn k0 (g 1) (g 2) (g 3) (g 11) (g 56) (g 57) w) : jK pg kH (bI (bI (fV 1 (gS 1 (fV 4 jX))))) Q g w :=
 lM (kr := no) (l := [(0, fun g w => k0 (g 1) (g 2) (g 3) (g 11) w)]) h hn mH ⟨h0, trivial⟩
def HU (k0 : K4) (kZ b2 iZ lS i6 i7 : atP) (w : atO) : Prop :=
 kE (fun (X : atP -> K0) (t : atP) (w : atO) => Af (fun _ _ _ _ _ i7 w => X i7 w) k0 kZ b2 iZ lS i6 t w) i7 w
theorem S5 (k0 : K4) (h0 : E4 Q k0 0 1 2 3 11) (h : HU k0 (g 1) (g 2) (g 3) (g 11) (g 56) (g 57) w) : jK pg kH (bI (fV 1 (gS 1 (fV 4 jX)))) Q g w := by
 refine MG (fun g : Env => g 57) (fun X t w => Af (fun _ _ _ _ _ i7 w => X i7 w) k0 (g 1) (g 2) (g 3) (g 11) (g 56) t w) h (fun X g1 w1 ha hL => ?_)
 rw [<- qO 1 ha, <- qO 2 ha, <- qO 3 ha, <- qO 11 ha, <- qO 56 ha] at hL
 exact (Sp _ g1 w1 (fun _ _ _ _ _ i7 w => X i7 w) k0 (fun _ _ h => h) h0 hL)
def Ir (kn : K4) (kZ b2 iZ lS i6 i7 : atP) (w : atO) : Prop :=
 HU kn kZ b2 iZ lS i6 i7 w
def Ii (kn : K6) (kZ b2 iZ lS : atP) (w : atO) : Prop :=
 kn kZ b2 iZ lS kZ (atQ 0) w
theorem Rv (kn : K6) (hn : N6 Q kn 1 2 3 11 56 57) (h : Ii kn (g 1) (g 2) (g 3) (g 11) w) : jK pg kH (gS 1 (gS 1 (fV 4 jX))) Q g w :=
 lM (kr := no) (l := []) h hn mH trivial
def Hb (kn : K4) (kZ b2 iZ lS : atP) (w : atO) : Prop :=
 Ii (fun kZ b2 iZ lS i6 i7 w => Ir kn kZ b2 iZ lS i6 i7 w) kZ b2 iZ lS w
def Ed (R : K1) (kZ b2 iZ lS : atP) (w : atO) : Prop :=
 Hb (fun kZ b2 iZ lS w => Hq R kZ b2 iZ lS w) kZ b2 iZ lS w
theorem So (kn : K4) (hn : N4 Q kn 1 2 3 11) (h : Hb kn (g 1) (g 2) (g 3) (g 11) w) : jK pg kH (gS 1 (fV 4 jX)) Q g w :=
 oB 1 (Rv _ g w (Ir kn) (fun g w h => iB (GV 0 (S5 _ g w kn hn h))) h)
def H5 (kn : K4) (R : K1) (qV kZ b2 iZ : atP) (w : atO) : Prop :=
 gE pg (gW .lss 3 iK iK kZ (atQ 0)) w fun d2 w =>
 Gd (kP d2 false) (fun K => K b2 w) w fun d4 w =>
 Gd (kP d2 false) (fun K => K kZ w) w fun d5 w =>
 Gd (kP d2 false) (fun K => gE pg (gW .lss 3 iK iK d4 d5) w K) w fun d6 w =>
 gE pg (mJ d2 (.bool true) d6) w fun d7 w =>
 Gd (kP d7 false) (fun K => K b2 w) w fun d9 w =>
 Gd (kP d7 false) (fun K => K qV w) w fun e0 w =>
 Gd (kP d7 false) (fun K => gE pg (oD .len #[22] 3 [e0]) w K) w fun e1 w =>
 Gd (kP d7 false) (fun K => gE pg (gW .gtr 3 iK iK d9 e1) w K) w fun e2 w =>
 gE pg (mJ d7 (.bool true) e2) w fun e3 w =>
 Gd (kP e3 false) (fun K => K iZ w) w fun e5 w =>
 Gd (kP e3 false) (fun K => gE pg (gW .lss 3 iK iK e5 (atQ 0)) w K) w fun e6 w =>
 gE pg (mJ e3 (.bool true) e6) w fun e7 w =>
 Gd (kP e7 false) (fun K => K iZ w) w fun e9 w =>
 Gd (kP e7 false) (fun K => gE pg (gW .gtr 3 iK iK e9 (atQ 9)) w K) w fun f0 w =>
 gE pg (mJ e7 (.bool true) f0) w fun f1 w =>
 mX f1
  (R (.tuple #[(.slice none 0 0), (atQ 0), (atQ 1)]) w)
  (gE pg (gW .eql 3 (.tmp 42) (.const (atQ 0)) iZ (atQ 0)) w fun f3 w =>
  mX f3
   (gE pg (gW .sub 3 iK iK b2 kZ) w fun f6 w =>
   R (.tuple #[(.slice none 0 0), f6, (atQ 0)]) w)
   (Ord (ahV Du 5 (Qn 5 jX) 2 4 w)
    ((dr w) = (dr w) /\
    (dr w) = (dr w) /\
    gE pg (Tz 116 none) (dr w) fun f9 ahB =>
    ahB = ahB /\
    gE pg (uF 117 b2 b2) ahB fun i1 Q5 =>
    Q5 = Q5 /\
    gE pg (gW .shl 3 iK iK (atQ 1) iZ) Q5 fun i3 w_ => w_ = Q5 /\
    (jE pg (gW .shl 3 iK iK (atQ 1) iZ) i3 ahB /\ jE pg (gW .shl 3 iK iK (atQ 1) iZ) i3 (dr w) /\ True) /\
    gE pg (mL 119 [(0, qV), (1, b2), (2, f9), (3, i1), (4, i3)]) Q5 fun i4 w_ => w_ = Q5 /\
    gE pg (QM 119 i4) Q5 fun i5 Zz =>
    Zz = Zz /\
    kn kZ b2 iZ i5 Zz)
    ((dr w) = (dr w) /\
    (dr w) = (dr w) /\
    (dr w) = (dr w) /\
    gE pg (uF 117 b2 b2) (dr w) fun i1 Zt =>
    gE pg (Tz 116 none) Zt fun f9 Q5 =>
    Q5 = Q5 /\
    gE pg (gW .shl 3 iK iK (atQ 1) iZ) Q5 fun i3 w_ => w_ = Q5 /\
    (jE pg (gW .shl 3 iK iK (atQ 1) iZ) i3 Zt /\ jE pg (gW .shl 3 iK iK (atQ 1) iZ) i3 (dr w) /\ True) /\
    gE pg (mL 119 [(0, qV), (1, b2), (2, f9), (3, i1), (4, i3)]) Q5 fun i4 w_ => w_ = Q5 /\
    gE pg (QM 119 i4) Q5 fun i5 Zz =>
    Zz = Zz /\
    kn kZ b2 iZ i5 Zz)))
theorem Ru (kn : K4) (R : K1) (hn : N4 Q kn 1 2 3 11) (hr : HR FU R Q) (h : H5 kn R (g 0) (g 1) (g 2) (g 3) w) : jK pg kH (gS 4 jX) Q g w :=
 lM (l := []) h hn hr trivial
def Iw (R : K1) (qV kZ b2 iZ : atP) (w : atO) : Prop :=
 H5 (fun kZ b2 iZ lS w => Ed R kZ b2 iZ lS w) R qV kZ b2 iZ w
theorem Sm (R : K1) (hr : HR FU R Q) (h : Iw R (g 0) (g 1) (g 2) (g 3) w) : jK pg kH jX Q g w :=
 oB 4 (Ru _ g w (Ed R) R (fun g w h => iB (oB 1 (So _ g w (Hq R) (fun g w h => iB (oB 2 (SG _ g w (Hj R) (fun g w h => iB (oB 1 (RT _ g w (FV R) (fun g w h => iB (TT _ g w R hr h)) h))) h))) h))) hr h)
def VH (a0 a1 a2 a3 : atP) (w : atO) (R : K1) : Prop :=
 Iw R a0 a1 a2 a3 w
theorem UJ {a0 a1 a2 a3 : atP} {w : atO} {R : K1} (h : VH a0 a1 a2 a3 w R) : jD pg Du #[a0, a1, a2, a3] w R := by
 refine Bp (ann := kH) Tryz.f44 jX [a0, a1, a2, a3] FU 136 TryzM.mixed Tryz.func44 ?_
 exact (Sm _ _ _ R (fun _ _ h => h) h)
def nP : FA := ⟨AS, fun i => .leaf ([], []) []⟩
def Ac : List ResultVar := [.tmp 2, .tmp 3]
noncomputable def nD : Code := kB Tryz.f46
def rK (R : K1) (pZ : atP) (w : atO) : Prop :=
 gE pg (jF 22 pZ) w fun j2 w =>
 R (.tuple #[j2, (atQ 0)]) w
theorem OU (R : K1) (hr : HR Ac R Q) (h : rK R (g 4) w) : jK pg nP (fV 1 (fV 1 (fV 6 nD))) Q g w :=
 lM (kn := no) (l := []) h mH hr trivial
def DD (kn : K1) (kV pZ mT nW : atP) (w : atO) : Prop :=
 jD pg GY #[nW] w fun i0 w =>
 gE pg (jU i0 0) w fun i1 w =>
 gE pg (jU i0 1) w fun i2 w =>
 gE pg (gW .eql 24 (.tmp 53) (.const (atQ 0)) i2 (atQ 0)) w fun i4 w =>
 mX i4
  (jD pg zS #[kV, i1, (.bool true)] w fun i8 w =>
  gE pg (jU i8 0) w fun i9 w =>
  gE pg (jU i8 1) w fun j0 w =>
  gE pg (Cq mT [i9, j0]) w fun j1 w =>
  kn pZ w)
  (kn pZ w)
theorem O7 (kn : K1) (hn : N1 Q kn 4) (h : DD kn (g 0) (g 4) (g 6) (g 7) w) : jK pg nP (gS 1 (fV 1 (fV 6 nD))) Q g w :=
 lM (kr := no) (l := []) h hn mH trivial
def D6 (R : K1) (kV pZ mT nW : atP) (w : atO) : Prop :=
 DD (fun pZ w => rK R pZ w) kV pZ mT nW w
def zZ (kn : K7) (k0 : K4) (kV pZ mT nW e5 e6 e7 : atP) (w : atO) : Prop :=
 gE pg (gW .lss 3 iK iK e7 e6) w fun e8 w =>
 mX e8
  (gE pg (jO 22 e5 e7) w fun e9 w =>
  gE pg (jF 5 e9) w fun f0 w =>
  gE pg (jO 128 nW f0) w fun f3 w =>
  gE pg (jF 38 f3) w fun f4 w =>
  gE pg (gW .add 38 iK iK f4 (.int .u32 1)) w fun f5 w =>
  gE pg (jO 128 nW f0) w fun f6 w =>
  gE pg (kA 38 f6 f5) w fun _u w =>
  gE pg (gW .add 3 iK iK e7 (atQ 1)) w fun f7 w =>
  kn kV pZ mT nW e5 e6 f7 w)
  (k0 kV pZ mT nW w)
theorem ON (kn : K7) (k0 : K4) (hn : N7 Q kn 0 4 6 7 35 36 37) (h0 : E4 Q k0 0 0 4 6 7) (h : zZ kn k0 (g 0) (g 4) (g 6) (g 7) (g 35) (g 36) (g 37) w) : jK pg nP (bI (bI (fV 1 (gS 1 (fV 6 nD))))) Q g w :=
 lM (kr := no) (l := [(0, fun g w => k0 (g 0) (g 4) (g 6) (g 7) w)]) h hn mH ⟨h0, trivial⟩
def DF (k0 : K4) (kV pZ mT nW e5 e6 e7 : atP) (w : atO) : Prop :=
 kE (fun (X : atP -> K0) (t : atP) (w : atO) => zZ (fun _ _ _ _ _ _ e7 w => X e7 w) k0 kV pZ mT nW e5 e6 t w) e7 w
theorem Ou (k0 : K4) (h0 : E4 Q k0 0 0 4 6 7) (h : DF k0 (g 0) (g 4) (g 6) (g 7) (g 35) (g 36) (g 37) w) : jK pg nP (bI (fV 1 (gS 1 (fV 6 nD)))) Q g w := by
 refine MG (fun g : Env => g 37) (fun X t w => zZ (fun _ _ _ _ _ _ e7 w => X e7 w) k0 (g 0) (g 4) (g 6) (g 7) (g 35) (g 36) t w) h (fun X g1 w1 ha hL => ?_)
 rw [<- qO 0 ha, <- qO 4 ha, <- qO 6 ha, <- qO 7 ha, <- qO 35 ha, <- qO 36 ha] at hL
 exact (ON _ g1 w1 (fun _ _ _ _ _ _ e7 w => X e7 w) k0 (fun _ _ h => h) h0 hL)
def D3 (kn : K4) (kV pZ mT nW e5 e6 e7 : atP) (w : atO) : Prop :=
 DF kn kV pZ mT nW e5 e6 e7 w
def DK (kn : K7) (kV pZ mT nW : atP) (w : atO) : Prop :=
 gE pg (oD .len #[22] 3 [kV]) w fun e6 w =>
 kn kV pZ mT nW kV e6 (atQ 0) w
theorem Oq (kn : K7) (hn : N7 Q kn 0 4 6 7 35 36 37) (h : DK kn (g 0) (g 4) (g 6) (g 7) w) : jK pg nP (gS 1 (gS 1 (fV 6 nD))) Q g w :=
 lM (kr := no) (l := []) h hn mH trivial
def DW (kn : K4) (kV pZ mT nW : atP) (w : atO) : Prop :=
 DK (fun kV pZ mT nW e5 e6 e7 w => D3 kn kV pZ mT nW e5 e6 e7 w) kV pZ mT nW w
def Ek (R : K1) (kV pZ mT nW : atP) (w : atO) : Prop :=
 DW (fun kV pZ mT nW w => D6 R kV pZ mT nW w) kV pZ mT nW w
theorem NZ (kn : K4) (hn : N4 Q kn 0 4 6 7) (h : DW kn (g 0) (g 4) (g 6) (g 7) w) : jK pg nP (gS 1 (fV 6 nD)) Q g w :=
 oB 1 (Oq _ g w (D3 kn) (fun g w h => iB (GV 0 (Ou _ g w kn hn h))) h)
def CE (kn : K4) (R : K1) (kV : atP) (w : atO) : Prop :=
 jD pg DT #[kV] w fun c4 w =>
 gE pg (jU c4 0) w fun c5 w =>
 gE pg (jU c4 1) w fun c6 w =>
 gE pg (pX 22) w fun pZ w =>
 gE pg (kA 22 pZ c5) w fun _u w =>
 gE pg (gW .neq 24 (.tmp 17) (.const (atQ 0)) c6 (atQ 0)) w fun c8 w =>
 mX c8
  (R (.tuple #[(.slice none 0 0), c6]) w)
  (gE pg (Vy (.func 64) [] [pZ]) w fun d0 w =>
  jD pg Ai #[kV] w fun d2 w =>
  mX d2
   (gE pg (jO 22 kV (atQ 0)) w fun d5 w =>
   gE pg (jF 5 d5) w fun d6 w =>
   gE pg (oD .len #[22] 3 [kV]) w fun d8 w =>
   jD pg Ca #[d6, d8] w fun d9 w =>
   gE pg (jU d9 0) w fun e0 w =>
   gE pg (jU d9 1) w fun e1 w =>
   gE pg (Cq d0 [e0, e1]) w fun e2 w =>
   gE pg (jF 22 pZ) w fun e3 w =>
   R (.tuple #[e3, (atQ 0)]) w)
   (gE pg (uF 128 (atQ 256) (atQ 256)) w fun e4 w =>
   kn kV pZ d0 e4 w))
theorem NF (kn : K4) (R : K1) (hn : N4 Q kn 0 4 6 7) (hr : HR Ac R Q) (h : CE kn R (g 0) w) : jK pg nP (gS 6 nD) Q g w :=
 lM (l := []) h hn hr trivial
def CD (R : K1) (kV : atP) (w : atO) : Prop :=
 CE (fun kV pZ mT nW w => Ek R kV pZ mT nW w) R kV w
theorem Ni (R : K1) (hr : HR Ac R Q) (h : CD R (g 0) w) : jK pg nP nD Q g w :=
 oB 6 (NF _ g w (Ek R) R (fun g w h => iB (oB 1 (NZ _ g w (D6 R) (fun g w h => iB (oB 1 (O7 _ g w (rK R) (fun g w h => iB (OU _ g w R hr h)) h))) h))) hr h)
def OX (a0 : atP) (w : atO) (R : K1) : Prop :=
 CD R a0 w
theorem Pq {a0 : atP} {w : atO} {R : K1} (h : OX a0 w R) : jD pg AS #[a0] w R := by
 refine Bp (ann := nP) Tryz.f46 nD [a0] Ac 63 TryzM.mixed Tryz.func46 ?_
 exact (Ni _ _ _ R (fun _ _ h => h) h)
def mZ : FA := ⟨zN, fun i => .leaf ([], []) []⟩
def oS : List ResultVar := [.tmp 2, .tmp 3]
noncomputable def mO : Code := kB Tryz.f47
def CH (R : K1) (kV Nu pY b8 nK c0 : atP) (w : atO) : Prop :=
 gE pg (jF 131 pY) w fun n5 w =>
 gE pg (jF 108 b8) w fun n6 w =>
 jD pg QX #[kV, n5, n6] w fun n7 w =>
 gE pg (jU n7 0) w fun n8 w =>
 gE pg (jU n7 1) w fun n9 w =>
 gE pg (gW .neq 24 (.tmp 100) (.const (atQ 0)) n9 (atQ 0)) w fun o1 w =>
 mX o1
  (R (.tuple #[(.slice none 0 0), n9]) w)
  (gE pg (nS 3 32 nK) w fun o5 w =>
  jD pg jL #[Nu, o5, (atQ 1)] w fun o6 w =>
  jD pg nZ #[Nu, c0] w fun o9 w =>
  jD pg nZ #[Nu, n8] w fun p2 w =>
  jD pg nE #[Nu] w fun p4 w =>
  R (.tuple #[p4, (atQ 0)]) w)
theorem MP (R : K1) (hr : HR oS R Q) (h : CH R (g 0) (g 4) (g 6) (g 8) (g 9) (g 10) w) : jK pg mZ (fV 1 (fV 5 (fV 3 mO))) Q g w :=
 lM (kn := no) (l := []) h mH hr trivial
def Cr (kn : K7) (k1 : K6) (R : K1) (kV Nu pY b8 nK c0 j3 : atP) (w : atO) : Prop :=
 gE pg (gW .lss 3 iK iK j3 (atQ 3)) w fun j4 w =>
 mX j4
  (gE pg (jO 131 pY j3) w fun j9 w =>
  gE pg (jF 117 j9) w fun l0 w =>
  jD pg U3 #[j3, l0] w fun l1 w =>
  gE pg (jU l1 0) w fun l2 w =>
  gE pg (jU l1 1) w fun l3 w =>
  gE pg (jU l1 2) w fun l4 w =>
  gE pg (jU l1 3) w fun l5 w =>
  gE pg (pX 106) w fun alI w =>
  gE pg (kA 106 alI l2) w fun _u w =>
  gE pg (gW .neq 24 (.tmp 76) (.const (atQ 0)) l5 (atQ 0)) w fun l7 w =>
  mX l7
   (R (.tuple #[(.slice none 0 0), l5]) w)
   (gE pg (jF 106 alI) w fun m0 w =>
   gE pg (jO 108 b8 j3) w fun m1 w =>
   gE pg (kA 106 m1 m0) w fun _u w =>
   gE pg (gW .mul 3 iK iK (atQ 2) j3) w fun m5 w =>
   gE pg (gW .sub 3 iK iK (atQ 6) m5) w fun m6 w =>
   gE pg (gW .shl 3 iK iK l3 m6) w fun m7 w =>
   gE pg (gW .or 3 iK iK nK m7) w fun m8 w =>
   gE pg (oD .append #[22, 22] 22 [c0, l4]) w fun n1 w =>
   gE pg (gW .add 3 iK iK j3 (atQ 1)) w fun n2 w =>
   kn kV Nu pY b8 m8 n1 n2 w))
  (k1 kV Nu pY b8 nK c0 w)
theorem Nv (kn : K7) (k1 : K6) (R : K1) (hn : N7 Q kn 0 4 6 8 9 10 63) (h1 : E6 Q k1 1 0 4 6 8 9 10) (hr : HR oS R Q) (h : Cr kn k1 R (g 0) (g 4) (g 6) (g 8) (g 9) (g 10) (g 63) w) : jK pg mZ (bI (bI (fV 1 (gS 1 (fV 5 (fV 3 mO)))))) Q g w :=
 lM (l := [(1, fun g w => k1 (g 0) (g 4) (g 6) (g 8) (g 9) (g 10) w)]) h hn hr ⟨h1, trivial⟩
def IB (k1 : K6) (R : K1) (kV Nu pY b8 nK c0 j3 : atP) (w : atO) : Prop :=
 kE (fun (X : (atP × atP × atP) -> K0) (t : atP × atP × atP) (w : atO) => Cr (fun _ _ _ _ nK c0 j3 w => X (nK, c0, j3) w) k1 R kV Nu pY b8 t.1 t.2.1 t.2.2 w) (nK, c0, j3) w
theorem No (k1 : K6) (R : K1) (h1 : E6 Q k1 1 0 4 6 8 9 10) (hr : HR oS R Q) (h : IB k1 R (g 0) (g 4) (g 6) (g 8) (g 9) (g 10) (g 63) w) : jK pg mZ (bI (fV 1 (gS 1 (fV 5 (fV 3 mO))))) Q g w := by
 refine MG (fun g : Env => (g 9, g 10, g 63)) (fun X t w => Cr (fun _ _ _ _ nK c0 j3 w => X (nK, c0, j3) w) k1 R (g 0) (g 4) (g 6) (g 8) t.1 t.2.1 t.2.2 w) h (fun X g1 w1 ha hL => ?_)
 rw [<- qO 0 ha, <- qO 4 ha, <- qO 6 ha, <- qO 8 ha] at hL
 exact (Nv _ g1 w1 (fun _ _ _ _ nK c0 j3 w => X (nK, c0, j3) w) k1 R (fun _ _ h => h) h1 hr hL)
def Im (kn : K6) (R : K1) (kV Nu pY b8 nK c0 j3 : atP) (w : atO) : Prop :=
 IB kn R kV Nu pY b8 nK c0 j3 w
def Hh (kn : K7) (kV Nu pY b8 nK c0 : atP) (w : atO) : Prop :=
 kn kV Nu pY b8 nK c0 (atQ 0) w
theorem MU (kn : K7) (hn : N7 Q kn 0 4 6 8 9 10 63) (h : Hh kn (g 0) (g 4) (g 6) (g 8) (g 9) (g 10) w) : jK pg mZ (gS 1 (gS 1 (fV 5 (fV 3 mO)))) Q g w :=
 lM (kr := no) (l := []) h hn mH trivial
def It (kn : K6) (R : K1) (kV Nu pY b8 nK c0 : atP) (w : atO) : Prop :=
 Hh (fun kV Nu pY b8 nK c0 j3 w => Im kn R kV Nu pY b8 nK c0 j3 w) kV Nu pY b8 nK c0 w
def HA (R : K1) (kV Nu pY b8 nK c0 : atP) (w : atO) : Prop :=
 It (fun kV Nu pY b8 nK c0 w => CH R kV Nu pY b8 nK c0 w) R kV Nu pY b8 nK c0 w
theorem ND (kn : K6) (R : K1) (hn : N6 Q kn 0 4 6 8 9 10) (hr : HR oS R Q) (h : It kn R (g 0) (g 4) (g 6) (g 8) (g 9) (g 10) w) : jK pg mZ (gS 1 (fV 5 (fV 3 mO))) Q g w :=
 oB 1 (MU _ g w (Im kn R) (fun g w h => iB (GV 1 (No _ g w kn R hn hr h))) h)
def HP (kn : K6) (R : K1) (kV Nu : atP) (w : atO) : Prop :=
 jD pg SJ #[kV] w fun i7 w =>
 gE pg (jU i7 0) w fun i8 w =>
 gE pg (jU i7 1) w fun i9 w =>
 gE pg (pX 131) w fun pY w =>
 gE pg (kA 131 pY i8) w fun _u w =>
 gE pg (gW .neq 24 (.tmp 60) (.const (atQ 0)) i9 (atQ 0)) w fun j1 w =>
 mX j1
  (R (.tuple #[(.slice none 0 0), i9]) w)
  (gE pg (pX 108) w fun b8 w =>
  kn kV Nu pY b8 (atQ 0) (.slice none 0 0) w)
theorem Nc (kn : K6) (R : K1) (hn : N6 Q kn 0 4 6 8 9 10) (hr : HR oS R Q) (h : HP kn R (g 0) (g 4) w) : jK pg mZ (gS 5 (fV 3 mO)) Q g w :=
 lM (l := []) h hn hr trivial
def HO (R : K1) (kV Nu : atP) (w : atO) : Prop :=
 HP (fun kV Nu pY b8 nK c0 w => HA R kV Nu pY b8 nK c0 w) R kV Nu w
def Bz (kn : K2) (R : K1) (kV : atP) (w : atO) : Prop :=
 jD pg nR #[] w fun c7 w =>
 gE pg (oD .len #[80] 3 [kV]) w fun c9 w =>
 gE pg (gW .gtr 3 iK iK c9 (atQ 98047)) w fun d9 w =>
 mX d9
  (R (.tuple #[(.slice none 0 0), (atQ 1)]) w)
  (gE pg (gW .eql 3 (.tmp 31) (.const (atQ 0)) c9 (atQ 0)) w fun e2 w =>
  mX e2
   (gE pg (lJ 22 1 [(0, (.int .u8 0))]) w fun e3 w =>
   R (.tuple #[e3, (atQ 0)]) w)
   (gE pg (gW .lss 3 iK iK c9 (atQ 128)) w fun e6 w =>
   mX e6
    (gE pg (nS 3 32 c9) w fun e9 w =>
    jD pg jL #[c7, e9, (atQ 1)] w fun f0 w =>
    kn kV c7 w)
    (gE pg (gW .lss 3 iK iK c9 (atQ 32512)) w fun f3 w =>
    mX f3
     (gE pg (gW .shr 3 iK iK c9 (.int .u64 8)) w fun f6 w =>
     gE pg (gW .add 3 iK iK f6 (atQ 128)) w fun f7 w =>
     gE pg (nS 3 32 f7) w fun f8 w =>
     jD pg jL #[c7, f8, (atQ 1)] w fun f9 w =>
     gE pg (gW .and 3 iK iK c9 (atQ 255)) w fun i2 w =>
     gE pg (nS 3 32 i2) w fun i3 w =>
     jD pg jL #[c7, i3, (atQ 1)] w fun i4 w =>
     kn kV c7 w)
     (jD pg jL #[c7, (.int .u64 255), (atQ 1)] w fun d1 w =>
     gE pg (gW .sub 3 iK iK c9 (atQ 32512)) w fun d4 w =>
     gE pg (nS 3 32 d4) w fun d5 w =>
     jD pg jL #[c7, d5, (atQ 2)] w fun d6 w =>
     kn kV c7 w))))
theorem L6 (kn : K2) (R : K1) (hn : N2 Q kn 0 4) (hr : HR oS R Q) (h : Bz kn R (g 0) w) : jK pg mZ (gS 3 mO) Q g w :=
 lM (l := []) h hn hr trivial
def BC (R : K1) (kV : atP) (w : atO) : Prop :=
 Bz (fun kV Nu w => HO R kV Nu w) R kV w
theorem Lp (R : K1) (hr : HR oS R Q) (h : BC R (g 0) w) : jK pg mZ mO Q g w :=
 oB 3 (L6 _ g w (HO R) R (fun g w h => iB (oB 5 (Nc _ g w (HA R) R (fun g w h => iB (oB 1 (ND _ g w (CH R) R (fun g w h => iB (MP _ g w R hr h)) hr h))) hr h))) hr h)
def Mz (a0 : atP) (w : atO) (R : K1) : Prop :=
 BC R a0 w
theorem O4 {a0 : atP} {w : atO} {R : K1} (h : Mz a0 w R) : jD pg zN #[a0] w R := by
 refine Bp (ann := mZ) Tryz.f47 mO [a0] oS 115 TryzM.mixed Tryz.func47 ?_
 exact (Lp _ _ _ R (fun _ _ h => h) h)
def jT : FA := ⟨tV, fun i => .leaf ([], []) []⟩
def yV : List ResultVar := [.tmp 2]
noncomputable def jR : Code := kB Tryz.f48
def tA (R : K1) (kG : atP) (w : atO) : Prop :=
 R kG w
theorem Jt (R : K1) (hr : HR yV R Q) (h : tA R (g 6) w) : jK pg jT (fV 1 (fV 1 (fV 1 (fV 2 jR)))) Q g w :=
 lM (kn := no) (l := []) h mH hr trivial
def pH (kn : K4) (k2 : K1) (kG d5 d6 d7 : atP) (w : atO) : Prop :=
 gE pg (gW .lss 3 iK iK d7 d6) w fun d8 w =>
 mX d8
  (gE pg (jO 137 d5 d7) w fun d9 w =>
  gE pg (jF 22 d9) w fun e0 w =>
  gE pg (oD .append #[22, 22] 22 [kG, e0]) w fun e3 w =>
  gE pg (gW .add 3 iK iK d7 (atQ 1)) w fun e4 w =>
  kn e3 d5 d6 e4 w)
  (k2 kG w)
theorem Jz (kn : K4) (k2 : K1) (hn : N4 Q kn 6 25 26 27) (h2 : E1 Q k2 2 6) (h : pH kn k2 (g 6) (g 25) (g 26) (g 27) w) : jK pg jT (bI (bI (fV 1 (gS 1 (fV 1 (fV 1 (fV 2 jR))))))) Q g w :=
 lM (kr := no) (l := [(2, fun g w => k2 (g 6) w)]) h hn mH ⟨h2, trivial⟩
def zD (k2 : K1) (kG d5 d6 d7 : atP) (w : atO) : Prop :=
 kE (fun (X : (atP × atP) -> K0) (t : atP × atP) (w : atO) => pH (fun kG _ _ d7 w => X (kG, d7) w) k2 t.1 d5 d6 t.2 w) (kG, d7) w
theorem JI (k2 : K1) (h2 : E1 Q k2 2 6) (h : zD k2 (g 6) (g 25) (g 26) (g 27) w) : jK pg jT (bI (fV 1 (gS 1 (fV 1 (fV 1 (fV 2 jR)))))) Q g w := by
 refine MG (fun g : Env => (g 6, g 27)) (fun X t w => pH (fun kG _ _ d7 w => X (kG, d7) w) k2 t.1 (g 25) (g 26) t.2 w) h (fun X g1 w1 ha hL => ?_)
 rw [<- qO 25 ha, <- qO 26 ha] at hL
 exact (Jz _ g1 w1 (fun kG _ _ d7 w => X (kG, d7) w) k2 (fun _ _ h => h) h2 hL)
def yP (kn : K1) (kG d5 d6 d7 : atP) (w : atO) : Prop :=
 zD kn kG d5 d6 d7 w
def yW (kn : K4) (jS kG : atP) (w : atO) : Prop :=
 gE pg (oD .len #[137] 3 [jS]) w fun d6 w =>
 kn kG jS d6 (atQ 0) w
theorem JW (kn : K4) (hn : N4 Q kn 6 25 26 27) (h : yW kn (g 0) (g 6) w) : jK pg jT (gS 1 (gS 1 (fV 1 (fV 1 (fV 2 jR))))) Q g w :=
 lM (kr := no) (l := []) h hn mH trivial
def zB (kn : K1) (jS kG : atP) (w : atO) : Prop :=
 yW (fun kG d5 d6 d7 w => yP kn kG d5 d6 d7 w) jS kG w
def zA (R : K1) (jS kG : atP) (w : atO) : Prop :=
 zB (fun kG w => tA R kG w) jS kG w
theorem Jy (kn : K1) (hn : N1 Q kn 6) (h : zB kn (g 0) (g 6) w) : jK pg jT (gS 1 (fV 1 (fV 1 (fV 2 jR)))) Q g w :=
 oB 1 (JW _ g w (yP kn) (fun g w h => iB (GV 2 (JI _ g w kn hn h))) h)
def yZ (kn : K2) (jS mU : atP) (w : atO) : Prop :=
 jD pg wU #[(.slice none 0 0), mU] w fun d4 w =>
 kn jS d4 w
theorem JR (kn : K2) (hn : N2 Q kn 0 6) (h : yZ kn (g 0) (g 3) w) : jK pg jT (gS 1 (fV 1 (fV 2 jR))) Q g w :=
 lM (kr := no) (l := []) h hn mH trivial
def yN (R : K1) (jS mU : atP) (w : atO) : Prop :=
 yZ (fun jS kG w => zA R jS kG w) jS mU w
def qB (kn : K5) (jS mU b9 c0 c1 : atP) (w : atO) : Prop :=
 gE pg (gW .add 3 iK iK c1 (atQ 1)) w fun d2 w =>
 kn jS mU b9 c0 d2 w
theorem IL (kn : K5) (hn : N5 Q kn 0 3 9 10 11) (h : qB kn (g 0) (g 3) (g 9) (g 10) (g 11) w) : jK pg jT (fV 3 (bI (bI (fV 1 (gS 1 (fV 2 jR)))))) Q g w :=
 lM (kr := no) (l := []) h hn mH trivial
def qC (kn : K5) (k0 : K2) (jS mU b9 c0 c1 : atP) (w : atO) : Prop :=
 gE pg (gW .lss 3 iK iK c1 c0) w fun c2 w =>
 mX c2
  (gE pg (jO 137 b9 c1) w fun c3 w =>
  gE pg (jF 22 c3) w fun c4 w =>
  gE pg (oD .len #[22] 3 [c4]) w fun c7 w =>
  gE pg (gW .add 3 iK iK mU c7) w fun c8 w =>
  gE pg (gW .lss 3 iK iK c8 (atQ 0)) w fun d0 w =>
  mX d0
   (gE pg (Vt 9 (.string ⟨#[108, 101, 110, 32, 111, 117, 116, 32, 111, 102, 32, 114, 97, 110, 103, 101]⟩)) w fun d1 w =>
   gE pg (V (Instr.panic d1)) w fun _u w =>
   kn jS c8 b9 c0 c1 w)
   (kn jS c8 b9 c0 c1 w))
  (k0 jS mU w)
theorem IW (kn : K5) (k0 : K2) (hn : N5 Q kn 0 3 9 10 11) (h0 : E2 Q k0 0 0 3) (h : qC kn k0 (g 0) (g 3) (g 9) (g 10) (g 11) w) : jK pg jT (gS 3 (bI (bI (fV 1 (gS 1 (fV 2 jR)))))) Q g w :=
 lM (kr := no) (l := [(0, fun g w => k0 (g 0) (g 3) w)]) h hn mH ⟨h0, trivial⟩
def pC (kn : K5) (k0 : K2) (jS mU b9 c0 c1 : atP) (w : atO) : Prop :=
 qC (fun jS mU b9 c0 c1 w => qB kn jS mU b9 c0 c1 w) k0 jS mU b9 c0 c1 w
def xK (k0 : K2) (jS mU b9 c0 c1 : atP) (w : atO) : Prop :=
 kE (fun (X : (atP × atP) -> K0) (t : atP × atP) (w : atO) => pC (fun _ mU _ _ c1 w => X (mU, c1) w) k0 jS t.1 b9 c0 t.2 w) (mU, c1) w
theorem IS (kn : K5) (k0 : K2) (hn : N5 Q kn 0 3 9 10 11) (h0 : E2 Q k0 0 0 3) (h : pC kn k0 (g 0) (g 3) (g 9) (g 10) (g 11) w) : jK pg jT (bI (bI (fV 1 (gS 1 (fV 2 jR))))) Q g w :=
 oB 3 (IW _ g w (qB kn) k0 (fun g w h => iB (IL _ g w kn hn h)) h0 h)
theorem I3 (k0 : K2) (h0 : E2 Q k0 0 0 3) (h : xK k0 (g 0) (g 3) (g 9) (g 10) (g 11) w) : jK pg jT (bI (fV 1 (gS 1 (fV 2 jR)))) Q g w := by
 refine MG (fun g : Env => (g 3, g 11)) (fun X t w => pC (fun _ mU _ _ c1 w => X (mU, c1) w) k0 (g 0) t.1 (g 9) (g 10) t.2 w) h (fun X g1 w1 ha hL => ?_)
 rw [<- qO 0 ha, <- qO 9 ha, <- qO 10 ha] at hL
 exact (IS _ g1 w1 (fun _ mU _ _ c1 w => X (mU, c1) w) k0 (fun _ _ h => h) h0 hL)
def xB (kn : K2) (jS mU b9 c0 c1 : atP) (w : atO) : Prop :=
 xK kn jS mU b9 c0 c1 w
def xY (kn : K5) (jS mU : atP) (w : atO) : Prop :=
 gE pg (oD .len #[137] 3 [jS]) w fun c0 w =>
 kn jS mU jS c0 (atQ 0) w
theorem II (kn : K5) (hn : N5 Q kn 0 3 9 10 11) (h : xY kn (g 0) (g 3) w) : jK pg jT (gS 1 (gS 1 (fV 2 jR))) Q g w :=
 lM (kr := no) (l := []) h hn mH trivial
def xT (kn : K2) (jS mU : atP) (w : atO) : Prop :=
 xY (fun jS mU b9 c0 c1 w => xB kn jS mU b9 c0 c1 w) jS mU w
def xI (R : K1) (jS mU : atP) (w : atO) : Prop :=
 xT (fun jS mU w => yN R jS mU w) jS mU w
theorem IH (kn : K2) (hn : N2 Q kn 0 3) (h : xT kn (g 0) (g 3) w) : jK pg jT (gS 1 (fV 2 jR)) Q g w :=
 oB 1 (II _ g w (xB kn) (fun g w h => iB (GV 0 (I3 _ g w kn hn h))) h)
def xC (kn : K2) (jS : atP) (w : atO) : Prop :=
 kn jS (atQ 0) w
theorem IP (kn : K2) (hn : N2 Q kn 0 3) (h : xC kn (g 0) w) : jK pg jT (gS 2 jR) Q g w :=
 lM (kr := no) (l := []) h hn mH trivial
def xJ (R : K1) (jS : atP) (w : atO) : Prop :=
 xC (fun jS mU w => xI R jS mU w) jS w
theorem ID (R : K1) (hr : HR yV R Q) (h : xJ R (g 0) w) : jK pg jT jR Q g w :=
 oB 2 (IP _ g w (xI R) (fun g w h => iB (oB 1 (IH _ g w (yN R) (fun g w h => iB (oB 1 (JR _ g w (zA R) (fun g w h => iB (oB 1 (Jy _ g w (tA R) (fun g w h => iB (Jt _ g w R hr h)) h))) h))) h))) h)
def H6 (a0 : atP) (w : atO) (R : K1) : Prop :=
 xJ R a0 w
theorem Ks {a0 : atP} {w : atO} {R : K1} (h : H6 a0 w R) : jD pg tV #[a0] w R := by
 refine Bp (ann := jT) Tryz.f48 jR [a0] yV 36 TryzM.mixed Tryz.func48 ?_
 exact (ID _ _ _ R (fun _ _ h => h) h)
def Qi : FA := ⟨C3, fun i => .leaf ([], []) []⟩
def Rx : List ResultVar := [.tmp 4]
noncomputable def OG : Code := kB Tryz.f49
def L9 (R : K1) (v_0 BT : atP) (w : atO) : Prop :=
 gE pg (gW .mul 32 iK iK BT (.int .u64 14029467366897019727)) w fun b7 w =>
 gE pg (gW .add 32 iK iK v_0 b7) w fun b8 w =>
 jD pg mD #[b8, (atQ 31)] w fun b9 w =>
 gE pg (gW .mul 32 iK iK b9 (.int .u64 11400714785074694791)) w fun c0 w =>
 R c0 w
theorem UQ (R : K1) (hr : HR Rx R Q) (h : L9 R (g 0) (g 1) w) : jK pg Qi OG Q g w :=
 lM (kn := no) (l := []) h mH hr trivial
def Wz (a0 a1 : atP) (w : atO) (R : K1) : Prop :=
 L9 R a0 a1 w
theorem U4 {a0 a1 : atP} {w : atO} {R : K1} (h : Wz a0 a1 w R) : jD pg C3 #[a0, a1] w R := by
 refine Bp (ann := Qi) Tryz.f49 OG [a0, a1] Rx 11 TryzM.mixed Tryz.func49 ?_
 exact (UQ _ _ _ R (fun _ _ h => h) h)
def qZ : FA := ⟨A5, fun i => .leaf ([], []) []⟩
def Jr : List ResultVar := [.tmp 2]
noncomputable def qI : Code := kB Tryz.f50
def FR (R : K1) (nV : atP) (w : atO) : Prop :=
 R nV w
theorem Te (R : K1) (hr : HR Jr R Q) (h : FR R (g 3) w) : jK pg qZ (fV 1 (fV 2 qI)) Q g w :=
 lM (kn := no) (l := []) h mH hr trivial
def B0 (kn : K4) (k0 : K1) (nV b6 b7 b8 : atP) (w : atO) : Prop :=
 gE pg (gW .lss 3 iK iK b8 b7) w fun b9 w =>
 mX b9
  (gE pg (jO 22 b6 b8) w fun c1 w =>
  gE pg (jF 5 c1) w fun c2 w =>
  gE pg (nS 5 32 c2) w fun c5 w =>
  gE pg (gW .mul 3 iK iK (atQ 8) b8) w fun c7 w =>
  gE pg (nS 3 50 c7) w fun c8 w =>
  gE pg (gW .shl 32 iK iK c5 c8) w fun c9 w =>
  gE pg (gW .or 32 iK iK nV c9) w fun d0 w =>
  gE pg (gW .add 3 iK iK b8 (atQ 1)) w fun d1 w =>
  kn d0 b6 b7 d1 w)
  (k0 nV w)
theorem Th (kn : K4) (k0 : K1) (hn : N4 Q kn 3 6 7 8) (h0 : E1 Q k0 0 3) (h : B0 kn k0 (g 3) (g 6) (g 7) (g 8) w) : jK pg qZ (bI (bI (fV 1 (gS 1 (fV 2 qI))))) Q g w :=
 lM (kr := no) (l := [(0, fun g w => k0 (g 3) w)]) h hn mH ⟨h0, trivial⟩
def Jq (k0 : K1) (nV b6 b7 b8 : atP) (w : atO) : Prop :=
 kE (fun (X : (atP × atP) -> K0) (t : atP × atP) (w : atO) => B0 (fun nV _ _ b8 w => X (nV, b8) w) k0 t.1 b6 b7 t.2 w) (nV, b8) w
theorem TP (k0 : K1) (h0 : E1 Q k0 0 3) (h : Jq k0 (g 3) (g 6) (g 7) (g 8) w) : jK pg qZ (bI (fV 1 (gS 1 (fV 2 qI)))) Q g w := by
 refine MG (fun g : Env => (g 3, g 8)) (fun X t w => B0 (fun nV _ _ b8 w => X (nV, b8) w) k0 t.1 (g 6) (g 7) t.2 w) h (fun X g1 w1 ha hL => ?_)
 rw [<- qO 6 ha, <- qO 7 ha] at hL
 exact (Th _ g1 w1 (fun nV _ _ b8 w => X (nV, b8) w) k0 (fun _ _ h => h) h0 hL)
def Jx (kn : K1) (nV b6 b7 b8 : atP) (w : atO) : Prop :=
 Jq kn nV b6 b7 b8 w
def JB (kn : K4) (qV nV : atP) (w : atO) : Prop :=
 gE pg (oD .len #[22] 3 [qV]) w fun b7 w =>
 kn nV qV b7 (atQ 0) w
theorem TD (kn : K4) (hn : N4 Q kn 3 6 7 8) (h : JB kn (g 0) (g 3) w) : jK pg qZ (gS 1 (gS 1 (fV 2 qI))) Q g w :=
 lM (kr := no) (l := []) h hn mH trivial
def JA (kn : K1) (qV nV : atP) (w : atO) : Prop :=
 JB (fun nV b6 b7 b8 w => Jx kn nV b6 b7 b8 w) qV nV w
def JH (R : K1) (qV nV : atP) (w : atO) : Prop :=
 JA (fun nV w => FR R nV w) qV nV w
theorem To (kn : K1) (hn : N1 Q kn 3) (h : JA kn (g 0) (g 3) w) : jK pg qZ (gS 1 (fV 2 qI)) Q g w :=
 oB 1 (TD _ g w (Jx kn) (fun g w h => iB (GV 0 (TP _ g w kn hn h))) h)
def J7 (kn : K2) (qV : atP) (w : atO) : Prop :=
 kn qV (.int .u64 0) w
theorem TG (kn : K2) (hn : N2 Q kn 0 3) (h : J7 kn (g 0) w) : jK pg qZ (gS 2 qI) Q g w :=
 lM (kr := no) (l := []) h hn mH trivial
def Jw (R : K1) (qV : atP) (w : atO) : Prop :=
 J7 (fun qV nV w => JH R qV nV w) qV w
theorem Tw (R : K1) (hr : HR Jr R Q) (h : Jw R (g 0) w) : jK pg qZ qI Q g w :=
 oB 2 (TG _ g w (JH R) (fun g w h => iB (oB 1 (To _ g w (FR R) (fun g w h => iB (Te _ g w R hr h)) h))) h)
def Vf (a0 : atP) (w : atO) (R : K1) : Prop :=
 Jw R a0 w
theorem UI {a0 : atP} {w : atO} {R : K1} (h : Vf a0 w R) : jD pg A5 #[a0] w R := by
 refine Bp (ann := qZ) Tryz.f50 qI [a0] Jr 23 TryzM.mixed Tryz.func50 ?_
 exact (Tw _ _ _ R (fun _ _ h => h) h)
def lN : FA := ⟨zL, fun i => .leaf ([], []) []⟩
def wN : List ResultVar := [.tmp 2]
noncomputable def lA : Code := kB Tryz.f51
def xO (R : K1) (nV : atP) (w : atO) : Prop :=
 R nV w
theorem MY (R : K1) (hr : HR wN R Q) (h : xO R (g 3) w) : jK pg lN (fV 1 (fV 1 (fV 3 lA))) Q g w :=
 lM (kn := no) (l := []) h mH hr trivial
def sQ (kn : K3) (k2 : K1) (nV e2 e3 : atP) (w : atO) : Prop :=
 gE pg (gW .lss 3 iK iK e3 (atQ 4)) w fun e4 w =>
 mX e4
  (gE pg (P8 90 e2 e3) w fun e5 w =>
  jD pg C3 #[(.int .u64 0), e5] w fun e8 w =>
  gE pg (gW .xor 32 iK iK nV e8) w fun e9 w =>
  gE pg (gW .mul 32 iK iK e9 (.int .u64 11400714785074694791)) w fun f0 w =>
  gE pg (gW .add 32 iK iK f0 (.int .u64 9650029242287828579)) w fun f1 w =>
  gE pg (gW .add 3 iK iK e3 (atQ 1)) w fun f2 w =>
  kn f1 e2 f2 w)
  (k2 nV w)
theorem Nw (kn : K3) (k2 : K1) (hn : N3 Q kn 3 32 33) (h2 : E1 Q k2 2 3) (h : sQ kn k2 (g 3) (g 32) (g 33) w) : jK pg lN (bI (bI (fV 1 (gS 1 (fV 1 (fV 3 lA)))))) Q g w :=
 lM (kr := no) (l := [(2, fun g w => k2 (g 3) w)]) h hn mH ⟨h2, trivial⟩
def CM (k2 : K1) (nV e2 e3 : atP) (w : atO) : Prop :=
 kE (fun (X : (atP × atP) -> K0) (t : atP × atP) (w : atO) => sQ (fun nV _ e3 w => X (nV, e3) w) k2 t.1 e2 t.2 w) (nV, e3) w
theorem M7 (k2 : K1) (h2 : E1 Q k2 2 3) (h : CM k2 (g 3) (g 32) (g 33) w) : jK pg lN (bI (fV 1 (gS 1 (fV 1 (fV 3 lA))))) Q g w := by
 refine MG (fun g : Env => (g 3, g 33)) (fun X t w => sQ (fun nV _ e3 w => X (nV, e3) w) k2 t.1 (g 32) t.2 w) h (fun X g1 w1 ha hL => ?_)
 rw [<- qO 32 ha] at hL
 exact (Nw _ g1 w1 (fun nV _ e3 w => X (nV, e3) w) k2 (fun _ _ h => h) h2 hL)
def Cx (kn : K1) (nV e2 e3 : atP) (w : atO) : Prop :=
 CM kn nV e2 e3 w
def CO (kn : K3) (qD nV : atP) (w : atO) : Prop :=
 gE pg (rN qD) w fun e0 w =>
 gE pg (jJ 93 e0 0) w fun e1 w =>
 gE pg (jF 90 e1) w fun e2 w =>
 kn nV e2 (atQ 0) w
theorem M1 (kn : K3) (hn : N3 Q kn 3 32 33) (h : CO kn (g 0) (g 3) w) : jK pg lN (gS 1 (gS 1 (fV 1 (fV 3 lA)))) Q g w :=
 lM (kr := no) (l := []) h hn mH trivial
def CC (kn : K1) (qD nV : atP) (w : atO) : Prop :=
 CO (fun nV e2 e3 w => Cx kn nV e2 e3 w) qD nV w
def CW (R : K1) (qD nV : atP) (w : atO) : Prop :=
 CC (fun nV w => xO R nV w) qD nV w
theorem Np (kn : K1) (hn : N1 Q kn 3) (h : CC kn (g 0) (g 3) w) : jK pg lN (gS 1 (fV 1 (fV 3 lA))) Q g w :=
 oB 1 (M1 _ g w (Cx kn) (fun g w h => iB (GV 2 (M7 _ g w kn hn h))) h)
def sT (kn : K4) (k0 : K2) (qD nV c3 c4 : atP) (w : atO) : Prop :=
 gE pg (gW .lss 3 iK iK c4 (atQ 4)) w fun c5 w =>
 mX c5
  (gE pg (P8 139 c3 c4) w fun c7 w =>
  gE pg (rN qD) w fun d1 w =>
  gE pg (jJ 93 d1 0) w fun d2 w =>
  gE pg (jO 90 d2 c4) w fun d3 w =>
  gE pg (jF 32 d3) w fun d4 w =>
  jD pg mD #[d4, c7] w fun d6 w =>
  gE pg (gW .add 32 iK iK nV d6) w fun d7 w =>
  gE pg (gW .add 3 iK iK c4 (atQ 1)) w fun d8 w =>
  kn qD d7 c3 d8 w)
  (k0 qD nV w)
theorem MR (kn : K4) (k0 : K2) (hn : N4 Q kn 0 3 13 14) (h0 : E2 Q k0 0 0 3) (h : sT kn k0 (g 0) (g 3) (g 13) (g 14) w) : jK pg lN (bI (bI (fV 1 (gS 1 (fV 3 lA))))) Q g w :=
 lM (kr := no) (l := [(0, fun g w => k0 (g 0) (g 3) w)]) h hn mH ⟨h0, trivial⟩
def Cz (k0 : K2) (qD nV c3 c4 : atP) (w : atO) : Prop :=
 kE (fun (X : (atP × atP) -> K0) (t : atP × atP) (w : atO) => sT (fun _ nV _ c4 w => X (nV, c4) w) k0 qD t.1 c3 t.2 w) (nV, c4) w
theorem M6 (k0 : K2) (h0 : E2 Q k0 0 0 3) (h : Cz k0 (g 0) (g 3) (g 13) (g 14) w) : jK pg lN (bI (fV 1 (gS 1 (fV 3 lA)))) Q g w := by
 refine MG (fun g : Env => (g 3, g 14)) (fun X t w => sT (fun _ nV _ c4 w => X (nV, c4) w) k0 (g 0) t.1 (g 13) t.2 w) h (fun X g1 w1 ha hL => ?_)
 rw [<- qO 0 ha, <- qO 13 ha] at hL
 exact (MR _ g1 w1 (fun _ nV _ c4 w => X (nV, c4) w) k0 (fun _ _ h => h) h0 hL)
def BK (kn : K2) (qD nV c3 c4 : atP) (w : atO) : Prop :=
 Cz kn qD nV c3 c4 w
def BL (kn : K4) (qD nV : atP) (w : atO) : Prop :=
 gE pg (mL 139 [(0, (atQ 1)), (1, (atQ 7)), (2, (atQ 12)), (3, (atQ 18))]) w fun c3 w =>
 kn qD nV c3 (atQ 0) w
theorem Ln (kn : K4) (hn : N4 Q kn 0 3 13 14) (h : BL kn (g 0) (g 3) w) : jK pg lN (gS 1 (gS 1 (fV 3 lA))) Q g w :=
 lM (kr := no) (l := []) h hn mH trivial
def BN (kn : K2) (qD nV : atP) (w : atO) : Prop :=
 BL (fun qD nV c3 c4 w => BK kn qD nV c3 c4 w) qD nV w
def BM (R : K1) (qD nV : atP) (w : atO) : Prop :=
 BN (fun qD nV w => CW R qD nV w) qD nV w
theorem Lq (kn : K2) (hn : N2 Q kn 0 3) (h : BN kn (g 0) (g 3) w) : jK pg lN (gS 1 (fV 3 lA)) Q g w :=
 oB 1 (Ln _ g w (BK kn) (fun g w h => iB (GV 0 (M6 _ g w kn hn h))) h)
def uR (kn : K2) (R : K1) (qD : atP) (w : atO) : Prop :=
 gE pg (rN qD) w fun b9 w =>
 gE pg (jJ 93 b9 3) w fun c0 w =>
 gE pg (jF 32 c0) w fun c1 w =>
 gE pg (gW .lss 32 iK iK c1 (.int .u64 32)) w fun c2 w =>
 mX c2
  (R (.int .u64 2870177450012600261) w)
  (kn qD (.int .u64 0) w)
theorem Me (kn : K2) (R : K1) (hn : N2 Q kn 0 3) (hr : HR wN R Q) (h : uR kn R (g 0) w) : jK pg lN (gS 3 lA) Q g w :=
 lM (l := []) h hn hr trivial
def vA (R : K1) (qD : atP) (w : atO) : Prop :=
 uR (fun qD nV w => BM R qD nV w) R qD w
theorem LG (R : K1) (hr : HR wN R Q) (h : vA R (g 0) w) : jK pg lN lA Q g w :=
 oB 3 (Me _ g w (BM R) R (fun g w h => iB (oB 1 (Lq _ g w (CW R) (fun g w h => iB (oB 1 (Np _ g w (xO R) (fun g w h => iB (MY _ g w R hr h)) h))) h))) hr h)
def GD (a0 : atP) (w : atO) (R : K1) : Prop :=
 vA R a0 w
theorem OS {a0 : atP} {w : atO} {R : K1} (h : GD a0 w R) : jD pg zL #[a0] w R := by
 refine Bp (ann := lN) Tryz.f51 lA [a0] wN 44 TryzM.mixed Tryz.func51 ?_
 exact (LG _ _ _ R (fun _ _ h => h) h)
def Aw : FA := ⟨mD, fun i => .leaf ([], []) []⟩
def A9 : List ResultVar := [.tmp 4]
noncomputable def zP : Code := kB Tryz.f52
def tJ (R : K1) (nM k_1 : atP) (w : atO) : Prop :=
 gE pg (nS 3 50 k_1) w fun b7 w =>
 gE pg (gW .and 50 iK iK b7 (.int .u64 63)) w fun b8 w =>
 gE pg (gW .shl 32 iK iK nM b8) w fun c1 w =>
 gE pg (gW .sub 50 iK iK (.int .u64 64) b8) w fun c4 w =>
 gE pg (gW .shr 32 iK iK nM c4) w fun c5 w =>
 gE pg (gW .or 32 iK iK c1 c5) w fun c6 w =>
 R c6 w
theorem GI (R : K1) (hr : HR A9 R Q) (h : tJ R (g 0) (g 1) w) : jK pg Aw zP Q g w :=
 lM (kn := no) (l := []) h mH hr trivial
def D2 (a0 a1 : atP) (w : atO) (R : K1) : Prop :=
 tJ R a0 a1 w
theorem GX {a0 a1 : atP} {w : atO} {R : K1} (h : D2 a0 a1 w R) : jD pg mD #[a0, a1] w R := by
 refine Bp (ann := Aw) Tryz.f52 zP [a0, a1] A9 17 TryzM.mixed Tryz.func52 ?_
 exact (GI _ _ _ R (fun _ _ h => h) h)
def lX : FA := ⟨wE, fun i => .leaf ([], []) []⟩
def nX : List ResultVar := [.tmp 4]
noncomputable def lQ : Code := kB Tryz.f58
def qT (R : K1)  (w : atO) : Prop :=
 R (atQ (-1)) w
theorem G6 (R : K1) (hr : HR nX R Q) (h : qT R w) : jK pg lX (fV 1 (fV 1 lQ)) Q g w :=
 lM (kn := no) (l := []) h mH hr trivial
def qU (kn : K4) (k0 : K0) (R : K1) (EB Us b7 b8 : atP) (w : atO) : Prop :=
 gE pg (gW .lss 3 iK iK b8 b7) w fun b9 w =>
 mX b9
  (gE pg (jO 22 EB b8) w fun c4 w =>
  gE pg (jF 5 c4) w fun c5 w =>
  gE pg (Cq Us [c5]) w fun c6 w =>
  mX c6
   (R b8 w)
   (gE pg (gW .add 3 iK iK b8 (atQ 1)) w fun c8 w =>
   kn EB Us b7 c8 w))
  (k0 w)
theorem G7 (kn : K4) (k0 : K0) (R : K1) (hn : N4 Q kn 0 1 7 8) (h0 : E0 Q k0 0) (hr : HR nX R Q) (h : qU kn k0 R (g 0) (g 1) (g 7) (g 8) w) : jK pg lX (bI (bI (fV 1 (gS 1 (fV 1 lQ))))) Q g w :=
 lM (l := [(0, fun g w => k0 w)]) h hn hr ⟨h0, trivial⟩
def uO (k0 : K0) (R : K1) (EB Us b7 b8 : atP) (w : atO) : Prop :=
 kE (fun (X : atP -> K0) (t : atP) (w : atO) => qU (fun _ _ _ b8 w => X b8 w) k0 R EB Us b7 t w) b8 w
theorem G0 (k0 : K0) (R : K1) (h0 : E0 Q k0 0) (hr : HR nX R Q) (h : uO k0 R (g 0) (g 1) (g 7) (g 8) w) : jK pg lX (bI (fV 1 (gS 1 (fV 1 lQ)))) Q g w := by
 refine MG (fun g : Env => g 8) (fun X t w => qU (fun _ _ _ b8 w => X b8 w) k0 R (g 0) (g 1) (g 7) t w) h (fun X g1 w1 ha hL => ?_)
 rw [<- qO 0 ha, <- qO 1 ha, <- qO 7 ha] at hL
 exact (G7 _ g1 w1 (fun _ _ _ b8 w => X b8 w) k0 R (fun _ _ h => h) h0 hr hL)
def uJ (kn : K0) (R : K1) (EB Us b7 b8 : atP) (w : atO) : Prop :=
 uO kn R EB Us b7 b8 w
def uH (kn : K4) (EB Us : atP) (w : atO) : Prop :=
 gE pg (oD .len #[22] 3 [EB]) w fun b7 w =>
 kn EB Us b7 (atQ 0) w
theorem G5 (kn : K4) (hn : N4 Q kn 0 1 7 8) (h : uH kn (g 0) (g 1) w) : jK pg lX (gS 1 (gS 1 (fV 1 lQ))) Q g w :=
 lM (kr := no) (l := []) h hn mH trivial
def uK (kn : K0) (R : K1) (EB Us : atP) (w : atO) : Prop :=
 uH (fun EB Us b7 b8 w => uJ kn R EB Us b7 b8 w) EB Us w
def uL (R : K1) (EB Us : atP) (w : atO) : Prop :=
 uK (fun  w => qT R w) R EB Us w
theorem G3 (kn : K0) (R : K1) (hn : N0 Q kn) (hr : HR nX R Q) (h : uK kn R (g 0) (g 1) w) : jK pg lX (gS 1 (fV 1 lQ)) Q g w :=
 oB 1 (G5 _ g w (uJ kn R) (fun g w h => iB (GV 0 (G0 _ g w kn R hn hr h))) h)
def uM (kn : K2) (EB Us : atP) (w : atO) : Prop :=
 kn EB Us w
theorem G4 (kn : K2) (hn : N2 Q kn 0 1) (h : uM kn (g 0) (g 1) w) : jK pg lX (gS 1 lQ) Q g w :=
 lM (kr := no) (l := []) h hn mH trivial
def uI (R : K1) (EB Us : atP) (w : atO) : Prop :=
 uM (fun EB Us w => uL R EB Us w) EB Us w
theorem G2 (R : K1) (hr : HR nX R Q) (h : uI R (g 0) (g 1) w) : jK pg lX lQ Q g w :=
 oB 1 (G4 _ g w (uL R) (fun g w h => iB (oB 1 (G3 _ g w (fun  w => qT R w) R (fun g w h => iB (G6 _ g w R hr h)) hr h))) h)
def Ex (a0 a1 : atP) (w : atO) (R : K1) : Prop :=
 uI R a0 a1 w
theorem HL {a0 a1 : atP} {w : atO} {R : K1} (h : Ex a0 a1 w R) : jD pg wE #[a0, a1] w R := by
 refine Bp (ann := lX) Tryz.f58 lQ [a0, a1] nX 19 TryzM.mixed Tryz.func58 ?_
 exact (G2 _ _ _ R (fun _ _ h => h) h)
def tB : FA := ⟨nY, fun i => match Nat.beq i 1 with | true => .leaf ([], []) [(false, []), (false, []), (false, []), (false, []), (false, []), (false, []), (false, []), (false, []), (false, []), (false, []), (false, [])] | false => match Nat.beq i 7 with | true => .leaf ([6], []) [(false, []), (false, []), (false, []), (false, []), (false, []), (false, []), (true, [])] | false => .leaf ([], []) []⟩
def NP : List ResultVar := []
noncomputable def sF : Code := kB Tryz.f59
def oJ (kn : K0) (rL nG k_4 agR : atP) (w : atO) : Prop :=
 mX agR
  ((dr w) = (dr w) /\
  gE pg (rN rL) (dr w) fun f9 w_ => w_ = (dr w) /\
  gE pg (jJ 119 f9 2) (dr w) fun i0 w_ => w_ = (dr w) /\
  gE pg (jF 116 i0) (dr w) fun i1 w_ => w_ = (dr w) /\
  gE pg (jF 146 k_4) (dr w) fun i2 w_ => w_ = (dr w) /\
  (dr w) = (dr w) /\
  gE pg (Vv 116 i1 i2 nG) (dr w) fun _u6 amO =>
  kn amO)
  (kn w)
theorem KS (kn : K0) (hn : N0 Q kn) (h : oJ kn (g 0) (g 1) (g 4) (g 5) w) : jK pg tB (fV 3 sF) Q g w :=
 lM (kr := no) (l := []) h hn mH trivial
def qW (kn : K4) (rL nG : atP) (w : atO) : Prop :=
 jD pg qX #[rL, nG] w fun c1 w =>
 gE pg (jU c1 0) w fun c2 w =>
 gE pg (jU c1 1) w fun c3 w =>
 gE pg (pX 146) w fun k_4 w =>
 gE pg (kA 146 k_4 c2) w fun _u w =>
 (dr w) = (dr w) /\
 gE pg (rN rL) (dr w) fun c6 w_ => w_ = (dr w) /\
 gE pg (jJ 119 c6 2) (dr w) fun c7 w_ => w_ = (dr w) /\
 gE pg (jF 116 c7) (dr w) fun c8 w_ => w_ = (dr w) /\
 gE pg (jF 146 k_4) (dr w) fun c9 w_ => w_ = (dr w) /\
 gE pg (Yg 116 c8 c9 true) (dr w) fun d0 w_ => w_ = (dr w) /\
 (dr w) = (dr w) /\
 gE pg (jU d0 0) (dr w) fun d1 w_ => w_ = (dr w) /\
 gE pg (jU d0 1) (dr w) fun d2 w_ => w_ = (dr w) /\
 (dr w) = (dr w) /\
 (dr w) = (dr w) /\
 gE pg (YG .not c3) (dr w) fun d5 w =>
 Gd (kP d5 false) (fun K => K d2 w) w fun d7 w =>
 Gd (kP d5 false) (fun K => gE pg (YG .not d7) w K) w fun d8 w =>
 gE pg (mJ d5 (.bool true) d8) w fun d9 w =>
 mX d9
  (gE pg (rN rL) w fun e1 w =>
  gE pg (jJ 119 e1 3) w fun e2 w =>
  gE pg (jF 117 e2) w fun e3 w =>
  gE pg (jO 117 e3 nG) w fun e5 w =>
  gE pg (kA 3 e5 (atQ (-1))) w fun _u w =>
  kn rL nG k_4 c3 w)
  (gE pg (gW .lss 3 iK iK d1 nG) w fun e9 w =>
  mX e9
   (gE pg (rN rL) w fun f1 w =>
   gE pg (jJ 119 f1 3) w fun f2 w =>
   gE pg (jF 117 f2) w fun f3 w =>
   gE pg (jO 117 f3 nG) w fun f6 w =>
   gE pg (kA 3 f6 d1) w fun _u w =>
   kn rL nG k_4 c3 w)
   (kn rL nG k_4 c3 w))
theorem Kl (kn : K4) (hn : N4 Q kn 0 1 4 5) (h : qW kn (g 0) (g 1) w) : jK pg tB (gS 3 sF) Q g w :=
 lM (kr := no) (l := []) h hn mH trivial
def rB (kn : K0) (rL nG : atP) (w : atO) : Prop :=
 qW (fun rL nG k_4 agR w => oJ kn rL nG k_4 agR w) rL nG w
theorem Kz (kn : K0) (hn : N0 Q kn) (h : rB kn (g 0) (g 1) w) : jK pg tB sF Q g w :=
 oB 3 (Kl _ g w (oJ kn) (fun g w h => iB (KS _ g w kn hn h)) h)
def zG (a0 a1 : atP) (w : atO) (R : K1) : Prop :=
 rB (fun  w => R (.tuple #[]) w) a0 a1 w
theorem LI {a0 a1 : atP} {w : atO} {R : K1} (h : zG a0 a1 w R) : jD pg nY #[a0, a1] w R := by
 refine Bp (ann := tB) Tryz.f59 sF [a0, a1] NP 54 TryzM.mixed Tryz.func59 ?_
 exact (Kz _ _ _ (fun  w => R (.tuple #[]) w) (fun _ _ h => h) h)
def jY : FA := ⟨rU, fun i => match Nat.beq i 4 with | true => .leaf ([], []) [(false, []), (false, []), (false, []), (false, []), (false, []), (false, []), (false, []), (false, []), (false, []), (false, []), (false, [])] | false => .leaf ([], []) []⟩
def tQ : List ResultVar := [.tmp 4, .tmp 5]
noncomputable def jW : Code := kB Tryz.f60
def AA (R : K1) (jV kS : atP) (w : atO) : Prop :=
 R (.tuple #[jV, kS]) w
theorem Ki (R : K1) (hr : HR tQ R Q) (h : AA R (g 10) (g 11) w) : jK pg jY (fV 1 (fV 6 (bI (fV 1 jW)))) Q g w :=
 lM (kn := no) (l := []) h mH hr trivial
def oT (kn : K7) (rL nG mW jV kS e5 e6 : atP) (w : atO) : Prop :=
 gE pg (gW .add 3 iK iK e6 (atQ 1)) w fun i8 w =>
 kn rL nG mW jV kS e5 i8 w
theorem Ko (kn : K7) (hn : N7 Q kn 0 1 8 10 11 35 36) (h : oT kn (g 0) (g 1) (g 8) (g 10) (g 11) (g 35) (g 36) w) : jK pg jY (fV 1 (fV 2 (bI (bI (fV 1 (gS 1 (fV 6 (bI (fV 1 jW))))))))) Q g w :=
 lM (kr := no) (l := []) h hn mH trivial
def mB (kn : K7) (k0 : K2) (rL nG mW jV kS e5 e6 : atP) (w : atO) : Prop :=
 gE pg (rN rL) w fun i0 w =>
 gE pg (jJ 119 i0 3) w fun i1 w =>
 gE pg (jF 117 i1) w fun i2 w =>
 gE pg (jO 117 i2 mW) w fun i4 w =>
 gE pg (jF 3 i4) w fun i5 w =>
 gE pg (gW .lss 3 iK iK i5 (atQ 0)) w fun i7 w =>
 mX i7
  (k0 jV kS w)
  (kn rL nG i5 jV kS e5 e6 w)
theorem KL (kn : K7) (k0 : K2) (hn : N7 Q kn 0 1 8 10 11 35 36) (h0 : E2 Q k0 0 10 11) (h : mB kn k0 (g 0) (g 1) (g 8) (g 10) (g 11) (g 35) (g 36) w) : jK pg jY (fV 1 (bI (gS 1 (fV 2 (bI (bI (fV 1 (gS 1 (fV 6 (bI (fV 1 jW))))))))))) Q g w :=
 lM (kr := no) (l := [(0, fun g w => k0 (g 10) (g 11) w)]) h hn mH ⟨h0, trivial⟩
def pR (kn : K7) (rL nG mW jV kS e5 e6 : atP) (w : atO) : Prop :=
 jD pg uU #[rL, mW, nG] w fun f1 w =>
 gE pg (gW .gtr 3 iK iK f1 jV) w fun f4 w =>
 mX f4
  (gE pg (gW .sub 3 iK iK nG mW) w fun f8 w =>
  kn rL nG mW f1 f8 e5 e6 w)
  (kn rL nG mW jV kS e5 e6 w)
theorem KN (kn : K7) (hn : N7 Q kn 0 1 8 10 11 35 36) (h : pR kn (g 0) (g 1) (g 8) (g 10) (g 11) (g 35) (g 36) w) : jK pg jY (gS 1 (bI (gS 1 (fV 2 (bI (bI (fV 1 (gS 1 (fV 6 (bI (fV 1 jW))))))))))) Q g w :=
 lM (kr := no) (l := []) h hn mH trivial
def rE (kn : K7) (k0 : K2) (rL nG mW jV kS e5 e6 : atP) (w : atO) : Prop :=
 pR (fun rL nG mW jV kS e5 e6 w => mB kn k0 rL nG mW jV kS e5 e6 w) rL nG mW jV kS e5 e6 w
def pN (kn : K7) (k0 : K2) (rL nG mW jV kS e5 e6 : atP) (w : atO) : Prop :=
 rE kn k0 rL nG mW jV kS e5 e6 w
def pT (kn : K7) (k0 : K2) (rL nG mW jV kS e5 e6 : atP) (w : atO) : Prop :=
 pN (fun rL nG mW jV kS e5 e6 w => oT kn rL nG mW jV kS e5 e6 w) k0 rL nG mW jV kS e5 e6 w
theorem KP (kn : K7) (k0 : K2) (hn : N7 Q kn 0 1 8 10 11 35 36) (h0 : E2 Q k0 0 10 11) (h : pN kn k0 (g 0) (g 1) (g 8) (g 10) (g 11) (g 35) (g 36) w) : jK pg jY (gS 1 (fV 2 (bI (bI (fV 1 (gS 1 (fV 6 (bI (fV 1 jW))))))))) Q g w :=
 GV 1 (oB 1 (KN _ g w (mB kn k0) (fun g w h => iB (KL _ g w kn k0 hn h0 h)) h))
def pO (kn : K7) (k0 : K2) (rL nG mW jV kS e5 e6 : atP) (w : atO) : Prop :=
 gE pg (gW .lss 3 iK iK e6 e5) w fun e7 w =>
 mX e7
  (kn rL nG mW jV kS e5 e6 w)
  (k0 jV kS w)
theorem KU (kn : K7) (k0 : K2) (hn : N7 Q kn 0 1 8 10 11 35 36) (h0 : E2 Q k0 0 10 11) (h : pO kn k0 (g 0) (g 1) (g 8) (g 10) (g 11) (g 35) (g 36) w) : jK pg jY (gS 2 (bI (bI (fV 1 (gS 1 (fV 6 (bI (fV 1 jW)))))))) Q g w :=
 lM (kr := no) (l := [(0, fun g w => k0 (g 10) (g 11) w)]) h hn mH ⟨h0, trivial⟩
def oN (kn : K7) (k0 : K2) (rL nG mW jV kS e5 e6 : atP) (w : atO) : Prop :=
 pO (fun rL nG mW jV kS e5 e6 w => pT kn k0 rL nG mW jV kS e5 e6 w) k0 rL nG mW jV kS e5 e6 w
def sY (k0 : K2) (rL nG mW jV kS e5 e6 : atP) (w : atO) : Prop :=
 kE (fun (X : (atP × atP × atP × atP) -> K0) (t : atP × atP × atP × atP) (w : atO) => oN (fun _ _ mW jV kS _ e6 w => X (mW, jV, kS, e6) w) k0 rL nG t.1 t.2.1 t.2.2.1 e5 t.2.2.2 w) (mW, jV, kS, e6) w
theorem KR (kn : K7) (k0 : K2) (hn : N7 Q kn 0 1 8 10 11 35 36) (h0 : E2 Q k0 0 10 11) (h : oN kn k0 (g 0) (g 1) (g 8) (g 10) (g 11) (g 35) (g 36) w) : jK pg jY (bI (bI (fV 1 (gS 1 (fV 6 (bI (fV 1 jW))))))) Q g w :=
 oB 2 (KU _ g w (pT kn k0) k0 (fun g w h => iB (oB 1 (KP _ g w (oT kn) k0 (fun g w h => iB (Ko _ g w kn hn h)) h0 h))) h0 h)
theorem JF (k0 : K2) (h0 : E2 Q k0 0 10 11) (h : sY k0 (g 0) (g 1) (g 8) (g 10) (g 11) (g 35) (g 36) w) : jK pg jY (bI (fV 1 (gS 1 (fV 6 (bI (fV 1 jW)))))) Q g w := by
 refine MG (fun g : Env => (g 8, g 10, g 11, g 36)) (fun X t w => oN (fun _ _ mW jV kS _ e6 w => X (mW, jV, kS, e6) w) k0 (g 0) (g 1) t.1 t.2.1 t.2.2.1 (g 35) t.2.2.2 w) h (fun X g1 w1 ha hL => ?_)
 rw [<- qO 0 ha, <- qO 1 ha, <- qO 35 ha] at hL
 exact (KR _ g1 w1 (fun _ _ mW jV kS _ e6 w => X (mW, jV, kS, e6) w) k0 (fun _ _ h => h) h0 hL)
def Ev (kn : K2) (rL nG mW jV kS e5 e6 : atP) (w : atO) : Prop :=
 sY kn rL nG mW jV kS e5 e6 w
def zC (kn : K7) (rL nG mW jV kS : atP) (w : atO) : Prop :=
 gE pg (rN rL) w fun e3 w =>
 gE pg (jJ 119 e3 4) w fun e4 w =>
 gE pg (jF 3 e4) w fun e5 w =>
 kn rL nG mW jV kS e5 (atQ 0) w
theorem J0 (kn : K7) (hn : N7 Q kn 0 1 8 10 11 35 36) (h : zC kn (g 0) (g 1) (g 8) (g 10) (g 11) w) : jK pg jY (gS 1 (gS 1 (fV 6 (bI (fV 1 jW))))) Q g w :=
 lM (kr := no) (l := []) h hn mH trivial
def yU (kn : K2) (rL nG mW jV kS : atP) (w : atO) : Prop :=
 zC (fun rL nG mW jV kS e5 e6 w => Ev kn rL nG mW jV kS e5 e6 w) rL nG mW jV kS w
def yQ (R : K1) (rL nG mW jV kS : atP) (w : atO) : Prop :=
 yU (fun jV kS w => AA R jV kS w) rL nG mW jV kS w
theorem JX (kn : K2) (hn : N2 Q kn 10 11) (h : yU kn (g 0) (g 1) (g 8) (g 10) (g 11) w) : jK pg jY (gS 1 (fV 6 (bI (fV 1 jW)))) Q g w :=
 oB 1 (J0 _ g w (Ev kn) (fun g w h => iB (GV 0 (JF _ g w kn hn h))) h)
def yR (kn : K5) (R : K1) (rL nG : atP) (w : atO) : Prop :=
 jD pg qX #[rL, nG] w fun c6 w =>
 gE pg (jU c6 0) w fun c7 w =>
 gE pg (jU c6 1) w fun c8 w =>
 gE pg (pX 146) w fun k_6 w =>
 gE pg (kA 146 k_6 c7) w fun _u w =>
 gE pg (YG .not c8) w fun d0 w =>
 mX d0
  (R (.tuple #[(atQ 0), (atQ 0)]) w)
  ((dr w) = (dr w) /\
  gE pg (rN rL) (dr w) fun d3 w_ => w_ = (dr w) /\
  gE pg (jJ 119 d3 2) (dr w) fun d4 w_ => w_ = (dr w) /\
  gE pg (jF 116 d4) (dr w) fun d5 w_ => w_ = (dr w) /\
  gE pg (jF 146 k_6) (dr w) fun d6 w_ => w_ = (dr w) /\
  gE pg (Yg 116 d5 d6 true) (dr w) fun d7 w_ => w_ = (dr w) /\
  (dr w) = (dr w) /\
  gE pg (jU d7 0) (dr w) fun d8 w_ => w_ = (dr w) /\
  gE pg (jU d7 1) (dr w) fun d9 w_ => w_ = (dr w) /\
  (dr w) = (dr w) /\
  (dr w) = (dr w) /\
  gE pg (YG .not d9) (dr w) fun e1 w =>
  mX e1
   (R (.tuple #[(atQ 0), (atQ 0)]) w)
   (kn rL nG d8 (atQ 0) (atQ 0) w))
theorem JC (kn : K5) (R : K1) (hn : N5 Q kn 0 1 8 10 11) (hr : HR tQ R Q) (h : yR kn R (g 0) (g 1) w) : jK pg jY (gS 6 (bI (fV 1 jW))) Q g w :=
 lM (l := []) h hn hr trivial
def Eu (R : K1) (rL nG : atP) (w : atO) : Prop :=
 yR (fun rL nG mW jV kS w => yQ R rL nG mW jV kS w) R rL nG w
def yT (R : K1) (rL nG : atP) (w : atO) : Prop :=
 Eu R rL nG w
def yS (kn : K2) (rL nG : atP) (w : atO) : Prop :=
 kn rL nG w
theorem J5 (kn : K2) (hn : N2 Q kn 0 1) (h : yS kn (g 0) (g 1) w) : jK pg jY (gS 1 jW) Q g w :=
 lM (kr := no) (l := []) h hn mH trivial
def yO (R : K1) (rL nG : atP) (w : atO) : Prop :=
 yS (fun rL nG w => yT R rL nG w) rL nG w
theorem JJ (R : K1) (hr : HR tQ R Q) (h : yO R (g 0) (g 1) w) : jK pg jY jW Q g w :=
 oB 1 (J5 _ g w (yT R) (fun g w h => iB (scD (oB 6 (JC _ g w (yQ R) R (fun g w h => iB (oB 1 (JX _ g w (AA R) (fun g w h => iB (Ki _ g w R hr h)) h))) hr h)))) h)
def I5 (a0 a1 : atP) (w : atO) (R : K1) : Prop :=
 yO R a0 a1 w
theorem Lu {a0 a1 : atP} {w : atO} {R : K1} (h : I5 a0 a1 w R) : jD pg rU #[a0, a1] w R := by
 refine Bp (ann := jY) Tryz.f60 jW [a0, a1] tQ 61 TryzM.mixed Tryz.func60 ?_
 exact (JJ _ _ _ R (fun _ _ h => h) h)
def Kx : FA := ⟨DT, fun i => .leaf ([], []) []⟩
def ML : List ResultVar := [.tmp 2, .tmp 3]
noncomputable def I8 : Code := kB Tryz.f63
def GG (R : K1) (kV : atP) (w : atO) : Prop :=
 gE pg (oD .len #[22] 3 [kV]) w fun b5 w =>
 gE pg (gW .gtr 3 iK iK b5 (atQ 131072)) w fun b6 w =>
 mX b6
  (R (.tuple #[(.slice none 0 0), (atQ 1)]) w)
  (gE pg (oD .len #[22] 3 [kV]) w fun b8 w =>
  jD pg vU #[(atQ 0), b8] w fun b9 w =>
  gE pg (oD .append #[22, 22] 22 [b9, kV]) w fun c1 w =>
  R (.tuple #[c1, (atQ 0)]) w)
theorem Rj (R : K1) (hr : HR ML R Q) (h : GG R (g 0) w) : jK pg Kx I8 Q g w :=
 lM (kn := no) (l := []) h mH hr trivial
def R7 (a0 : atP) (w : atO) (R : K1) : Prop :=
 GG R a0 w
theorem Sn {a0 : atP} {w : atO} {R : K1} (h : R7 a0 w R) : jD pg DT #[a0] w R := by
 refine Bp (ann := Kx) Tryz.f63 I8 [a0] ML 12 TryzM.mixed Tryz.func63 ?_
 exact (Rj _ _ _ R (fun _ _ h => h) h)
def Gl : FA := ⟨pL, fun i => .leaf ([], []) []⟩
def P0 : List ResultVar := []
noncomputable def Et : Code := kB Tryz.f64
def uV (kn : K0) (qV e_1 b2 : atP) (w : atO) : Prop :=
 gE pg (gW .eql 24 (.tmp 5) (.const (atQ 0)) e_1 (atQ 0)) w fun b6 w =>
 mX b6
  (gE pg (jF 22 b2) w fun b7 w =>
  gE pg (lJ 137 2 [(0, b7), (1, qV)]) w fun b9 w =>
  jD pg zR #[b9] w fun c0 w =>
  gE pg (kA 22 b2 c0) w fun _u w =>
  kn w)
  (kn w)
theorem Lw (kn : K0) (hn : N0 Q kn) (h : uV kn (g 0) (g 1) (g 2) w) : jK pg Gl Et Q g w :=
 lM (kr := no) (l := []) h hn mH trivial
def EX (a0 a1 a2 : atP) (w : atO) (R : K1) : Prop :=
 uV (fun  w => R (.tuple #[]) w) a0 a1 a2 w
theorem EE {a0 a1 a2 : atP} {w : atO} {R : K1} (h : EX a0 a1 a2 w R) : jD pg pL #[a0, a1, a2] w R := by
 refine Bp (ann := Gl) Tryz.f64 Et [a0, a1, a2] P0 11 TryzM.mixed Tryz.func64 ?_
 exact (Lw _ _ _ (fun  w => R (.tuple #[]) w) (fun _ _ h => h) h)
def GK : FA := ⟨zR, fun i => .leaf ([], []) []⟩
def HC : List ResultVar := [.tmp 2]
noncomputable def Gc : Code := kB Tryz.f65
def C0 (R : K1) (kV : atP) (w : atO) : Prop :=
 jD pg yY #[kV, (.func (.func 83) #[] #[])] w fun b4 w =>
 R b4 w
theorem Nb (R : K1) (hr : HR HC R Q) (h : C0 R (g 0) w) : jK pg GK Gc Q g w :=
 lM (kn := no) (l := []) h mH hr trivial
def Mv (a0 : atP) (w : atO) (R : K1) : Prop :=
 C0 R a0 w
theorem OD {a0 : atP} {w : atO} {R : K1} (h : Mv a0 w R) : jD pg zR #[a0] w R := by
 refine Bp (ann := GK) Tryz.f65 Gc [a0] HC 5 TryzM.mixed Tryz.func65 ?_
 exact (Nb _ _ _ R (fun _ _ h => h) h)
def I6 : FA := ⟨Ca, fun i => .leaf ([], []) []⟩
def Kq : List ResultVar := [.tmp 4, .tmp 5]
noncomputable def H2 : Code := kB Tryz.f66
def FE (R : K1) (c_0 UK : atP) (w : atO) : Prop :=
 gE pg (gW .lss 3 iK iK UK (atQ 0)) w fun b7 w =>
 Gd (kP b7 false) (fun K => K UK w) w fun b9 w =>
 Gd (kP b7 false) (fun K => gE pg (gW .gtr 3 iK iK b9 (atQ 131072)) w K) w fun c0 w =>
 gE pg (mJ b7 (.bool true) c0) w fun c1 w =>
 mX c1
  (R (.tuple #[(.slice none 0 0), (atQ 1)]) w)
  (jD pg vU #[(atQ 1), UK] w fun c3 w =>
  gE pg (lJ 22 1 [(0, c_0)]) w fun c5 w =>
  gE pg (oD .append #[22, 22] 22 [c3, c5]) w fun c6 w =>
  R (.tuple #[c6, (atQ 0)]) w)
theorem Pw (R : K1) (hr : HR Kq R Q) (h : FE R (g 0) (g 1) w) : jK pg I6 H2 Q g w :=
 lM (kn := no) (l := []) h mH hr trivial
def Qo (a0 a1 : atP) (w : atO) (R : K1) : Prop :=
 FE R a0 a1 w
theorem Rk {a0 a1 : atP} {w : atO} {R : K1} (h : Qo a0 a1 w R) : jD pg Ca #[a0, a1] w R := by
 refine Bp (ann := I6) Tryz.f66 H2 [a0, a1] Kq 17 TryzM.mixed Tryz.func66 ?_
 exact (Pw _ _ _ R (fun _ _ h => h) h)
def kO : FA := ⟨GY, fun i => .leaf ([], []) []⟩
def F2 : List ResultVar := [.tmp 2, .tmp 3]
noncomputable def kC : Code := kB Tryz.f67
def FW (R : K1) (kW : atP) (w : atO) : Prop :=
 R (.tuple #[kW, (atQ 0)]) w
theorem TA (R : K1) (hr : HR F2 R Q) (h : FW R (g 11) w) : jK pg kO (fV 1 (fV 4 (fV 1 (fV 3 kC)))) Q g w :=
 lM (kn := no) (l := []) h mH hr trivial
def B1 (kn : K5) (sS kW i1 i2 i3 : atP) (w : atO) : Prop :=
 gE pg (gW .add 3 iK iK i3 (atQ 1)) w fun j8 w =>
 kn sS kW i1 i2 j8 w
theorem TV (kn : K5) (hn : N5 Q kn 10 11 51 52 53) (h : B1 kn (g 10) (g 11) (g 51) (g 52) (g 53) w) : jK pg kO (fV 1 (fV 2 (bI (bI (fV 1 (gS 1 (fV 4 (fV 1 (fV 3 kC))))))))) Q g w :=
 lM (kr := no) (l := []) h hn mH trivial
def B4 (kn : K5) (sS kW afC i1 i2 i3 : atP) (w : atO) : Prop :=
 gE pg (nS 3 5 afC) w fun j5 w =>
 gE pg (lJ 22 1 [(0, j5)]) w fun j6 w =>
 gE pg (oD .append #[22, 22] 22 [kW, j6]) w fun j7 w =>
 kn sS j7 i1 i2 i3 w
theorem Tk (kn : K5) (hn : N5 Q kn 10 11 51 52 53) (h : B4 kn (g 10) (g 11) (g 14) (g 51) (g 52) (g 53) w) : jK pg kO (fV 3 (bI (gS 1 (fV 2 (bI (bI (fV 1 (gS 1 (fV 4 (fV 1 (fV 3 kC))))))))))) Q g w :=
 lM (kr := no) (l := []) h hn mH trivial
def Ju (kn : K6) (sS kW i1 i2 i3 : atP) (w : atO) : Prop :=
 gE pg (jO 117 i1 i3) w fun i5 w =>
 gE pg (jF 3 i5) w fun i6 w =>
 gE pg (gW .gtr 3 iK iK i6 (atQ 0)) w fun i8 w =>
 mX i8
  (gE pg (gW .add 3 iK iK sS (atQ 1)) w fun j0 w =>
  gE pg (gW .sub 3 iK iK j0 i6) w fun j2 w =>
  kn sS kW j2 i1 i2 i3 w)
  (kn sS kW (atQ 0) i1 i2 i3 w)
theorem TQ (kn : K6) (hn : N6 Q kn 10 11 14 51 52 53) (h : Ju kn (g 10) (g 11) (g 51) (g 52) (g 53) w) : jK pg kO (gS 3 (bI (gS 1 (fV 2 (bI (bI (fV 1 (gS 1 (fV 4 (fV 1 (fV 3 kC))))))))))) Q g w :=
 lM (kr := no) (l := []) h hn mH trivial
def Qu (kn : K5) (sS kW i1 i2 i3 : atP) (w : atO) : Prop :=
 Ju (fun sS kW afC i1 i2 i3 w => B4 kn sS kW afC i1 i2 i3 w) sS kW i1 i2 i3 w
def J2 (kn : K5) (sS kW i1 i2 i3 : atP) (w : atO) : Prop :=
 Qu kn sS kW i1 i2 i3 w
def J6 (kn : K5) (sS kW i1 i2 i3 : atP) (w : atO) : Prop :=
 J2 (fun sS kW i1 i2 i3 w => B1 kn sS kW i1 i2 i3 w) sS kW i1 i2 i3 w
theorem Tn (kn : K5) (hn : N5 Q kn 10 11 51 52 53) (h : J2 kn (g 10) (g 11) (g 51) (g 52) (g 53) w) : jK pg kO (gS 1 (fV 2 (bI (bI (fV 1 (gS 1 (fV 4 (fV 1 (fV 3 kC))))))))) Q g w :=
 GV 3 (oB 3 (TQ _ g w (B4 kn) (fun g w h => iB (Tk _ g w kn hn h)) h))
def J8 (kn : K5) (k2 : K1) (sS kW i1 i2 i3 : atP) (w : atO) : Prop :=
 gE pg (gW .lss 3 iK iK i3 i2) w fun i4 w =>
 mX i4
  (kn sS kW i1 i2 i3 w)
  (k2 kW w)
theorem TO (kn : K5) (k2 : K1) (hn : N5 Q kn 10 11 51 52 53) (h2 : E1 Q k2 2 11) (h : J8 kn k2 (g 10) (g 11) (g 51) (g 52) (g 53) w) : jK pg kO (gS 2 (bI (bI (fV 1 (gS 1 (fV 4 (fV 1 (fV 3 kC)))))))) Q g w :=
 lM (kr := no) (l := [(2, fun g w => k2 (g 11) w)]) h hn mH ⟨h2, trivial⟩
def FT (kn : K5) (k2 : K1) (sS kW i1 i2 i3 : atP) (w : atO) : Prop :=
 J8 (fun sS kW i1 i2 i3 w => J6 kn sS kW i1 i2 i3 w) k2 sS kW i1 i2 i3 w
def Iz (k2 : K1) (sS kW i1 i2 i3 : atP) (w : atO) : Prop :=
 kE (fun (X : (atP × atP) -> K0) (t : atP × atP) (w : atO) => FT (fun _ kW _ _ i3 w => X (kW, i3) w) k2 sS t.1 i1 i2 t.2 w) (kW, i3) w
theorem Tf (kn : K5) (k2 : K1) (hn : N5 Q kn 10 11 51 52 53) (h2 : E1 Q k2 2 11) (h : FT kn k2 (g 10) (g 11) (g 51) (g 52) (g 53) w) : jK pg kO (bI (bI (fV 1 (gS 1 (fV 4 (fV 1 (fV 3 kC))))))) Q g w :=
 oB 2 (TO _ g w (J6 kn) k2 (fun g w h => iB (oB 1 (Tn _ g w (B1 kn) (fun g w h => iB (TV _ g w kn hn h)) h))) h2 h)
theorem SF (k2 : K1) (h2 : E1 Q k2 2 11) (h : Iz k2 (g 10) (g 11) (g 51) (g 52) (g 53) w) : jK pg kO (bI (fV 1 (gS 1 (fV 4 (fV 1 (fV 3 kC)))))) Q g w := by
 refine MG (fun g : Env => (g 11, g 53)) (fun X t w => FT (fun _ kW _ _ i3 w => X (kW, i3) w) k2 (g 10) t.1 (g 51) (g 52) t.2 w) h (fun X g1 w1 ha hL => ?_)
 rw [<- qO 10 ha, <- qO 51 ha, <- qO 52 ha] at hL
 exact (Tf _ g1 w1 (fun _ kW _ _ i3 w => X (kW, i3) w) k2 (fun _ _ h => h) h2 hL)
def Hp (kn : K1) (sS kW i1 i2 i3 : atP) (w : atO) : Prop :=
 Iz kn sS kW i1 i2 i3 w
def Ig (kn : K5) (l_9 sS kW : atP) (w : atO) : Prop :=
 gE pg (oD .len #[117] 3 [l_9]) w fun i2 w =>
 kn sS kW l_9 i2 (atQ 0) w
theorem R8 (kn : K5) (hn : N5 Q kn 10 11 51 52 53) (h : Ig kn (g 9) (g 10) (g 11) w) : jK pg kO (gS 1 (gS 1 (fV 4 (fV 1 (fV 3 kC))))) Q g w :=
 lM (kr := no) (l := []) h hn mH trivial
def Ix (kn : K1) (l_9 sS kW : atP) (w : atO) : Prop :=
 Ig (fun sS kW i1 i2 i3 w => Hp kn sS kW i1 i2 i3 w) l_9 sS kW w
def Iu (R : K1) (l_9 sS kW : atP) (w : atO) : Prop :=
 Ix (fun kW w => FW R kW w) l_9 sS kW w
theorem Sf (kn : K1) (hn : N1 Q kn 11) (h : Ix kn (g 9) (g 10) (g 11) w) : jK pg kO (gS 1 (fV 4 (fV 1 (fV 3 kC)))) Q g w :=
 oB 1 (R8 _ g w (Hp kn) (fun g w h => iB (GV 2 (SF _ g w kn hn h))) h)
def H3 (kn : K3) (R : K1) (gP kK b5 mV : atP) (w : atO) : Prop :=
 gE pg (oD .len #[128] 3 [gP]) w fun e3 w =>
 gE pg (gW .gtr 3 iK iK e3 (atQ 256)) w fun e4 w =>
 Gd (kP e4 false) (fun K => K b5 w) w fun e6 w =>
 Gd (kP e4 false) (fun K => gE pg (gW .lss 3 iK iK e6 (atQ 2)) w K) w fun e7 w =>
 gE pg (mJ e4 (.bool true) e7) w fun e8 w =>
 Gd (kP e8 false) (fun K => K kK w) w fun f0 w =>
 Gd (kP e8 false) (fun K => gE pg (gW .gtr 32 iK iK f0 (.int .u64 2147483647)) w K) w fun f1 w =>
 gE pg (mJ e8 (.bool true) f1) w fun f2 w =>
 mX f2
  (R (.tuple #[(.slice none 0 0), (atQ 1)]) w)
  (gE pg (gW .add 3 iK iK mV (atQ 1)) w fun f5 w =>
  gE pg (lR 128 gP none (some f5) none) w fun f6 w =>
  jD pg zH #[f6, kK] w fun f8 w =>
  jD pg zT #[f8] w fun i0 w =>
  kn f8 i0 (.slice none 0 0) w)
theorem Sc (kn : K3) (R : K1) (hn : N3 Q kn 9 10 11) (hr : HR F2 R Q) (h : H3 kn R (g 0) (g 4) (g 5) (g 6) w) : jK pg kO (gS 4 (fV 1 (fV 3 kC))) Q g w :=
 lM (l := []) h hn hr trivial
def Dm (R : K1) (gP kK b5 mV : atP) (w : atO) : Prop :=
 H3 (fun l_9 sS kW w => Iu R l_9 sS kW w) R gP kK b5 mV w
def An (kn : K7) (gP kK b5 mV c5 c6 c7 : atP) (w : atO) : Prop :=
 gE pg (gW .add 3 iK iK c7 (atQ 1)) w fun e1 w =>
 kn gP kK b5 mV c5 c6 e1 w
theorem R4 (kn : K7) (hn : N7 Q kn 0 4 5 6 15 16 17) (h : An kn (g 0) (g 4) (g 5) (g 6) (g 15) (g 16) (g 17) w) : jK pg kO (fV 3 (bI (bI (fV 1 (gS 1 (fV 3 kC)))))) Q g w :=
 lM (kr := no) (l := []) h hn mH trivial
def Hu (kn : K7) (k0 : K4) (gP kK b5 mV c5 c6 c7 : atP) (w : atO) : Prop :=
 gE pg (gW .lss 3 iK iK c7 c6) w fun c8 w =>
 mX c8
  (gE pg (jO 128 c5 c7) w fun d0 w =>
  gE pg (jF 38 d0) w fun d1 w =>
  gE pg (nS 38 32 d1) w fun d4 w =>
  gE pg (gW .add 32 iK iK kK d4) w fun d5 w =>
  gE pg (gW .gtr 38 iK iK d1 (.int .u32 0)) w fun d7 w =>
  mX d7
   (gE pg (gW .add 3 iK iK b5 (atQ 1)) w fun d9 w =>
   kn gP d5 d9 c7 c5 c6 c7 w)
   (kn gP d5 b5 mV c5 c6 c7 w))
  (k0 gP kK b5 mV w)
theorem RO (kn : K7) (k0 : K4) (hn : N7 Q kn 0 4 5 6 15 16 17) (h0 : E4 Q k0 0 0 4 5 6) (h : Hu kn k0 (g 0) (g 4) (g 5) (g 6) (g 15) (g 16) (g 17) w) : jK pg kO (gS 3 (bI (bI (fV 1 (gS 1 (fV 3 kC)))))) Q g w :=
 lM (kr := no) (l := [(0, fun g w => k0 (g 0) (g 4) (g 5) (g 6) w)]) h hn mH ⟨h0, trivial⟩
def D7 (kn : K7) (k0 : K4) (gP kK b5 mV c5 c6 c7 : atP) (w : atO) : Prop :=
 Hu (fun gP kK b5 mV c5 c6 c7 w => An kn gP kK b5 mV c5 c6 c7 w) k0 gP kK b5 mV c5 c6 c7 w
def Hw (k0 : K4) (gP kK b5 mV c5 c6 c7 : atP) (w : atO) : Prop :=
 kE (fun (X : (atP × atP × atP × atP) -> K0) (t : atP × atP × atP × atP) (w : atO) => D7 (fun _ kK b5 mV _ _ c7 w => X (kK, b5, mV, c7) w) k0 gP t.1 t.2.1 t.2.2.1 c5 c6 t.2.2.2 w) (kK, b5, mV, c7) w
theorem RZ (kn : K7) (k0 : K4) (hn : N7 Q kn 0 4 5 6 15 16 17) (h0 : E4 Q k0 0 0 4 5 6) (h : D7 kn k0 (g 0) (g 4) (g 5) (g 6) (g 15) (g 16) (g 17) w) : jK pg kO (bI (bI (fV 1 (gS 1 (fV 3 kC))))) Q g w :=
 oB 3 (RO _ g w (An kn) k0 (fun g w h => iB (R4 _ g w kn hn h)) h0 h)
theorem R2 (k0 : K4) (h0 : E4 Q k0 0 0 4 5 6) (h : Hw k0 (g 0) (g 4) (g 5) (g 6) (g 15) (g 16) (g 17) w) : jK pg kO (bI (fV 1 (gS 1 (fV 3 kC)))) Q g w := by
 refine MG (fun g : Env => (g 4, g 5, g 6, g 17)) (fun X t w => D7 (fun _ kK b5 mV _ _ c7 w => X (kK, b5, mV, c7) w) k0 (g 0) t.1 t.2.1 t.2.2.1 (g 15) (g 16) t.2.2.2 w) h (fun X g1 w1 ha hL => ?_)
 rw [<- qO 0 ha, <- qO 15 ha, <- qO 16 ha] at hL
 exact (RZ _ g1 w1 (fun _ kK b5 mV _ _ c7 w => X (kK, b5, mV, c7) w) k0 (fun _ _ h => h) h0 hL)
def Ho (kn : K4) (gP kK b5 mV c5 c6 c7 : atP) (w : atO) : Prop :=
 Hw kn gP kK b5 mV c5 c6 c7 w
def HD (kn : K7) (gP kK b5 mV : atP) (w : atO) : Prop :=
 gE pg (oD .len #[128] 3 [gP]) w fun c6 w =>
 kn gP kK b5 mV gP c6 (atQ 0) w
theorem SU (kn : K7) (hn : N7 Q kn 0 4 5 6 15 16 17) (h : HD kn (g 0) (g 4) (g 5) (g 6) w) : jK pg kO (gS 1 (gS 1 (fV 3 kC))) Q g w :=
 lM (kr := no) (l := []) h hn mH trivial
def Hk (kn : K4) (gP kK b5 mV : atP) (w : atO) : Prop :=
 HD (fun gP kK b5 mV c5 c6 c7 w => Ho kn gP kK b5 mV c5 c6 c7 w) gP kK b5 mV w
def Dv (R : K1) (gP kK b5 mV : atP) (w : atO) : Prop :=
 Hk (fun gP kK b5 mV w => Dm R gP kK b5 mV w) gP kK b5 mV w
theorem SD (kn : K4) (hn : N4 Q kn 0 4 5 6) (h : Hk kn (g 0) (g 4) (g 5) (g 6) w) : jK pg kO (gS 1 (fV 3 kC)) Q g w :=
 oB 1 (SU _ g w (Ho kn) (fun g w h => iB (GV 0 (R2 _ g w kn hn h))) h)
def Hd (kn : K4) (gP : atP) (w : atO) : Prop :=
 kn gP (.int .u64 0) (atQ 0) (atQ 0) w
theorem SI (kn : K4) (hn : N4 Q kn 0 4 5 6) (h : Hd kn (g 0) w) : jK pg kO (gS 3 kC) Q g w :=
 lM (kr := no) (l := []) h hn mH trivial
def Il (R : K1) (gP : atP) (w : atO) : Prop :=
 Hd (fun gP kK b5 mV w => Dv R gP kK b5 mV w) gP w
theorem SX (R : K1) (hr : HR F2 R Q) (h : Il R (g 0) w) : jK pg kO kC Q g w :=
 oB 3 (SI _ g w (Dv R) (fun g w h => iB (oB 1 (SD _ g w (Dm R) (fun g w h => iB (oB 4 (Sc _ g w (Iu R) R (fun g w h => iB (oB 1 (Sf _ g w (FW R) (fun g w h => iB (TA _ g w R hr h)) h))) hr h))) h))) h)
def VA (a0 : atP) (w : atO) (R : K1) : Prop :=
 Il R a0 w
theorem UO {a0 : atP} {w : atO} {R : K1} (h : VA a0 w R) : jD pg GY #[a0] w R := by
 refine Bp (ann := kO) Tryz.f67 kC [a0] F2 70 TryzM.mixed Tryz.func67 ?_
 exact (SX _ _ _ R (fun _ _ h => h) h)
def rV : FA := ⟨zS, fun i => .leaf ([], []) []⟩
def sU : List ResultVar := [.tmp 6, .tmp 7]
noncomputable def rG : Code := kB Tryz.f68
def qQ (R : K1) (mF Bi ZQ Ry Sv R5 : atP) (w : atO) : Prop :=
 jD pg nR #[] w fun l5 w =>
 gE pg (gW .shl 3 iK iK Ry (.int .u64 2)) w fun l9 w =>
 gE pg (gW .or 3 iK iK Bi l9) w fun m0 w =>
 gE pg (oD .len #[22] 3 [mF]) w fun m2 w =>
 gE pg (gW .shl 3 iK iK m2 (.int .u64 4)) w fun m3 w =>
 gE pg (gW .or 3 iK iK m0 m3) w fun m4 w =>
 gE pg (nS 3 32 m4) w fun m5 w =>
 gE pg (oD .len #[22] 3 [ZQ]) w fun m7 w =>
 gE pg (nS 3 32 m7) w fun m8 w =>
 gE pg (gW .add 3 iK iK (atQ 4) Sv) w fun n0 w =>
 gE pg (gW .shl 32 iK iK m8 n0) w fun n1 w =>
 gE pg (gW .or 32 iK iK m5 n1) w fun n2 w =>
 jD pg jL #[l5, n2, R5] w fun n4 w =>
 jD pg nZ #[l5, ZQ] w fun n7 w =>
 jD pg nE #[l5] w fun n9 w =>
 R (.tuple #[n9, (atQ 0)]) w
theorem Nj (R : K1) (hr : HR sU R Q) (h : qQ R (g 0) (g 8) (g 9) (g 14) (g 15) (g 16) w) : jK pg rV (fV 6 (fV 5 rG)) Q g w :=
 lM (kn := no) (l := []) h mH hr trivial
def CR (kn : K6) (R : K1) (mF Tm Bi ZQ : atP) (w : atO) : Prop :=
 jD pg vC #[Tm, mF] w fun f0 w =>
 gE pg (jU f0 0) w fun f1 w =>
 gE pg (jU f0 1) w fun f2 w =>
 gE pg (gW .neq 24 (.tmp 43) (.const (atQ 0)) f2 (atQ 0)) w fun f4 w =>
 mX f4
  (R (.tuple #[(.slice none 0 0), f2]) w)
  (gE pg (oD .append #[22, 22] 22 [ZQ, f1]) w fun f8 w =>
  gE pg (oD .len #[22] 3 [f8]) w fun i0 w =>
  gE pg (gW .geq 3 iK iK i0 (atQ 262144)) w fun i1 w =>
  mX i1
   (R (.tuple #[(.slice none 0 0), (atQ 1)]) w)
   (gE pg (oD .len #[22] 3 [mF]) w fun i3 w =>
   gE pg (oD .len #[22] 3 [f8]) w fun i5 w =>
   gE pg (oD .max #[3, 3] 3 [i3, i5]) w fun i6 w =>
   gE pg (oD .len #[22] 3 [mF]) w fun i9 w =>
   gE pg (gW .lss 3 iK iK i9 (atQ 256)) w fun j0 w =>
   Gd (kP j0 true) (fun K => K i6 w) w fun j2 w =>
   Gd (kP j0 true) (fun K => gE pg (gW .lss 3 iK iK j2 (atQ 1024)) w K) w fun j3 w =>
   gE pg (mJ j0 j3 (.bool false)) w fun j4 w =>
   mX j4
    (kn mF Bi f8 (atQ 0) (atQ 10) (atQ 3) w)
    (gE pg (oD .len #[22] 3 [mF]) w fun j7 w =>
    gE pg (gW .lss 3 iK iK j7 (atQ 256)) w fun j8 w =>
    mX j8
     (R (.tuple #[(.slice none 0 0), (atQ 1)]) w)
     (gE pg (gW .lss 3 iK iK i6 (atQ 1024)) w fun l1 w =>
     mX l1
      (kn mF Bi f8 (atQ 1) (atQ 10) (atQ 3) w)
      (gE pg (gW .lss 3 iK iK i6 (atQ 16384)) w fun l4 w =>
      mX l4
       (kn mF Bi f8 (atQ 2) (atQ 14) (atQ 4) w)
       (kn mF Bi f8 (atQ 3) (atQ 18) (atQ 5) w))))))
theorem NC (kn : K6) (R : K1) (hn : N6 Q kn 0 8 9 14 15 16) (hr : HR sU R Q) (h : CR kn R (g 0) (g 1) (g 8) (g 9) w) : jK pg rV (gS 6 (fV 5 rG)) Q g w :=
 lM (l := []) h hn hr trivial
def xM (R : K1) (mF Tm Bi ZQ : atP) (w : atO) : Prop :=
 CR (fun mF Bi ZQ Ry Sv R5 w => qQ R mF Bi ZQ Ry Sv R5 w) R mF Tm Bi ZQ w
def CZ (kn : K4) (R : K1) (mF Tm Xo : atP) (w : atO) : Prop :=
 gE pg (oD .len #[22] 3 [mF]) w fun d0 w =>
 gE pg (gW .eql 3 (.tmp 20) (.const (atQ 0)) d0 (atQ 0)) w fun d1 w =>
 Gd (kP d1 false) (fun K => K mF w) w fun d3 w =>
 Gd (kP d1 false) (fun K => gE pg (oD .len #[22] 3 [d3]) w K) w fun d4 w =>
 Gd (kP d1 false) (fun K => gE pg (gW .gtr 3 iK iK d4 (atQ 131072)) w K) w fun d5 w =>
 gE pg (mJ d1 (.bool true) d5) w fun d6 w =>
 mX d6
  (R (.tuple #[(.slice none 0 0), (atQ 1)]) w)
  (mX Xo
   (jD pg yK #[Tm] w fun e0 w =>
   gE pg (jU e0 0) w fun e1 w =>
   gE pg (jU e0 1) w fun e2 w =>
   gE pg (gW .neq 24 (.tmp 33) (.const (atQ 0)) e2 (atQ 0)) w fun e4 w =>
   mX e4
    (R (.tuple #[(.slice none 0 0), e2]) w)
    (kn mF Tm (atQ 2) e1 w))
   (kn mF Tm (atQ 3) (.slice none 0 0) w))
theorem M0 (kn : K4) (R : K1) (hn : N4 Q kn 0 1 8 9) (hr : HR sU R Q) (h : CZ kn R (g 0) (g 1) (g 2) w) : jK pg rV (gS 5 rG) Q g w :=
 lM (l := []) h hn hr trivial
def Cy (R : K1) (mF Tm Xo : atP) (w : atO) : Prop :=
 CZ (fun mF Tm Bi ZQ w => xM R mF Tm Bi ZQ w) R mF Tm Xo w
theorem M4 (R : K1) (hr : HR sU R Q) (h : Cy R (g 0) (g 1) (g 2) w) : jK pg rV rG Q g w :=
 oB 5 (M0 _ g w (xM R) R (fun g w h => iB (oB 6 (NC _ g w (qQ R) R (fun g w h => iB (Nj _ g w R hr h)) hr h))) hr h)
def Ms (a0 a1 a2 : atP) (w : atO) (R : K1) : Prop :=
 Cy R a0 a1 a2 w
theorem NS {a0 a1 a2 : atP} {w : atO} {R : K1} (h : Ms a0 a1 a2 w R) : jD pg zS #[a0, a1, a2] w R := by
 refine Bp (ann := rV) Tryz.f68 rG [a0, a1, a2] sU 100 TryzM.mixed Tryz.func68 ?_
 exact (M4 _ _ _ R (fun _ _ h => h) h)
end Go.Proofs.YtoecppploooloaaGreatDoor

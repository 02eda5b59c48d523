/- Parts of the proof of ChunkWhole: merged and given short names by a program of ours. -/
import Derived.Orders
import Derived.Below
import Derived.KernelRfl
import Derived.Eval
import Derived.RangeFuncRecord
import Derived.Laws.Sem
import Derived.Scope
import Derived.Test.YtoecppploooloaaGreatDoorRows
set_option linter.unusedVariables false
set_option linter.unusedSimpArgs false
open Array renaming getD_eq_getD_getElem? → anZ, getElem?_eq_getElem → aoH, getElem?_setIfInBounds_self_of_lt → aoS, getElem?_setIfInBounds_ne → apA, getElem?_eq_none → apU, all_eq_true' → apW, length_toList → aqU, getElem?_toList → arN, mem_of_getElem? → asP
open Bool renaming false_eq_true → anO, not_true → anU, and_eq_true → aoB, or_eq_true → aqB, not_eq_true' → aqH, or_eq_false_iff → arU
open List renaming getElem?_cons_succ → anN, getElem?_eq_getElem → anX, getD_eq_getElem?_getD → anY, mem_cons_of_mem → aoC, getElem?_eq_none → aoD, length_cons → aoG, map_cons → aoT, mem_cons_self → aoV, all_eq_true → aoY, length_eq_zero_iff → apE, mem_range → apF, mem_cons → apK, mem_map → apM, getElem_of_mem → apQ, mem_append → apV, map_congr_left → apZ, drop_eq_getElem_cons → aqA, mem_of_getElem? → aqF, mem_append_left → aqS, mem_append_right → arM, mem_filter → asT, map_nil → asV
open Nat renaming zero_add → anS, le_refl → aoA, lt_or_ge → aoE, eq_of_beq_eq_true → aoR, le_trans → apN, le_of_ble_eq_true → aqN, lt_of_lt_of_le → aqW, add_assoc → aqY, blt_eq → arG, lt_trichotomy → asL, le_total → asS, mod_lt → asU
open Option renaming map_some → aoW, getD_some → aqV
open Option.some renaming inj → aoZ
namespace Go.En
open Go
abbrev asY := World
abbrev asZ := Value
abbrev Env := Nat -> asZ
def put (g : Env) (d : Option Tmp) (v : asZ) : Env :=
 match d with
 | some d => fun i => match Nat.beq i d with | true => v | false => g i
 | none => g
def ev (g : Env) : Operand -> asZ
 | .tmp t => g t
 | .const v => v
 | .global b => .pointer (some ⟨b, 0, none⟩)
 | .func f => .func (.func f) #[] #[]
def Ret (P : Program) (f : FuncId) (args : Array asZ) (w : asY) (v : asZ) (w' : asY) : Prop :=
 Calls P f args w fun e w'' => e = .returned v /\ w'' = w'
def jD (P : Program) (f : FuncId) (args : Array asZ) (w : asY) (R : asZ -> asY -> Prop) : Prop :=
 ∃ v w', Ret P f args w v w' /\ R v w'
theorem jD.mono {P : Program} {f : FuncId} {args : Array asZ} {w : asY} {R R' : asZ -> asY -> Prop} (h : jD P f args w R)
 (hr : ∀ v w', R v w' -> R' v w') : jD P f args w R' :=
 let ⟨v, w', a, b⟩ := h; ⟨v, w', a, hr _ _ b⟩
def alC (P : Program) (l : Nat) (f : FuncId) (tmps : Array asZ) (anL bd : Code) (w : asY) (v : asZ) (w' : asY) : Prop :=
 RoundIn Fence.wide 0 P l f tmps anL bd w fun e w'' => e = .returned v /\ w'' = w'
def Wv (P : Program) (l : Nat) (f : FuncId) (tmps : Array asZ) (anL bd : Code) (w : asY) (R : asZ -> asY -> Prop) : Prop :=
 ∃ v w', alC P l f tmps anL bd w v w' /\ R v w'
def Ym (P : Program) (r : Result Next) (K : asZ -> asY -> Prop) : Prop :=
 match r with
 | .ok (.value v) w => K v w
 | .ok .skip w => K undef w
 | .ok (.enter f args) w => jD P f args w K
 | .ok (.round l f tmps anL bd) w => Wv P l f tmps anL bd w K
 | _ => False
theorem cJ (P : Program) (v : asZ) (w : asY) (K : asZ -> asY -> Prop) : Ym P (.ok (.value v) w) K = K v w := Eq.trans rfl rfl
theorem stepR_skip (P : Program) (w : asY) (K : asZ -> asY -> Prop) : Ym P (.ok .skip w) K = K undef w := Eq.trans rfl rfl
theorem Gf (P : Program) (f : FuncId) (args : Array asZ) (w : asY) (K : asZ -> asY -> Prop) : Ym P (.ok (.enter f args) w) K = jD P f args w K := Eq.trans rfl rfl
theorem Xh (P : Program) (l : Nat) (f : FuncId) (tmps : Array asZ) (anL bd : Code) (w : asY) (K : asZ -> asY -> Prop) :
 Ym P (.ok (.round l f tmps anL bd) w) K = Wv P l f tmps anL bd w K := Eq.trans rfl rfl
def gD (P : Program) (s : Sem Next) (w : asY) (K : asZ -> asY -> Prop) : Prop := Ym P (s.run P w) K
def jF (P : Program) (s : Sem Next) (v : asZ) (w : asY) : Prop := s.run P w = .ok (.value v) w
def Gd (b : Bool) (s : (asZ -> asY -> Prop) -> Prop) (w : asY) (K : asZ -> asY -> Prop) : Prop :=
 match b with
 | true => s K
 | false => K undef w
def asB (v : asZ) : Option Bool := match v with | .bool b => some b | _ => none
def kK (v : asZ) (want : Bool) : Bool := asB v == some want
def nG (v : asZ) (A B : Prop) : Prop :=
 match v with
 | .bool b => (match b with | true => A | false => B)
 | _ => False
def FN (ops : Array Oper) (j : Nat) : Option Tmp := (ops[j]?).bind (·.dst)
def Cf (g : Env) (t : Option Tmp) (want : Bool) : Bool := match t with | some t => kK (g t) want | none => false
def V (s : Sem asZ) : Sem Next := do pure (.value (<- s))
def U (s : Sem Unit) : Sem Next := do s; pure .skip
def IH (op : BinOp) : Bool := match op with | .eql | .neq => true | _ => false
def gV (op : BinOp) (t : TypeId) (ox oy : Operand) (x y : asZ) : Sem Next :=
 match IH op with
 | true => V (do eqGuard op t ox oy x y; binOp op t x y)
 | false => V (binOp op t x y)
def oF (b : Builtin) (ats : Array TypeId) (ty : TypeId) (args : List asZ) : Sem Next := builtin b ats ty #[] args.toArray
def CZ (f : asZ) (args : List asZ) : Sem Next := do let d <- Deferred.ofValue f args.toArray; invoke d.target d.args
def VD (fn : Fn) (first captured : List asZ) : Sem Next := V (Instr.makeFunc fn first.toArray captured.toArray)
def mK (t : TypeId) (ps : List (Nat × asZ)) : Sem Next := V (Instr.build t ps.toArray)
def lI (t : TypeId) (n : Nat) (ps : List (Nat × asZ)) : Sem Next := V (Instr.buildSlice t n ps.toArray)
def KU (g : Env) (o : Oper) : Sem Next :=
 match o.op with
 | .binOp op t x y _ => gV op t x y (ev g x) (ev g y)
 | .makeFunc fn first captured => VD fn (first.toList.map (ev g)) (captured.toList.map (ev g))
 | .build t ps => mK t (ps.toList.map fun p => (p.1, ev g p.2))
 | .buildSlice t n ps => lI t n (ps.toList.map fun p => (p.1, ev g p.2))
 | .call c => (match c.callee with
   | .builtin b => oF b c.argTypes o.type (c.args.toList.map (ev g))
   | .value f => CZ (ev g f) (c.args.toList.map (ev g))
   | _ => execOp (ev g) o)
 | _ => execOp (ev g) o
def I2 (P : Program) (g : Env) (o : Oper) (w : asY) (K : asZ -> asY -> Prop) : Prop :=
 match o.op with
 | .move x => K (ev g x) w
 | .assign x => K (ev g x) w
 | .call c => (match c.callee with
   | .value (.func f) => jD P f (c.args.toList.map (ev g)).toArray w K
   | _ => gD P (KU g o) w K)
 | _ => gD P (KU g o) w K
def Ix (P : Program) (ops : Array Oper) (g : Env) (o : Oper) (w : asY) (K : asZ -> asY -> Prop) : Prop :=
 match o.guard with
 | none => I2 P g o w K
 | some (j, want) => Gd (Cf g (FN ops j) want) (I2 P g o w) w K
def Vz (P : Program) (ops : Array Oper) : List Oper -> Env -> asY -> (Env -> asY -> Prop) -> Prop
 | [], g, w, K => K g w
 | o :: rest, g, w, K => Ix P ops g o w fun v w' => Vz P ops rest (put g o.dst v) w' K
structure Rec where
 heavy : Bool
 o : Oper
 g : Env
 w : asY
 v : asZ
def gOf (ops : Array Oper) (o : Oper) (g : Env) : Bool := match o.guard with | none => true | some (j, want) => Cf g (FN ops j) want
def Gs (b : Bool) (p : Prop) : Prop := match b with | true => p | false => True
def QP (P : Program) (ops : Array Oper) (q : Rec) (o : Oper) (g : Env) (w' : asY) (v : asZ) : Prop :=
 match q.heavy with
 | true => Gs (gOf ops o g) (jF P (KU g o) v q.w)
 | false => Gs (gOf ops q.o q.g) (jF P (KU q.g q.o) q.v w')
def UY (i j : Nat) : List (Nat × Nat) -> Bool
 | [] => false
 | (a, b) :: r => match Nat.beq a i with
   | true => (match Nat.beq b j with | true => true | false => UY i j r)
   | false => UY i j r
def tJ (i : Nat) : List Nat -> Bool
 | [] => false
 | a :: r => match Nat.beq a i with | true => true | false => tJ i r
def XZ : List Rec -> Nat -> Option Rec
 | [], _ => none
 | q :: _, 0 => some q
 | _ :: r, n + 1 => XZ r n
def ahN (P : Program) (ops : Array Oper) (o : Oper) (g : Env) (w' : asY) (v : asZ) (hist : List Rec) : List Nat -> Prop
 | [] => True
 | k :: ks => (match XZ hist k with
   | some q => QP P ops q o g w' v
   | none => False) /\ ahN P ops o g w' v hist ks
abbrev ZU := List Nat × List (Nat × Nat)
abbrev XW := List (Bool × List Nat)
def vC (P : Program) (ops : Array Oper) : List Oper -> XW -> List Rec -> Env -> asY -> (Env -> asY -> Prop) -> Prop
 | [], _, _, g, w, K => K g w
 | _ :: _, [], _, _, _, _ => False
 | o :: rest, (hv, ks) :: pl, hist, g, w, K =>
   Ix P ops g o w fun v w' =>
    match hv, ks with
    | true, [] => vC P ops rest pl (⟨true, o, g, w, v⟩ :: hist) (put g o.dst v) w' K
    | true, k :: ks => ahN P ops o g w' v hist (k :: ks) /\ vC P ops rest pl (⟨true, o, g, w, v⟩ :: hist) (put g o.dst v) w' K
    | false, [] => w' = w /\ vC P ops rest pl (⟨false, o, g, w, v⟩ :: hist) (put g o.dst v) w K
    | false, k :: ks => w' = w /\ ahN P ops o g w v hist (k :: ks) /\ vC P ops rest pl (⟨false, o, g, w, v⟩ :: hist) (put g o.dst v) w K
def kE {α : Type} (F : (α -> asY -> Prop) -> α -> asY -> Prop) (g : α) (w : asY) : Prop :=
 ∃ I : Nat -> α -> asY -> Prop, (∃ n, I n g w) /\ ∀ n g w, I n g w -> F (fun g' w' => ∃ m, m < n /\ I m g' w') g w
def Dd (K : Env -> asY -> Prop) (Q : Exit -> Env -> asY -> Prop) : Exit -> Env -> asY -> Prop :=
 fun e g w => (fun (_ : Program -> Sem Next -> asY -> (asZ -> asY -> Prop) -> Prop) => match e with | .normal => K g w | e => Q e g w) gD
def blk (id : Nat) (Q : Exit -> Env -> asY -> Prop) : Exit -> Env -> asY -> Prop :=
 fun e g w => (fun (_ : Program -> Sem Next -> asY -> (asZ -> asY -> Prop) -> Prop) => match e with | .exit i => (match Nat.beq i id with | true => Q .normal g w | false => Q (.exit i) g w) | e => Q e g w) gD
inductive HT where
 | leaf (an : ZU) (pl : XW)
 | perm (π : List Nat) (es : List (Nat × Nat)) (an : ZU) (pl : XW)
 | split (a b : Nat) (x y : HT)
structure FA where
 f : FuncId
 t : Nat -> HT
def Ae : List Nat -> Nat -> Nat
 | [], _ => 0
 | a :: r, i => match Nat.beq a i with | true => 0 | false => Ae r i + 1
def G9 (π : List Nat) (i : Nat) : List (Nat × Nat) -> List Edge
 | [] => []
 | (a, b) :: r => match Nat.beq b i with | true => ⟨Ae π a, .data⟩ :: G9 π i r | false => G9 π i r
def JT (π : List Nat) (es : List (Nat × Nat)) (i : Nat) (o : Oper) : Oper :=
 { dst := o.dst, op := o.op, type := o.type, pos := o.pos, after := (o.after.toList.map (fun e => (⟨Ae π e.on, e.ground⟩ : Edge)) ++ G9 π i es).toArray,
   guard := match o.guard with | none => none | some (j, b) => some (Ae π j, b) }
def Sn (π : List Nat) (es : List (Nat × Nat)) (l : List Oper) : List Nat -> List Oper
 | [] => []
 | i :: r => match l[i]? with | some o => JT π es i o :: Sn π es l r | none => Sn π es l r
def tE (π : List Nat) (es : List (Nat × Nat)) (ops : Array Oper) : Array Oper := (Sn π es ops.toList π).toArray
def ahU (f : FuncId) (id : Nat) (ops : Array Oper) (a b : Nat) (w : asY) : Bool :=
 Nat.ble ((Region.schedule true ops (w.tape w.drawn (.order f id))).idxOf a) ((Region.schedule true ops (w.tape w.drawn (.order f id))).idxOf b)
def Ord (b : Bool) (A B : Prop) : Prop := match b with | true => A | false => B
def XT (P : Program) (f : FuncId) (id : Nat) (ops : Array Oper) : HT -> Env -> asY -> asY -> (Env -> asY -> Prop) -> Prop
 | .leaf _ pl, g, _, w, K => vC P ops ops.toList pl [] g w K
 | .perm π es _ pl, g, _, w, K => vC P (tE π es ops) (tE π es ops).toList pl [] g w K
 | .split a b x y, g, w0, w, K => Ord (ahU f id ops a b w0) (XT P f id ops x g w0 w K) (XT P f id ops y g w0 w K)
def DS : Nat := 1000003
def Yj : asZ -> List Deferred
 | .pointer (some a) => [{ target := .collected a.block, args := #[] }]
 | _ => []
def noMark : asZ -> Bool
 | .pointer _ => false
 | _ => true
def tmpsOf (N : Nat) (g : Env) : Array asZ := Array.ofFn (n := N) fun i => g i.val
def Tb (P : Program) (f : FuncId) : Nat := match P.funcs[f]? with | some fn => fn.ntmps | none => 0
def ajM (Q : Exit -> Env -> asY -> Prop) (g : Env) : Option Code -> asY -> Prop
 | none, w => Q .normal g w
 | some .ret, w => Q .ret g w
 | some (.exit i), w => Q (.exit i) g w
 | _, _ => False
def afV (l : Nat) (Q : Exit -> Env -> asY -> Prop) (g : Env) (w : asY) : Prop :=
 ∃ r : Loop, w.heap[l]? = some (.loop r) /\ r.state ≠ .busy /\ ajM Q g r.pending (w.putObj l (.loop { r with state := .exhausted }))
def rfW (f : FuncId) (N : Nat) (ps : Array Tmp) (anL bd : Code) (g : Env) (w : asY) : asY :=
 (w.alloc (.deferred (some []))).alloc (.loop { state := .ready, pending := none, fn := f, tmps := tmpsOf N g, params := ps, assign := anL, body := bd, defers := w.heap.size })
def alM (P : Program) (r : Result Next) (K : asZ -> asY -> Prop) : Prop :=
 match r with
 | .ok (.enter f args) w => jD P f args w K
 | _ => False
def Is (l : Nat) : asZ := .func (.yield l) #[] #[]
def RF (P : Program) (f : FuncId) (gf : Operand) (ps : Array Tmp) (anL bd : Code) (Q : Exit -> Env -> asY -> Prop) (g : Env) (w : asY) : Prop :=
 match noMark (g DS) with
 | true => alM P ((CZ (ev g gf) [Is (w.heap.size + 1)]).run P (rfW f (Tb P f) ps anL bd g w)) fun _ w3 =>
  afV (w.heap.size + 1) Q (put g (some DS) (.pointer (some ⟨w.heap.size, 0, none⟩))) w3
 | false => False
def jK (P : Program) (ann : FA) : Code -> (Exit -> Env -> asY -> Prop) -> Env -> asY -> Prop
 | .skip, Q, g, w => Q .normal g w
 | .region id ops draw, Q, g, w => match draw with
   | false => Vz P ops ops.toList g w (Q .normal)
   | true => XT P ann.f id ops (ann.t id) g w { w with drawn := w.drawn + 1 } (Q .normal)
 | .seq x y, Q, g, w => jK P ann x (Dd (fun g w => jK P ann y Q g w) Q) g w
 | .cond c x y, Q, g, w => nG (ev g c) (jK P ann x Q g w) (jK P ann y Q g w)
 | .block id c, Q, g, w => jK P ann c (blk id Q) g w
 | .loop c, Q, g, w => kE (fun X g w => jK P ann c (Dd X Q) g w) g w
 | .scope c, Q, g, w => jK P ann c Q g w
 | .label _, Q, g, w => Q .normal g w
 | .exit id, Q, g, w => Q (.exit id) g w
 | .ret, Q, g, w => Q .ret g w
 | .rangeFunc gf ps anL bd, Q, g, w => RF P ann.f gf ps anL bd Q g w
 | _, _, _, _ => False
def Z1 (N : Nat) (o : Oper) : Bool := match o.dst with | some d => Nat.blt d N | none => true
def bef (b : Array Nat) (i j : Nat) : Bool := (b.getD j 0).testBit i
def looks (ops : Array Oper) (o : Oper) : List Tmp :=
 (o.op.operands.toList.filterMap fun | .tmp t => some t | _ => none) ++ (match o.guard with | some (j, _) => (FN ops j).toList | none => [])
def acL (ops : Array Oper) (x y : Oper) : Bool :=
 (match x.dst with | some d => (looks ops y).contains d || y.dst == some d | none => false) ||
 (match y.dst with | some d => (looks ops x).contains d | none => false)
def TX (o : Oper) : Bool := match o.op with | .select .. => true | _ => false
def aeU (o : Oper) : Bool := match o.op with | .call { callee := .value (.func _), .. } => true | _ => false
def WA (o : Oper) : Bool := match o.op with | .defer .. => true | _ => false
def V3 : Operand -> Bool | .tmp t => Nat.blt t DS | _ => true
def UF (P : Program) (o : Oper) : Bool :=
 match o.op with
 | .call c => (match c.callee with
   | .value (.func f) => (match P.funcs[f]? with | some fn => fn.body.isSome && !(fn.name == "runtime.NumGoroutine") | none => false)
   | .builtin b => (match b with | .print | .println => false | _ => true)
   | _ => true)
 | _ => true
def DQ (P : Program) (o : Oper) : Bool := UF P o && (o.op.operands.toList.all V3 && (!TX o && !WA o))
def Lf (o : Oper) : Bool := match o.op with | .move _ | .assign _ => true | _ => false
def OY (ops : Array Oper) (b : Array Nat) (an : ZU) (i j : Nat) (x y : Oper) : Bool :=
 bef b i j ||
 (!acL ops x y &&
   match tJ i an.1, tJ j an.1 with
   | true, true => false
   | false, false => true
   | true, false => Lf y || UY i j an.2
   | false, true => Lf x || UY i j an.2)
def XI (ops : Array Oper) (b : Array Nat) (an : ZU) : Bool :=
 (List.range ops.size).all fun j => (List.range j).all fun i =>
  match ops[i]?, ops[j]? with
  | some x, some y => OY ops b an i j x y
  | _, _ => false
def Ww (ops : Array Oper) : Bool :=
 (List.range ops.size).all fun i => match ops[i]? with
  | some o => o.after.all fun e => !Region.binds .any e || Nat.blt e.on i
  | none => false
def Wt (ops : Array Oper) (b : Array Nat) : Bool :=
 (List.range ops.size).all fun j => (List.range ops.size).all fun i =>
  !bef b i j || (match ops[j]? with
   | some o => o.after.any fun e => Region.binds .any e && (Nat.beq e.on i || bef b i e.on)
   | none => false)
def Vx (ops : Array Oper) (an : ZU) : Bool :=
 Ww ops && Wt ops (Region.before ops) && XI ops (Region.before ops) an && (ops.all fun o => !TX o) &&
  (List.range ops.size).all fun i => match ops[i]? with | some o => !aeU o || tJ i an.1 | none => false
def Ve (n : Nat) (an : ZU) (pl : XW) : Bool :=
 (List.range n).all fun i => match pl[i]? with
  | some (h, ks) => h == tJ i an.1 && an.2.all fun p => !Nat.beq p.2 i || (Nat.blt p.1 i && ks.contains (i - 1 - p.1))
  | none => false
def Y8 (π : List Nat) (ops : Array Oper) : Bool :=
 Nat.beq π.length ops.size && ((List.range ops.size).all fun k => match π[k]? with | some i => Nat.beq (Ae π i) k && Nat.blt i ops.size | none => false) &&
  ((List.range ops.size).all fun i => match π[Ae π i]? with | some j => Nat.beq j i | none => false) &&
  ((List.range ops.size).all fun i => match ops[i]? with
    | some o => (o.after.all fun e => Nat.blt e.on ops.size) && (match o.guard with | some (j, _) => Nat.blt j ops.size | none => true)
    | none => false)
def QW (P : Program) (N : Nat) (ops : Array Oper) : List (Nat × Nat) -> HT -> Bool
 | _, .leaf an pl => Vx ops an && Ve ops.size an pl
 | path, .perm π es an pl => (es.all fun p => UY p.1 p.2 path && Nat.blt p.1 ops.size) && Y8 π ops && (tE π es ops).all (Z1 N) && (tE π es ops).all (DQ P) &&
  Vx (tE π es ops) an && Ve (tE π es ops).size an pl
 | path, .split a b x y => !Nat.beq a b && QW P N ops ((a, b) :: path) x && QW P N ops ((b, a) :: path) y
def codeOk (P : Program) (N : Nat) (ann : FA) : Code -> Bool
 | .skip | .exit _ | .ret | .label _ => true
 | .scope c => codeOk P N ann c
 | .region id ops draw => ops.all (Z1 N) && ops.all (DQ P) && (!draw || QW P N ops [] (ann.t id))
 | .seq x y => codeOk P N ann x && codeOk P N ann y
 | .cond c x y => V3 c && (codeOk P N ann x && codeOk P N ann y)
 | .block _ c => codeOk P N ann c
 | .loop c => codeOk P N ann c
 | .rangeFunc gf _ _ _ => V3 gf
 | _ => false
def vT : Code -> Bool
 | .seq x y => vT x && vT y
 | .cond _ x y => vT x && vT y
 | .block _ c => vT c
 | .loop c => vT c
 | .scope c => vT c
 | .rangeFunc .. => false
 | _ => true
def Wu : ResultVar -> Bool
 | .tmp t => Nat.blt t DS
 | .cell a _ => Nat.blt a DS
theorem Kg (g : Env) (d i : Nat) (v : asZ) : put g (some d) v i = if i = d then v else g i := by
 unfold put
 by_cases h : i = d
 .subst h; simp
 .have : Nat.beq i d = false := by
   cases hb : Nat.beq i d
   .rfl
   .exact absurd (aoR hb) h
  simp [this, h]
theorem Yd {P : Program} {o : Oper} (h : DQ P o = true) : UF P o = true := by
 unfold DQ at h; simp only [aoB] at h; exact h.1
theorem Yt {P : Program} {o : Oper} (h : DQ P o = true) : ∀ x ∈ o.op.operands, V3 x = true := by
 unfold DQ at h; simp only [aoB] at h
 intro x hx
 exact aoY.1 h.2.1 x (by simpa using hx)
theorem Yr {P : Program} {o : Oper} (h : DQ P o = true) : TX o = false := by
 unfold DQ at h; simp only [aoB, aqH] at h; exact h.2.2.1
theorem YL {P : Program} {o : Oper} (h : DQ P o = true) : WA o = false := by
 unfold DQ at h; simp only [aoB, aqH] at h; exact h.2.2.2
def QF (N : Nat) (ops : Array Oper) : Prop := ∀ (i : Nat) (o : Oper), ops[i]? = some o -> ∀ t, o.dst = some t -> t < N
structure ON (N : Nat) (g : Env) (a : Act) : Prop where
 le : N <= DS
 defers : a.defers = Yj (g DS)
 size : a.tmps.size = N
 at_ : ∀ i, i ≠ DS -> a.tmps.getD i undef = g i
theorem ON.ev {N : Nat} {g : Env} {a : Act} (h : ON N g a) (x : Operand) (hx : V3 x = true) : a.eval x = ev g x := by
 cases x with
 | tmp t =>
   have : t < DS := (arG (x := t) (y := DS)) ▸ hx
   have e := h.at_ t (Nat.ne_of_lt this)
   simp [Act.eval, En.ev, <- e]
 | _ => simp [Act.eval, En.ev]
theorem ON.put {N : Nat} {g : Env} {a : Act} (h : ON N g a) (d : Option Tmp) (v : asZ) (hd : ∀ t, d = some t -> t < N) :
 ON N (put g d v) (a.put d v) := by
 cases d with
 | none => exact h
 | some t =>
   obtain ⟨h0, h1, h2, h3⟩ := h
   have ht := hd t rfl
   refine ⟨h0, ?_, by simp [Act.put, h2], fun i hne => ?_⟩
   .rw [Kg, if_neg (Nat.ne_of_gt (aqW ht h0))]; exact h1
   .rw [Kg, <- h3 i hne]
    by_cases hi : i = t
    .subst hi; simp [Act.put, h2, ht]
    .have hi' : t ≠ i := fun e => hi e.symm
     simp [Act.put, hi, apA hi']
theorem ON.wanted {N : Nat} {g : Env} {a : Act} (h : ON N g a) (ops : Array Oper) (hd : QF N ops) (o : Oper) :
 Region.wanted o (yielded ops a.tmps) = match o.guard with | none => true | some (j, want) => Cf g (FN ops j) want := by
 unfold Region.wanted
 cases o.guard with
 | none => rfl
 | some p =>
   obtain ⟨j, want⟩ := p
   simp only [yielded, Cf, FN]
   cases ho : ops[j]? with
   | none => simp
   | some o' =>
     cases hdd : o'.dst with
     | none => simp [hdd]
     | some t =>
       have hlt := hd j o' ho t hdd
       have hle := h.le
       have h3 := h.at_ t (Nat.ne_of_lt (aqW hlt hle))
       simp only [hdd, Option.bind_some, kK, asB, <- h3]
       simp only [anZ]
       cases ht : a.tmps[t]? with
       | none => simp [undef]
       | some v => cases v <;> simp
def upX (P : Program) (o : Oper) (a : Act) (next : Act -> asY -> Prop) : Result Next -> Prop
 | .ok (.value v) w' => next (a.put o.dst v) w'
 | .ok .skip w' => next (a.put o.dst undef) w'
 | .ok (.enter f args) w' => ∃ v w'', Ret P f args w' v w'' /\ next (a.put o.dst v) w''
 | .ok (.round l f tmps anL bd) w' => ∃ v w'', alC P l f tmps anL bd w' v w'' /\ next (a.put o.dst v) w''
 | _ => False
def YS (P : Program) (o : Oper) (a : Act) (w : asY) (next : Act -> asY -> Prop) : Prop := WA o = false /\ upX P o a next ((execOp a.eval o).run P w)
def OH (P : Program) (ops : Array Oper) (i : Nat) (K : Act -> asY -> Prop) (a : Act) (w : asY) : Prop :=
 match ops[i]? with
 | none => K a w
 | some o => if Region.wanted o (yielded ops a.tmps) then YS P o a w K else K (a.put o.dst undef) w
def FG (P : Program) (ops : Array Oper) (Q : Act -> asY -> Prop) : List Nat -> Act -> asY -> Prop
 | [], a, w => Q a w
 | i :: rest, a, w => OH P ops i (FG P ops Q rest) a w
def Vl (P : Program) (ops : Array Oper) (Q : Act -> asY -> Prop) : Nat -> Array Bool -> Act -> asY -> Prop
 | 0, listed, a, w => Region.ready .any ops listed = [] /\ Q a w
 | fuel + 1, listed, a, w =>
   (Region.ready .any ops listed = [] -> Q a w) /\ ∀ i ∈ Region.ready .any ops listed, OH P ops i (Vl P ops Q fuel (listed.setIfInBounds i true)) a w
theorem Wp {P : Program} {o : Oper} {a : Act} {w : asY} {K K' : Act -> asY -> Prop} (h : ∀ a w, K a w -> K' a w) (hh : YS P o a w K) : YS P o a w K' := by
 refine ⟨hh.1, ?_⟩
 have hh := hh.2
 generalize (execOp a.eval o).run P w = r at *
 cases r with
 | ok x w' =>
   cases x <;> simp only [upX] at hh ⊢ <;> first | exact h _ _ hh | (obtain ⟨v, w'', h1, h2⟩ := hh; exact ⟨v, w'', h1, h _ _ h2⟩) | exact hh
 | halt x w' => exact hh.elim
theorem Y1 {P : Program} {ops : Array Oper} {i : Nat} {a : Act} {w : asY} {K K' : Act -> asY -> Prop} (h : ∀ a w, K a w -> K' a w) (hh : OH P ops i K a w) : OH P ops i K' a w := by
 unfold OH at *
 split
 .exact h _ _ (by simpa [*] using hh)
 .rename_i o ho
  simp only [ho] at hh
  split
  .rename_i hw; simp only [hw, if_true] at hh; exact Wp h hh
  .rename_i hw; simp only [hw] at hh; exact h _ _ hh
def VA (ro : Option Nat) : Fence := { Fence.wide with round := ro }
theorem aaA {P : Program} {ops : Array Oper} {Q : Act -> asY -> Prop} (ro : Option Nat) : ∀ (L : List Nat) (a : Act) (w : asY), FG P ops Q L a w →
 wpOpsIn (VA ro) 0 P ops (fun e a w => e = .normal /\ Q a w) L a w := by
 intro L
 induction L with
 | nil => intro a w h; exact ⟨rfl, h⟩
 | cons i L ih =>
   intro a w h
   simp only [FG, OH] at h
   simp only [wpOpsIn]
   cases ho : ops[i]? with
   | none => rw [ho] at h; exact ih _ _ h
   | some o =>
     rw [ho] at h
     simp only at h ⊢
     by_cases hw : Region.wanted o (yielded ops a.tmps) = true
     .rw [if_pos hw] at h ⊢
      obtain ⟨hd, h⟩ := h
      refine ⟨fun _ _ => trivial, ?_⟩
      rw [Oper.semAt_eq _ _ _ (fun c hc => by simp [WA, hc] at hd)]
      generalize (execOp a.eval o).run P w = r at *
      cases r with
      | halt x w' => exact h.elim
      | ok x w' =>
        cases x <;> simp only [upX] at h <;> simp only [Oper.uponIn] <;> try (exact h.elim)
        .exact ih _ _ h
        .exact ih _ _ h
        .obtain ⟨v, w'', h1, h2⟩ := h
         refine ⟨fun hn => by simp [VA, Fence.wide] at hn, ?_⟩
         have := callsIn_wide (n := 0).2 h1
         refine CallsIn.mono (F := VA ro) (n := 0) this ?_
         rintro e w3 ⟨rfl, rfl⟩
         exact ih _ _ h2
        .obtain ⟨v, w'', h1, h2⟩ := h
         refine ⟨fun hn => by simp [VA, Fence.wide] at hn, ?_⟩
         refine RoundIn.mono (F := VA ro) (n := 0) h1 ?_
         rintro e w3 ⟨rfl, rfl⟩
         exact ih _ _ h2
     .rw [if_neg hw] at h ⊢
      exact ⟨fun _ _ => trivial, ih _ _ h⟩
section
variable {P : Program} {ops : Array Oper}
def Uc (P : Program) (ops : Array Oper) (g : Env) (o : Oper) (w : asY) (v : asZ) (w' : asY) : Prop :=
 ∀ K : asZ -> asY -> Prop, K v w' -> Ix P ops g o w K
theorem Zq {s : Sem Next} {w : asY} {K : asZ -> asY -> Prop} (h : gD P s w K) :
 ∃ v w', (∀ K' : asZ -> asY -> Prop, K' v w' -> gD P s w K') /\ K v w' := by
 unfold gD at *
 generalize s.run P w = r at *
 match r, h with
 | .ok (.value v) w1, h => exact ⟨v, w1, fun _ h' => h', h⟩
 | .ok .skip w1, h => exact ⟨undef, w1, fun _ h' => h', h⟩
 | .ok (.enter f args) w1, h =>
   obtain ⟨v, w', hr, hk⟩ := h
   exact ⟨v, w', fun _ h' => ⟨v, w', hr, h'⟩, hk⟩
 | .ok (.round l f tmps anL bd) w1, h =>
   obtain ⟨v, w', hr, hk⟩ := h
   exact ⟨v, w', fun _ h' => ⟨v, w', hr, h'⟩, hk⟩
theorem V5 {g : Env} {o : Oper} {w : asY} {K : asZ -> asY -> Prop} (h : I2 P g o w K) :
 ∃ v w', (∀ K' : asZ -> asY -> Prop, K' v w' -> I2 P g o w K') /\ K v w' := by
 unfold I2 at *
 split at h
 .exact ⟨_, _, fun _ h' => h', h⟩
 .exact ⟨_, _, fun _ h' => h', h⟩
 .split at h
  .obtain ⟨v, w', a, b⟩ := h
   exact ⟨v, w', fun _ h' => ⟨v, w', a, h'⟩, b⟩
  .exact Zq h
 .exact Zq h
theorem ahP (op : BinOp) (t : TypeId) (ox oy : Operand) (x y : asZ) : gV op t ox oy x y = V (do eqGuard op t ox oy x y; binOp op t x y) := by
 cases op <;> simp [gV, IH, eqGuard]
theorem aeV {g : Env} {o : Oper} (ho : DQ P o = true) : KU g o = execOp (ev g) o := by
 have ho := Yd ho
 unfold KU
 split
 .rename_i op t x y yt hx
  simp only [execOp, hx, ahP, V]
 .rename_i fn first captured hx
  have e1 : (List.map (ev g) first.toList).toArray = first.map (ev g) := by obtain ⟨l⟩ := first; simp
  have e2 : (List.map (ev g) captured.toList).toArray = captured.map (ev g) := by obtain ⟨l⟩ := captured; simp
  simp only [execOp, hx, VD, V, e1, e2]
 .rename_i t ps hx
  have e : (List.map (fun p : Nat × Operand => (p.1, ev g p.2)) ps.toList).toArray = ps.map (fun p => (p.1, ev g p.2)) := by obtain ⟨l⟩ := ps; simp
  simp only [execOp, hx, mK, V, e]
 .rename_i t n ps hx
  have e : (List.map (fun p : Nat × Operand => (p.1, ev g p.2)) ps.toList).toArray = ps.map (fun p => (p.1, ev g p.2)) := by obtain ⟨l⟩ := ps; simp
  simp only [execOp, hx, lI, V, e]
 .rename_i c hx
  split
  .rename_i b hb
   simp only [execOp, hx, resolve, hb, pure_bind, invoke, oF]
   unfold UF at ho
   simp only [hx, hb] at ho
   have e : (List.map (ev g) c.args.toList).toArray = c.args.map (ev g) := by obtain ⟨l⟩ := c.args; simp
   rw [e]
   cases b <;> first | rfl | (cases ho)
  .rename_i f hb
   have e : (List.map (ev g) c.args.toList).toArray = c.args.map (ev g) := by obtain ⟨l⟩ := c.args; simp
   simp only [execOp, hx, resolve, hb, CZ, e]
  .rfl
 .rfl
theorem SH {f : FuncId} {fn : Func} (hf : P.funcs[f]? = some fn) (hb : fn.body.isSome = true) (hn : (fn.name == "runtime.NumGoroutine") = false)
 (args : Array asZ) (w : asY) : (callFunc f args).run P w = .ok (.enter f args) w := by
 unfold callFunc
 have hb' : fn.body.isNone = false := by cases h : fn.body <;> simp_all
 show Sem.run P (Sem.program fun p => _) w = _
 simp only [Sem.run]
 simp only [bind, Sem.bind, hf, hn, hb', anO, if_false]
 rfl
theorem Li {g : Env} {o : Oper} {w : asY} {K : asZ -> asY -> Prop} (h : Ix P ops g o w K) :
 ∃ v w', Uc P ops g o w v w' /\ K v w' := by
 unfold Uc
 unfold Ix at *
 split at h
 .obtain ⟨v, w', h1, h2⟩ := V5 h
  exact ⟨v, w', h1, h2⟩
 .rename_i j want hg
  unfold Gd at *
  cases hb : Cf g (FN ops j) want with
  | true =>
    simp only [hb] at h
    obtain ⟨v, w', h1, h2⟩ := V5 h
    exact ⟨v, w', fun K hk => h1 K hk, h2⟩
  | false =>
    simp only [hb] at h
    exact ⟨_, _, fun K hk => hk, h⟩
theorem T1 {N i : Nat} {g : Env} {a : Act} {o : Oper} {w w' : asY} {v : asZ} {next : Act -> asY -> Prop}
 (hi : ops[i]? = some o) (hc : DQ P o = true) (hd : QF N ops) (hr : ON N g a) (hy : Uc P ops g o w v w') (hn : next (a.put o.dst v) w') : OH P ops i next a w := by
 have h := hy (fun v2 w2 => v2 = v /\ w2 = w') ⟨rfl, rfl⟩
 unfold OH
 rw [hi]
 simp only [hr.wanted ops hd]
 have run : I2 P g o w (fun v2 w2 => v2 = v /\ w2 = w') -> YS P o a w next := by
  intro h
  refine ⟨YL hc, ?_⟩
  have hevs : execOp a.eval o = execOp (ev g) o := execOp_congr o (fun cs b he => by have := Yr hc; simp [TX, he] at this) (fun x hx => hr.ev x (Yt hc x hx))
  have stp : gD P (KU g o) w (fun v2 w2 => v2 = v /\ w2 = w') -> upX P o a next ((execOp (ev g) o).run P w) := by
   intro h
   rw [aeV hc] at h
   unfold gD at h
   generalize (execOp (ev g) o).run P w = r at *
   match r, h with
   | .ok (.value v) w1, h => obtain ⟨rfl, rfl⟩ := h; exact hn
   | .ok .skip w1, h => obtain ⟨rfl, rfl⟩ := h; exact hn
   | .ok (.enter f args) w1, h =>
     obtain ⟨v2, w2, hret, rfl, rfl⟩ := h
     exact ⟨_, _, hret, hn⟩
   | .ok (.round l f tmps anL bd) w1, h =>
     obtain ⟨v2, w2, hret, rfl, rfl⟩ := h
     exact ⟨_, _, hret, hn⟩
  rw [hevs]
  unfold I2 at h
  split at h
  .rename_i x hx
   obtain ⟨rfl, rfl⟩ := h
   simp only [execOp, hx]; exact hn
  .rename_i x hx
   obtain ⟨rfl, rfl⟩ := h
   simp only [execOp, hx]; exact hn
  .rename_i c hx
   split at h
   .rename_i f hcal
    obtain ⟨v2, w2, hret, rfl, rfl⟩ := h
    have e : (execOp (ev g) o).run P w = .ok (.enter f (List.map (ev g) c.args.toList).toArray) w := by
     have hc := Yd hc
     unfold UF at hc
     simp only [hx, hcal] at hc
     cases hfn : P.funcs[f]? with
     | none => rw [hfn] at hc; cases hc
     | some fn =>
       rw [hfn] at hc
       simp only [aoB, aqH] at hc
       have ea : (List.map (ev g) c.args.toList).toArray = c.args.map (ev g) := by obtain ⟨l⟩ := c.args; simp
       rw [ea]
       simp only [execOp, hx, resolve, hcal, ev, Deferred.ofValue, pure_bind, invoke]
       simp only [Array.empty_append, Array.append_empty]
       exact SH hfn hc.1 hc.2 _ w
    rw [e]
    exact ⟨_, _, hret, hn⟩
   .exact stp h
  .exact stp h
 unfold Ix at h
 cases hg : o.guard with
 | none =>
   rw [hg] at h
   simp only [if_true]
   exact run h
 | some p =>
   obtain ⟨j, want⟩ := p
   simp only [hg] at h
   simp only
   by_cases hb : Cf g (FN ops j) want = true
   .rw [if_pos hb]
    simp only [hb, Gd] at h
    exact run h
   .rw [if_neg hb]
    have hb' : Cf g (FN ops j) want = false := by simpa using hb
    simp only [hb', Gd] at h
    obtain ⟨rfl, rfl⟩ := h
    exact hn
def Si (P : Program) (ops : Array Oper) : Prop := ∀ (i : Nat) (o : Oper), ops[i]? = some o -> DQ P o = true
theorem aaY {N : Nat} (hd : QF N ops) (hca : Si P ops) {Q : Act -> asY -> Prop} {K : Env -> asY -> Prop}
 (hQ : ∀ g a w, ON N g a -> K g w -> Q a w) :
 ∀ (l : List Oper) (k : Nat) (g : Env) (a : Act) (w : asY), (∀ j, l[j]? = ops[k + j]?) -> ON N g a -> Vz P ops l g w K →
   FG P ops Q (List.range' k l.length) a w := by
 intro l
 induction l with
 | nil => intro k g a w _ hr h; exact hQ _ _ _ hr h
 | cons o l ih =>
   intro k g a w hl hr h
   have h0 : ops[k]? = some o := by have := hl 0; simpa using this.symm
   obtain ⟨v, w', hy, hk⟩ := Li h
   rw [aoG, List.range'_succ]
   show OH P ops k (FG P ops Q _) a w
   refine T1 h0 (hca k o h0) hd hr hy ?_
   refine ih (k + 1) _ _ _ (fun j => ?_) (hr.put _ _ (hd k o h0)) hk
   have := hl (j + 1)
   simp only [anN] at this
   rw [this]; congr 1; omega
def T2 (an : ZU) (O : Nat -> Oper) (G : Nat -> Env) (W : Nat -> asY) (V : Nat -> asZ) (i : Nat) : Rec :=
 ⟨tJ i an.1, O i, G i, W i, V i⟩
def ZG (P : Program) (ops : Array Oper) (an : ZU) (O : Nat -> Oper) (G : Nat -> Env) (W : Nat -> asY) (V : Nat -> asZ) (i j : Nat) : Prop :=
 QP P ops (T2 an O G W V i) (O j) (G j) (W (j + 1)) (V j)
structure Run (P : Program) (ops : Array Oper) (an : ZU) (g0 : Env) (w0 : asY) (n : Nat) (O : Nat -> Oper) (G : Nat -> Env) (W : Nat -> asY) (V : Nat -> asZ) : Prop where
 g0 : G 0 = g0
 w0 : W 0 = w0
 op : ∀ i, i < n -> ops[i]? = some (O i)
 yld : ∀ i, i < n -> Uc P ops (G i) (O i) (W i) (V i) (W (i + 1))
 light : ∀ i, i < n -> tJ i an.1 = false -> W (i + 1) = W i
 env : ∀ i, i < n -> G (i + 1) = put (G i) (O i).dst (V i)
 chk : ∀ i j, i < j -> j < n -> UY i j an.2 = true -> ZG P ops an O G W V i j
theorem Yl {o : Oper} {g : Env} {w' : asY} {v : asZ} {hist : List Rec} : ∀ {ks : List Nat}, ahN P ops o g w' v hist ks -> ∀ k ∈ ks, ∃ q, XZ hist k = some q /\ QP P ops q o g w' v := by
 intro ks
 induction ks with
 | nil => intro _ k hk; cases hk
 | cons a ks ih =>
   rintro ⟨h1, h2⟩ k hk
   rcases apK.1 hk with rfl | hk
   .cases hn : XZ hist k with
    | none => rw [hn] at h1; exact h1.elim
    | some q => rw [hn] at h1; exact ⟨q, rfl, h1⟩
   .exact ih h2 k hk
theorem aaX {n : Nat} {an : ZU} {pl : XW} (h : Ve n an pl = true) {i : Nat} (hi : i < n) :
 ∃ ks, pl[i]? = some (tJ i an.1, ks) /\ ∀ j, UY j i an.2 = true -> j < i /\ (i - 1 - j) ∈ ks := by
 have := aoY.1 h i (apF.2 hi)
 cases hp : pl[i]? with
 | none => rw [hp] at this; cases this
 | some p =>
   obtain ⟨hv, ks⟩ := p
   rw [hp] at this
   simp only [aoB] at this
   obtain ⟨h1, h2⟩ := this
   have h1 : hv = tJ i an.1 := by simpa using h1
   refine ⟨ks, by rw [h1], fun j hj => ?_⟩
   have mm : ∀ (l : List (Nat × Nat)), UY j i l = true -> (j, i) ∈ l := by
    intro l
    induction l with
    | nil => intro h; cases h
    | cons q r ih =>
      obtain ⟨a, b⟩ := q
      intro h
      unfold UY at h
      cases ha : Nat.beq a j with
      | true =>
        simp only [ha] at h
        cases hb : Nat.beq b i with
        | true =>
          obtain rfl := aoR ha
          obtain rfl := aoR hb
          exact aoV
        | false => simp only [hb] at h; exact aoC _ (ih h)
      | false => simp only [ha] at h; exact aoC _ (ih h)
   have := aoY.1 h2 (j, i) (mm _ hj)
   simp only [Nat.beq_refl, anU, Bool.false_or, aoB] at this
   refine ⟨?_, by simpa using this.2⟩
   have hlt := this.1
   exact (arG (x := j) (y := i)) ▸ hlt
theorem Xe {an : ZU} {pl : XW} {g0 : Env} {w0 : asY} {K : Env -> asY -> Prop} (hpl : Ve ops.size an pl = true) :
 ∀ (l : List Oper) (m : Nat) (hist : List Rec) (O : Nat -> Oper) (G : Nat -> Env) (W : Nat -> asY) (V : Nat -> asZ),
   (∀ j, l[j]? = ops[m + j]?) -> m + l.length = ops.size -> Run P ops an g0 w0 m O G W V -> (∀ i, i < m -> XZ hist (m - 1 - i) = some (T2 an O G W V i)) →
   vC P ops l (pl.drop m) hist (G m) (W m) K →
   ∃ (O : Nat -> Oper) (G : Nat -> Env) (W : Nat -> asY) (V : Nat -> asZ), Run P ops an g0 w0 (m + l.length) O G W V /\ K (G (m + l.length)) (W (m + l.length)) := by
 intro l
 induction l with
 | nil => intro m hist O G W V _ _ hr _ h; exact ⟨O, G, W, V, hr, by unfold vC at h; exact h⟩
 | cons o l ih =>
   intro m hist O G W V hl hlen hr hh h
   have h0 : ops[m]? = some o := by have := hl 0; simpa using this.symm
   have hmn : m < ops.size := by rw [aoG] at hlen; omega
   obtain ⟨ks, hk1, hk2⟩ := aaX hpl hmn
   have hdrop : pl.drop m = (tJ m an.1, ks) :: pl.drop (m + 1) := by
    have hlt : m < pl.length := by
     rcases aoE m pl.length with h | h
     .exact h
     .rw [aoD h] at hk1; cases hk1
    rw [aqA hlt]
    rw [anX hlt] at hk1
    rw [aoZ hk1]
   rw [hdrop] at h
   obtain ⟨v, w', hy, hk⟩ := Li h
   have key : (tJ m an.1 = false -> w' = W m) /\ (∀ k ∈ ks, ∃ q, XZ hist k = some q /\ QP P ops q o (G m) w' v) /\
       (vC P ops l (pl.drop (m + 1)) (⟨tJ m an.1, o, G m, W m, v⟩ :: hist) (put (G m) o.dst v) w' K) := by
    have nil : ∀ w', ∀ k ∈ ([] : List Nat), ∃ q, XZ hist k = some q /\ QP P ops q o (G m) w' v := fun _ k hk => (by cases hk)
    cases hm : tJ m an.1 with
    | true =>
      rw [hm] at hk
      cases ks with
      | nil => exact ⟨fun e => (by cases e), nil _, hk⟩
      | cons k ks => exact ⟨fun e => (by cases e), Yl hk.1, hk.2⟩
    | false =>
      rw [hm] at hk
      cases ks with
      | nil => obtain ⟨rfl, hk⟩ := hk; exact ⟨fun _ => rfl, nil _, hk⟩
      | cons k ks => obtain ⟨rfl, hc, hk⟩ := hk; exact ⟨fun _ => rfl, Yl hc, hk⟩
   obtain ⟨kl, c1, c2⟩ := key
   let O' : Nat -> Oper := fun i => if i = m then o else O i
   let V' : Nat -> asZ := fun i => if i = m then v else V i
   let G' : Nat -> Env := fun i => if i = m + 1 then put (G m) o.dst v else G i
   let W' : Nat -> asY := fun i => if i = m + 1 then w' else W i
   have eO : ∀ i, i < m -> O' i = O i := fun i hi => if_neg (by omega)
   have eV : ∀ i, i < m -> V' i = V i := fun i hi => if_neg (by omega)
   have eG : ∀ i, i <= m -> G' i = G i := fun i hi => if_neg (by omega)
   have eW : ∀ i, i <= m -> W' i = W i := fun i hi => if_neg (by omega)
   have oO : O' m = o := if_pos rfl
   have oV : V' m = v := if_pos rfl
   have oG : G' (m + 1) = put (G m) o.dst v := if_pos rfl
   have oW : W' (m + 1) = w' := if_pos rfl
   have eR : ∀ i, i < m -> T2 an O' G' W' V' i = T2 an O G W V i := fun i hi => by
    simp only [T2, eO i hi, eV i hi, eG i (by omega), eW i (by omega)]
   have hr' : Run P ops an g0 w0 (m + 1) O' G' W' V' := by
    refine ⟨by rw [eG 0 (by omega)]; exact hr.g0, by rw [eW 0 (by omega)]; exact hr.w0, fun i hi => ?_, fun i hi => ?_, fun i hi hm => ?_, fun i hi => ?_, fun i j hij hj hm => ?_⟩
    .by_cases hi' : i = m
     .subst hi'; rw [oO]; exact h0
     .rw [eO i (by omega)]; exact hr.op i (by omega)
    .by_cases hi' : i = m
     .subst hi'; rw [oO, oV, oW, eG i (by omega), eW i (by omega)]; exact hy
     .rw [eO i (by omega), eV i (by omega), eG i (by omega), eW i (by omega), eW (i + 1) (by omega)]; exact hr.yld i (by omega)
    .by_cases hi' : i = m
     .subst hi'; rw [oW, eW i (by omega)]; exact kl hm
     .rw [eW i (by omega), eW (i + 1) (by omega)]; exact hr.light i (by omega) hm
    .by_cases hi' : i = m
     .subst hi'; rw [oO, oV, oG, eG i (by omega)]
     .rw [eO i (by omega), eV i (by omega), eG i (by omega), eG (i + 1) (by omega)]; exact hr.env i (by omega)
    .unfold ZG
     by_cases hj' : j = m
     .subst hj'
      rw [eR i (by omega), oO, oV, oW, eG j (by omega)]
      obtain ⟨q, hq, hc⟩ := c1 _ (hk2 i hm).2
      rw [hh i hij] at hq
      obtain rfl := aoZ hq
      exact hc
     .rw [eR i (by omega), eO j (by omega), eV j (by omega), eG j (by omega), eW (j + 1) (by omega)]
      exact hr.chk i j hij (by omega) hm
   have := ih (m + 1) (⟨tJ m an.1, o, G m, W m, v⟩ :: hist) O' G' W' V' (fun j => by
       have := hl (j + 1)
       simp only [anN] at this
       rw [this]; congr 1; omega) (by rw [aoG] at hlen; omega) hr' (fun i hi => by
       by_cases hi' : i = m
       .subst hi'
        rw [show i + 1 - 1 - i = 0 from by omega]
        simp only [XZ, T2, oO, oV, eG i (by omega), eW i (by omega)]
       .rw [eR i (by omega), show m + 1 - 1 - i = (m - 1 - i) + 1 from by omega]
        exact hh i (by omega)) (by rw [oG, oW]; exact c2)
   rw [aoG, show m + (l.length + 1) = m + 1 + l.length from by omega]
   exact this
end
section
variable {P : Program} {ops : Array Oper} {an : ZU} {g0 : Env} {w0 : asY} {O : Nat -> Oper} {G : Nat -> Env} {W : Nat -> asY} {V : Nat -> asZ}
def LP (n : Nat) (O : Nat -> Oper) (V : Nat -> asZ) (g0 : Env) (S : Nat -> Prop) (g : Env) : Prop :=
 ∀ s, (∃ j, j < n /\ S j /\ (O j).dst = some s /\ (∀ k, k < n -> S k -> (O k).dst = some s -> k <= j) /\ g s = V j) ∨
   ((∀ j, j < n -> S j -> (O j).dst ≠ some s) /\ g s = g0 s)
theorem LP.agree {n : Nat} {S T : Nat -> Prop} {g g' : Env} (h : LP n O V g0 S g) (h' : LP n O V g0 T g') (s : Nat)
 (hs : ∀ j, j < n -> (O j).dst = some s -> (S j ↔ T j)) : g s = g' s := by
 rcases h s with ⟨j, h1, h2, h3, h4, h5⟩ | ⟨h1, h2⟩ <;> rcases h' s with ⟨k, k1, k2, k3, k4, k5⟩ | ⟨k1, k2⟩
 .have a := h4 k k1 ((hs k k1 k3).2 k2) k3
  have b := k4 j h1 ((hs j h1 h3).1 h2) h3
  have : j = k := by omega
  subst this; rw [h5, k5]
 .exact absurd h3 (k1 j h1 ((hs j h1 h3).1 h2))
 .exact absurd k3 (h1 k k1 ((hs k k1 k3).2 k2))
 .rw [h2, k2]
theorem LP.step {n : Nat} {S : Nat -> Prop} {g : Env} (h : LP n O V g0 S g) (i : Nat) (hi : i < n)
 (hw : ∀ s, (O i).dst = some s -> ∀ j, j < n -> j ≠ i -> (O j).dst = some s -> S j -> j < i) :
 LP n O V g0 (fun j => S j ∨ j = i) (put g (O i).dst (V i)) := by
 intro s
 cases hd : (O i).dst with
 | none =>
   rcases h s with ⟨j, h1, h2, h3, h4, h5⟩ | ⟨h1, h2⟩
   .refine .inl ⟨j, h1, .inl h2, h3, fun k k1 k2 k3 => ?_, h5⟩
    rcases k2 with k2 | rfl
    .exact h4 k k1 k2 k3
    .rw [hd] at k3; cases k3
   .refine .inr ⟨fun j h3 h4 h5 => ?_, h2⟩
    rcases h4 with h4 | rfl
    .exact h1 j h3 h4 h5
    .rw [hd] at h5; cases h5
 | some t =>
   rw [Kg]
   by_cases hst : s = t
   .subst hst
    rw [if_pos rfl]
    refine .inl ⟨i, hi, .inr rfl, hd, fun k k1 k2 k3 => ?_, rfl⟩
    rcases k2 with k2 | rfl
    .by_cases hk : k = i
     .omega
     .have := hw s hd k k1 hk k3 k2; omega
    .omega
   .rw [if_neg hst]
    rcases h s with ⟨j, h1, h2, h3, h4, h5⟩ | ⟨h1, h2⟩
    .refine .inl ⟨j, h1, .inl h2, h3, fun k k1 k2 k3 => ?_, h5⟩
     rcases k2 with k2 | rfl
     .exact h4 k k1 k2 k3
     .rw [hd] at k3; exact absurd (aoZ k3).symm hst
    .refine .inr ⟨fun j h3 h4 h5 => ?_, h2⟩
     rcases h4 with h4 | rfl
     .exact h1 j h3 h4 h5
     .rw [hd] at h5; exact absurd (aoZ h5).symm hst
theorem Run.envFor {n : Nat} (r : Run P ops an g0 w0 n O G W V) : ∀ i, i <= n -> LP n O V g0 (fun j => j < i) (G i) := by
 intro i
 induction i with
 | zero => intro _ s; exact .inr ⟨fun j _ h => absurd h (by omega), by rw [r.g0]⟩
 | succ i ih =>
   intro hi
   have h := ih (by omega)
   have := h.step (V := V) i (by omega) (fun s _ j _ _ _ hj => hj)
   rw [<- r.env i (by omega)] at this
   intro s
   rcases this s with ⟨j, h1, h2, h3, h4, h5⟩ | ⟨h1, h2⟩
   .exact .inl ⟨j, h1, by omega, h3, fun k k1 k2 k3 => h4 k k1 (by omega) k3, h5⟩
   .exact .inr ⟨fun j a b => h1 j a (by omega), h2⟩
theorem Run.still {n : Nat} (r : Run P ops an g0 w0 n O G W V) (i : Nat) : ∀ d, i + d <= n -> (∀ h, i <= h -> h < i + d -> tJ h an.1 = false) -> W (i + d) = W i := by
 intro d
 induction d with
 | zero => intro _ _; rfl
 | succ d ih =>
   intro h1 h2
   rw [<- aqY, r.light (i + d) (by omega) (h2 _ (by omega) (by omega))]
   exact ih (by omega) (fun h a b => h2 h a (by omega))
theorem Run.still' {n : Nat} (r : Run P ops an g0 w0 n O G W V) {i k : Nat} (hik : i <= k) (hk : k <= n) (hh : ∀ h, i <= h -> h < k -> tJ h an.1 = false) : W k = W i := by
 have := r.still i (k - i) (by omega) (fun h a b => hh h a (by omega))
 rwa [show i + (k - i) = k from by omega] at this
theorem XG {i k : Nat} : (∃ h, i <= h /\ h < k /\ tJ h an.1 = true) -> ∃ h, i <= h /\ h < k /\ tJ h an.1 = true /\ ∀ h', i <= h' -> h' < h -> tJ h' an.1 = false := by
 rintro ⟨h, h1, h2, h3⟩
 induction h using Nat.strongRecOn with
 | _ h ih =>
   by_cases hx : ∃ h', i <= h' /\ h' < h /\ tJ h' an.1 = true
   .obtain ⟨h', a, b, c⟩ := hx
    exact ih h' b a (by omega) c
   .refine ⟨h, h1, h2, h3, fun h' a b => ?_⟩
    cases hm : tJ h' an.1
    .rfl
    .exact absurd ⟨h', a, b, hm⟩ hx
theorem Va {i k : Nat} : (∃ h, i <= h /\ h < k /\ tJ h an.1 = true) -> ∃ h, i <= h /\ h < k /\ tJ h an.1 = true /\ ∀ h', h < h' -> h' < k -> tJ h' an.1 = false := by
 rintro ⟨h, h1, h2, h3⟩
 induction hd : k - h using Nat.strongRecOn generalizing h with
 | _ d ih =>
   by_cases hx : ∃ h', h < h' /\ h' < k /\ tJ h' an.1 = true
   .obtain ⟨h', a, b, c⟩ := hx
    exact ih (k - h') (by omega) h' (by omega) b c rfl
   .refine ⟨h, h1, h2, h3, fun h' a b => ?_⟩
    cases hm : tJ h' an.1
    .rfl
    .exact absurd ⟨h', a, b, hm⟩ hx
structure Vh (ops : Array Oper) (an : ZU) (O : Nat -> Oper) (b : Array Nat) : Prop where
 back : ∀ i, i < ops.size -> ∀ e ∈ (O i).after, Region.binds .any e = true -> e.on < i
 closed : ∀ i j, i < ops.size -> j < ops.size -> bef b i j = true -> ∃ e ∈ (O j).after, Region.binds .any e = true /\ (e.on = i ∨ bef b i e.on = true)
 pair : ∀ i j, i < j -> j < ops.size -> OY ops b an i j (O i) (O j) = true
 sel : ∀ i, i < ops.size -> TX (O i) = false
 fn : ∀ i, i < ops.size -> aeU (O i) = true -> tJ i an.1 = true
theorem abQ (h : Vx ops an = true) (ho : ∀ i, i < ops.size -> ops[i]? = some (O i)) : Vh ops an O (Region.before ops) := by
 unfold Vx at h
 simp only [aoB] at h
 obtain ⟨⟨⟨⟨h1, h2⟩, h3⟩, h5⟩, h6⟩ := h
 refine ⟨fun i hi e he hb => ?_, fun i j hi hj hb => ?_, fun i j hij hj => ?_, fun i hi => ?_, fun i hi hf => ?_⟩
 .unfold Ww at h1
  have := aoY.1 h1 i (apF.2 hi)
  rw [ho i hi] at this
  have := apW.1 this e he
  simp only [hb, anU, Bool.false_or] at this
  exact (arG (x := e.on) (y := i)) ▸ this
 .unfold Wt at h2
  have := aoY.1 (aoY.1 h2 j (apF.2 hj)) i (apF.2 hi)
  rw [ho j hj] at this
  simp only [hb, anU, Bool.false_or] at this
  obtain ⟨e, he, h⟩ := Array.any_eq_true'.1 this
  simp only [aoB, aqB] at h
  refine ⟨e, he, h.1, h.2.imp (fun h => aoR h) id⟩
 .unfold XI at h3
  have := aoY.1 (aoY.1 h3 j (apF.2 hj)) i (apF.2 hij)
  rw [ho i (by omega), ho j hj] at this
  exact this
 .have := apW.1 h5 (O i) (asP (ho i hi))
  simpa using this
 .have := aoY.1 h6 i (apF.2 hi)
  rw [ho i hi] at this
  simpa [hf] using this
theorem afJ {i j : Nat} : ∀ {l : List (Nat × Nat)}, UY i j l = true -> (i, j) ∈ l := by
 intro l
 induction l with
 | nil => intro h; cases h
 | cons p r ih =>
   obtain ⟨a, b⟩ := p
   intro h
   unfold UY at h
   cases ha : Nat.beq a i with
   | true =>
     simp only [ha] at h
     cases hb : Nat.beq b j with
     | true =>
       obtain rfl := aoR ha
       obtain rfl := aoR hb
       exact aoV
     | false => simp only [hb] at h; exact aoC _ (ih h)
   | false => simp only [ha] at h; exact aoC _ (ih h)
theorem Vh.order {b : Array Nat} (st : Vh ops an O b) {S : Nat -> Prop} {i : Nat} (hi : i < ops.size)
 (hdown : ∀ j k, j < ops.size -> k < ops.size -> S k -> bef b j k = true -> S j) (hbi : ∀ j, j < ops.size -> bef b j i = true -> S j) (hni : ¬ S i)
 {s : Nat} (hs : s ∈ looks ops (O i) ∨ (O i).dst = some s) {j : Nat} (hj : j < ops.size) (hji : j ≠ i) (hd : (O j).dst = some s) : S j ↔ j < i := by
 rcases aoE j i with h | h
 .refine ⟨fun _ => h, fun _ => ?_⟩
  have p := st.pair j i h hi
  unfold OY at p
  simp only [aqB, aoB, aqH] at p
  rcases p with p | p
  .exact hbi j hj p
  .exfalso
   have p1 := p.1
   unfold acL at p1
   simp only [hd, arU] at p1
   rcases hs with hs | hs
   .have := p1.1.1; simp [hs] at this
   .have := p1.1.2; simp [hs] at this
 .have h' : i < j := by omega
  refine ⟨fun hS => ?_, fun hh => by omega⟩
  exfalso
  have p := st.pair i j h' hj
  unfold OY at p
  simp only [aqB, aoB, aqH] at p
  rcases p with p | p
  .exact hni (hdown i j hi hj hS p)
  .have p1 := p.1
   unfold acL at p1
   simp only [hd, arU] at p1
   rcases hs with hs | hs
   .have := p1.2; simp [hs] at this
   .have := p1.1; rw [hs] at this; simp at this
theorem Kv {g g' : Env} {o : Oper} (h : ∀ s ∈ looks ops o, g s = g' s) : ∀ x ∈ o.op.operands, ev g x = ev g' x := by
 intro x hx
 cases x with
 | tmp t => exact h t (aqS _ (List.mem_filterMap.2 ⟨.tmp t, by simpa using hx, rfl⟩))
 | _ => rfl
theorem XD {g g' : Env} {o : Oper} (hs : TX o = false) (h : ∀ s ∈ looks ops o, g s = g' s) : KU g o = KU g' o := by
 have e := execOp_congr o (fun cs b he => by simp [TX, he] at hs) (Kv h)
 have k := Kv h
 unfold KU
 split
 .rename_i op t x y yt hx
  rw [k x (by simp [hx, Op.operands]), k y (by simp [hx, Op.operands])]
 .rename_i fn first captured hx
  have e1 : List.map (ev g) first.toList = List.map (ev g') first.toList := apZ fun p hp => k p (by simp [hx, Op.operands]; exact .inl (by simpa using hp))
  have e2 : List.map (ev g) captured.toList = List.map (ev g') captured.toList := apZ fun p hp => k p (by simp [hx, Op.operands]; exact .inr (by simpa using hp))
  rw [e1, e2]
 .rename_i t ps hx
  congr 1
  refine apZ fun p hp => ?_
  rw [k p.2 (by simp [hx, Op.operands]; exact ⟨p.1, by simpa using hp⟩)]
 .rename_i t n ps hx
  congr 1
  refine apZ fun p hp => ?_
  rw [k p.2 (by simp [hx, Op.operands]; exact ⟨p.1, by simpa using hp⟩)]
 .rename_i c hx
  split
  .rename_i b hb
   congr 1
   refine apZ fun p hp => ?_
   exact k p (by simp [hx, Op.operands, Call.operands, hb]; simpa using hp)
  .rename_i f hb
   have : List.map (ev g) c.args.toList = List.map (ev g') c.args.toList := apZ fun p hp => k p (by simp [hx, Op.operands, Call.operands, hb]; exact .inr (by simpa using hp))
   rw [this, k f (by simp [hx, Op.operands, Call.operands, hb])]
  .exact e
 .exact e
theorem VV {g g' : Env} {o : Oper} {j : Nat} {want : Bool} (hg : o.guard = some (j, want)) (h : ∀ s ∈ looks ops o, g s = g' s) :
 Cf g (FN ops j) want = Cf g' (FN ops j) want := by
 cases hs : FN ops j with
 | none => rfl
 | some t =>
   have := h t (arM _ (by simp [hg, hs]))
   simp [Cf, this]
theorem RS {g g' : Env} {o : Oper} {w : asY} {K : asZ -> asY -> Prop} (hs : TX o = false) (h : ∀ s ∈ looks ops o, g s = g' s)
 (hk : Ix P ops g o w K) : Ix P ops g' o w K := by
 have e := XD (ops := ops) hs h
 have run : I2 P g o w = I2 P g' o w := by
  funext K
  unfold I2
  split
  .rename_i x hx
   have := Kv (ops := ops) h x (by simp [hx, Op.operands])
   rw [this]
  .rename_i x hx
   have := Kv (ops := ops) h x (by simp [hx, Op.operands])
   rw [this]
  .rename_i c hx
   have k := Kv h
   have : List.map (ev g) c.args.toList = List.map (ev g') c.args.toList := apZ fun p hp => k p (by simp [hx, Op.operands, Call.operands]; exact .inr (by simpa using hp))
   rw [this, e]
  .rw [e]
 unfold Ix at *
 cases hg : o.guard with
 | none => rw [hg] at hk; simp only at hk ⊢; rwa [<- run]
 | some p =>
   obtain ⟨j, want⟩ := p
   simp only [hg] at hk ⊢
   rw [<- run, <- VV hg h]
   exact hk
theorem XB {n : Nat} (hn : n = ops.size) {b : Array Nat} (r : Run P ops an g0 w0 n O G W V) (st : Vh ops an O b) {S : Nat -> Prop} {i k : Nat} (hi : i < n) (hk : k <= n)
 (hdown : ∀ j k, j < ops.size -> k < ops.size -> S k -> bef b j k = true -> S j) (hbi : ∀ j, j < ops.size -> bef b j i = true -> S j) (hni : ¬ S i)
 (hS : ∀ h, h < n -> tJ h an.1 = true -> (S h ↔ h < k)) (hl : tJ i an.1 = false) :
 Uc P ops (G i) (O i) (W k) (V i) (W k) := by
 subst hn
 have same : Gs (gOf ops (O i) (G i)) (jF P (KU (G i) (O i)) (V i) (W k)) -> Lf (O i) = false -> Uc P ops (G i) (O i) (W k) (V i) (W k) := by
  intro hs hm K hK
  have run : jF P (KU (G i) (O i)) (V i) (W k) -> I2 P (G i) (O i) (W k) K := by
   intro hs
   unfold jF at hs
   have stp : gD P (KU (G i) (O i)) (W k) K := by unfold gD; rw [hs]; exact hK
   unfold I2
   split
   .rename_i x hx; simp [Lf, hx] at hm
   .rename_i x hx; simp [Lf, hx] at hm
   .rename_i c hx
    have hf : aeU (O i) = false := by
     cases hh : aeU (O i)
     .rfl
     .rw [st.fn i hi hh] at hl; cases hl
    obtain ⟨cal, cargs, cats⟩ := c
    cases cal with
    | value f =>
      cases f with
      | func f => simp [aeU, hx] at hf
      | _ => exact stp
    | _ => exact stp
   .exact stp
  have hy := r.yld i hi (fun v _ => v = V i) rfl
  unfold Ix at hy ⊢
  unfold gOf at hs
  cases hg : (O i).guard with
  | none => rw [hg] at hs; exact run hs
  | some p =>
    obtain ⟨j, want⟩ := p
    rw [hg] at hs
    simp only [hg] at hs hy ⊢
    cases hb : Cf (G i) (FN ops j) want with
    | true => rw [hb] at hs; exact run hs
    | false =>
      rw [hb] at hy
      have : undef = V i := hy
      show K undef (W k)
      rw [this]; exact hK
 have moved : Lf (O i) = true -> Uc P ops (G i) (O i) (W k) (V i) (W k) := by
  intro hm K hK
  have hy := r.yld i hi (fun v _ => v = V i) rfl
  unfold Ix at hy ⊢
  have mv : ∀ (K' : asZ -> asY -> Prop) w, I2 P (G i) (O i) w K' ↔ ∃ x, ((O i).op = .move x ∨ (O i).op = .assign x) /\ K' (ev (G i) x) w := by
   intro K' w
   unfold I2
   unfold Lf at hm
   split
   .rename_i x hx; constructor
    .intro h; exact ⟨x, .inl hx, h⟩
    .rintro ⟨y, h | h, h'⟩
     .rw [hx] at h; cases h; exact h'
     .rw [hx] at h; cases h
   .rename_i x hx; constructor
    .intro h; exact ⟨x, .inr hx, h⟩
    .rintro ⟨y, h | h, h'⟩
     .rw [hx] at h; cases h
     .rw [hx] at h; cases h; exact h'
   .rename_i c hx; simp [hx] at hm
   .rename_i h1 h2 _; split at hm
    .rename_i x hx; exact absurd hx (h1 x)
    .rename_i x hx; exact absurd hx (h2 x)
    .cases hm
  cases hg : (O i).guard with
  | none =>
    rw [hg] at hy
    simp only at hy ⊢
    rw [mv] at hy ⊢
    obtain ⟨x, hx, h⟩ := hy
    exact ⟨x, hx, h ▸ hK⟩
  | some p =>
    obtain ⟨j, want⟩ := p
    simp only [hg] at hy ⊢
    unfold Gd at *
    cases hb : Cf (G i) (FN ops j) want with
    | true =>
      simp only [hb] at hy ⊢
      rw [mv] at hy ⊢
      obtain ⟨x, hx, h⟩ := hy
      exact ⟨x, hx, h ▸ hK⟩
    | false =>
      simp only [hb] at hy ⊢
      rwa [hy]
 rcases asS k i with hki | hki
 .by_cases hx : ∃ h, k <= h /\ h < i /\ tJ h an.1 = true
  .obtain ⟨h, h1, h2, h3, h4⟩ := XG hx
   have e : W h = W k := r.still' h1 (by omega) h4
   have p := st.pair h i h2 hi
   unfold OY at p
   simp only [aqB, aoB, aqH] at p
   rcases p with p | p
   .have := hbi h (by omega) p
    have := (hS h (by omega) h3).1 this
    omega
   .have p2 := p.2
    rw [h3, hl] at p2
    simp only [aqB] at p2
    cases hmv : Lf (O i) with
    | true => exact moved hmv
    | false =>
      rcases p2 with p2 | p2
      .rw [hmv] at p2; cases p2
      .refine same ?_ hmv
       have c := r.chk h i h2 hi p2
       unfold ZG QP T2 at c
       simp only [h3] at c
       rw [<- e]; exact c
  .have e : W i = W k := r.still' hki (by omega) (fun h a b => by
    cases hm : tJ h an.1
    .rfl
    .exact absurd ⟨h, a, b, hm⟩ hx)
   have hy := r.yld i hi
   rw [r.light i hi hl, e] at hy
   exact hy
 .by_cases hx : ∃ h, i <= h /\ h < k /\ tJ h an.1 = true
  .obtain ⟨h, h1, h2, h3, h4⟩ := Va hx
   have hne : h ≠ i := fun e => by rw [e, hl] at h3; cases h3
   have e : W k = W (h + 1) := r.still' (by omega) hk (fun h' a b => h4 h' (by omega) b)
   have p := st.pair i h (by omega) (by omega)
   unfold OY at p
   simp only [aqB, aoB, aqH] at p
   rcases p with p | p
   .exact absurd (hdown i h (by omega) (by omega) ((hS h (by omega) h3).2 h2) p) hni
   .have p2 := p.2
    rw [h3, hl] at p2
    simp only [aqB] at p2
    cases hmv : Lf (O i) with
    | true => exact moved hmv
    | false =>
      rcases p2 with p2 | p2
      .rw [hmv] at p2; cases p2
      .refine same ?_ hmv
       have c := r.chk i h (by omega) (by omega) p2
       unfold ZG QP T2 at c
       simp only [hl] at c
       rw [e]; exact c
  .have e : W k = W i := r.still' hki hk (fun h a b => by
    cases hm : tJ h an.1
    .rfl
    .exact absurd ⟨h, a, b, hm⟩ hx)
   have hy := r.yld i hi
   rw [r.light i hi hl, <- e] at hy
   exact hy
def qL (listed : Array Bool) (i : Nat) : Prop := listed.getD i false = true
theorem agA {N n : Nat} (hn : n = ops.size) (hd : QF N ops) (hca : Si P ops) {b : Array Nat} (r : Run P ops an g0 w0 n O G W V) (st : Vh ops an O b)
 {Q : Act -> asY -> Prop} (hQ : ∀ a, ON N (G n) a -> Q a (W n)) :
 ∀ (fuel : Nat) (listed : Array Bool) (g : Env) (a : Act) (k : Nat), listed.size = n -> ON N g a -> k <= n →
   (∀ j, j < n -> qL listed j -> ∀ e ∈ (O j).after, Region.binds .any e = true -> qL listed e.on) →
   LP n O V g0 (qL listed) g -> (∀ h, h < n -> tJ h an.1 = true -> (qL listed h ↔ h < k)) →
   ((List.range n).filter fun i => !listed.getD i false).length <= fuel →
   Vl P ops Q fuel listed a (W k) := by
 subst hn
 have ready_iff : ∀ (listed : Array Bool), listed.size = ops.size -> ∀ i, i ∈ Region.ready .any ops listed ↔ (i < ops.size /\ ¬ qL listed i /\ ∀ e ∈ (O i).after, Region.binds .any e = true -> qL listed e.on) := by
  intro listed hsz i
  unfold Region.ready qL
  rw [asT, apF]
  constructor
  .rintro ⟨h1, h2⟩
   rw [r.op i h1] at h2
   simp only [aoB, aoW, aqV] at h2
   refine ⟨h1, ?_, fun e he hb => ?_⟩
   .have := h2.1
    rw [anZ] at this ⊢
    rw [aoH (by omega)] at this ⊢
    simpa using this
   .have := apW.1 h2.2 e he
    simpa [hb] using this
  .rintro ⟨h1, h2, h3⟩
   refine ⟨h1, ?_⟩
   rw [r.op i h1]
   simp only [aoB, aoW, aqV]
   refine ⟨?_, apW.2 fun e he => ?_⟩
   .rw [anZ] at h2 ⊢
    rw [aoH (by omega)] at h2 ⊢
    simpa using h2
   .by_cases hb : Region.binds .any e = true
    .simp [hb, h3 e he hb]
    .simp [hb]
 have none_ready : ∀ (listed : Array Bool), listed.size = ops.size -> Region.ready .any ops listed = [] -> ∀ i, i < ops.size -> qL listed i := by
  intro listed hsz hr i
  induction i using Nat.strongRecOn with
  | _ i ih =>
    intro hi
    refine Classical.byContradiction fun hl => ?_
    have : i ∈ Region.ready .any ops listed := (ready_iff listed hsz i).2 ⟨hi, hl, fun e he hb => by
     have := st.back i hi e he hb
     exact ih e.on this (by omega)⟩
    rw [hr] at this; cases this
 have all_done : ∀ (listed : Array Bool) (g : Env) (a : Act) (k : Nat), ON N g a -> k <= ops.size -> LP ops.size O V g0 (qL listed) g →
     (∀ h, h < ops.size -> tJ h an.1 = true -> (qL listed h ↔ h < k)) -> (∀ i, i < ops.size -> qL listed i) -> Q a (W k) := by
  intro listed g a k hr hk he hh hall
  have e : W ops.size = W k := r.still' hk (aoA _) (fun h h1 h2 => by
   cases hm : tJ h an.1
   .rfl
   .have := (hh h h2 hm).1 (hall h h2); omega)
  have eg : g = G ops.size := funext fun s => he.agree (r.envFor ops.size (aoA _)) s (fun j hj _ => ⟨fun _ => hj, fun _ => hall j hj⟩)
  rw [<- e]; exact hQ a (eg ▸ hr)
 intro fuel
 induction fuel with
 | zero =>
   intro listed g a k hsz hr hk hdep henv hh hc
   have hall : ∀ i, i < ops.size -> qL listed i := by
    intro i hi
    have hnil : ((List.range ops.size).filter fun i => !listed.getD i false) = [] := apE.1 (by omega)
    have := List.filter_eq_nil_iff.1 hnil i (apF.2 hi)
    unfold qL; simpa using this
   refine ⟨?_, all_done listed g a k hr hk henv hh hall⟩
   rw [List.eq_nil_iff_forall_not_mem]
   intro i hi
   have := (ready_iff listed hsz i).1 hi
   exact this.2.1 (hall i this.1)
 | succ fuel ih =>
   intro listed g a k hsz hr hk hdep henv hh hc
   refine ⟨fun hn => all_done listed g a k hr hk henv hh (none_ready listed hsz hn), fun i hi => ?_⟩
   obtain ⟨h1, h2, h3⟩ := (ready_iff listed hsz i).1 hi
   have hdown : ∀ k j, j < ops.size -> k < ops.size -> qL listed k -> bef b j k = true -> qL listed j := by
    intro k
    induction k using Nat.strongRecOn with
    | _ k ihk =>
      intro j hj hk hl hb
      obtain ⟨e, he, hbi, h⟩ := st.closed j k hj hk hb
      have hle := hdep k hk hl e he hbi
      rcases h with h | h
      .exact h ▸ hle
      .have hlt := st.back k hk e he hbi
       exact ihk e.on hlt j hj (by omega) hle h
   have hbi : ∀ j, j < ops.size -> bef b j i = true -> qL listed j := by
    intro j hj hb
    obtain ⟨e, he, hbi, h⟩ := st.closed j i hj h1 hb
    have hle := h3 e he hbi
    rcases h with h | h
    .exact h ▸ hle
    .have hlt := st.back i h1 e he hbi
     exact hdown e.on j hj (by omega) hle h
   have hdown' : ∀ j k, j < ops.size -> k < ops.size -> qL listed k -> bef b j k = true -> qL listed j := fun j k => hdown k j
   have hlooks : ∀ s ∈ looks ops (O i), (G i) s = g s := fun s hs =>
    (r.envFor i (by omega)).agree henv s (fun j hj hd => by
      by_cases hji : j = i
      .subst hji
       exact ⟨fun h => absurd h (by omega), fun h => absurd h h2⟩
      .exact (st.order h1 hdown' hbi h2 (.inl hs) hj hji hd).symm)
   have hl' : ∀ j, qL (listed.setIfInBounds i true) j ↔ (qL listed j ∨ j = i) := by
    intro j
    unfold qL
    rw [anZ, anZ]
    by_cases hji : j = i
    .subst hji
     rw [aoS (by omega)]
     simp
    .rw [apA (fun e => hji e.symm)]
     simp [hji]
   have next : ∀ k', k' <= ops.size -> (∀ h, h < ops.size -> tJ h an.1 = true -> ((qL listed h ∨ h = i) ↔ h < k')) -> Uc P ops g (O i) (W k) (V i) (W k') →
       OH P ops i (Vl P ops Q fuel (listed.setIfInBounds i true)) a (W k) := by
    intro k' hk' hh' hy
    refine T1 (r.op i h1) (hca i _ (r.op i h1)) hd hr hy ?_
    refine ih _ (put g (O i).dst (V i)) _ k' (by simp [hsz]) (hr.put _ _ (hd i _ (r.op i h1))) hk' ?_ ?_ ?_ ?_
    .intro j hj hlj e he hb
     rw [hl'] at hlj ⊢
     rcases hlj with hlj | rfl
     .exact .inl (hdep j hj hlj e he hb)
     .exact .inl (h3 e he hb)
    .have := henv.step i h1 (fun s hs j hj hji hd hlj => (st.order h1 hdown' hbi h2 (.inr hs) hj hji hd).1 hlj)
     intro s
     rcases this s with ⟨j, j1, j2, j3, j4, j5⟩ | ⟨j1, j2⟩
     .exact .inl ⟨j, j1, (hl' j).2 j2, j3, fun k k1 k2 k3 => j4 k k1 ((hl' k).1 k2) k3, j5⟩
     .exact .inr ⟨fun j a b => j1 j a ((hl' j).1 b), j2⟩
    .intro h a b; rw [hl']; exact hh' h a b
    .have hin : i ∈ (List.range ops.size).filter fun i => !listed.getD i false :=
      asT.2 ⟨apF.2 h1, by unfold qL at h2; simpa using h2⟩
     have e1 : ((List.range ops.size).filter fun j => !(listed.setIfInBounds i true).getD j false) = ((List.range ops.size).filter fun j => !listed.getD j false).filter fun j => j != i := by
      rw [List.filter_filter]
      refine List.filter_congr fun j _ => ?_
      have := hl' j
      unfold qL at this
      by_cases hji : j = i
      .have hh : (listed.setIfInBounds i true).getD j false = true := this.2 (.inr hji)
       rw [hh, hji]; simp
      .have hne : (j != i) = true := by simpa using hji
       rw [hne, Bool.true_and]
       cases ha : listed.getD j false with
       | true => rw [this.2 (.inl ha)]
       | false =>
         cases hb : (listed.setIfInBounds i true).getD j false with
         | false => rfl
         | true => rcases this.1 hb with h | h
                   .rw [ha] at h; cases h
                   .exact absurd h hji
     have hnd : ((List.range ops.size).filter fun j => !listed.getD j false).Nodup := List.nodup_range.filter _
     rw [e1, <- List.Nodup.erase_eq_filter hnd, List.length_erase_of_mem hin]
     omega
   cases hm : tJ i an.1 with
   | true =>
     have hS : ∀ h, h < ops.size -> tJ h an.1 = true -> (qL listed h ↔ h < i) := by
      intro h hh1 hhm
      rcases asL h i with hlt | heq | hgt
      .refine ⟨fun _ => hlt, fun _ => ?_⟩
       have p := st.pair h i hlt h1
       unfold OY at p
       rw [hhm, hm] at p
       simp only [aqB, aoB, anO, and_false, or_false] at p
       exact hbi h hh1 p
      .subst heq; exact ⟨fun hh => absurd hh h2, fun hh => absurd hh (by omega)⟩
      .refine ⟨fun hl => ?_, fun hh => absurd hh (by omega)⟩
       have p := st.pair i h hgt hh1
       unfold OY at p
       rw [hhm, hm] at p
       simp only [aqB, aoB, anO, and_false, or_false] at p
       exact absurd (hdown h i h1 hh1 hl p) h2
     have eW : W k = W i := by
      rcases asS k i with hki | hki
      .exact (r.still' hki (by omega) (fun h a b => by
        cases hx : tJ h an.1
        .rfl
        .have := (hh h (by omega) hx).1 ((hS h (by omega) hx).2 b); omega)).symm
      .exact r.still' hki hk (fun h a b => by
        cases hx : tJ h an.1
        .rfl
        .have := (hS h (by omega) hx).1 ((hh h (by omega) hx).2 b); omega)
     refine next (i + 1) (by omega) (fun h a b => ?_) ?_
     .rw [hS h a b]; omega
     .rw [eW]
      intro K hK
      exact RS (ops := ops) (st.sel i h1) hlooks (r.yld i h1 K hK)
   | false =>
     refine next k hk (fun h a b => ?_) ?_
     .rw [<- hh h a b]
      constructor
      .rintro (h' | rfl)
       .exact h'
       .rw [hm] at b; cases b
      .exact .inl
     .intro K hK
      exact RS (ops := ops) (st.sel i h1) hlooks (XB rfl r st h1 hk hdown' hbi h2 hh hm K hK)
end
abbrev Vk (P : Program) : Machine -> Prop := Machine.fenced P Fence.wide
def Vy (P : Program) (f : FuncId) (ro : Option Nat) (c : Code) (Q : Exit -> Act -> asY -> Prop) (a : Act) (w : asY) : Prop :=
 ∀ (b : Frame) (k : List Item) (cs : List Frame), b.fn = f -> b.roundOf = ro -> ∃ e a' w', Q e a' w' /\ ArrivesIn (Vk P) P (lone (b.atR a (.code c :: k)) cs w) b k cs e a' w'
section
variable {P : Program} {f : FuncId} {ro : Option Nat} {Q : Exit -> Act -> asY -> Prop} {a : Act} {w : asY}
theorem Ht {m m1 : Machine} (h : step P m = .next m1) : StepsIn (Vk P) P m m1 := .one (fenced_wide P m) h
theorem Mt {m m1 m2 : Machine} (h : step P m = .next m1) (h' : StepsIn (Vk P) P m1 m2) : StepsIn (Vk P) P m m2 := .head (fenced_wide P m) h h'
theorem aeH (h : Q .normal a w) : Vy P f ro .skip Q a w := fun _ _ _ _ _ => ⟨.normal, a, w, h, Ht Go.stepR_skip⟩
theorem abY {l : Nat} (h : Q .normal a w) : Vy P f ro (.label l) Q a w := fun _ _ _ _ _ => ⟨.normal, a, w, h, Ht stepR_label⟩
theorem XM {id : Nat} (h : Q (.exit id) a w) : Vy P f ro (.exit id) Q a w :=
 fun _ k _ _ _ => ⟨.exit id, a, w, h, fun _ hk => Ht (stepR_exit hk), fun _ hk => ⟨k, hk, .refl _⟩⟩
theorem ZP (h : Q .ret a w) : Vy P f ro .ret Q a w :=
 fun _ k _ _ _ => ⟨.ret, a, w, h, fun hn => ⟨_, Ht (stepR_ret hn)⟩, fun _ => ⟨k, .refl _⟩⟩
theorem agW {x y : Code} (h : Vy P f ro x (Exit.then (Vy P f ro y Q) Q) a w) : Vy P f ro (.seq x y) Q a w := by
 intro b k cs hb hro
 obtain ⟨e, a1, w1, hq, har⟩ := h b (.code y :: k) cs hb hro
 cases e with
 | normal =>
   obtain ⟨e2, a2, w2, hq2, har2⟩ := hq b k cs hb hro
   exact ⟨e2, a2, w2, hq2, .of_steps (Mt stepR_seq har) har2⟩
 | _ => exact ⟨_, a1, w1, hq, .of_steps (Ht stepR_seq) (.pass (x := .code y) rfl (fun _ _ => .inl (by simp)) har)⟩
theorem aeW {c : Operand} {x y : Code} {t : Bool} (hc : a.eval c = .bool t) (h : Vy P f ro (if t then x else y) Q a w) : Vy P f ro (.cond c x y) Q a w :=
 fun b k cs hb hro => let ⟨e, a1, w1, q, r⟩ := h b k cs hb hro; ⟨e, a1, w1, q, .of_steps (Ht (stepR_cond hc)) r⟩
theorem Z9 {id : Nat} {c : Code} (h : Vy P f ro c (Exit.inBlock id Q) a w) : Vy P f ro (.block id c) Q a w := by
 intro b k cs hb hro
 obtain ⟨e, a1, w1, hq, har⟩ := h b (.inBlock id :: k) cs hb hro
 cases e with
 | normal => exact ⟨.normal, a1, w1, hq, Mt stepR_block (StepsIn.trans har (Ht stepR_inBlock))⟩
 | exit i =>
   by_cases hid : i = id
   .simp only [Exit.inBlock, hid, if_true] at hq
    exact ⟨.normal, a1, w1, hq, Mt stepR_block (har.1 k (by simp [exitTo, hid]))⟩
   .simp only [Exit.inBlock, hid, if_false] at hq
    have this : (id == i) = false := by simp; exact fun h => hid h.symm
    have hx : exitTo i (.inBlock id :: k) = exitTo i k := by simp [exitTo, this]
    exact ⟨.exit i, a1, w1, hq, fun k' hk => Mt stepR_block (har.1 k' (by rw [hx]; exact hk)),
     fun hr' hk => let ⟨k1, h1, h2⟩ := har.2 hr' (by rw [hx]; exact hk); ⟨k1, h1, Mt stepR_block h2⟩⟩
 | goto l =>
   have hx : gotoIn l (.inBlock id :: k) = gotoIn l k := by simp [gotoIn]
   exact ⟨_, a1, w1, hq, fun k' hk => Mt stepR_block (har.1 k' (by rw [hx]; exact hk)),
    fun hr' hk => let ⟨k1, h1, h2⟩ := har.2 hr' (by rw [hx]; exact hk); ⟨k1, h1, Mt stepR_block h2⟩⟩
 | ret => exact ⟨_, a1, w1, hq, .of_steps (Ht stepR_block) har⟩
 | panic ch => exact ⟨_, a1, w1, hq, .of_steps (Ht stepR_block) har⟩
 | outgrown => exact ⟨_, a1, w1, hq, .of_steps (Ht stepR_block) har⟩
theorem Dc {b : Frame} {k : List Item} {cs : List Frame} {c : Code} :
 step P (lone (b.atR a (.code (.scope c) :: k)) cs w) = .next (lone (b.atR a (.code c :: .inScope c :: k)) cs w) :=
 step_lone_go (by simp [stepG, stepG.exec, Frame.atR])
theorem VH {b : Frame} {k : List Item} {cs : List Frame} {c : Code} :
 step P (lone (b.atR a (.inScope c :: k)) cs w) = .next (lone (b.atR a k) cs w) :=
 step_lone_go (by simp [stepG, stepG.exec, Frame.atR])
theorem aaV {c : Code} (h : Vy P f ro c (Exit.noGoto Q) a w) : Vy P f ro (.scope c) Q a w := by
 intro b k cs hb hro
 obtain ⟨e, a1, w1, hq, har⟩ := h b (.inScope c :: k) cs hb hro
 cases e with
 | normal => exact ⟨.normal, a1, w1, hq, Mt Dc (StepsIn.trans har (Ht VH))⟩
 | exit id =>
   have hx : exitTo id (.inScope c :: k) = exitTo id k := by simp [exitTo]
   exact ⟨.exit id, a1, w1, hq, fun k' hk => Mt Dc (har.1 k' (by rw [hx]; exact hk)),
    fun hr' hk => let ⟨k1, h1, h2⟩ := har.2 hr' (by rw [hx]; exact hk); ⟨k1, h1, Mt Dc h2⟩⟩
 | goto l => exact hq.elim
 | ret => exact ⟨_, a1, w1, hq, .of_steps (Ht Dc) har⟩
 | panic ch => exact ⟨_, a1, w1, hq, .of_steps (Ht Dc) har⟩
 | outgrown => exact ⟨_, a1, w1, hq, .of_steps (Ht Dc) har⟩
theorem acS {c : Code} (I : Act -> asY -> Prop) (μ : Act -> asY -> Nat) (h0 : I a w)
 (round : ∀ a w, I a w -> Vy P f ro c (Exit.then (fun a' w' => I a' w' /\ μ a' w' < μ a w) Q) a w) : Vy P f ro (.loop c) Q a w := by
 intro b k cs hb hro
 have key : ∀ n a w, μ a w = n -> I a w →
     ∃ e a' w', Q e a' w' /\ ArrivesIn (Vk P) P (lone (b.atR a (.code c :: .inLoop c :: k)) cs w) b k cs e a' w' := by
  intro n
  induction n using Nat.strongRecOn with
  | _ n ih =>
    intro a w hn hI
    obtain ⟨e, a1, w1, hq, har⟩ := round a w hI b (.inLoop c :: k) cs hb hro
    cases e with
    | normal =>
      obtain ⟨hI1, hlt⟩ := hq
      obtain ⟨e2, a2, w2, hq2, har2⟩ := ih (μ a1 w1) (hn ▸ hlt) a1 w1 rfl hI1
      exact ⟨e2, a2, w2, hq2, .of_steps (StepsIn.trans har (Ht stepR_inLoop)) har2⟩
    | _ => exact ⟨_, a1, w1, hq, .pass (x := .inLoop c) rfl (fun _ _ => .inl (by simp)) har⟩
 obtain ⟨e, a', w', hq, har⟩ := key _ a w rfl h0
 exact ⟨e, a', w', hq, .of_steps (Ht stepR_loop) har⟩
theorem ZV {ops : Array Oper} {L : List Nat} (h : FG P ops (Q .normal) L a w) (b : Frame) (k : List Item) (cs : List Frame) (hro : b.roundOf = ro) :
 ∃ e a' w', Q e a' w' /\ ArrivesIn (Vk P) P (lone (b.atR a (.inRegion ops L :: k)) cs w) b k cs e a' w' := by
 obtain ⟨e, a', w', ⟨rfl, hq⟩, hs⟩ := wp_opsIn (F := VA ro) (n := 0) L a w (aaA ro L a w h) b k cs hro trivial (fun _ h => by simp [VA, Fence.wide] at h)
 exact ⟨.normal, a', w', hq, hs⟩
theorem Zk {id : Nat} {ops : Array Oper} (h : FG P ops (Q .normal) (List.range ops.size) a w) : Vy P f ro (.region id ops false) Q a w := by
 intro b k cs hb hro
 obtain ⟨e, a1, w1, q, r⟩ := ZV h b k cs hro
 exact ⟨e, a1, w1, q, .of_steps (Ht stepR_region) r⟩
theorem Us (hm : P.follows .mixedOrders = true) {id : Nat} {ops : Array Oper}
 (h : FG P ops (Q .normal) (Region.schedule true ops (w.tape w.drawn (.order f id))) a { w with drawn := w.drawn + 1 }) : Vy P f ro (.region id ops true) Q a w := by
 intro b k cs hb hro
 obtain ⟨e, a1, w1, q, r⟩ := ZV h b k cs hro
 refine ⟨e, a1, w1, q, .of_steps (Ht ?_) r⟩
 have := @stepR_region_draw P b a k cs w ops id
 rw [hm, hb] at this
 exact this
def EE (v : asZ) (w : asY) (K : asY -> Prop) : Prop :=
 match v with
 | .pointer (some a) => w.heap[a.block]? = some (.deferred (some [])) /\ K (w.putObj a.block (.deferred none))
 | _ => K w
def abR (P : Program) (fn : Func) (R : asZ -> asY -> Prop) : Exit -> Act -> asY -> Prop
 | .normal, a, w | .ret, a, w => ∃ m, a.defers = Yj m /\ EE m w fun w' => ∃ v, (results fn a.tmps).run P w' = .ok v w' /\ R v w'
 | _, _, _ => False
theorem Xz {fn : Func} {R : asZ -> asY -> Prop} {fr : Frame} {cs : List Frame} (hm : fr.mode = .returning) (hf : P.funcs[fr.fn]? = some fn) (hk : fr.kind = .normal) {m : asZ} (hd : fr.defers = Yj m)
 (h : EE m w fun w' => ∃ v, (results fn fr.tmps).run P w' = .ok v w' /\ R v w') :
 ∃ v w' fr', R v w' /\ Steps P (lone fr cs w) (lone fr' cs w') /\ fr'.fn = fr.fn /\ fr'.leaving P w' (.returned v) := by
 have nil : fr.defers = [] -> (∃ v, (results fn fr.tmps).run P w = .ok v w /\ R v w) →
     ∃ v w' fr', R v w' /\ Steps P (lone fr cs w) (lone fr' cs w') /\ fr'.fn = fr.fn /\ fr'.leaving P w' (.returned v) := by
  rintro hd ⟨v, hv, hR⟩
  exact ⟨v, w, fr, hR, .refl _ _, rfl, hm, hd, hk, fn, hf, hv⟩
 cases m with
 | pointer p =>
   cases p with
   | none => exact nil hd h
   | some a =>
     obtain ⟨h1, v, hv, hR⟩ := h
     have hs := step_collected (P := P) (fr := fr) (cs := cs) (w := w) (d := { target := .collected a.block, args := #[] }) (r := a.block) (ds := []) (calls := [])
      (by rw [hm]; simp) hd rfl (run_takeDeferred h1)
     exact ⟨v, _, { fr with defers := [] }, hR, .head hs (.refl _ _), rfl, hm, rfl, hk, fn, hf, hv⟩
 | _ => exact nil hd h
theorem Xa {fn : Func} {c : Code} {args : Array asZ} {w : asY} {R : asZ -> asY -> Prop}
 (hf : P.funcs[f]? = some fn) (hb : fn.body = some c)
 (h : Vy P f none c (abR P fn R) { tmps := args ++ Array.replicate (fn.ntmps - args.size) undef, defers := [] } w) : Calls P f args w fun e w' => ∃ v, e = .returned v /\ R v w' := by
 intro cs
 let b : Frame := { (default : Frame) with fn := f, kind := .normal, roundOf := none }
 have henter : Frame.enter P f args .normal = b.atR { tmps := args ++ Array.replicate (fn.ntmps - args.size) undef, defers := [] } [.code c] := by
  simp [Frame.enter, Frame.atR, hf, hb, b]
 obtain ⟨e, a', w', hq, har⟩ := h b [] cs rfl rfl
 rw [<- henter] at har
 cases e with
 | normal =>
   obtain ⟨m, hd, hq⟩ := hq
   obtain ⟨v, w2, fr, hR, hs, hfn, hl⟩ := Xz (P := P) (cs := cs) (fr := { b.atR a' [] with mode := .returning }) rfl hf rfl hd hq
   exact ⟨.returned v, w2, fr, ⟨v, rfl, hR⟩, (StepsIn.steps har).trans (.head (stepR_end rfl) hs), hfn, hl⟩
 | ret =>
   obtain ⟨m, hd, hq⟩ := hq
   obtain ⟨todo, hs0⟩ := har.1 rfl
   obtain ⟨v, w2, fr, hR, hs, hfn, hl⟩ := Xz (P := P) (cs := cs) (fr := { b.atR a' todo with mode := .returning }) rfl hf rfl hd hq
   exact ⟨.returned v, w2, fr, ⟨v, rfl, hR⟩, (StepsIn.steps hs0).trans hs, hfn, hl⟩
 | panic chain => exact hq.elim
 | exit id => exact hq.elim
 | goto l => exact hq.elim
 | outgrown => exact hq.elim
def aiC (P : Program) (f : FuncId) (Q : Exit -> Act -> asY -> Prop) (a : Act) (w : asY) : Option Code -> Prop
 | none => Q .normal a w
 | some c => Vy P f none c Q a w
theorem abI {gf : Operand} {ps : Array Tmp} {anL bd : Code} {d : Deferred} {g : FuncId} {args : Array asZ} {w1 : asY} {l : Nat} {mark : List Deferred} {w2 w3 : asY} {v : asZ}
 (he : (Instr.enterLoop f a.tmps ps anL bd none).run P w = .ok (l, mark) w1)
 (hres : (resolve a.eval (rangeCall gf l) 0).run P w1 = .ok d w1) (hinv : (invoke d.target d.args).run P w1 = .ok (.enter g args) w2)
 (hcall : Ret P g args w2 v w3)
 {jump : Option Code} {w4 : asY} (hend : (Instr.endLoop l).run P w3 = .ok jump w4)
 (hj : aiC P f Q { a with defers := mark ++ a.defers } w4 jump) :
 Vy P f none (.rangeFunc gf ps anL bd) Q a w := by
 intro b k cs hb hro
 rw [<- hb, <- hro] at he
 have henter := stepR_rangeFunc (P := P) (b := b) (a := a) (k := k) (cs := cs) (w := w) he hres hinv
 obtain ⟨e, w3', fr, ⟨rfl, rfl⟩, hsteps, hfn, hleave⟩ := hcall (b.atR { a with defers := mark ++ a.defers } (.inRangeFunc l :: k) :: cs)
 have sback : StepsIn (Vk P) P (lone (b.atR a (.code (.rangeFunc gf ps anL bd) :: k)) cs w) (lone (b.atR { a with defers := mark ++ a.defers } ((jump.map Item.code).toList ++ k)) cs w4) := by
  refine Mt henter (StepsIn.trans (stepsIn_wide.2 hsteps) (Mt (m1 := lone (b.atR { a with defers := mark ++ a.defers } (.endRangeFunc l :: k)) cs w3') ?_ (Ht (stepR_endRangeFunc hend))))
  rw [<- finish_atR_inRangeFunc l v]; exact step_leave_returned hleave
 cases jump with
 | none => exact ⟨.normal, _, w4, hj, sback⟩
 | some c =>
   obtain ⟨e', a'', w5, hq, harr⟩ := hj b k cs hb hro
   exact ⟨e', a'', w5, hq, .of_steps sback harr⟩
def YH (P : Program) (l : Nat) (R : asZ -> asY -> Prop) : Exit -> Act -> asY -> Prop
 | .normal, _, w => ∃ v w', (Instr.endRound l none).run P w = .ok v w' /\ R v w'
 | .ret, _, w => ∃ v w', (Instr.endRound l (some .ret)).run P w = .ok v w' /\ R v w'
 | .exit id, _, w => ∃ v w', (Instr.endRound l (some (.exit id))).run P w = .ok v w' /\ R v w'
 | _, _, _ => False
theorem WW {l : Nat} {tmps : Array asZ} {anL bd : Code} {R : asZ -> asY -> Prop}
 (h : Vy P f (some l) anL (Exit.then (fun a1 w1 => ∃ w2, (Instr.beginRound l).run P w1 = .ok () w2 /\ Vy P f (some l) bd (YH P l R) a1 w2) (fun _ _ _ => False))
   { tmps := tmps, defers := [] } w) :
 RoundIn Fence.wide 0 P l f tmps anL bd w fun e w' => ∃ v, e = .returned v /\ R v w' := by
 refine ⟨trivial, fun c cs _ => ?_⟩
 let b : Frame := { (default : Frame) with fn := f, kind := .normal, roundOf := some l }
 have hb0 : Frame.round l f tmps anL bd .normal = b.atR { tmps := tmps, defers := [] } [.code anL, .beginRound, .code bd] := by
  simp [Frame.round, Frame.atR, b]
 obtain ⟨e, a1, w1, hq, harr⟩ := h b [.beginRound, .code bd] (c :: cs) rfl rfl
 rw [<- hb0] at harr
 cases e with
 | normal =>
   obtain ⟨w2, hbr, hbody⟩ := hq
   have s1 := Ht (stepR_beginRound (P := P) (b := b) (a := a1) (k := [.code bd]) (cs := c :: cs) rfl hbr)
   obtain ⟨e2, a2, w3, hq2, harr2⟩ := hbody b [] (c :: cs) rfl rfl
   cases e2 with
   | normal =>
     obtain ⟨v, w4, hend, hR⟩ := hq2
     exact ⟨.returned v, w4, ⟨v, rfl, hR⟩, (StepsIn.trans harr s1).trans (StepsIn.trans harr2 (Ht (stepR_round_end rfl rfl hend)))⟩
   | ret =>
     obtain ⟨v, w4, hend, hR⟩ := hq2
     obtain ⟨k1, hs⟩ := harr2.2 rfl
     exact ⟨.returned v, w4, ⟨v, rfl, hR⟩, (StepsIn.trans harr s1).trans (StepsIn.trans hs (Ht (stepR_round_ret rfl rfl hend)))⟩
   | exit id =>
     obtain ⟨v, w4, hend, hR⟩ := hq2
     obtain ⟨k1, hk, hs⟩ := harr2.2 rfl rfl
     exact ⟨.returned v, w4, ⟨v, rfl, hR⟩, (StepsIn.trans harr s1).trans (StepsIn.trans hs (Ht (stepR_round_exit rfl rfl hk hend)))⟩
   | goto t => exact hq2.elim
   | panic chain => exact hq2.elim
   | outgrown => exact hq2.elim
 | exit id => exact hq.elim
 | goto t => exact hq.elim
 | ret => exact hq.elim
 | panic chain => exact hq.elim
 | outgrown => exact hq.elim
end
def W5 (ops : Array Oper) : Nat -> Array Bool -> List Nat -> Prop
 | 0, _, L => L = []
 | _ + 1, listed, [] => Region.ready .any ops listed = []
 | n + 1, listed, i :: L => i ∈ Region.ready .any ops listed /\ W5 ops n (listed.setIfInBounds i true) L
section
variable {P : Program} {ops : Array Oper} {Q : Act -> asY -> Prop}
theorem ahL : ∀ (fuel t : Nat) (listed : Array Bool), W5 ops fuel listed (Region.linearise.go .any ops fuel t listed []) := by
 intro fuel
 induction fuel with
 | zero => intro t listed; simp [Region.linearise.go, W5]
 | succ fuel ih =>
   intro t listed
   simp only [Region.linearise.go]
   change W5 ops (fuel + 1) listed (match (Region.ready .any ops listed)[t % (Region.ready .any ops listed).length]? with
    | some i => Region.linearise.go .any ops fuel (t / (Region.ready .any ops listed).length) (listed.setIfInBounds i true) [i]
    | none => [].reverse)
   cases hi : (Region.ready .any ops listed)[t % (Region.ready .any ops listed).length]? with
   | none =>
     have : Region.ready .any ops listed = [] := by
      cases hr : Region.ready .any ops listed with
      | nil => rfl
      | cons x xs =>
        rw [hr] at hi
        have hlt : t % (x :: xs).length < (x :: xs).length := asU _ (by simp)
        rw [anX hlt] at hi
        cases hi
     simpa [W5] using this
   | some i =>
     simp only []
     rw [linearise_go_acc]
     exact ⟨aqF hi, ih _ _⟩
theorem RT : ∀ (fuel : Nat) (listed : Array Bool) (L : List Nat) (a : Act) (w : asY), Vl P ops Q fuel listed a w -> W5 ops fuel listed L -> FG P ops Q L a w := by
 intro fuel
 induction fuel with
 | zero => intro listed L a w h hL; obtain rfl : L = [] := hL; exact h.2
 | succ fuel ih =>
   intro listed L a w h hL
   cases L with
   | nil => exact h.1 hL
   | cons i L =>
     exact Y1 (fun a w hh => ih _ _ a w hh hL.2) (h.2 i hL.1)
end
structure VI (π : List Nat) (ops : Array Oper) : Prop where
 len : π.length = ops.size
 to : ∀ i, i < ops.size -> Ae π i < ops.size /\ π[Ae π i]? = some i
 back : ∀ k, k < ops.size -> ∃ i, π[k]? = some i /\ Ae π i = k /\ i < ops.size
 after : ∀ (i : Nat) (o : Oper), ops[i]? = some o -> ∀ e ∈ o.after, e.on < ops.size
 guard : ∀ (i : Nat) (o : Oper) (j : Nat) (b : Bool), ops[i]? = some o -> o.guard = some (j, b) -> j < ops.size
theorem agL {π : List Nat} {ops : Array Oper} (h : Y8 π ops = true) : VI π ops := by
 unfold Y8 at h
 simp only [aoB] at h
 obtain ⟨⟨⟨h1, h2⟩, h3⟩, h4⟩ := h
 have h1 := aoR h1
 have at4 : ∀ (i : Nat) (o : Oper), ops[i]? = some o -> (o.after.all fun e => Nat.blt e.on ops.size) = true /\ (match o.guard with | some (j, _) => Nat.blt j ops.size | none => true) = true := by
  intro i o ho
  have hi : i < ops.size := by
   rcases aoE i ops.size with h | h
   .exact h
   .rw [apU h] at ho; cases ho
  have := aoY.1 h4 i (apF.2 hi)
  rw [ho] at this
  simp only [aoB] at this
  refine ⟨this.1, ?_⟩
  have h := this.2
  revert h
  cases o.guard <;> exact id
 refine ⟨h1, fun i hi => ?_, fun k hk => ?_, fun i o ho e he => ?_, fun i o j b ho hg => ?_⟩
 .have := aoY.1 h3 i (apF.2 hi)
  cases hp : π[Ae π i]? with
  | none => rw [hp] at this; cases this
  | some j =>
    rw [hp] at this
    obtain rfl := aoR this
    refine ⟨?_, rfl⟩
    rcases aoE (Ae π j) π.length with h | h
    .omega
    .rw [aoD h] at hp; cases hp
 .have := aoY.1 h2 k (apF.2 hk)
  cases hp : π[k]? with
  | none => rw [hp] at this; cases this
  | some i =>
    rw [hp] at this
    simp only [aoB] at this
    exact ⟨i, rfl, aoR this.1, (arG (x := i) (y := ops.size)) ▸ this.2⟩
 .have := apW.1 (at4 i o ho).1 e he
  exact (arG (x := e.on) (y := ops.size)) ▸ this
 .have := (at4 i o ho).2
  rw [hg] at this
  exact (arG (x := j) (y := ops.size)) ▸ this
theorem VZ {π : List Nat} {es : List (Nat × Nat)} {l : List Oper} : ∀ (r : List Nat), (∀ i ∈ r, i < l.length) -> (Sn π es l r).length = r.length /\ ∀ k i : Nat, r[k]? = some i -> (Sn π es l r)[k]? = (l[i]?).map (JT π es i) := by
 intro r
 induction r with
 | nil => intro _; exact ⟨rfl, fun k i h => by simp at h⟩
 | cons j r ih =>
   intro h
   obtain ⟨h1, h2⟩ := ih fun i hi => h i (aoC _ hi)
   have hj : j < l.length := h j (by simp)
   simp only [Sn, anX hj]
   refine ⟨by simp [h1], fun k i hk => ?_⟩
   cases k with
   | zero => simp at hk; subst hk; simp [anX hj]
   | succ k => simp at hk ⊢; exact h2 k i hk
section
variable {P : Program} {ops : Array Oper} {Q : Act -> asY -> Prop} {π : List Nat} {es : List (Nat × Nat)}
theorem VI.mem (p : VI π ops) : ∀ i ∈ π, i < ops.toList.length := by
 intro i hi
 obtain ⟨k, hk, e⟩ := apQ hi
 obtain ⟨j, h1, _, h2⟩ := p.back k (by rw [<- p.len]; exact hk)
 rw [anX hk] at h1
 cases h1
 rw [<- e]; simpa using h2
theorem VI.size (p : VI π ops) : (tE π es ops).size = ops.size := by
 unfold tE
 rw [List.size_toArray, (VZ (es := es) (π := π) π p.mem).1, p.len]
theorem VI.get (p : VI π ops) {i : Nat} (hi : i < ops.size) : (tE π es ops)[Ae π i]? = (ops[i]?).map (JT π es i) := by
 unfold tE
 have := (VZ (es := es) (π := π) π p.mem).2 (Ae π i) i (p.to i hi).2
 rw [arN] at this
 simpa using this
theorem YF {i : Nat} {o : Oper} {a : Act} {w : asY} {K : Act -> asY -> Prop} : YS P (JT π es i o) a w K ↔ YS P o a w K := by
 unfold YS
 have h1 : execOp a.eval (JT π es i o) = execOp a.eval o := by
  obtain ⟨d, op, ty, ps, af, g⟩ := o
  cases op <;> rfl
 have h2 : WA (JT π es i o) = WA o := rfl
 rw [h1, h2]
 generalize (execOp a.eval o).run P w = r
 cases r with
 | ok n w => cases n <;> exact Iff.rfl
 | halt x w => exact Iff.rfl
theorem XO (p : VI π ops) {i : Nat} {o : Oper} (ho : ops[i]? = some o) (tmps : Array asZ) :
 Region.wanted (JT π es i o) (yielded (tE π es ops) tmps) = Region.wanted o (yielded ops tmps) := by
 unfold Region.wanted JT
 simp only
 cases hg : o.guard with
 | none => rfl
 | some q =>
   obtain ⟨j, b⟩ := q
   simp only
   have hj := p.guard i o j b ho hg
   have : (tE π es ops)[Ae π j]?.bind (·.dst) = (ops[j]?).bind (·.dst) := by
    rw [p.get hj]
    cases ops[j]? <;> rfl
   unfold yielded
   rw [this]
theorem YI (p : VI π ops) : ∀ (L : List Nat), (∀ i ∈ L, i < ops.size) -> ∀ (a : Act) (w : asY), FG P (tE π es ops) Q (L.map (Ae π)) a w -> FG P ops Q L a w := by
 intro L
 induction L with
 | nil => intro _ a w h; exact h
 | cons i L ih =>
   intro hL a w h
   rw [aoT] at h
   simp only [FG] at h ⊢
   have hi := hL i (by simp)
   have ih := ih fun i hi => hL i (aoC _ hi)
   unfold OH at h ⊢
   rw [p.get hi] at h
   rw [aoH hi] at h ⊢
   simp only [aoW] at h
   rw [XO p (aoH hi)] at h
   simp only
   split
   .rename_i hw
    rw [if_pos hw, YF] at h
    exact Wp (fun a w => ih a w) h
   .rename_i hw
    rw [if_neg hw] at h
    exact ih _ _ h
theorem Pb {ops : Array Oper} {listed : Array Bool} (hsz : listed.size = ops.size) (i : Nat) :
 i ∈ Region.ready .any ops listed ↔ (i < ops.size /\ listed.getD i false = false /\ ∀ o, ops[i]? = some o -> ∀ e ∈ o.after, Region.binds .any e = true -> listed.getD e.on false = true) := by
 unfold Region.ready
 rw [asT, apF]
 constructor
 .rintro ⟨h1, h2⟩
  rw [aoH h1] at h2
  simp only [aoB, aoW, aqV] at h2
  refine ⟨h1, ?_, fun o ho e he hb => ?_⟩
  .have := h2.1
   rw [anZ] at this ⊢
   rw [aoH (by omega)] at this ⊢
   simpa using this
  .rw [aoH h1] at ho
   cases ho
   have := apW.1 h2.2 e he
   simpa [hb] using this
 .rintro ⟨h1, h2, h3⟩
  refine ⟨h1, ?_⟩
  rw [aoH h1]
  simp only [aoB, aoW, aqV]
  refine ⟨?_, apW.2 fun e he => ?_⟩
  .rw [anZ] at h2 ⊢
   rw [aoH (by omega)] at h2 ⊢
   simpa using h2
  .by_cases hb : Region.binds .any e = true
   .simp [hb, h3 _ (aoH h1) e he hb]
   .simp [hb]
theorem aeP {π : List Nat} {i : Nat} : ∀ {es : List (Nat × Nat)} {e : Edge}, e ∈ G9 π i es -> ∃ a, (a, i) ∈ es /\ e.on = Ae π a := by
 intro es
 induction es with
 | nil => intro e h; simp [G9] at h
 | cons q r ih =>
   obtain ⟨a, b⟩ := q
   intro e h
   simp only [G9] at h
   cases hb : Nat.beq b i with
   | true =>
     rw [hb] at h
     obtain rfl := aoR hb
     rcases apK.1 h with rfl | h
     .exact ⟨a, by simp, rfl⟩
     .obtain ⟨a, h1, h2⟩ := ih h; exact ⟨a, aoC _ h1, h2⟩
   | false => rw [hb] at h; obtain ⟨a, h1, h2⟩ := ih h; exact ⟨a, aoC _ h1, h2⟩
theorem acB (p : VI π ops) {L0 : List Nat} (hes : ∀ q ∈ es, L0.idxOf q.1 <= L0.idxOf q.2 /\ q.1 ≠ q.2 /\ q.1 < ops.size) :
 ∀ (fuel : Nat) (listed listed' : Array Bool) (pre L : List Nat), L0 = pre ++ L -> listed.size = ops.size -> listed'.size = ops.size →
   (∀ j, j < ops.size -> listed'.getD (Ae π j) false = listed.getD j false) -> (∀ j ∈ pre, listed.getD j false = true) -> (∀ j, listed.getD j false = true -> j ∈ pre) →
   W5 ops fuel listed L -> W5 (tE π es ops) fuel listed' (L.map (Ae π)) /\ ∀ i ∈ L, i < ops.size := by
 intro fuel
 induction fuel with
 | zero => intro listed listed' pre L _ _ _ _ _ _ h; obtain rfl : L = [] := h; exact ⟨rfl, by simp⟩
 | succ fuel ih =>
   intro listed listed' pre L hL0 hs hs' hrel hpre hpre' h
   have hsz : (tE π es ops).size = ops.size := p.size
   cases L with
   | nil =>
     refine ⟨?_, by simp⟩
     show Region.ready .any (tE π es ops) listed' = []
     rw [List.eq_nil_iff_forall_not_mem]
     intro k hk
     obtain ⟨h1, h2, h3⟩ := (Pb (by omega) k).1 hk
     obtain ⟨i, hi1, hi2, hi3⟩ := p.back k (by omega)
     have : i ∈ Region.ready .any ops listed := by
      refine (Pb hs i).2 ⟨hi3, ?_, fun o ho e he hb => ?_⟩
      .rw [<- hrel i hi3, hi2]; exact h2
      .have g := p.get (es := es) hi3
       rw [hi2, ho] at g
       have hon := p.after i o ho e he
       have := h3 _ g ⟨Ae π e.on, e.ground⟩ (by
        simp only [JT, List.mem_toArray, apV, apM]
        exact .inl ⟨e, by simpa using he, rfl⟩) (by unfold Region.binds at hb ⊢; exact hb)
       rw [<- hrel e.on hon]; exact this
     rw [show Region.ready .any ops listed = [] from h] at this
     cases this
   | cons i L =>
     obtain ⟨h1, h2⟩ := h
     obtain ⟨r1, r2, r3⟩ := (Pb hs i).1 h1
     have hnot : i ∉ pre := fun hm => by rw [hpre i hm] at r2; cases r2
     have hidx : L0.idxOf i = pre.length := by
      rw [hL0, List.idxOf_append, if_neg hnot]; simp
     have ready' : Ae π i ∈ Region.ready .any (tE π es ops) listed' := by
      refine (Pb (by omega) _).2 ⟨by rw [hsz]; exact (p.to i r1).1, by rw [hrel i r1]; exact r2, fun o' ho' e' he' hb => ?_⟩
      rw [p.get r1, aoH r1] at ho'
      simp only [aoW, Option.some.injEq] at ho'
      subst ho'
      simp only [JT, List.mem_toArray, apV, apM] at he'
      rcases he' with ⟨e, he, rfl⟩ | he'
      .have ho := aoH r1
       have he2 : e ∈ ops[i].after := by simpa using he
       rw [hrel e.on (p.after i _ ho e he2)]
       exact r3 _ ho e he2 (by unfold Region.binds at hb ⊢; exact hb)
      .obtain ⟨a, ha, hon⟩ := aeP he'
       obtain ⟨q1, q2, q3⟩ := hes _ ha
       simp only at q1 q2 q3
       rw [hon, hrel a q3]
       refine hpre a ?_
       rw [hidx] at q1
       rw [hL0, List.idxOf_append] at q1
       by_cases hm : a ∈ pre
       .exact hm
       .rw [if_neg hm] at q1
        exfalso
        have hz : (i :: L).idxOf a = 0 := by omega
        rw [List.idxOf_cons] at hz
        cases hb : (i == a) with
        | true => exact q2 (by simpa using (beq_iff_eq.1 hb).symm)
        | false => rw [hb] at hz; simp at hz
     have hlen' : listed'.size = ops.size := hs'
     obtain ⟨k1, k2⟩ := ih (listed.setIfInBounds i true) (listed'.setIfInBounds (Ae π i) true) (pre ++ [i]) L (by rw [hL0]; simp) (by simp [hs]) (by simp [hs'])
      (fun j hj => by
       by_cases hji : j = i
       .subst hji
        rw [anZ, anZ, aoS (by rw [hs']; exact (p.to j hj).1), aoS (by omega)]
       .have hne : Ae π i ≠ Ae π j := fun e => by
         have a1 := (p.to i r1).2
         have a2 := (p.to j hj).2
         rw [e] at a1
         rw [a1] at a2
         exact hji (aoZ a2).symm
        have := hrel j hj
        rw [anZ, anZ] at this ⊢
        rw [apA hne, apA (fun e => hji e.symm)]
        exact this)
      (fun j hj => by
       rw [anZ]
       rcases apV.1 hj with hj | hj
       .by_cases hji : j = i
        .subst hji; rw [aoS (by omega)] <;> rfl
        .rw [apA (fun e => hji e.symm), <- anZ]; exact hpre j hj
       .have : j = i := by simpa using hj
        subst this
        rw [aoS (by omega)] <;> rfl)
      (fun j hj => by
       by_cases hji : j = i
       .subst hji; simp
       .rw [anZ, apA (fun e => hji e.symm), <- anZ] at hj
        exact aqS _ (hpre' j hj))
      h2
     exact ⟨⟨ready', k1⟩, fun j hj => (apK.1 hj).elim (fun e => e ▸ r1) (k2 j)⟩
end
section
variable {P : Program} {ops : Array Oper}
theorem T8 {N : Nat} {an : ZU} {pl : XW} (hok : Vx ops an = true) (hpl : Ve ops.size an pl = true) (hd : QF N ops) (hca : Si P ops)
 {K : Env -> asY -> Prop} {Q : Act -> asY -> Prop} (hQ : ∀ g a w, ON N g a -> K g w -> Q a w) {g : Env} {a : Act} {w : asY} (hr : ON N g a)
 (h : vC P ops ops.toList pl [] g w K) : Vl P ops Q ops.size (Array.replicate ops.size false) a w := by
 have r0 : Run P ops an g w 0 (fun _ => default) (fun _ => g) (fun _ => w) (fun _ => undef) :=
  ⟨rfl, rfl, fun i hi => by omega, fun i hi => by omega, fun i hi => by omega, fun i hi => by omega, fun i j _ hj => by omega⟩
 obtain ⟨O, G, W, V, r, hk⟩ := Xe hpl ops.toList 0 [] _ _ _ _ (fun j => by simp) (by simp) r0 (fun i hi => by omega) h
 simp only [anS, aqU] at r hk
 have st := abQ hok r.op
 have := agA (Q := Q) (n := ops.size) rfl hd hca r st (fun a hra => hQ _ a _ hra hk) ops.size (Array.replicate ops.size false) g a 0 (by simp) hr (by omega)
  (fun j hj hl => by unfold qL at hl; simp [anZ, hj] at hl)
  (fun s => .inr ⟨fun j hj hl => by unfold qL at hl; simp [anZ, hj] at hl, rfl⟩)
  (fun h hh _ => ⟨fun hl => by unfold qL at hl; simp [anZ, hh] at hl, fun hl => by omega⟩)
  (apN (List.length_filter_le _ _) (by simp))
 rw [r.w0] at this
 exact this
theorem Ti {N : Nat} {ops : Array Oper} (h : ops.all (Z1 N) = true) : QF N ops := by
 intro i o ho t ht
 have := apW.1 h o (asP ho)
 unfold Z1 at this
 rw [ht] at this
 exact (arG (x := t) (y := N)) ▸ this
theorem UT {ops : Array Oper} (h : ops.all (DQ P) = true) : Si P ops :=
 fun _ o ho => apW.1 h o (asP ho)
theorem Yx {N : Nat} {f : FuncId} {id : Nat} (hd : QF N ops) (hca : Si P ops)
 {K : Env -> asY -> Prop} {Q : Act -> asY -> Prop} (hQ : ∀ g a w, ON N g a -> K g w -> Q a w) {g : Env} {a : Act} {w0 w : asY} (hr : ON N g a) :
 ∀ (T : HT) (path : List (Nat × Nat)), QW P N ops path T = true →
   (∀ q ∈ path, (Region.schedule true ops (w0.tape w0.drawn (.order f id))).idxOf q.1 <= (Region.schedule true ops (w0.tape w0.drawn (.order f id))).idxOf q.2 /\ q.1 ≠ q.2) →
   XT P f id ops T g w0 w K -> FG P ops Q (Region.schedule true ops (w0.tape w0.drawn (.order f id))) a w := by
 have lin : W5 ops ops.size (Array.replicate ops.size false) (Region.schedule true ops (w0.tape w0.drawn (.order f id))) := by
  unfold Region.schedule
  simp only [Bool.true_or, if_true]
  exact ahL _ _ _
 generalize hL : Region.schedule true ops (w0.tape w0.drawn (.order f id)) = L at lin ⊢
 intro T
 induction T with
 | leaf an pl =>
   intro path hok _ h
   simp only [QW, aoB] at hok
   exact RT _ _ _ _ _ (T8 hok.1 hok.2 hd hca hQ hr h) lin
 | perm π es an pl =>
   intro path hok hpath h
   simp only [QW, aoB] at hok
   obtain ⟨⟨⟨⟨⟨h1, h2⟩, h3⟩, h4⟩, h5⟩, h6⟩ := hok
   have p := agL h2
   have hes : ∀ q ∈ es, L.idxOf q.1 <= L.idxOf q.2 /\ q.1 ≠ q.2 /\ q.1 < ops.size := fun q hq => by
    have := aoY.1 h1 q hq
    simp only [aoB] at this
    have hp := hpath q (afJ this.1)
    exact ⟨hp.1, hp.2, (arG (x := q.1) (y := ops.size)) ▸ this.2⟩
   obtain ⟨k1, k2⟩ := acB (es := es) p hes ops.size (Array.replicate ops.size false) (Array.replicate ops.size false) [] L rfl (by simp) (by simp)
    (fun j hj => by simp [anZ, hj, (p.to j hj).1]) (by simp)
    (fun j hj => by rw [anZ] at hj; by_cases hh : j < ops.size <;> simp [hh] at hj) lin
   have hw := T8 h5 h6 (Ti h3) (UT h4) hQ hr h
   rw [p.size] at hw
   exact YI (es := es) p L k2 a w (RT _ _ _ _ _ hw k1)
 | split x y A B ihA ihB =>
   intro path hok hpath h
   simp only [QW, aoB] at hok
   have hne : x ≠ y := by
    intro e
    have := hok.1.1
    rw [e] at this
    simp at this
   simp only [XT] at h
   unfold Ord ahU at h
   rw [hL] at h
   cases hb : Nat.ble (L.idxOf x) (L.idxOf y) with
   | true =>
     rw [hb] at h
     refine ihA _ hok.1.2 (fun q hq => ?_) h
     rcases apK.1 hq with rfl | hq
     .exact ⟨aqN hb, hne⟩
     .exact hpath q hq
   | false =>
     rw [hb] at h
     refine ihB _ hok.2 (fun q hq => ?_) h
     rcases apK.1 hq with rfl | hq
     .refine ⟨?_, hne.symm⟩
      simp only
      rcases aoE (L.idxOf y) (L.idxOf x) with hh | hh
      .omega
      .have := Nat.ble_eq_true_of_le hh; rw [this] at hb; cases hb
     .exact hpath q hq
end
section
variable {P : Program} {ann : FA}
def sJ : List Oper -> List Nat
 | [] => []
 | o :: r => match o.dst with | some d => d :: sJ r | none => sJ r
def PF : Code -> List Nat
 | .region _ ops _ => sJ ops.toList
 | .seq x y => PF x ++ PF y
 | .cond _ x y => PF x ++ PF y
 | .block _ c => PF c
 | .scope c => PF c
 | .loop c => PF c
 | .rangeFunc .. => [DS]
 | _ => []
def qK (l : List Nat) (g g' : Env) : Prop := ∀ s, s ∉ l -> g' s = g s
theorem qK.refl (l : List Nat) (g : Env) : qK l g g := fun _ _ => rfl
theorem qK.trans {l l1 l2 : List Nat} {a b c : Env} (h : qK l1 a b) (k : qK l2 b c) (h1 : ∀ s, s ∈ l1 -> s ∈ l) (h2 : ∀ s, s ∈ l2 -> s ∈ l) : qK l a c :=
 fun s hs => (k s fun h => hs (h2 s h)).trans (h s fun h => hs (h1 s h))
theorem qK.mono {l l1 : List Nat} {a b : Env} (h : qK l1 a b) (h1 : ∀ s, s ∈ l1 -> s ∈ l) : qK l a b := fun s hs => h s fun hh => hs (h1 s hh)
theorem qK.put {l : List Nat} {a : Env} (d : Option Tmp) (v : asZ) (h : ∀ t, d = some t -> t ∈ l) : qK l a (put a d v) := by
 intro s hs
 cases d with
 | none => rfl
 | some t =>
   rw [Kg, if_neg (fun e => hs (by rw [e]; exact h t rfl))]
theorem Y2 {ops : Array Oper} {K : Env -> asY -> Prop} : ∀ (l : List Oper) (g : Env) (w : asY), Vz P ops l g w K →
 ∃ g' w', K g' w' /\ qK (sJ l) g g' /\ ∀ K' : Env -> asY -> Prop, K' g' w' -> Vz P ops l g w K' := by
 intro l
 induction l with
 | nil => intro g w h; exact ⟨g, w, h, qK.refl _ _, fun _ h => h⟩
 | cons o l ih =>
   intro g w h
   obtain ⟨v, w1, hy, h1⟩ := Li h
   obtain ⟨g', w', hk, ha, hall⟩ := ih _ _ h1
   refine ⟨g', w', hk, ?_, fun K' hk' => hy _ (hall K' hk')⟩
   refine qK.trans (qK.put o.dst v (l := sJ (o :: l)) fun t ht => by simp [sJ, ht]) ha (fun _ h => h) (fun s hs => ?_)
   unfold sJ
   split
   .exact aoC _ hs
   .exact hs
theorem T7 {ops : Array Oper} {K : Env -> asY -> Prop} : ∀ (l : List Oper) (pl : XW) (hist : List Rec) (g : Env) (w : asY), vC P ops l pl hist g w K →
 ∃ g' w', K g' w' /\ qK (sJ l) g g' /\ ∀ K' : Env -> asY -> Prop, K' g' w' -> vC P ops l pl hist g w K' := by
 intro l
 induction l with
 | nil => intro pl hist g w h; unfold vC at h; exact ⟨g, w, h, qK.refl _ _, fun _ h => (by unfold vC; exact h)⟩
 | cons o l ih =>
   intro pl hist g w h
   cases pl with
   | nil => exact h.elim
   | cons p pl =>
     obtain ⟨hv, ks⟩ := p
     obtain ⟨v, w1, hy, h1⟩ := Li h
     have tail : ∀ (w2 : asY) (hist' : List Rec), vC P ops l pl hist' (put g o.dst v) w2 K →
         ∃ g' w', K g' w' /\ qK (sJ (o :: l)) g g' /\ ∀ K' : Env -> asY -> Prop, K' g' w' -> vC P ops l pl hist' (put g o.dst v) w2 K' := by
      intro w2 hist' c2
      obtain ⟨g', w', hk, ha, hall⟩ := ih _ _ _ _ c2
      refine ⟨g', w', hk, ?_, hall⟩
      refine qK.trans (qK.put o.dst v (l := sJ (o :: l)) fun t ht => by simp [sJ, ht]) ha (fun _ h => h) (fun s hs => ?_)
      unfold sJ
      split
      .exact aoC _ hs
      .exact hs
     cases hv with
     | true =>
       cases ks with
       | nil =>
         obtain ⟨g', w', hk, ha, hall⟩ := tail w1 _ h1
         exact ⟨g', w', hk, ha, fun K' hk' => hy _ (hall K' hk')⟩
       | cons k ks =>
         obtain ⟨hc, h1⟩ := h1
         obtain ⟨g', w', hk, ha, hall⟩ := tail w1 _ h1
         exact ⟨g', w', hk, ha, fun K' hk' => hy _ ⟨hc, hall K' hk'⟩⟩
     | false =>
       cases ks with
       | nil =>
         obtain ⟨rfl, h1⟩ := h1
         obtain ⟨g', w', hk, ha, hall⟩ := tail w1 _ h1
         exact ⟨g', w', hk, ha, fun K' hk' => hy _ ⟨rfl, hall K' hk'⟩⟩
       | cons k ks =>
         obtain ⟨rfl, hc, h1⟩ := h1
         obtain ⟨g', w', hk, ha, hall⟩ := tail w1 _ h1
         exact ⟨g', w', hk, ha, fun K' hk' => hy _ ⟨rfl, hc, hall K' hk'⟩⟩
theorem Ja {l : List Oper} {s : Nat} : s ∈ sJ l ↔ ∃ o ∈ l, o.dst = some s := by
 induction l with
 | nil => simp [sJ]
 | cons o l ih =>
   unfold sJ
   cases hd : o.dst with
   | none => simp [ih, hd]
   | some d => simp [ih, hd, eq_comm]
theorem Zj {π : List Nat} {es : List (Nat × Nat)} {l : List Oper} {s : Nat} : ∀ (r : List Nat), s ∈ sJ (Sn π es l r) -> s ∈ sJ l := by
 intro r
 induction r with
 | nil => intro h; simp [Sn, sJ] at h
 | cons i r ih =>
   intro h
   simp only [Sn] at h
   cases ho : l[i]? with
   | none => rw [ho] at h; exact ih h
   | some o =>
     rw [ho] at h
     obtain ⟨o', h1, h2⟩ := Ja.1 h
     rcases apK.1 h1 with rfl | h1
     .exact Ja.2 ⟨o, aqF ho, h2⟩
     .exact ih (Ja.2 ⟨o', h1, h2⟩)
theorem afQ {f : FuncId} {id : Nat} {ops : Array Oper} {K : Env -> asY -> Prop} {g : Env} {w0 : asY} : ∀ (T : HT) (w : asY), XT P f id ops T g w0 w K →
 ∃ g' w', K g' w' /\ qK (sJ ops.toList) g g' /\ ∀ K' : Env -> asY -> Prop, K' g' w' -> XT P f id ops T g w0 w K' := by
 intro T
 induction T with
 | leaf an pl => intro w h; exact T7 _ _ _ _ _ h
 | perm π es an pl =>
   intro w h
   obtain ⟨g', w', a, b, c⟩ := T7 _ _ _ _ _ h
   exact ⟨g', w', a, b.mono (fun s hs => Zj π (by simpa [tE] using hs)), c⟩
 | split x y A B ihA ihB =>
   intro w h
   simp only [XT, Ord] at h ⊢
   cases hb : ahU f id ops x y w0 with
   | true => rw [hb] at h; exact ihA w h
   | false => rw [hb] at h; exact ihB w h
theorem kE.head {α : Type} {F : (α -> asY -> Prop) -> α -> asY -> Prop} (hmono : ∀ X Y g w, (∀ g w, X g w -> Y g w) -> F X g w -> F Y g w)
 {g : α} {w : asY} (h : F (fun g' w' => kE F g' w') g w) (hdet : ∃ g' w', kE F g' w' /\ ∀ X : α -> asY -> Prop, X g' w' -> F X g w) : kE F g w := by
 obtain ⟨g1, w1, ⟨I, ⟨n1, h1⟩, hI⟩, hF⟩ := hdet
 refine ⟨fun n g' w' => I n g' w' ∨ (n = n1 + 1 /\ g' = g /\ w' = w), ⟨n1 + 1, .inr ⟨rfl, rfl, rfl⟩⟩, ?_⟩
 rintro n g' w' (h | ⟨rfl, rfl, rfl⟩)
 .exact hmono _ _ _ _ (fun _ _ ⟨m, hm, hh⟩ => ⟨m, hm, .inl hh⟩) (hI _ _ _ h)
 .exact hF _ ⟨n1, by omega, .inl h1⟩
theorem aiS {f : FuncId} {gf : Operand} {ps : Array Tmp} {anL bd : Code} {Q : Exit -> Env -> asY -> Prop} {g : Env} {w : asY} (h : RF P f gf ps anL bd Q g w) :
 ∃ e g' w', Q e g' w' /\ qK [DS] g g' /\ ∀ Q' : Exit -> Env -> asY -> Prop, Q' e g' w' -> RF P f gf ps anL bd Q' g w := by
 unfold RF at h ⊢
 cases hn : noMark (g DS) with
 | false => rw [hn] at h; exact h.elim
 | true =>
   rw [hn] at h
   simp only at h ⊢
   generalize (CZ (ev g gf) [Is (w.heap.size + 1)]).run P (rfW f (Tb P f) ps anL bd g w) = r at *
   match r, h with
   | .ok (.enter f2 args) w1, h =>
     obtain ⟨v, w3, hret, r, h1, h2, h3⟩ := h
     have ha : qK [DS] g (put g (some DS) (.pointer (some ⟨w.heap.size, 0, none⟩))) := qK.put _ _ (fun t ht => by cases ht; simp)
     cases hp : r.pending with
     | none =>
       rw [hp] at h3
       exact ⟨.normal, _, _, h3, ha, fun Q' h => ⟨v, w3, hret, r, h1, h2, by rw [hp]; exact h⟩⟩
     | some c =>
       rw [hp] at h3
       cases c <;> first
        | exact h3.elim
        | exact ⟨.ret, _, _, h3, ha, fun Q' h => ⟨v, w3, hret, r, h1, h2, by rw [hp]; exact h⟩⟩
        | exact ⟨.exit _, _, _, h3, ha, fun Q' h => ⟨v, w3, hret, r, h1, h2, by rw [hp]; exact h⟩⟩
theorem UE : ∀ (c : Code) (Q : Exit -> Env -> asY -> Prop) (g : Env) (w : asY), jK P ann c Q g w →
 ∃ e g' w', Q e g' w' /\ qK (PF c) g g' /\ ∀ Q' : Exit -> Env -> asY -> Prop, Q' e g' w' -> jK P ann c Q' g w := by
 intro c
 induction c with
 | skip => intro Q g w h; exact ⟨_, _, _, h, qK.refl _ _, fun _ h => h⟩
 | region id ops draw =>
   intro Q g w h
   cases draw with
   | false =>
     obtain ⟨g', w', a, b, c⟩ := Y2 _ _ _ h
     exact ⟨.normal, g', w', a, b, fun Q' h => c _ h⟩
   | true =>
     obtain ⟨g', w', a, b, c⟩ := afQ _ _ h
     exact ⟨.normal, g', w', a, b, fun Q' h => c _ h⟩
 | seq x y ihx ihy =>
   intro Q g w h
   obtain ⟨e, g1, w1, a, b, c⟩ := ihx _ _ _ h
   cases e with
   | normal =>
     obtain ⟨e2, g2, w2, a2, b2, c2⟩ := ihy _ _ _ a
     exact ⟨e2, g2, w2, a2, b.trans b2 (fun s h => aqS _ h) (fun s h => arM _ h), fun Q' h => c _ (c2 _ h)⟩
   | _ => exact ⟨_, g1, w1, a, b.mono (fun s h => aqS _ h), fun Q' h => c _ h⟩
 | cond c x y ihx ihy =>
   intro Q g w h
   simp only [jK] at h ⊢
   unfold nG at h ⊢
   cases hc : ev g c with
   | bool b =>
     rw [hc] at h
     cases b with
     | true =>
       obtain ⟨e, g', w', a, b, c⟩ := ihx _ _ _ h
       exact ⟨e, g', w', a, b.mono (fun s h => aqS _ h), c⟩
     | false =>
       obtain ⟨e, g', w', a, b, c⟩ := ihy _ _ _ h
       exact ⟨e, g', w', a, b.mono (fun s h => arM _ h), c⟩
   | _ => rw [hc] at h; exact h.elim
 | block id c ih =>
   intro Q g w h
   obtain ⟨e, g', w', a, b, c⟩ := ih _ _ _ h
   cases e with
   | exit i =>
     simp only [blk] at a
     cases hb : Nat.beq i id with
     | true =>
       simp only [hb] at a
       refine ⟨.normal, g', w', a, b, fun Q' h => c _ ?_⟩
       simp only [blk, hb]; exact h
     | false =>
       simp only [hb] at a
       refine ⟨.exit i, g', w', a, b, fun Q' h => c _ ?_⟩
       simp only [blk, hb]; exact h
   | _ => exact ⟨_, g', w', a, b, fun Q' h => c _ h⟩
 | loop c ih =>
   intro Q g w h
   have hmono : ∀ (Q : Exit -> Env -> asY -> Prop) (X Y : Env -> asY -> Prop) g w, (∀ g w, X g w -> Y g w) -> jK P ann c (Dd X Q) g w -> jK P ann c (Dd Y Q) g w := by
    intro Q X Y g w hxy h
    obtain ⟨e, g', w', a, _, k⟩ := ih _ _ _ h
    refine k _ ?_
    cases e with
    | normal => exact hxy _ _ a
    | _ => exact a
   obtain ⟨I, ⟨n, h0⟩, hI⟩ := h
   have key : ∀ n g w, I n g w -> ∃ e g' w', Q e g' w' /\ qK (PF c) g g' /\ ∀ Q' : Exit -> Env -> asY -> Prop, Q' e g' w' -> kE (fun X g w => jK P ann c (Dd X Q') g w) g w := by
    intro n
    induction n using Nat.strongRecOn with
    | _ n ih2 =>
      intro g w hg
      obtain ⟨e, g1, w1, a, b, k⟩ := ih _ _ _ (hI n g w hg)
      have once : ∀ (Q' : Exit -> Env -> asY -> Prop), (∀ X : Env -> asY -> Prop, jK P ann c (Dd X Q') g w) -> kE (fun X g w => jK P ann c (Dd X Q') g w) g w := by
       intro Q' h
       refine ⟨fun n g' w' => g' = g /\ w' = w, ⟨0, rfl, rfl⟩, ?_⟩
       rintro _ g' w' ⟨rfl, rfl⟩
       exact h _
      cases e with
      | normal =>
        obtain ⟨m, hm, hIm⟩ := a
        obtain ⟨e2, g2, w2, a2, b2, k2⟩ := ih2 m hm g1 w1 hIm
        refine ⟨e2, g2, w2, a2, b.trans b2 (fun _ h => h) (fun _ h => h), fun Q' h => ?_⟩
        have hl := k2 Q' h
        exact kE.head (hmono Q') (k _ hl) ⟨g1, w1, hl, fun X hx => k _ hx⟩
      | _ => exact ⟨_, g1, w1, a, b, fun Q' h => once Q' fun X => k _ h⟩
   exact key n g w h0
 | exit id => intro Q g w h; exact ⟨_, _, _, h, qK.refl _ _, fun _ h => h⟩
 | label l => intro Q g w h; exact ⟨_, _, _, h, qK.refl _ _, fun _ h => h⟩
 | scope c ih => intro Q g w h; exact ih Q g w h
 | ret => intro Q g w h; exact ⟨_, _, _, h, qK.refl _ _, fun _ h => h⟩
 | rangeFunc gf ps anL bd => intro Q g w h; exact aiS h
 | _ => intro Q g w h; exact h.elim
theorem Gh {c : Code} {Q Q' : Exit -> Env -> asY -> Prop} {g : Env} {w : asY} (h : jK P ann c Q g w)
 (hq : ∀ e g' w', qK (PF c) g g' -> Q e g' w' -> Q' e g' w') : jK P ann c Q' g w :=
 let ⟨_, _, _, a, b, k⟩ := UE c Q g w h
 k _ (hq _ _ _ b a)
def noG (Q : Exit -> Env -> asY -> Prop) : Exit -> Env -> asY -> Prop
 | .goto _, _, _ => False
 | e, g, w => Q e g w
theorem Y7 : ∀ (c : Code) (Q : Exit -> Env -> asY -> Prop) (g : Env) (w : asY), jK P ann c Q g w -> jK P ann c (noG Q) g w := by
 intro c
 induction c with
 | skip => intro Q g w h; exact h
 | region id ops draw => intro Q g w h; cases draw <;> exact h
 | seq x y ihx ihy =>
   intro Q g w h
   show jK P ann x (Dd (fun g w => jK P ann y (noG Q) g w) (noG Q)) g w
   refine Gh (ihx _ _ _ h) (fun e g' w' _ hq => ?_)
   cases e with
   | normal => exact ihy _ _ _ hq
   | goto l => exact hq.elim
   | _ => exact hq
 | cond c x y ihx ihy =>
   intro Q g w h
   simp only [jK] at h ⊢
   unfold nG at h ⊢
   cases hc : ev g c with
   | bool b =>
     rw [hc] at h
     cases b with
     | true => exact ihx _ _ _ h
     | false => exact ihy _ _ _ h
   | _ => rw [hc] at h; exact h.elim
 | block id c ih =>
   intro Q g w h
   show jK P ann c (blk id (noG Q)) g w
   refine Gh (ih _ _ _ h) (fun e g' w' _ hq => ?_)
   cases e with
   | exit i =>
     simp only [noG, blk] at hq ⊢
     cases hb : Nat.beq i id with
     | true => rw [hb] at hq; exact hq
     | false => rw [hb] at hq; exact hq
   | goto l => exact hq.elim
   | _ => exact hq
 | loop c ih =>
   intro Q g w h
   obtain ⟨I, h0, hI⟩ := h
   refine ⟨I, h0, fun n g w hi => ?_⟩
   refine Gh (ih _ _ _ (hI n g w hi)) (fun e g' w' _ hq => ?_)
   cases e with
   | normal => exact hq
   | goto l => exact hq.elim
   | _ => exact hq
 | exit id => intro Q g w h; exact h
 | label l => intro Q g w h; exact h
 | scope c ih => intro Q g w h; exact ih Q g w h
 | ret => intro Q g w h; exact h
 | rangeFunc gf ps anL bd =>
   intro Q g w h
   have h : RF P ann.f gf ps anL bd Q g w := h
   show RF P ann.f gf ps anL bd (noG Q) g w
   unfold RF at h ⊢
   cases hn : noMark (g DS) with
   | false => rw [hn] at h; exact h.elim
   | true =>
     rw [hn] at h
     simp only at h ⊢
     generalize (CZ (ev g gf) [Is (w.heap.size + 1)]).run P (rfW ann.f (Tb P ann.f) ps anL bd g w) = r at *
     match r, h with
     | .ok (.enter f2 args) w1, h =>
       obtain ⟨v, w3, hret, r, h1, h2, h3⟩ := h
       refine ⟨v, w3, hret, r, h1, h2, ?_⟩
       cases hp : r.pending with
       | none => rw [hp] at h3; exact h3
       | some c => rw [hp] at h3; cases c <;> exact h3
 | _ => intro Q g w h; exact h.elim
theorem U3 {N : Nat} {g : Env} {a : Act} (h : ON N g a) : a.tmps = tmpsOf N g := by
 refine Array.ext (by simp [tmpsOf, h.size]) fun i h1 h2 => ?_
 have hi : i < N := by rw [<- h.size]; exact h1
 have := h.at_ i (Nat.ne_of_lt (aqW hi h.le))
 rw [anZ, aoH h1] at this
 simp [tmpsOf] at this ⊢
 exact this
theorem adH {v : asZ} (h : noMark v = true) : Yj v = [] := by cases v <;> first | rfl | cases h
theorem Ts {N : Nat} (hm : P.follows .mixedOrders = true) {ro : Option Nat} (hN : Tb P ann.f = N) : ∀ (c : Code), codeOk P N ann c = true -> ro = none ∨ vT c = true →
 ∀ (Q : Exit -> Env -> asY -> Prop) (QA : Exit -> Act -> asY -> Prop) (g : Env) (a : Act) (w : asY), ON N g a →
   (∀ e g a w, ON N g a -> Q e g w -> QA e a w) -> jK P ann c Q g w -> Vy P ann.f ro c QA a w := by
 intro c
 induction c with
 | skip => intro _ _ Q QA g a w hr hq h; exact aeH (hq _ _ _ _ hr h)
 | region id ops draw =>
   intro hok _ Q QA g a w hr hq h
   simp only [codeOk, aoB, aqB, aqH] at hok
   have hd := Ti hok.1.1
   have hca := UT hok.1.2
   cases draw with
   | false =>
     refine Zk ?_
     have := aaY hd hca (P := P) (Q := QA .normal) (K := Q .normal) (fun g a w => hq .normal g a w) ops.toList 0 g a w (fun j => by simp) hr h
     rw [List.range_eq_range']
     simpa using this
   | true =>
     rcases hok.2 with h1 | h1
     .cases h1
     .exact Us hm (Yx hd hca (fun g a w => hq .normal g a w) hr _ [] h1 (by simp) h)
 | seq x y ihx ihy =>
   intro hok hfl Q QA g a w hr hq h
   simp only [codeOk, aoB] at hok
   have hfx : ro = none ∨ vT x = true := hfl.imp id fun h => by simp only [vT, aoB] at h; exact h.1
   have hfy : ro = none ∨ vT y = true := hfl.imp id fun h => by simp only [vT, aoB] at h; exact h.2
   refine agW (ihx hok.1 hfx _ _ g a w hr (fun e g a w hr h => ?_) h)
   cases e with
   | normal => exact ihy hok.2 hfy _ _ g a w hr hq h
   | _ => exact hq _ _ _ _ hr h
 | cond c x y ihx ihy =>
   intro hok hfl Q QA g a w hr hq h
   simp only [codeOk, aoB] at hok
   have hfx : ro = none ∨ vT x = true := hfl.imp id fun h => by simp only [vT, aoB] at h; exact h.1
   have hfy : ro = none ∨ vT y = true := hfl.imp id fun h => by simp only [vT, aoB] at h; exact h.2
   simp only [jK] at h
   unfold nG at h
   have he := hr.ev c hok.1
   cases hc : ev g c with
   | bool b =>
     rw [hc] at h he
     refine aeW he ?_
     cases b with
     | true => exact ihx hok.2.1 hfx _ _ g a w hr hq h
     | false => exact ihy hok.2.2 hfy _ _ g a w hr hq h
   | _ => rw [hc] at h; exact h.elim
 | block id c ih =>
   intro hok hfl Q QA g a w hr hq h
   refine Z9 (ih hok hfl _ _ g a w hr (fun e g a w hr h => ?_) h)
   cases e with
   | exit i =>
     unfold Exit.inBlock
     simp only [blk] at h
     by_cases hi : i = id
     .subst hi
      simp only [if_true]
      simp only [Nat.beq_refl] at h
      exact hq _ _ _ _ hr h
     .simp only [hi, if_false]
      have : Nat.beq i id = false := by
       cases hb : Nat.beq i id
       .rfl
       .exact absurd (aoR hb) hi
      simp only [this] at h
      exact hq _ _ _ _ hr h
   | _ => exact hq _ _ _ _ hr h
 | loop c ih =>
   intro hok hfl Q QA g a w hr hq h
   obtain ⟨I, h0, hround⟩ := h
   have hex : ∀ a w, (∃ n g, ON N g a /\ I n g w) -> ∃ n, (∃ g, ON N g a /\ I n g w) /\ ∀ m, (∃ g, ON N g a /\ I m g w) -> n <= m := by
    rintro a w ⟨n, hn⟩
    induction n using Nat.strongRecOn with
    | _ n ih2 =>
      by_cases hx : ∃ m, m < n /\ ∃ g, ON N g a /\ I m g w
      .obtain ⟨m, hm, h⟩ := hx; exact ih2 m hm h
      .exact ⟨n, hn, fun m hm => Nat.le_of_not_lt fun hlt => hx ⟨m, hlt, hm⟩⟩
   have hdec : ∀ a w, Decidable (∃ n g, ON N g a /\ I n g w) := fun a w => Classical.propDecidable _
   let μ : Act -> asY -> Nat := fun a w => if hh : ∃ n g, ON N g a /\ I n g w then Classical.choose (hex a w hh) else 0
   have hμ : ∀ a w n g, ON N g a -> I n g w -> μ a w <= n /\ ∃ g, ON N g a /\ I (μ a w) g w := by
    intro a w n g hr hI
    have hh : ∃ n g, ON N g a /\ I n g w := ⟨n, g, hr, hI⟩
    have e : μ a w = Classical.choose (hex a w hh) := dif_pos hh
    have s := Classical.choose_spec (hex a w hh)
    rw [e]
    exact ⟨s.2 n ⟨g, hr, hI⟩, s.1⟩
   obtain ⟨n0, h0⟩ := h0
   refine acS (fun a w => ∃ n g, ON N g a /\ I n g w) μ ⟨n0, g, hr, h0⟩ ?_
   rintro a w ⟨n, g, hr, hI⟩
   obtain ⟨_, g', hr', hI'⟩ := hμ a w n g hr hI
   refine ih hok hfl _ _ g' a w hr' (fun e g1 a1 w1 hr1 h => ?_) (hround _ _ _ hI')
   cases e with
   | normal =>
     obtain ⟨m, hm, hIm⟩ := h
     have := hμ a1 w1 m g1 hr1 hIm
     exact ⟨⟨m, g1, hr1, hIm⟩, by omega⟩
   | _ => exact hq _ _ _ _ hr1 h
 | label l => intro _ _ Q QA g a w hr hq h; exact abY (hq _ _ _ _ hr h)
 | scope c ih =>
   intro hok hfl Q QA g a w hr hq h
   refine aaV (ih hok hfl (noG Q) _ g a w hr (fun e g a w hr h => ?_) (Y7 c _ g w h))
   cases e with
   | goto l => exact h.elim
   | _ => exact hq _ _ _ _ hr h
 | exit id => intro _ _ Q QA g a w hr hq h; exact XM (hq _ _ _ _ hr h)
 | ret => intro _ _ Q QA g a w hr hq h; exact ZP (hq _ _ _ _ hr h)
 | rangeFunc gf ps anL bd =>
   intro hok hfl Q QA g a w hr hq h
   have hro : ro = none := hfl.resolve_right (by simp [vT])
   subst hro
   have hok : V3 gf = true := hok
   have h : RF P ann.f gf ps anL bd Q g w := h
   unfold RF at h
   cases hn : noMark (g DS) with
   | false => rw [hn] at h; exact h.elim
   | true =>
     rw [hn] at h
     simp only [hN] at h
     have ed : a.defers = [] := by rw [hr.defers, adH hn]
     have er := run_enterLoop_outer (P := P) (w := w) ann.f a.tmps ps anL bd
     rw [U3 hr] at er
     have er : (Instr.enterLoop ann.f a.tmps ps anL bd none).run P w = .ok (w.heap.size + 1, [{ target := .collected w.heap.size, args := #[] }]) (rfW ann.f N ps anL bd g w) := by rw [U3 hr]; exact er
     generalize rfW ann.f N ps anL bd g w = w1 at *
     have ee := hr.ev gf hok
     unfold CZ at h
     have hres : resolve a.eval (rangeCall gf (w.heap.size + 1)) 0 = Deferred.ofValue (ev g gf) #[Is (w.heap.size + 1)] := by
      have : resolve a.eval (rangeCall gf (w.heap.size + 1)) 0 = Deferred.ofValue (a.eval gf) #[Is (w.heap.size + 1)] := by
       simp only [resolve, List.map_toArray, aoT, asV]; rfl
      rw [this, ee]
     rw [show ([Is (w.heap.size + 1)] : List asZ).toArray = #[Is (w.heap.size + 1)] from rfl, <- hres, Sem.run_bind] at h
     cases hv : (resolve a.eval (rangeCall gf (w.heap.size + 1)) 0).run P w1 with
     | halt x wx => rw [hv] at h; exact h.elim
     | ok d wx =>
       have hwx : wx = w1 := by
        rw [hres] at hv
        unfold Deferred.ofValue at hv
        split at hv <;> first | (simp only [Sem.run_pure] at hv; cases hv; rfl) | (simp [stuck] at hv)
       subst hwx
       rw [hv] at h
       simp only [Result.andThen] at h
       cases hi : (invoke d.target d.args).run P wx with
       | halt x w2 => rw [hi] at h; exact h.elim
       | ok nx w2 =>
         rw [hi] at h
         cases nx <;> try (exact h.elim)
         obtain ⟨v, w3, hret, r, h1, h2, h3⟩ := h
         have hrel : ∀ w, ON N (put g (some DS) (.pointer (some ⟨w, 0, none⟩))) { a with defers := [{ target := .collected w, args := #[] }] ++ a.defers } := fun w => by
          refine ⟨hr.le, ?_, hr.size, fun i hi => ?_⟩
          .rw [Kg, if_pos rfl, ed] <;> rfl
          .rw [Kg, if_neg hi]; exact hr.at_ i hi
         have key : ∀ (j : Option Code) (w5 : asY), ajM Q (put g (some DS) (.pointer (some ⟨w.heap.size, 0, none⟩))) j w5 →
             aiC P ann.f QA { a with defers := [{ target := .collected w.heap.size, args := #[] }] ++ a.defers } w5 j := by
          intro j w5 h
          cases j with
          | none => exact hq _ _ _ _ (hrel _) h
          | some c =>
            cases c <;> first
             | exact h.elim
             | exact ZP (hq _ _ _ _ (hrel _) h)
             | exact XM (hq _ _ _ _ (hrel _) h)
         exact abI er hv hi hret (run_endLoop h1 h2) (key _ _ h3)
 | _ => intro hok; simp [codeOk] at hok
def tO (P : Program) : List ResultVar -> Env -> asY -> (List asZ -> Prop) -> Prop
 | [], _, _, K => K []
 | .tmp t :: r, g, w, K => tO P r g w fun vs => K (g t :: vs)
 | .cell a t :: r, g, w, K => ∃ v, (do loadVar t (<- asAddr (g a)) : Sem asZ).run P w = .ok v w /\ tO P r g w fun vs => K (v :: vs)
def VG : List asZ -> asZ
 | [v] => v
 | vs => .tuple vs.toArray
def alD (P : Program) (rs : List ResultVar) (R : asZ -> asY -> Prop) : Exit -> Env -> asY -> Prop
 | .normal, g, w => tO P rs g w fun vs => R (VG vs) w
 | .ret, g, w => tO P rs g w fun vs => R (VG vs) w
 | _, _, _ => False
theorem Xj {N : Nat} {g : Env} {a : Act} {w : asY} (hr : ON N g a) : ∀ (rs : List ResultVar), rs.all Wu = true -> ∀ (K : List asZ -> Prop), tO P rs g w K →
 ∃ vs, K vs /\ (rs.mapM fun | .tmp t => pure (a.tmps.getD t undef) | .cell b t => do loadVar t (<- asAddr (a.tmps.getD b undef)) : Sem (List asZ)).run P w = .ok vs w := by
 have ne : ∀ t : Nat, Nat.blt t DS = true -> a.tmps.getD t undef = g t := fun t h => hr.at_ t (Nat.ne_of_lt ((arG (x := t) (y := DS)) ▸ h))
 intro rs
 induction rs with
 | nil => intro _ K h; exact ⟨[], h, by simp⟩
 | cons r rs ih =>
   intro hok K h
   simp only [List.all_cons, aoB] at hok
   cases r with
   | tmp t =>
     obtain ⟨vs, h1, h2⟩ := ih hok.2 _ h
     refine ⟨_, h1, ?_⟩
     rw [List.mapM_cons]
     rw [pure_bind, Sem.run_bind]
     simp only [h2, Result.andThen, Sem.run_pure, ne t hok.1]
   | cell b t =>
     obtain ⟨v, hv, h⟩ := h
     obtain ⟨vs, h1, h2⟩ := ih hok.2 _ h
     refine ⟨_, h1, ?_⟩
     rw [List.mapM_cons]
     rw [<- ne b hok.1] at hv
     rw [Sem.run_bind]
     simp only [hv, Result.andThen]
     rw [Sem.run_bind]
     simp only [h2, Result.andThen]
     rfl
theorem ajO (vs : Array asZ) : (if h : vs.size = 1 then vs[0] else Value.tuple vs) = VG vs.toList := by
 obtain ⟨l⟩ := vs
 match l with
 | [] => rfl
 | [v] => rfl
 | a :: b :: r => simp [VG]
theorem XF {N : Nat} {g : Env} {a : Act} {w : asY} (fn : Func) {rs : List ResultVar} (hok : rs.all Wu = true) (hrs : fn.results = rs.toArray) (hr : ON N g a) {R : asZ -> asY -> Prop}
 (h : tO P rs g w fun vs => R (VG vs) w) : ∃ v, (results fn a.tmps).run P w = .ok v w /\ R v w := by
 obtain ⟨vs, h1, h2⟩ := Xj hr rs hok _ h
 refine ⟨VG vs, ?_, h1⟩
 unfold results
 rw [hrs, Array.mapM_eq_mapM_toList, List.toList_toArray]
 simp only [bind_assoc, map_eq_pure_bind]
 rw [Sem.run_bind]
 refine Eq.trans (congrArg (fun r => Result.andThen r _) h2) ?_
 simp only [Result.andThen]
 simp only [pure_bind, Sem.run_pure, ajO]
def TW (args : List asZ) : Env := fun i => args.getD i undef
def ajS (P : Program) (rs : List ResultVar) (R : asZ -> asY -> Prop) : Exit -> Env -> asY -> Prop
 | .normal, g, w => EE (g DS) w fun w => tO P rs g w fun vs => R (VG vs) w
 | .ret, g, w => EE (g DS) w fun w => tO P rs g w fun vs => R (VG vs) w
 | _, _, _ => False
theorem Yb {g : Env} {w : asY} : ∀ (rs : List ResultVar) (K : List asZ -> Prop), tO P rs g w K -> ∃ vs, K vs /\ ∀ K' : List asZ -> Prop, K' vs -> tO P rs g w K' := by
 intro rs
 induction rs with
 | nil => intro K h; exact ⟨_, h, fun _ h => h⟩
 | cons r rs ih =>
   intro K h
   cases r with
   | tmp t =>
     obtain ⟨vs, a, b⟩ := ih _ h
     exact ⟨_, a, fun K' h => b _ h⟩
   | cell b t =>
     obtain ⟨v, hv, h⟩ := h
     obtain ⟨vs, a, b⟩ := ih _ h
     exact ⟨_, a, fun K' h => ⟨v, hv, b _ h⟩⟩
theorem Wq {v : asZ} {w : asY} {K : asY -> Prop} (h : EE v w K) : ∃ w', K w' /\ ∀ K' : asY -> Prop, K' w' -> EE v w K' := by
 cases v with
 | pointer p =>
   cases p with
   | none => exact ⟨_, h, fun _ h => h⟩
   | some a => exact ⟨_, h.2, fun _ h' => ⟨h.1, h'⟩⟩
 | _ => exact ⟨_, h, fun _ h => h⟩
theorem Yu {v : asZ} {w : asY} {K K' : asY -> Prop} (h : EE v w K) (hk : ∀ w, K w -> K' w) : EE v w K' :=
 let ⟨w', a, b⟩ := Wq h; b _ (hk w' a)
theorem Xy {args : List asZ} {N i : Nat} (hle : args.length <= N) (hi : N <= i) : TW args i = undef := by
 unfold TW
 rw [anY, aoD (by omega)] <;> rfl
theorem Sk {f : FuncId} {fn : Func} {c : Code} {args : List asZ} {w : asY} {rs : List ResultVar} {R : asZ -> asY -> Prop} (hm : P.follows .mixedOrders = true) (hAf : ann.f = f)
 (hf : P.funcs[f]? = some fn) (hb : fn.body = some c) (hrs : fn.results = rs.toArray) {N : Nat} (hN : fn.ntmps = N) (hle : args.length <= N)
 (hok : codeOk P N ann c = true) (hro : rs.all Wu = true) (hND : Nat.ble N DS = true) (h : jK P ann c (ajS P rs R) (TW args) w) : jD P f args.toArray w R := by
 obtain ⟨e, g', w', hq, _, hall⟩ := UE _ _ _ _ h
 have hND := aqN hND
 have hNt : Tb P ann.f = N := by unfold Tb; rw [hAf, hf]; exact hN
 have hrv : EE (g' DS) w' fun w => tO P rs g' w fun vs => R (VG vs) w := by cases e <;> first | exact hq | exact hq.elim
 obtain ⟨w2, hrv2, hsh⟩ := Wq hrv
 obtain ⟨vs, hv, hrest⟩ := Yb _ _ hrv2
 refine ⟨VG vs, w2, ?_, hv⟩
 have hrel : ON N (TW args) { tmps := args.toArray ++ Array.replicate (fn.ntmps - args.toArray.size) undef, defers := [] } := by
  refine ⟨hND, by rw [Xy hle hND] <;> rfl, by simp [hN]; omega, fun i _ => ?_⟩
  simp only [TW, anZ, anY]
  by_cases hi : i < args.length
  .simp [Array.getElem?_append, hi]
  .simp only [Array.getElem?_append, List.size_toArray, hi, if_false, Array.getElem?_replicate]
   rw [aoD (by omega)]
   split <;> rfl
 have key := Xa (P := P) (f := f) hf hb (R := fun v3 w3 => v3 = VG vs /\ w3 = w2) (args := args.toArray) (w := w)
  (hAf ▸ Ts hm hNt c hok (.inl rfl) (ajS P rs fun v3 w3 => v3 = VG vs /\ w3 = w2) _ _ _ _ hrel (fun e g a w hr h => ?_) (hall _ ?_))
 .refine Calls.mono key ?_
  rintro e w3 ⟨v, rfl, rfl, rfl⟩
  exact ⟨rfl, rfl⟩
 .have hx : ∀ {w}, (EE (g DS) w fun w => tO P rs g w fun vs' => VG vs' = VG vs /\ w = w2) -> ∃ m, a.defers = Yj m /\ EE m w fun w' => ∃ v, (results fn a.tmps).run P w' = .ok v w' /\ (v = VG vs /\ w' = w2) := by
   intro w h
   exact ⟨_, hr.defers, Yu h fun w h => XF fn hro hrs hr (R := fun v3 w3 => v3 = VG vs /\ w3 = w2) h⟩
  cases e with
  | normal => exact hx h
  | ret => exact hx h
  | _ => exact h.elim
 .have := hsh (fun w => tO P rs g' w fun vs' => VG vs' = VG vs /\ w = w2) (hrest _ ⟨rfl, rfl⟩)
  cases e <;> first | exact this | exact hq.elim
theorem ahM {N : Nat} : ∀ (c : Code), codeOk P N ann c = true -> vT c = true -> ∀ s ∈ PF c, s < N := by
 intro c
 induction c with
 | region id ops draw =>
   intro hok _ s hs
   simp only [codeOk, aoB] at hok
   obtain ⟨o, h1, h2⟩ := Ja.1 hs
   obtain ⟨i, hi, rfl⟩ := apQ h1
   exact Ti hok.1.1 i _ (by simp at hi ⊢) s h2
 | seq x y ihx ihy =>
   intro hok hfl s hs
   simp only [codeOk, vT, aoB] at hok hfl
   rcases apV.1 hs with hs | hs
   .exact ihx hok.1 hfl.1 s hs
   .exact ihy hok.2 hfl.2 s hs
 | cond c x y ihx ihy =>
   intro hok hfl s hs
   simp only [codeOk, vT, aoB] at hok hfl
   rcases apV.1 hs with hs | hs
   .exact ihx hok.2.1 hfl.1 s hs
   .exact ihy hok.2.2 hfl.2 s hs
 | block id c ih => intro hok hfl s hs; exact ih hok hfl s hs
 | loop c ih => intro hok hfl s hs; exact ih hok hfl s hs
 | scope c ih => intro hok hfl s hs; exact ih hok hfl s hs
 | rangeFunc => intro _ hfl; simp [vT] at hfl
 | _ => intro _ _ s hs; simp [PF] at hs
theorem Yh {f : FuncId} {fn : Func} {c : Code} {args : List asZ} {w : asY} {rs : List ResultVar} {R : asZ -> asY -> Prop} (hm : P.follows .mixedOrders = true) (hAf : ann.f = f)
 (hf : P.funcs[f]? = some fn) (hb : fn.body = some c) (hrs : fn.results = rs.toArray) {N : Nat} (hN : fn.ntmps = N) (hle : args.length <= N)
 (hok : codeOk P N ann c = true) (hro : rs.all Wu = true) (hND : Nat.ble N DS = true) (hfl : vT c = true) (h : jK P ann c (alD P rs R) (TW args) w) : jD P f args.toArray w R := by
 refine Sk hm hAf hf hb hrs hN hle hok hro hND (Gh h fun e g' w' ha hq => ?_)
 have hND := aqN hND
 have : g' DS = undef := by
  rw [ha DS (fun hd => absurd (ahM c hok hfl DS hd) (Nat.not_lt.2 hND)), Xy hle hND]
 cases e with
 | normal => show EE (g' DS) w' (fun w => tO P rs g' w fun vs => R (VG vs) w); rw [this]; exact hq
 | ret => show EE (g' DS) w' (fun w => tO P rs g' w fun vs => R (VG vs) w); rw [this]; exact hq
 | _ => exact hq.elim
def MZ (tmps : Array asZ) : Env := fun i => tmps.getD i undef
def WZ (l : Nat) (R : asZ -> asY -> Prop) : Exit -> Env -> asY -> Prop
 | .normal, _, w => ∃ r : Loop, w.heap[l]? = some (.loop r) /\ R (.bool true) (w.putObj l (.loop { r with state := .ready, pending := none }))
 | .ret, _, w => ∃ r : Loop, w.heap[l]? = some (.loop r) /\ R (.bool false) (w.putObj l (.loop { r with state := .done, pending := some .ret }))
 | .exit i, _, w => ∃ r : Loop, w.heap[l]? = some (.loop r) /\ R (.bool false) (w.putObj l (.loop { r with state := .done, pending := some (.exit i) }))
 | _, _, _ => False
def asQ (P : Program) (ann : FA) (l : Nat) (bd : Code) (R : asZ -> asY -> Prop) : Exit -> Env -> asY -> Prop
 | .normal, g, w => ∃ r : Loop, w.heap[l]? = some (.loop r) /\ r.state = .ready /\ jK P ann bd (WZ l R) g (w.putObj l (.loop { r with state := .busy }))
 | _, _, _ => False
theorem WS {f : FuncId} {l : Nat} {tmps : Array asZ} {anL bd : Code} {w : asY} {R : asZ -> asY -> Prop} (hm : P.follows .mixedOrders = true) (hAf : ann.f = f) {N : Nat} (hN : Tb P f = N) (hND : Nat.ble N DS = true)
 (hsz : tmps.size = N) (hok1 : codeOk P N ann anL = true) (hf1 : vT anL = true) (hok2 : codeOk P N ann bd = true) (hf2 : vT bd = true)
 (h : jK P ann anL (asQ P ann l bd R) (MZ tmps) w) : Wv P l f tmps anL bd w R := by
 subst hAf
 have hND := aqN hND
 obtain ⟨e, g1, w1, hq, ha, hall⟩ := UE _ _ _ _ h
 cases e with
 | normal =>
   obtain ⟨r, h1, h2, hd⟩ := hq
   obtain ⟨e2, g2, w2, hq2, ha2, hall2⟩ := UE _ _ _ _ hd
   have hx : ∃ v w4, R v w4 /\ ∀ R' : asZ -> asY -> Prop, R' v w4 -> WZ l R' e2 g2 w2 := by
    cases e2 with
    | normal => obtain ⟨r2, k1, k2⟩ := hq2; exact ⟨_, _, k2, fun R' h => ⟨r2, k1, h⟩⟩
    | ret => obtain ⟨r2, k1, k2⟩ := hq2; exact ⟨_, _, k2, fun R' h => ⟨r2, k1, h⟩⟩
    | exit i => obtain ⟨r2, k1, k2⟩ := hq2; exact ⟨_, _, k2, fun R' h => ⟨r2, k1, h⟩⟩
    | _ => exact hq2.elim
   obtain ⟨v, w4, hR, hrest⟩ := hx
   refine ⟨v, w4, ?_, hR⟩
   have hrel : ON N (MZ tmps) { tmps := tmps, defers := [] } := by
    refine ⟨hND, ?_, hsz, fun i _ => rfl⟩
    have : MZ tmps DS = undef := by unfold MZ; rw [anZ, apU (by omega)] <;> rfl
    rw [this] <;> rfl
   have key : RoundIn Fence.wide 0 P l ann.f tmps anL bd w fun e w' => ∃ v', e = .returned v' /\ (v' = v /\ w' = w4) := by
    refine WW (Ts hm hN anL hok1 (.inr hf1) (fun e g w => e = .normal /\ g = g1 /\ w = w1) _ _ _ _ hrel ?_ (hall _ ⟨rfl, rfl, rfl⟩))
    rintro e g a w hra ⟨rfl, rfl, rfl⟩
    refine ⟨_, run_beginRound h1 h2, Ts hm hN bd hok2 (.inr hf2) (WZ l fun v' w' => v' = v /\ w' = w4) _ _ _ _ hra ?_ (hall2 _ (hrest _ ⟨rfl, rfl⟩))⟩
    intro e g a w _ h
    cases e with
    | normal => obtain ⟨r, k1, k2⟩ := h; exact ⟨_, _, run_endRound none k1, k2⟩
    | ret => obtain ⟨r, k1, k2⟩ := h; exact ⟨_, _, run_endRound (some .ret) k1, k2⟩
    | exit i => obtain ⟨r, k1, k2⟩ := h; exact ⟨_, _, run_endRound (some (.exit i)) k1, k2⟩
    | _ => exact h.elim
   refine RoundIn.mono key ?_
   rintro e w' ⟨v', rfl, rfl, rfl⟩
   exact ⟨rfl, rfl⟩
 | _ => exact hq.elim
theorem VU {f : FuncId} {args : Array asZ} {w : asY} {R : asZ -> asY -> Prop} (h : jD P f args w R) :
 Calls P f args w fun e w' => ∃ v, e = .returned v /\ R v w' := by
 obtain ⟨v, w', hr, hR⟩ := h
 refine Calls.mono hr ?_
 rintro e w'' ⟨rfl, rfl⟩
 exact ⟨v, rfl, hR⟩
end
def sA : Code -> Code | .seq a _ => a | c => c
def cT : Code -> Code | .cond _ a _ => a | c => c
def cE : Code -> Code | .cond _ _ b => b | c => c
def bI : Code -> Code | .block _ c => c | .loop c => c | .scope c => c | c => c
def kF (f : Func) : Code := match f.body with | some c => c | none => .skip
def gR : Nat -> Code -> Code
 | 0, c => c
 | 1, c => sA c
 | n + 1, .seq a b => .seq a (gR n b)
 | _, c => c
def fU : Nat -> Code -> Code
 | 0, c => c
 | n + 1, .seq _ b => fU n b
 | _, c => c
def Zi : Nat -> Code -> Bool
 | 1, .seq _ _ => true
 | n + 1, .seq _ b => Zi n b
 | _, _ => false
def dr (w : asY) : asY := { w with drawn := w.drawn + 1 }
def Um (P : Program) (t : TypeId) (a : asZ) (w : asY) (K : asZ -> Prop) : Prop := ∃ v, (do loadVar t (<- asAddr a) : Sem asZ).run P w = .ok v w /\ K v
def exL : List (Nat × (Env -> asY -> Prop)) -> Nat -> Env -> asY -> Prop
 | [], _, _, _ => False
 | (j, k) :: r, i, g, w => match Nat.beq i j with | true => k g w | false => exL r i g w
def exQ (kn kr : Env -> asY -> Prop) (l : List (Nat × (Env -> asY -> Prop))) : Exit -> Env -> asY -> Prop
 | .normal, g, w => kn g w
 | .ret, g, w => kr g w
 | .exit i, g, w => exL l i g w
 | _, _, _ => False
def ZK (Q : Exit -> Env -> asY -> Prop) : List (Nat × (Env -> asY -> Prop)) -> Prop
 | [] => True
 | (i, k) :: r => (∀ g w, k g w -> Q (.exit i) g w) /\ ZK Q r
def mA (c a b : asZ) : Sem Next := do pure (.value (if <- asBool c then a else b))
def pY (t : TypeId) : Sem Next := V (Instr.alloc t true (.tuple #[]))
def Q7 (t : TypeId) (x : asZ) : Sem Next := V (Instr.box t x)
def jE (t : TypeId) (a : asZ) : Sem Next := V (Instr.loadAt t a)
def jZ (t : TypeId) (a x : asZ) : Sem Next := U (Instr.storeAt t a x)
def rO (x : asZ) : Sem Next := execOp (fun _ => x) ⟨none, .nilCheck (.tmp 0), 0, default, #[], none⟩
def Yp (op : UnOp) (x : asZ) : Sem Next := V (Op.unary op x)
def nL (s d : TypeId) (x : asZ) : Sem Next := V (convert s d x)
def ahH (t : TypeId) (x : asZ) : Sem Next := V (Instr.arrayAt t x)
def VC (t : TypeId) (x : asZ) : Sem Next := V (Instr.makeInterface t x)
def TS (t : TypeId) (r : Option asZ) : Sem Next := V (Instr.makeMap t r)
def tW (t : TypeId) (l c : asZ) : Sem Next := V (Instr.makeSlice t l c)
def lR (t : TypeId) (x : asZ) (lo hi mx : Option asZ) : Sem Next := V (Instr.sliceAt t x lo hi mx)
def jJ (t : TypeId) (x : asZ) (f : Nat) : Sem Next := V (Instr.fieldAt t x f)
def jO (t : TypeId) (x i : asZ) : Sem Next := V (Instr.indexAt t x i)
def PU (t : TypeId) (x i : asZ) : Sem Next := V (Instr.index t x i)
def Xx (t : TypeId) (x i : asZ) (ok : Bool) : Sem Next := V (Instr.lookup t x i ok)
def UO (t : TypeId) (m k x : asZ) : Sem Next := U (Instr.mapUpdate t m k x)
def jV (t : asZ) (i : Nat) : Sem Next := V (Instr.extract t i)
section
variable {P : Program} {ann : FA}
theorem ajX {Q : Exit -> Env -> asY -> Prop} : ∀ {l : List (Nat × (Env -> asY -> Prop))}, ZK Q l -> ∀ {i : Nat} {g : Env} {w : asY}, exL l i g w -> Q (.exit i) g w := by
 intro l
 induction l with
 | nil => intro _ i g w h; exact h.elim
 | cons p r ih =>
   obtain ⟨j, k⟩ := p
   rintro ⟨h1, h2⟩ i g w h
   simp only [exL] at h
   cases hb : Nat.beq i j with
   | true =>
     simp only [hb] at h
     obtain rfl := aoR hb
     exact h1 _ _ h
   | false => simp only [hb] at h; exact ih h2 h
theorem agQ {c : Code} {kn kr : Env -> asY -> Prop} {l : List (Nat × (Env -> asY -> Prop))} {Q : Exit -> Env -> asY -> Prop} {g : Env} {w : asY} {A : Prop}
 (e : A = jK P ann c (exQ kn kr l) g w) (h : A) (hn : ∀ g w, kn g w -> Q .normal g w) (hr : ∀ g w, kr g w -> Q .ret g w) (hl : ZK Q l) : jK P ann c Q g w := by
 rw [e] at h
 refine Gh h (fun e g' w' _ hq => ?_)
 cases e with
 | normal => exact hn _ _ hq
 | ret => exact hr _ _ hq
 | exit i => exact ajX hl hq
 | _ => exact hq.elim
theorem abB {x y z : Code} {Q : Exit -> Env -> asY -> Prop} {g : Env} {w : asY} (h : jK P ann (.seq (.seq x y) z) Q g w) : jK P ann (.seq x (.seq y z)) Q g w := by
 show jK P ann x (Dd (fun g w => jK P ann y (Dd (fun g w => jK P ann z Q g w) Q) g w) Q) g w
 have h : jK P ann x (Dd (fun g w => jK P ann y (Dd (fun g w => jK P ann z Q g w) Q) g w) (Dd (fun g w => jK P ann z Q g w) Q)) g w := h
 refine Gh h (fun e g' w' _ hq => ?_)
 cases e <;> exact hq
theorem iA {K : Env -> asY -> Prop} {Q : Exit -> Env -> asY -> Prop} {g : Env} {w : asY} (h : K g w) : Dd K Q .normal g w := h
theorem abU {Q : Exit -> Env -> asY -> Prop} : ∀ (n : Nat) (c : Code) (g : Env) (w : asY), Zi n c = true -> jK P ann (.seq (gR n c) (fU n c)) Q g w -> jK P ann c Q g w := by
 intro n
 induction n with
 | zero => intro c g w h; simp [Zi] at h
 | succ n ih =>
   intro c g w h hd
   cases c with
   | seq a b =>
     cases n with
     | zero => exact hd
     | succ n =>
       have hb : Zi (n + 1) b = true := by simpa [Zi] using h
       have hd' : jK P ann (.seq (.seq a (gR (n + 1) b)) (fU (n + 1) b)) Q g w := hd
       have := abB hd'
       show jK P ann a (Dd (fun g w => jK P ann b Q g w) Q) g w
       have h2 : jK P ann a (Dd (fun g w => jK P ann (.seq (gR (n + 1) b) (fU (n + 1) b)) Q g w) Q) g w := this
       refine Gh h2 (fun e g' w' _ hq => ?_)
       cases e with
       | normal => exact ih b g' w' hb hq
       | _ => exact hq
   | _ => cases n <;> simp [Zi] at h
def aiA (id : Nat) : Code -> Bool | .block i _ => Nat.beq i id | _ => false
def aeR : Code -> Bool | .loop _ => true | _ => false
def adV : Code -> Option Operand | .cond o _ _ => some o | _ => none
theorem ahJ {Q : Exit -> Env -> asY -> Prop} (id : Nat) (c : Code) (g : Env) (w : asY) (h : aiA id c = true) (hd : jK P ann (bI c) (blk id Q) g w) : jK P ann c Q g w := by
 cases c with
 | block i c =>
   obtain rfl := aoR (show Nat.beq i id = true from h)
   exact hd
 | _ => cases h
def ahY : Code -> Bool | .scope _ => true | _ => false
theorem ahE {Q : Exit -> Env -> asY -> Prop} (c : Code) (g : Env) (w : asY) (h : ahY c = true) (hd : jK P ann (bI c) Q g w) : jK P ann c Q g w := by
 cases c with
 | scope c => exact hd
 | _ => cases h
theorem ahC {Q : Exit -> Env -> asY -> Prop} (o : Operand) (c : Code) (g : Env) (w : asY) (h : adV c = some o)
 (hd : nG (ev g o) (jK P ann (cT c) Q g w) (jK P ann (cE c) Q g w)) : jK P ann c Q g w := by
 cases c with
 | cond o' a b => obtain rfl := aoZ h; exact hd
 | _ => cases h
theorem adO {v : asZ} {A B A' B' : Prop} (ha : A -> A') (hb : B -> B') (h : nG v A B) : nG v A' B' := by
 unfold nG at *
 cases v with
 | bool b => cases b <;> first | exact ha h | exact hb h
 | _ => exact h
theorem acK {T : Type} (proj : Env -> T) (F : (T -> asY -> Prop) -> T -> asY -> Prop) {c : Code} {Q : Exit -> Env -> asY -> Prop} {g : Env} {w : asY}
 (hF : ∀ (X : T -> asY -> Prop) g' w', qK (PF c) g g' -> F X (proj g') w' -> jK P ann c (Dd (fun g'' w'' => X (proj g'') w'') Q) g' w')
 (h : kE F (proj g) w) : jK P ann (.loop c) Q g w := by
 obtain ⟨I, ⟨n, h0⟩, hI⟩ := h
 refine ⟨fun n g' w' => qK (PF c) g g' /\ I n (proj g') w', ⟨n, qK.refl _ _, h0⟩, ?_⟩
 rintro n g' w' ⟨ha, hi⟩
 have := hF _ g' w' ha (hI n _ _ hi)
 refine Gh this (fun e g2 w2 ha2 hq => ?_)
 cases e with
 | normal =>
   obtain ⟨m, hm, hh⟩ := hq
   exact ⟨m, hm, ha.trans ha2 (fun _ h => h) (fun _ h => h), hh⟩
 | _ => exact hq
theorem aaW {T : Type} (proj : Env -> T) (F : (T -> asY -> Prop) -> T -> asY -> Prop) (c : Code) {Q : Exit -> Env -> asY -> Prop} {g : Env} {w : asY} (hl : aeR c = true)
 (h : kE F (proj g) w)
 (hF : ∀ (X : T -> asY -> Prop) g' w', qK (PF (bI c)) g g' -> F X (proj g') w' -> jK P ann (bI c) (Dd (fun g'' w'' => X (proj g'') w'') Q) g' w') : jK P ann c Q g w := by
 cases c with
 | loop c => exact acK proj F hF h
 | _ => cases hl
theorem YD {l : List Nat} {s : Nat} (hs : tJ s l = false) : s ∉ l := by
 induction l with
 | nil => simp
 | cons a r ih =>
   unfold tJ at hs
   cases hb : Nat.beq a s with
   | true => simp only [hb] at hs; cases hs
   | false =>
     simp only [hb] at hs
     intro hm
     rcases apK.1 hm with e | hm
     .subst e; simp at hb
     .exact ih hs hm
theorem adL {l : List Nat} {g g' : Env} (h : qK l g g') {s : Nat} (hs : tJ s l = false) : g' s = g s := h s (YD hs)
def Qn (id : Nat) : Code -> Array Oper
 | .region i ops _ => match Nat.beq i id with | true => ops | false => #[]
 | .seq a b => match (Qn id a).size with | 0 => Qn id b | _ + 1 => Qn id a
 | .cond _ a b => match (Qn id a).size with | 0 => Qn id b | _ + 1 => Qn id a
 | .block _ c => Qn id c
 | .loop c => Qn id c
 | .scope c => Qn id c
 | _ => #[]
theorem adF {b : Bool} {A B : Prop} (ha : A) (hb : B) : Ord b A B := by cases b <;> assumption
theorem kE.rule {α : Type} {F : (α -> asY -> Prop) -> α -> asY -> Prop} (I : Nat -> α -> asY -> Prop) {g : α} {w : asY} (n : Nat) (h0 : I n g w)
 (hr : ∀ n g w, I n g w -> F (fun g' w' => ∃ m, m < n /\ I m g' w') g w) : kE F g w := ⟨I, ⟨n, h0⟩, hr⟩
theorem fZ (A B : Prop) : nG (.bool true) A B = A := Eq.trans rfl rfl
theorem fT (A B : Prop) : nG (.bool false) A B = B := Eq.trans rfl rfl
theorem gM (s : (asZ -> asY -> Prop) -> Prop) (w : asY) (K : asZ -> asY -> Prop) : Gd true s w K = s K := Eq.trans rfl rfl
theorem gI (s : (asZ -> asY -> Prop) -> Prop) (w : asY) (K : asZ -> asY -> Prop) : Gd false s w K = K undef w := Eq.trans rfl rfl
theorem gN (p : Prop) : Gs true p = p := Eq.trans rfl rfl
theorem gL (p : Prop) : Gs false p = True := Eq.trans rfl rfl
theorem gW : kK (.bool true) true = true := Eq.trans rfl rfl
theorem gU : kK (.bool true) false = false := Eq.trans rfl rfl
theorem gX : kK (.bool false) true = false := Eq.trans rfl rfl
theorem gT : kK (.bool false) false = true := Eq.trans rfl rfl
def iI : Operand := .tmp 0
theorem lM {c : Code} {kn kr : Env -> asY -> Prop} {l : List (Nat × (Env -> asY -> Prop))} {Q : Exit -> Env -> asY -> Prop} {g : Env} {w : asY} {A : Prop}
 (h : A) (hn : ∀ g w, kn g w -> Q .normal g w) (hr : ∀ g w, kr g w -> Q .ret g w) (hl : ZK Q l) (e : A = jK P ann c (exQ kn kr l) g w := by kernel_rfl) : jK P ann c Q g w := agQ e h hn hr hl
theorem oE {Q : Exit -> Env -> asY -> Prop} (n : Nat) {c : Code} {g : Env} {w : asY}
 (hd : jK P ann (gR n c) (Dd (fun g w => jK P ann (fU n c) Q g w) Q) g w) (h : Zi n c = true := by kernel_rfl) : jK P ann c Q g w := abU n c g w h hd
theorem G5 {Q : Exit -> Env -> asY -> Prop} (id : Nat) {c : Code} {g : Env} {w : asY} (hd : jK P ann (bI c) (blk id Q) g w) (h : aiA id c = true := by kernel_rfl) : jK P ann c Q g w := ahJ id c g w h hd
theorem scD {Q : Exit -> Env -> asY -> Prop} {c : Code} {g : Env} {w : asY} (hd : jK P ann (bI c) Q g w) (h : ahY c = true := by kernel_rfl) : jK P ann c Q g w := ahE c g w h hd
theorem cdD {Q : Exit -> Env -> asY -> Prop} (o : Operand) {c : Code} {g : Env} {w : asY} {A B : Prop} (ha : A -> jK P ann (cT c) Q g w) (hb : B -> jK P ann (cE c) Q g w) (hd : nG (ev g o) A B) (h : adV c = some o := by kernel_rfl) : jK P ann c Q g w :=
 ahC o c g w h (adO ha hb hd)
theorem MJ {T : Type} (proj : Env -> T) (F : (T -> asY -> Prop) -> T -> asY -> Prop) {c : Code} {Q : Exit -> Env -> asY -> Prop} {g : Env} {w : asY}
 (h : kE F (proj g) w)
 (hF : ∀ (X : T -> asY -> Prop) g' w', qK (PF (bI c)) g g' -> F X (proj g') w' -> jK P ann (bI c) (Dd (fun g'' w'' => X (proj g'') w'') Q) g' w') (hl : aeR c = true := by kernel_rfl) : jK P ann c Q g w := aaW proj F c hl h hF
theorem qP {l : List Nat} {g g' : Env} (s : Nat) (h : qK l g g') (hs : tJ s l = false := by kernel_rfl) : g' s = g s := adL h hs
theorem B0 {ann : FA} (fn : Func) (c : Code) (args : List asZ) (rs : List ResultVar) (N : Nat) {f : FuncId} {w : asY} {R : asZ -> asY -> Prop} (hm : P.follows .mixedOrders = true)
 (hf : P.funcs[f]? = some fn) (h : jK P ann c (alD P rs R) (TW args) w) (hAf : ann.f = f := by kernel_rfl) (hb : fn.body = some c := by kernel_rfl) (hrs : fn.results = rs.toArray := by kernel_rfl) (hN : fn.ntmps = N := by kernel_rfl) (hle : Nat.ble args.length N = true := by kernel_rfl)
 (hok : codeOk P N ann c = true := by kernel_rfl) (hro : rs.all Wu = true := by kernel_rfl) (hND : Nat.ble N DS = true := by kernel_rfl) (hfl : vT c = true := by kernel_rfl) : jD P f args.toArray w R :=
 Yh hm hAf hf hb hrs hN (aqN hle) hok hro hND hfl h
def VS : Code -> Option (Operand × Array Tmp × Code × Code)
 | .rangeFunc g ps anL bd => some (g, ps, anL, bd)
 | .seq a b => (match VS a with | some r => some r | none => VS b)
 | .cond _ a b => (match VS a with | some r => some r | none => VS b)
 | .block _ c => VS c
 | .loop c => VS c
 | .scope c => VS c
 | _ => none
def afG (c : Code) : Array Tmp := match VS c with | some (_, ps, _) => ps | none => #[]
def abT (c : Code) : Code := match VS c with | some (_, _, anL, _) => anL | none => .skip
def YB (c : Code) : Code := match VS c with | some (_, _, _, bd) => bd | none => .skip
def Rdy (l : Nat) (w : asY) (K : asY -> Prop) : Prop := ∃ r : Loop, w.heap[l]? = some (.loop r) /\ r.state = .ready /\ K (w.putObj l (.loop { r with state := .busy }))
def jSt : Option Code -> LoopState
 | none => .ready
 | some _ => .done
def XL (l : Nat) (j : Option Code) (R : asZ -> asY -> Prop) (w : asY) : Prop :=
 ∃ r : Loop, w.heap[l]? = some (.loop r) /\ R (.bool j.isNone) (w.putObj l (.loop { r with state := jSt j, pending := j }))
def aiO : List ResultVar := []
theorem dsF {ann : FA} (fn : Func) (c : Code) (args : List asZ) (rs : List ResultVar) (N : Nat) {f : FuncId} {w : asY} {R : asZ -> asY -> Prop} (hm : P.follows .mixedOrders = true)
 (hf : P.funcs[f]? = some fn) (h : jK P ann c (ajS P rs R) (TW args) w) (hAf : ann.f = f := by kernel_rfl) (hb : fn.body = some c := by kernel_rfl) (hrs : fn.results = rs.toArray := by kernel_rfl) (hN : fn.ntmps = N := by kernel_rfl) (hle : Nat.ble args.length N = true := by kernel_rfl)
 (hok : codeOk P N ann c = true := by kernel_rfl) (hro : rs.all Wu = true := by kernel_rfl) (hND : Nat.ble N DS = true := by kernel_rfl) : jD P f args.toArray w R :=
 Sk hm hAf hf hb hrs hN (aqN hle) hok hro hND h
theorem dsR {ann : FA} (N : Nat) {f : FuncId} {l : Nat} {tmps : Array asZ} {anL bd : Code} {w : asY} {R : asZ -> asY -> Prop} (hm : P.follows .mixedOrders = true) (hsz : tmps.size = N)
 (h : jK P ann anL (asQ P ann l bd R) (MZ tmps) w) (hN : Tb P f = N) (hok1 : codeOk P N ann anL = true) (hok2 : codeOk P N ann bd = true) (hAf : ann.f = f := by kernel_rfl) (hND : Nat.ble N DS = true := by kernel_rfl)
 (hf1 : vT anL = true := by kernel_rfl) (hf2 : vT bd = true := by kernel_rfl) : Wv P l f tmps anL bd w R :=
 WS hm hAf hN hND hsz hok1 hf1 hok2 hf2 h
end
end Go.En
namespace Go.Proofs.YtoecppploooloaaGreatDoor
open Go Go.En
noncomputable abbrev pg : Program := Tryz.prog
theorem TryzM.mixed : pg.follows .mixedOrders = true := Tryz.checked.mixed
abbrev K0 := asY -> Prop
abbrev K1 := asZ -> K0
abbrev K2 := asZ -> K1
abbrev K3 := asZ -> K2
abbrev K4 := asZ -> K3
abbrev K5 := asZ -> K4
abbrev K6 := asZ -> K5
abbrev K7 := asZ -> K6
abbrev K8 := asZ -> K7
abbrev K9 := asZ -> K8
abbrev K10 := asZ -> K9
abbrev HR (rs : List ResultVar) (R : K1) (Q : Exit -> Env -> asY -> Prop) : Prop := ∀ g w, (tO pg rs g w fun vs => R (VG vs) w) -> Q .ret g w
abbrev HRF (rs : List ResultVar) (R : K1) (Q : Exit -> Env -> asY -> Prop) : Prop := ∀ g w, (EE (g DS) w fun w => tO pg rs g w fun vs => R (VG vs) w) -> Q .ret g w
abbrev no : Env -> asY -> Prop := fun _ _ => False
theorem mI {Q : Env -> asY -> Prop} : ∀ g w, no g w -> Q g w := fun _ _ h => h.elim
abbrev CB : FuncId := 6
abbrev Cs : FuncId := 9
abbrev Ux : FuncId := 12
abbrev FY : FuncId := 13
abbrev yM : FuncId := 14
abbrev AT : FuncId := 16
abbrev G4 : FuncId := 18
abbrev Dt : FuncId := 19
abbrev FU : FuncId := 20
abbrev Cg : FuncId := 21
abbrev Dw : FuncId := 22
abbrev OR : FuncId := 23
abbrev pG : FuncId := 25
abbrev Uj : FuncId := 26
abbrev nU : FuncId := 27
abbrev jL : FuncId := 28
abbrev nD : FuncId := 29
abbrev AE : FuncId := 30
abbrev Cr : FuncId := 31
abbrev xY : FuncId := 32
abbrev Pa : FuncId := 33
abbrev A6 : FuncId := 34
abbrev D9 : FuncId := 35
abbrev sM : FuncId := 42
abbrev wE : FuncId := 43
abbrev DA : FuncId := 44
abbrev Vj : FuncId := 45
abbrev AW : FuncId := 46
abbrev zV : FuncId := 47
abbrev uF : FuncId := 48
abbrev C9 : FuncId := 49
abbrev AH : FuncId := 50
abbrev zI : FuncId := 51
abbrev mD : FuncId := 52
abbrev vV : FuncId := 58
abbrev oA : FuncId := 59
abbrev rR : FuncId := 60
abbrev Eh : FuncId := 63
abbrev pO : FuncId := 64
abbrev Ab : FuncId := 65
abbrev Cm : FuncId := 66
abbrev G3 : FuncId := 67
abbrev Ad : FuncId := 68
abbrev SD : FuncId := 69
abbrev Vn : FuncId := 70
abbrev QJ : FuncId := 71
abbrev oB : FuncId := 72
abbrev xL : FuncId := 73
abbrev rB : FuncId := 79
abbrev vB : FuncId := 80
abbrev vY : FuncId := 81
abbrev yO : FuncId := 82
abbrev uX : FuncId := 83
abbrev zJ : FuncId := 84
abbrev zS : FuncId := 85
abbrev yJ : FuncId := 86
abbrev vD : FuncId := 87
abbrev AQ : FuncId := 97
abbrev qG : FuncId := 100
abbrev tS : FuncId := 102
abbrev tM : FuncId := 107
abbrev yF : FuncId := 108
abbrev FW : FuncId := 109
abbrev DO : FuncId := 110
abbrev R0 : FuncId := 112
abbrev Cd : FuncId := 115
abbrev Cn : FuncId := 132
abbrev tA : FuncId := 133
abbrev tK : FuncId := 134
abbrev nH : FuncId := 135
abbrev GZ : FuncId := 136
abbrev xX : FuncId := 145
abbrev oS : FuncId := 151
abbrev N0 (Q : Exit -> Env -> asY -> Prop) (k : K0) : Prop := ∀ g w, k w -> Q .normal g w
abbrev E0 (Q : Exit -> Env -> asY -> Prop) (k : K0) (x0 : Nat) : Prop := ∀ g w, k w -> Q (.exit x0) g w
abbrev N1 (Q : Exit -> Env -> asY -> Prop) (k : K1) (a_ : Nat) : Prop := ∀ g w, k (g a_) w -> Q .normal g w
abbrev E1 (Q : Exit -> Env -> asY -> Prop) (k : K1) (x0 : Nat) (a_ : Nat) : Prop := ∀ g w, k (g a_) w -> Q (.exit x0) g w
abbrev N2 (Q : Exit -> Env -> asY -> Prop) (k : K2) (a_ b_ : Nat) : Prop := ∀ g w, k (g a_) (g b_) w -> Q .normal g w
abbrev E2 (Q : Exit -> Env -> asY -> Prop) (k : K2) (x0 : Nat) (a_ b_ : Nat) : Prop := ∀ g w, k (g a_) (g b_) w -> Q (.exit x0) g w
abbrev N3 (Q : Exit -> Env -> asY -> Prop) (k : K3) (a_ b_ c_ : Nat) : Prop := ∀ g w, k (g a_) (g b_) (g c_) w -> Q .normal g w
abbrev E3 (Q : Exit -> Env -> asY -> Prop) (k : K3) (x0 : Nat) (a_ b_ c_ : Nat) : Prop := ∀ g w, k (g a_) (g b_) (g c_) w -> Q (.exit x0) g w
abbrev N4 (Q : Exit -> Env -> asY -> Prop) (k : K4) (a_ b_ c_ d_ : Nat) : Prop := ∀ g w, k (g a_) (g b_) (g c_) (g d_) w -> Q .normal g w
abbrev E4 (Q : Exit -> Env -> asY -> Prop) (k : K4) (x0 : Nat) (a_ b_ c_ d_ : Nat) : Prop := ∀ g w, k (g a_) (g b_) (g c_) (g d_) w -> Q (.exit x0) g w
abbrev N5 (Q : Exit -> Env -> asY -> Prop) (k : K5) (a_ b_ c_ d_ e_ : Nat) : Prop := ∀ g w, k (g a_) (g b_) (g c_) (g d_) (g e_) w -> Q .normal g w
abbrev E5 (Q : Exit -> Env -> asY -> Prop) (k : K5) (x0 : Nat) (a_ b_ c_ d_ e_ : Nat) : Prop := ∀ g w, k (g a_) (g b_) (g c_) (g d_) (g e_) w -> Q (.exit x0) g w
abbrev N6 (Q : Exit -> Env -> asY -> Prop) (k : K6) (a_ b_ c_ d_ e_ f_ : Nat) : Prop := ∀ g w, k (g a_) (g b_) (g c_) (g d_) (g e_) (g f_) w -> Q .normal g w
abbrev E6 (Q : Exit -> Env -> asY -> Prop) (k : K6) (x0 : Nat) (a_ b_ c_ d_ e_ f_ : Nat) : Prop := ∀ g w, k (g a_) (g b_) (g c_) (g d_) (g e_) (g f_) w -> Q (.exit x0) g w
abbrev N7 (Q : Exit -> Env -> asY -> Prop) (k : K7) (a_ b_ c_ d_ e_ f_ g_ : Nat) : Prop := ∀ g w, k (g a_) (g b_) (g c_) (g d_) (g e_) (g f_) (g g_) w -> Q .normal g w
abbrev E7 (Q : Exit -> Env -> asY -> Prop) (k : K7) (x0 : Nat) (a_ b_ c_ d_ e_ f_ g_ : Nat) : Prop := ∀ g w, k (g a_) (g b_) (g c_) (g d_) (g e_) (g f_) (g g_) w -> Q (.exit x0) g w
abbrev N8 (Q : Exit -> Env -> asY -> Prop) (k : K8) (a_ b_ c_ d_ e_ f_ g_ h_ : Nat) : Prop := ∀ g w, k (g a_) (g b_) (g c_) (g d_) (g e_) (g f_) (g g_) (g h_) w -> Q .normal g w
abbrev N10 (Q : Exit -> Env -> asY -> Prop) (k : K10) (a_ b_ c_ d_ e_ f_ g_ h_ i_ j_ : Nat) : Prop := ∀ g w, k (g a_) (g b_) (g c_) (g d_) (g e_) (g f_) (g g_) (g h_) (g i_) (g j_) w -> Q .normal g w
abbrev atA (n_ : Int) : asZ := .int .i64 n_
end Go.Proofs.YtoecppploooloaaGreatDoor
namespace Go.Proofs.YtoecppploooloaaGreatDoor
open Go Go.En
set_option maxRecDepth 20000
attribute [local irreducible] Go.En.jK
variable (Q : Exit -> Env -> asY -> Prop) (g : Env) (w : asY)
def nO : FA := ⟨CB, fun i => .leaf ([], []) []⟩
def pH : List ResultVar := [.tmp 4]
noncomputable def mV : Code := kF Tryz.f6
def uR (R : K1) (kD SF Er nP : asZ) (w : asY) : Prop :=
 gD pg (nL 38 32 kD) w fun n3 w =>
 jD pg AT #[n3, SF, Er] w fun n6 w =>
 gD pg (jV n6 0) w fun n7 w =>
 gD pg (jV n6 1) w fun n8 w =>
 gD pg (jV n6 2) w fun n9 w =>
 gD pg (nL 38 32 kD) w fun o2 w =>
 gD pg (gV .eql 32 (.tmp 100) (.tmp 102) nP o2) w fun o3 w =>
 Gd (kK o3 true) (fun K => K n9 w) w fun o5 w =>
 Gd (kK o3 true) (fun K => gD pg (gV .eql 24 (.tmp 105) (.const (atA 17)) o5 (atA 17)) w K) w fun o6 w =>
 gD pg (mA o3 o6 (.bool false)) w fun o7 w =>
 R o7 w
theorem LJ (R : K1) (hr : HR pH R Q) (h : uR R (g 0) (g 6) (g 7) (g 9) w) : jK pg nO (fU 1 (fU 7 mV)) Q g w :=
 lM (kn := no) (l := []) h mI hr trivial
def vA (kn : K5) (k0 : K4) (R : K1) (kD SF Er nP MM : asZ) (w : asY) : Prop :=
 gD pg (gV .lss 3 iI iI MM Er) w fun f8 w =>
 nG f8
  (gD pg (nL 38 32 kD) w fun i3 w =>
  jD pg AT #[i3, SF, MM] w fun i6 w =>
  gD pg (jV i6 0) w fun i7 w =>
  gD pg (jV i6 1) w fun i8 w =>
  gD pg (jV i6 2) w fun i9 w =>
  gD pg (gV .neq 24 (.tmp 60) (.const (atA 0)) i9 (atA 0)) w fun j1 w =>
  Gd (kK j1 false) (fun K => K i7 w) w fun j3 w =>
  Gd (kK j1 false) (fun K => K nP w) w fun j4 w =>
  Gd (kK j1 false) (fun K => gD pg (gV .neq 32 (.tmp 63) (.tmp 64) j3 j4) w K) w fun j5 w =>
  gD pg (mA j1 (.bool true) j5) w fun j6 w =>
  Gd (kK j6 false) (fun K => K i8 w) w fun j8 w =>
  Gd (kK j6 false) (fun K => gD pg (gV .lss 3 iI iI j8 (atA 1)) w K) w fun j9 w =>
  gD pg (mA j6 (.bool true) j9) w fun l0 w =>
  Gd (kK l0 false) (fun K => K i8 w) w fun l2 w =>
  Gd (kK l0 false) (fun K => K SF w) w fun l3 w =>
  Gd (kK l0 false) (fun K => gD pg (gV .gtr 3 iI iI l2 l3) w K) w fun l4 w =>
  gD pg (mA l0 (.bool true) l4) w fun l5 w =>
  Gd (kK l5 false) (fun K => K MM w) w fun l7 w =>
  Gd (kK l5 false) (fun K => K Er w) w fun l8 w =>
  Gd (kK l5 false) (fun K => gD pg (gV .sub 3 iI iI l8 (atA 1)) w K) w fun l9 w =>
  Gd (kK l5 false) (fun K => gD pg (gV .lss 3 iI iI l7 l9) w K) w fun m0 w =>
  Gd (kK l5 false) (fun K => K m0 w) w fun m1 w =>
  Gd (kK m1 true) (fun K => K i8 w) w fun m2 w =>
  Gd (kK m1 true) (fun K => K SF w) w fun m3 w =>
  Gd (kK m1 true) (fun K => gD pg (gV .neq 3 (.tmp 82) (.tmp 83) m2 m3) w K) w fun m4 w =>
  Gd (kK l5 false) (fun K => gD pg (mA m1 m4 (.bool false)) w K) w fun m5 w =>
  gD pg (mA l5 (.bool true) m5) w fun m6 w =>
  nG m6
   (R (.bool false) w)
   (gD pg (nL 3 32 i8) w fun m9 w =>
   gD pg (gV .add 32 iI iI nP m9) w fun n0 w =>
   gD pg (gV .add 3 iI iI MM (atA 1)) w fun i0 w =>
   kn kD SF Er n0 i0 w))
  (k0 kD SF Er nP w)
theorem Lv (kn : K5) (k0 : K4) (R : K1) (hn : N5 Q kn 0 6 7 9 10) (h0 : E4 Q k0 0 0 6 7 9) (hr : HR pH R Q) (h : vA kn k0 R (g 0) (g 6) (g 7) (g 9) (g 10) w) : jK pg nO (bI (bI (fU 1 (gR 1 (fU 7 mV))))) Q g w :=
 lM (l := [(0, fun g w => k0 (g 0) (g 6) (g 7) (g 9) w)]) h hn hr ⟨h0, trivial⟩
def BQ (k0 : K4) (R : K1) (kD SF Er nP MM : asZ) (w : asY) : Prop :=
 kE (fun (X : (asZ × asZ) -> K0) (t : asZ × asZ) (w : asY) => vA (fun _ _ _ nP MM w => X (nP, MM) w) k0 R kD SF Er t.1 t.2 w) (nP, MM) w
theorem LO (k0 : K4) (R : K1) (h0 : E4 Q k0 0 0 6 7 9) (hr : HR pH R Q) (h : BQ k0 R (g 0) (g 6) (g 7) (g 9) (g 10) w) : jK pg nO (bI (fU 1 (gR 1 (fU 7 mV)))) Q g w := by
 refine MJ (fun g : Env => (g 9, g 10)) (fun X t w => vA (fun _ _ _ nP MM w => X (nP, MM) w) k0 R (g 0) (g 6) (g 7) t.1 t.2 w) h (fun X g1 w1 ha hL => ?_)
 rw [<- qP 0 ha, <- qP 6 ha, <- qP 7 ha] at hL
 exact (Lv _ g1 w1 (fun _ _ _ nP MM w => X (nP, MM) w) k0 R (fun _ _ h => h) h0 hr hL)
def Bc (kn : K4) (R : K1) (kD SF Er nP MM : asZ) (w : asY) : Prop :=
 BQ kn R kD SF Er nP MM w
def Bf (kn : K5) (kD SF Er nP : asZ) (w : asY) : Prop :=
 kn kD SF Er nP (atA 0) w
theorem LK (kn : K5) (hn : N5 Q kn 0 6 7 9 10) (h : Bf kn (g 0) (g 6) (g 7) (g 9) w) : jK pg nO (gR 1 (gR 1 (fU 7 mV))) Q g w :=
 lM (kr := no) (l := []) h hn mI trivial
def BC (kn : K4) (R : K1) (kD SF Er nP : asZ) (w : asY) : Prop :=
 Bf (fun kD SF Er nP MM w => Bc kn R kD SF Er nP MM w) kD SF Er nP w
def BL (R : K1) (kD SF Er nP : asZ) (w : asY) : Prop :=
 BC (fun kD SF Er nP w => uR R kD SF Er nP w) R kD SF Er nP w
theorem LQ (kn : K4) (R : K1) (hn : N4 Q kn 0 6 7 9) (hr : HR pH R Q) (h : BC kn R (g 0) (g 6) (g 7) (g 9) w) : jK pg nO (gR 1 (fU 7 mV)) Q g w :=
 oE 1 (LK _ g w (Bc kn R) (fun g w h => iA (G5 0 (LO _ g w kn R hn hr h))) h)
def Bo (kn : K4) (R : K1) (kD Ei : asZ) (w : asY) : Prop :=
 jD pg FY #[] w fun c7 w =>
 gD pg (Yp .not c7) w fun c9 w =>
 nG c9
  (R (.bool false) w)
  (gD pg (nL 29 3 Ei) w fun d1 w =>
  gD pg (gV .add 3 iI iI d1 (atA 1)) w fun d2 w =>
  gD pg (nL 38 32 kD) w fun d5 w =>
  jD pg yM #[d5, d2] w fun d7 w =>
  gD pg (jV d7 0) w fun d8 w =>
  gD pg (jV d7 1) w fun d9 w =>
  gD pg (gV .neq 24 (.tmp 30) (.const (atA 0)) d9 (atA 0)) w fun e1 w =>
  nG e1
   (gD pg (gV .eql 24 (.tmp 32) (.const (atA 12)) d9 (atA 12)) w fun e3 w =>
   Gd (kK e3 true) (fun K => K d8 w) w fun e5 w =>
   Gd (kK e3 true) (fun K => gD pg (gV .eql 3 (.tmp 35) (.const (atA 0)) e5 (atA 0)) w K) w fun e6 w =>
   gD pg (mA e3 e6 (.bool false)) w fun e7 w =>
   Gd (kK e7 true) (fun K => K kD w) w fun e9 w =>
   Gd (kK e7 true) (fun K => gD pg (nL 38 32 e9) w K) w fun f0 w =>
   Gd (kK e7 true) (fun K => K d2 w) w fun f1 w =>
   Gd (kK e7 true) (fun K => gD pg (nL 3 32 f1) w K) w fun f2 w =>
   Gd (kK e7 true) (fun K => gD pg (gV .mul 32 iI iI (.int .u64 1024) f2) w K) w fun f3 w =>
   Gd (kK e7 true) (fun K => gD pg (gV .gtr 32 iI iI f0 f3) w K) w fun f4 w =>
   gD pg (mA e7 f4 (.bool false)) w fun f5 w =>
   R f5 w)
   (kn kD d2 d8 (.int .u64 0) w))
theorem L4 (kn : K4) (R : K1) (hn : N4 Q kn 0 6 7 9) (hr : HR pH R Q) (h : Bo kn R (g 0) (g 1) w) : jK pg nO (gR 7 mV) Q g w :=
 lM (l := []) h hn hr trivial
def BY (R : K1) (kD Ei : asZ) (w : asY) : Prop :=
 Bo (fun kD SF Er nP w => BL R kD SF Er nP w) R kD Ei w
theorem Lu (R : K1) (hr : HR pH R Q) (h : BY R (g 0) (g 1) w) : jK pg nO mV Q g w :=
 oE 7 (L4 _ g w (BL R) R (fun g w h => iA (oE 1 (LQ _ g w (uR R) R (fun g w h => iA (LJ _ g w R hr h)) hr h))) hr h)
def Kb (a0 a1 : asZ) (w : asY) (R : K1) : Prop :=
 BY R a0 a1 w
theorem ML {a0 a1 : asZ} {w : asY} {R : K1} (h : Kb a0 a1 w R) : jD pg CB #[a0, a1] w R := by
 refine B0 (ann := nO) Tryz.f6 mV [a0, a1] pH 108 TryzM.mixed Tryz.func6 ?_
 exact (Lu _ _ _ R (fun _ _ h => h) h)
def oH : FA := ⟨Cs, fun i => match Nat.beq i 13 with | true => .leaf ([2, 5], [(2, 3)]) [(false, []), (false, []), (true, []), (false, [0]), (false, []), (true, [])] | false => .leaf ([], []) []⟩
def qR : List ResultVar := [.tmp 6, .tmp 7]
noncomputable def nS : Code := kF Tryz.f9
def vP (R : K1) (pP : asZ) (w : asY) : Prop :=
 R (.tuple #[pP, (atA 0)]) w
theorem PQ (R : K1) (hr : HR qR R Q) (h : vP R (g 8) w) : jK pg oH (fU 1 (fU 1 (fU 4 nS))) Q g w :=
 lM (kn := no) (l := []) h mI hr trivial
def EV (kn : K1) (qW rU pP : asZ) (w : asY) : Prop :=
 nG rU
  (jD pg OR #[qW] w fun j5 w =>
  gD pg (nL 32 5 j5) w fun j8 w =>
  gD pg (gV .shr 32 iI iI j5 (.int .u64 8)) w fun l0 w =>
  gD pg (nL 32 5 l0) w fun l1 w =>
  gD pg (gV .shr 32 iI iI j5 (.int .u64 16)) w fun l3 w =>
  gD pg (nL 32 5 l3) w fun l4 w =>
  gD pg (gV .shr 32 iI iI j5 (.int .u64 24)) w fun l6 w =>
  gD pg (nL 32 5 l6) w fun l7 w =>
  gD pg (lI 22 4 [(0, j8), (1, l1), (2, l4), (3, l7)]) w fun l8 w =>
  gD pg (oF .append #[22, 22] 22 [pP, l8]) w fun l9 w =>
  kn l9 w)
  (kn pP w)
theorem P6 (kn : K1) (hn : N1 Q kn 8) (h : EV kn (g 0) (g 2) (g 8) w) : jK pg oH (gR 1 (fU 1 (fU 4 nS))) Q g w :=
 lM (kr := no) (l := []) h hn mI trivial
def AK (R : K1) (qW rU pP : asZ) (w : asY) : Prop :=
 EV (fun pP w => vP R pP w) qW rU pP w
def wD (kn : K6) (k1 : K3) (R : K1) (qW oK rU pP zH DG : asZ) (w : asY) : Prop :=
 gD pg (gV .eql 3 (.tmp 32) (.const (atA 0)) DG (atA 0)) w fun e3 w =>
 Gd (kK e3 false) (fun K => K DG w) w fun e5 w =>
 Gd (kK e3 false) (fun K => K qW w) w fun e6 w =>
 Gd (kK e3 false) (fun K => gD pg (oF .len #[22] 3 [e6]) w K) w fun e7 w =>
 Gd (kK e3 false) (fun K => gD pg (gV .lss 3 iI iI e5 e7) w K) w fun e8 w =>
 gD pg (mA e3 (.bool true) e8) w fun e9 w =>
 nG e9
  (gD pg (gV .add 3 iI iI DG (atA 65536)) w fun f6 w =>
  gD pg (oF .len #[22] 3 [qW]) w fun f8 w =>
  gD pg (oF .min #[3, 3] 3 [f6, f8]) w fun f9 w =>
  gD pg (jE 45 zH) w fun i1 w =>
  jD pg Dw #[qW, DG, f9, oK, i1] w fun i2 w =>
  gD pg (jV i2 0) w fun i3 w =>
  gD pg (jV i2 1) w fun i4 w =>
  gD pg (jV i2 2) w fun i5 w =>
  gD pg (pY 45) w fun c2 w =>
  gD pg (jZ 45 c2 i4) w fun _u w =>
  gD pg (gV .neq 24 (.tmp 56) (.const (atA 0)) i5 (atA 0)) w fun i7 w =>
  nG i7
   (R (.tuple #[(.slice none 0 0), i5]) w)
   ((dr w) = (dr w) /\
   (dr w) = (dr w) /\
   gD pg (oF .append #[22, 22] 22 [pP, i3]) (dr w) fun j1 X7 =>
   gD pg (jE 45 c2) X7 fun j2 w_ => w_ = X7 /\
   (jF pg (jE 45 c2) j2 (dr w) /\ True) /\
   X7 = X7 /\
   gD pg (jZ 45 zH j2) X7 fun _u5 alI =>
   gD pg (gV .add 3 iI iI DG (atA 65536)) alI fun f1 w =>
   kn qW oK rU j1 zH f1 w))
  (k1 qW rU pP w)
theorem P9 (kn : K6) (k1 : K3) (R : K1) (hn : N6 Q kn 0 1 2 8 9 10) (h1 : E3 Q k1 1 0 2 8) (hr : HR qR R Q) (h : wD kn k1 R (g 0) (g 1) (g 2) (g 8) (g 9) (g 10) w) : jK pg oH (bI (bI (fU 1 (gR 1 (fU 4 nS))))) Q g w :=
 lM (l := [(1, fun g w => k1 (g 0) (g 2) (g 8) w)]) h hn hr ⟨h1, trivial⟩
def Fj (k1 : K3) (R : K1) (qW oK rU pP zH DG : asZ) (w : asY) : Prop :=
 kE (fun (X : (asZ × asZ) -> K0) (t : asZ × asZ) (w : asY) => wD (fun _ _ _ pP _ DG w => X (pP, DG) w) k1 R qW oK rU t.1 zH t.2 w) (pP, DG) w
theorem Pj (k1 : K3) (R : K1) (h1 : E3 Q k1 1 0 2 8) (hr : HR qR R Q) (h : Fj k1 R (g 0) (g 1) (g 2) (g 8) (g 9) (g 10) w) : jK pg oH (bI (fU 1 (gR 1 (fU 4 nS)))) Q g w := by
 refine MJ (fun g : Env => (g 8, g 10)) (fun X t w => wD (fun _ _ _ pP _ DG w => X (pP, DG) w) k1 R (g 0) (g 1) (g 2) t.1 (g 9) t.2 w) h (fun X g1 w1 ha hL => ?_)
 rw [<- qP 0 ha, <- qP 1 ha, <- qP 2 ha, <- qP 9 ha] at hL
 exact (P9 _ g1 w1 (fun _ _ _ pP _ DG w => X (pP, DG) w) k1 R (fun _ _ h => h) h1 hr hL)
def EN (kn : K3) (R : K1) (qW oK rU pP zH DG : asZ) (w : asY) : Prop :=
 Fj kn R qW oK rU pP zH DG w
def Fu (kn : K6) (qW oK rU pP zH : asZ) (w : asY) : Prop :=
 kn qW oK rU pP zH (atA 0) w
theorem Qa (kn : K6) (hn : N6 Q kn 0 1 2 8 9 10) (h : Fu kn (g 0) (g 1) (g 2) (g 8) (g 9) w) : jK pg oH (gR 1 (gR 1 (fU 4 nS))) Q g w :=
 lM (kr := no) (l := []) h hn mI trivial
def FE (kn : K3) (R : K1) (qW oK rU pP zH : asZ) (w : asY) : Prop :=
 Fu (fun qW oK rU pP zH DG w => EN kn R qW oK rU pP zH DG w) qW oK rU pP zH w
def FP (R : K1) (qW oK rU pP zH : asZ) (w : asY) : Prop :=
 FE (fun qW rU pP w => AK R qW rU pP w) R qW oK rU pP zH w
theorem PD (kn : K3) (R : K1) (hn : N3 Q kn 0 2 8) (hr : HR qR R Q) (h : FE kn R (g 0) (g 1) (g 2) (g 8) (g 9) w) : jK pg oH (gR 1 (fU 4 nS)) Q g w :=
 oE 1 (Qa _ g w (EN kn R) (fun g w h => iA (G5 1 (Pj _ g w kn R hn hr h))) h)
def D2 (kn : K5) (R : K1) (qW oK rU : asZ) (w : asY) : Prop :=
 gD pg (gV .lss 3 iI iI oK (atA 0)) w fun c7 w =>
 Gd (kK c7 false) (fun K => K oK w) w fun c9 w =>
 Gd (kK c7 false) (fun K => gD pg (gV .gtr 3 iI iI c9 (atA 9)) w K) w fun d0 w =>
 gD pg (mA c7 (.bool true) d0) w fun d1 w =>
 nG d1
  (R (.tuple #[(.slice none 0 0), (atA 1)]) w)
  (gD pg (oF .len #[22] 3 [qW]) w fun d4 w =>
  gD pg (gV .gtr 3 iI iI d4 (atA 4194304)) w fun d5 w =>
  nG d5
   (R (.tuple #[(.slice none 0 0), (atA 12)]) w)
   (gD pg (oF .len #[22] 3 [qW]) w fun d7 w =>
   gD pg (nL 3 32 d7) w fun d8 w =>
   jD pg FU #[d8, rU] w fun e0 w =>
   jD pg Cg #[] w fun e1 w =>
   gD pg (pY 45) w fun zH w =>
   gD pg (jZ 45 zH e1) w fun _u w =>
   kn qW oK rU e0 zH w))
theorem NM (kn : K5) (R : K1) (hn : N5 Q kn 0 1 2 8 9) (hr : HR qR R Q) (h : D2 kn R (g 0) (g 1) (g 2) w) : jK pg oH (gR 4 nS) Q g w :=
 lM (l := []) h hn hr trivial
def DC (R : K1) (qW oK rU : asZ) (w : asY) : Prop :=
 D2 (fun qW oK rU pP zH w => FP R qW oK rU pP zH w) R qW oK rU w
theorem Oq (R : K1) (hr : HR qR R Q) (h : DC R (g 0) (g 1) (g 2) w) : jK pg oH nS Q g w :=
 oE 4 (NM _ g w (FP R) R (fun g w h => iA (oE 1 (PD _ g w (AK R) R (fun g w h => iA (oE 1 (P6 _ g w (vP R) (fun g w h => iA (PQ _ g w R hr h)) h))) hr h))) hr h)
def Qt (a0 a1 a2 : asZ) (w : asY) (R : K1) : Prop :=
 DC R a0 a1 a2 w
theorem QC {a0 a1 a2 : asZ} {w : asY} {R : K1} (h : Qt a0 a1 a2 w R) : jD pg Cs #[a0, a1, a2] w R := by
 refine B0 (ann := oH) Tryz.f9 nS [a0, a1, a2] qR 81 TryzM.mixed Tryz.func9 ?_
 exact (Oq _ _ _ R (fun _ _ h => h) h)
def Mw : FA := ⟨FY, fun i => .leaf ([], []) []⟩
def OJ : List ResultVar := [.tmp 0]
noncomputable def J9 : Code := kF Tryz.f13
def HM (R : K1)  (w : asY) : Prop :=
 jD pg yM #[(.int .u64 10), (atA 4)] w fun c2 w =>
 gD pg (jV c2 0) w fun c3 w =>
 gD pg (jV c2 1) w fun c4 w =>
 jD pg AT #[(.int .u64 10), (atA 4), (atA 2)] w fun c6 w =>
 gD pg (jV c6 0) w fun c7 w =>
 gD pg (jV c6 1) w fun c8 w =>
 gD pg (jV c6 2) w fun c9 w =>
 gD pg (lI 22 2 [(0, (.int .u8 1)), (1, (.int .u8 2))]) w fun d1 w =>
 jD pg G4 #[d1, (atA 5)] w fun d2 w =>
 gD pg (jV d2 0) w fun d3 w =>
 gD pg (jV d2 1) w fun d4 w =>
 gD pg (jV d2 2) w fun d5 w =>
 jD pg Dt #[d3, d4, (atA 2)] w fun d9 w =>
 gD pg (jV d9 0) w fun e0 w =>
 gD pg (jV d9 1) w fun e1 w =>
 gD pg (gV .eql 3 (.tmp 32) (.const (atA 3)) c3 (atA 3)) w fun e3 w =>
 Gd (kK e3 true) (fun K => K c4 w) w fun e5 w =>
 Gd (kK e3 true) (fun K => gD pg (gV .eql 24 (.tmp 35) (.const (atA 0)) e5 (atA 0)) w K) w fun e6 w =>
 gD pg (mA e3 e6 (.bool false)) w fun e7 w =>
 Gd (kK e7 true) (fun K => K c7 w) w fun e9 w =>
 Gd (kK e7 true) (fun K => gD pg (gV .eql 32 (.tmp 39) (.const (.int .u64 8)) e9 (.int .u64 8)) w K) w fun f0 w =>
 gD pg (mA e7 f0 (.bool false)) w fun f1 w =>
 Gd (kK f1 true) (fun K => K c8 w) w fun f3 w =>
 Gd (kK f1 true) (fun K => gD pg (gV .eql 3 (.tmp 43) (.const (atA 2)) f3 (atA 2)) w K) w fun f4 w =>
 gD pg (mA f1 f4 (.bool false)) w fun f5 w =>
 Gd (kK f5 true) (fun K => K c9 w) w fun f7 w =>
 Gd (kK f5 true) (fun K => gD pg (gV .eql 24 (.tmp 47) (.const (atA 0)) f7 (atA 0)) w K) w fun f8 w =>
 gD pg (mA f5 f8 (.bool false)) w fun f9 w =>
 Gd (kK f9 true) (fun K => K d3 w) w fun i1 w =>
 Gd (kK f9 true) (fun K => gD pg (gV .eql 5 (.tmp 51) (.const (.int .u8 0)) i1 (.int .u8 0)) w K) w fun i2 w =>
 gD pg (mA f9 i2 (.bool false)) w fun i3 w =>
 Gd (kK i3 true) (fun K => K d5 w) w fun i5 w =>
 Gd (kK i3 true) (fun K => gD pg (gV .eql 24 (.tmp 55) (.const (atA 0)) i5 (atA 0)) w K) w fun i6 w =>
 gD pg (mA i3 i6 (.bool false)) w fun i7 w =>
 Gd (kK i7 true) (fun K => K e0 w) w fun i9 w =>
 Gd (kK i7 true) (fun K => gD pg (nL 22 9 i9) w K) w fun j0 w =>
 Gd (kK i7 true) (fun K => gD pg (gV .eql 9 (.tmp 60) (.const (.string ⟨#[1, 2]⟩)) j0 (.string ⟨#[1, 2]⟩)) w K) w fun j1 w =>
 gD pg (mA i7 j1 (.bool false)) w fun j2 w =>
 Gd (kK j2 true) (fun K => K e1 w) w fun j4 w =>
 Gd (kK j2 true) (fun K => gD pg (gV .eql 24 (.tmp 64) (.const (atA 0)) j4 (atA 0)) w K) w fun j5 w =>
 gD pg (mA j2 j5 (.bool false)) w fun j6 w =>
 R j6 w
theorem R4 (R : K1) (hr : HR OJ R Q) (h : HM R w) : jK pg Mw J9 Q g w :=
 lM (kn := no) (l := []) h mI hr trivial
def Uh (w : asY) (R : K1) : Prop :=
 HM R w
theorem Tx {w : asY} {R : K1} (h : Uh w R) : jD pg FY #[] w R := by
 refine B0 (ann := Mw) Tryz.f13 J9 [] OJ 67 TryzM.mixed Tryz.func13 ?_
 exact (R4 _ _ _ R (fun _ _ h => h) h)
def Cq : FA := ⟨yM, fun i => .leaf ([], []) []⟩
def Ed : List ResultVar := [.tmp 4, .tmp 5]
noncomputable def AR : Code := kF Tryz.f14
def sX (R : K1) (VP : asZ) (w : asY) : Prop :=
 gD pg (gV .gtr 32 iI iI VP (.int .u64 1024)) w fun d5 w =>
 nG d5
  (R (.tuple #[(atA 0), (atA 12)]) w)
  (gD pg (nL 32 3 VP) w fun d7 w =>
  R (.tuple #[d7, (atA 0)]) w)
theorem Su (R : K1) (hr : HR Ed R Q) (h : sX R (g 6) w) : jK pg Cq (fU 4 AR) Q g w :=
 lM (kn := no) (l := []) h mI hr trivial
def Hv (kn : K1) (R : K1) (kD Ei : asZ) (w : asY) : Prop :=
 gD pg (gV .lss 3 iI iI Ei (atA 1)) w fun b8 w =>
 Gd (kK b8 false) (fun K => K Ei w) w fun c0 w =>
 Gd (kK b8 false) (fun K => gD pg (gV .gtr 3 iI iI c0 (atA 65536)) w K) w fun c1 w =>
 gD pg (mA b8 (.bool true) c1) w fun c2 w =>
 nG c2
  (R (.tuple #[(atA 0), (atA 1)]) w)
  (gD pg (nL 3 32 Ei) w fun c5 w =>
  gD pg (gV .quo 32 iI iI kD c5) w fun c6 w =>
  gD pg (nL 3 32 Ei) w fun c9 w =>
  gD pg (gV .rem 32 iI iI kD c9) w fun d0 w =>
  gD pg (gV .gtr 32 iI iI d0 (.int .u64 0)) w fun d1 w =>
  nG d1
   (gD pg (gV .add 32 iI iI c6 (.int .u64 1)) w fun d3 w =>
   kn d3 w)
   (kn c6 w))
theorem RY (kn : K1) (R : K1) (hn : N1 Q kn 6) (hr : HR Ed R Q) (h : Hv kn R (g 0) (g 1) w) : jK pg Cq (gR 4 AR) Q g w :=
 lM (l := []) h hn hr trivial
def Hz (R : K1) (kD Ei : asZ) (w : asY) : Prop :=
 Hv (fun VP w => sX R VP w) R kD Ei w
theorem SE (R : K1) (hr : HR Ed R Q) (h : Hz R (g 0) (g 1) w) : jK pg Cq AR Q g w :=
 oE 4 (RY _ g w (sX R) R (fun g w h => iA (Su _ g w R hr h)) hr h)
def T4 (a0 a1 : asZ) (w : asY) (R : K1) : Prop :=
 Hz R a0 a1 w
theorem Th {a0 a1 : asZ} {w : asY} {R : K1} (h : T4 a0 a1 w R) : jD pg yM #[a0, a1] w R := by
 refine B0 (ann := Cq) Tryz.f14 AR [a0, a1] Ed 28 TryzM.mixed Tryz.func14 ?_
 exact (SE _ _ _ R (fun _ _ h => h) h)
def Ob : FA := ⟨AT, fun i => .leaf ([], []) []⟩
def Qg : List ResultVar := [.tmp 6, .tmp 7, .tmp 8]
noncomputable def Mr : Code := kF Tryz.f16
def Js (R : K1) (kD Ei i_2 : asZ) (w : asY) : Prop :=
 jD pg yM #[kD, Ei] w fun c5 w =>
 gD pg (jV c5 0) w fun c6 w =>
 gD pg (jV c5 1) w fun c7 w =>
 gD pg (gV .neq 24 (.tmp 19) (.const (atA 0)) c7 (atA 0)) w fun d0 w =>
 nG d0
  (R (.tuple #[(.int .u64 0), (atA 0), c7]) w)
  (gD pg (gV .lss 3 iI iI i_2 (atA 0)) w fun d4 w =>
  Gd (kK d4 false) (fun K => K i_2 w) w fun d6 w =>
  Gd (kK d4 false) (fun K => K c6 w) w fun d7 w =>
  Gd (kK d4 false) (fun K => gD pg (gV .geq 3 iI iI d6 d7) w K) w fun d8 w =>
  gD pg (mA d4 (.bool true) d8) w fun d9 w =>
  nG d9
   (R (.tuple #[(.int .u64 0), (atA 0), (atA 17)]) w)
   (gD pg (nL 3 32 Ei) w fun e1 w =>
   gD pg (nL 3 32 i_2) w fun e3 w =>
   gD pg (gV .mul 32 iI iI e1 e3) w fun e4 w =>
   gD pg (gV .sub 32 iI iI kD e4) w fun e8 w =>
   gD pg (nL 3 32 Ei) w fun f0 w =>
   gD pg (oF .min #[32, 32] 32 [e8, f0]) w fun f1 w =>
   gD pg (nL 32 3 f1) w fun f2 w =>
   R (.tuple #[e4, f2, (atA 0)]) w))
theorem Tr (R : K1) (hr : HR Qg R Q) (h : Js R (g 0) (g 1) (g 2) w) : jK pg Ob Mr Q g w :=
 lM (kn := no) (l := []) h mI hr trivial
def Vm (a0 a1 a2 : asZ) (w : asY) (R : K1) : Prop :=
 Js R a0 a1 a2 w
theorem UA {a0 a1 a2 : asZ} {w : asY} {R : K1} (h : Vm a0 a1 a2 w R) : jD pg AT #[a0, a1, a2] w R := by
 refine B0 (ann := Ob) Tryz.f16 Mr [a0, a1, a2] Qg 43 TryzM.mixed Tryz.func16 ?_
 exact (Tr _ _ _ R (fun _ _ h => h) h)
def Od : FA := ⟨G4, fun i => .leaf ([], []) []⟩
def Ql : List ResultVar := [.tmp 4, .tmp 5, .tmp 6]
noncomputable def Mx : Code := kF Tryz.f18
def Jm (R : K1) (qW oK : asZ) (w : asY) : Prop :=
 gD pg (oF .len #[22] 3 [qW]) w fun c0 w =>
 gD pg (gV .gtr 3 iI iI c0 (atA 65536)) w fun c1 w =>
 nG c1
  (R (.tuple #[(.int .u8 0), (.slice none 0 0), (atA 1)]) w)
  (jD pg Cs #[qW, oK, (.bool false)] w fun c5 w =>
  gD pg (jV c5 0) w fun c6 w =>
  gD pg (jV c5 1) w fun c7 w =>
  gD pg (gV .neq 24 (.tmp 19) (.const (atA 0)) c7 (atA 0)) w fun d0 w =>
  nG d0
   (R (.tuple #[(.int .u8 0), (.slice none 0 0), c7]) w)
   (gD pg (oF .len #[22] 3 [c6]) w fun d4 w =>
   gD pg (oF .len #[22] 3 [qW]) w fun d6 w =>
   gD pg (gV .lss 3 iI iI d4 d6) w fun d7 w =>
   nG d7
    (R (.tuple #[(.int .u8 1), c6, (atA 0)]) w)
    (jD pg pG #[qW] w fun e0 w =>
    R (.tuple #[(.int .u8 0), e0, (atA 0)]) w)))
theorem Tp (R : K1) (hr : HR Ql R Q) (h : Jm R (g 0) (g 1) w) : jK pg Od Mx Q g w :=
 lM (kn := no) (l := []) h mI hr trivial
def UZ (a0 a1 : asZ) (w : asY) (R : K1) : Prop :=
 Jm R a0 a1 w
theorem Ui {a0 a1 : asZ} {w : asY} {R : K1} (h : UZ a0 a1 w R) : jD pg G4 #[a0, a1] w R := by
 refine B0 (ann := Od) Tryz.f18 Mx [a0, a1] Ql 31 TryzM.mixed Tryz.func18 ?_
 exact (Tp _ _ _ R (fun _ _ h => h) h)
def KC : FA := ⟨Dt, fun i => .leaf ([], []) []⟩
def MF : List ResultVar := [.tmp 6, .tmp 7]
noncomputable def Ji : Code := kF Tryz.f19
def Gx (R : K1) (NI xK SY : asZ) (w : asY) : Prop :=
 gD pg (gV .lss 3 iI iI SY (atA 0)) w fun c5 w =>
 Gd (kK c5 false) (fun K => K SY w) w fun c7 w =>
 Gd (kK c5 false) (fun K => gD pg (gV .gtr 3 iI iI c7 (atA 65536)) w K) w fun c8 w =>
 gD pg (mA c5 (.bool true) c8) w fun c9 w =>
 nG c9
  (R (.tuple #[(.slice none 0 0), (atA 1)]) w)
  (gD pg (gV .eql 5 (.tmp 21) (.const (.int .u8 0)) NI (.int .u8 0)) w fun d2 w =>
  Gd (kK d2 true) (fun K => K xK w) w fun d4 w =>
  Gd (kK d2 true) (fun K => gD pg (oF .len #[22] 3 [d4]) w K) w fun d5 w =>
  Gd (kK d2 true) (fun K => K SY w) w fun d6 w =>
  Gd (kK d2 true) (fun K => gD pg (gV .eql 3 (.tmp 25) (.tmp 26) d5 d6) w K) w fun d7 w =>
  gD pg (mA d2 d7 (.bool false)) w fun d8 w =>
  nG d8
   (jD pg pG #[xK] w fun e0 w =>
   R (.tuple #[e0, (atA 0)]) w)
   (gD pg (gV .neq 5 (.tmp 32) (.const (.int .u8 1)) NI (.int .u8 1)) w fun e3 w =>
   nG e3
    (R (.tuple #[(.slice none 0 0), (atA 11)]) w)
    (jD pg Ux #[xK, (atA 22), SY] w fun e7 w =>
    gD pg (jV e7 0) w fun e8 w =>
    gD pg (jV e7 1) w fun e9 w =>
    gD pg (gV .neq 24 (.tmp 40) (.const (atA 0)) e9 (atA 0)) w fun f1 w =>
    nG f1
     (R (.tuple #[(.slice none 0 0), e9]) w)
     (jD pg Uj #[xK, (atA 22), SY] w fun f6 w =>
     gD pg (jV f6 0) w fun f7 w =>
     gD pg (jV f6 1) w fun f8 w =>
     gD pg (jV f6 2) w fun f9 w =>
     gD pg (gV .neq 3 (.tmp 50) (.const (atA 1)) f7 (atA 1)) w fun i1 w =>
     Gd (kK i1 false) (fun K => K f8 w) w fun i3 w =>
     Gd (kK i1 false) (fun K => gD pg (gV .neq 3 (.tmp 53) (.const (atA 0)) i3 (atA 0)) w K) w fun i4 w =>
     gD pg (mA i1 (.bool true) i4) w fun i5 w =>
     Gd (kK i5 false) (fun K => K e8 w) w fun i7 w =>
     Gd (kK i5 false) (fun K => gD pg (oF .len #[22] 3 [i7]) w K) w fun i8 w =>
     Gd (kK i5 false) (fun K => K SY w) w fun i9 w =>
     Gd (kK i5 false) (fun K => gD pg (gV .neq 3 (.tmp 58) (.tmp 59) i8 i9) w K) w fun j0 w =>
     gD pg (mA i5 (.bool true) j0) w fun j1 w =>
     nG j1
      (R (.tuple #[(.slice none 0 0), (atA 11)]) w)
      (R (.tuple #[e8, (atA 0)]) w)))))
theorem Qy (R : K1) (hr : HR MF R Q) (h : Gx R (g 0) (g 1) (g 2) w) : jK pg KC Ji Q g w :=
 lM (kn := no) (l := []) h mI hr trivial
def Sz (a0 a1 a2 : asZ) (w : asY) (R : K1) : Prop :=
 Gx R a0 a1 a2 w
theorem Rr {a0 a1 a2 : asZ} {w : asY} {R : K1} (h : Sz a0 a1 a2 w R) : jD pg Dt #[a0, a1, a2] w R := by
 refine B0 (ann := KC) Tryz.f19 Ji [a0, a1, a2] MF 63 TryzM.mixed Tryz.func19 ?_
 exact (Qy _ _ _ R (fun _ _ h => h) h)
def yL : FA := ⟨FU, fun i => .leaf ([], []) []⟩
def Hw : List ResultVar := [.tmp 4]
noncomputable def vS : Code := kF Tryz.f20
def Ak (R : K1) (kD ZY VP Dr : asZ) (w : asY) : Prop :=
 jD pg nU #[] w fun d7 w =>
 jD pg jL #[d7, (.int .u64 4247762216), (atA 4)] w fun d9 w =>
 jD pg jL #[d7, ZY, (atA 1)] w fun e2 w =>
 gD pg (gV .sub 32 iI iI kD Dr) w fun e6 w =>
 jD pg jL #[d7, e6, VP] w fun e8 w =>
 jD pg nD #[d7] w fun f0 w =>
 R f0 w
theorem R2 (R : K1) (hr : HR Hw R Q) (h : Ak R (g 0) (g 5) (g 6) (g 7) w) : jK pg yL (fU 1 (fU 3 vS)) Q g w :=
 lM (kn := no) (l := []) h mI hr trivial
def Ib (kn : K4) (kD oI ZY VP Dr : asZ) (w : asY) : Prop :=
 nG oI
  (gD pg (gV .or 32 iI iI ZY (.int .u64 4)) w fun d6 w =>
  kn kD d6 VP Dr w)
  (kn kD ZY VP Dr w)
theorem SV (kn : K4) (hn : N4 Q kn 0 5 6 7) (h : Ib kn (g 0) (g 1) (g 5) (g 6) (g 7) w) : jK pg yL (gR 1 (fU 3 vS)) Q g w :=
 lM (kr := no) (l := []) h hn mI trivial
def Il (R : K1) (kD oI ZY VP Dr : asZ) (w : asY) : Prop :=
 Ib (fun kD ZY VP Dr w => Ak R kD ZY VP Dr w) kD oI ZY VP Dr w
def H5 (kn : K5) (kD oI : asZ) (w : asY) : Prop :=
 gD pg (gV .lss 32 iI iI kD (.int .u64 256)) w fun c3 w =>
 nG c3
  (kn kD oI (.int .u64 32) (atA 1) (.int .u64 0) w)
  (gD pg (gV .lss 32 iI iI kD (.int .u64 65792)) w fun c6 w =>
  nG c6
   (gD pg (gV .or 32 iI iI (.int .u64 32) (.int .u64 64)) w fun c8 w =>
   kn kD oI c8 (atA 2) (.int .u64 256) w)
   (gD pg (gV .lss 32 iI iI kD (.int .u64 4294967296)) w fun d1 w =>
   nG d1
    (gD pg (gV .or 32 iI iI (.int .u64 32) (.int .u64 128)) w fun d3 w =>
    kn kD oI d3 (atA 4) (.int .u64 0) w)
    (gD pg (gV .or 32 iI iI (.int .u64 32) (.int .u64 192)) w fun c0 w =>
    kn kD oI c0 (atA 8) (.int .u64 0) w)))
theorem Ry (kn : K5) (hn : N5 Q kn 0 1 5 6 7) (h : H5 kn (g 0) (g 1) w) : jK pg yL (gR 3 vS) Q g w :=
 lM (kr := no) (l := []) h hn mI trivial
def Hg (R : K1) (kD oI : asZ) (w : asY) : Prop :=
 H5 (fun kD oI ZY VP Dr w => Il R kD oI ZY VP Dr w) kD oI w
theorem Sc (R : K1) (hr : HR Hw R Q) (h : Hg R (g 0) (g 1) w) : jK pg yL vS Q g w :=
 oE 3 (Ry _ g w (Il R) (fun g w h => iA (oE 1 (SV _ g w (Ak R) (fun g w h => iA (R2 _ g w R hr h)) h))) h)
def T5 (a0 a1 : asZ) (w : asY) (R : K1) : Prop :=
 Hg R a0 a1 w
theorem TK {a0 a1 : asZ} {w : asY} {R : K1} (h : T5 a0 a1 w R) : jD pg FU #[a0, a1] w R := by
 refine B0 (ann := yL) Tryz.f20 vS [a0, a1] Hw 41 TryzM.mixed Tryz.func20 ?_
 exact (Sc _ _ _ R (fun _ _ h => h) h)
def I3 : FA := ⟨Cg, fun i => .leaf ([], []) []⟩
def KP : List ResultVar := [.cell 0 45]
noncomputable def HP : Code := kF Tryz.f21
def EU (R : K1)  (w : asY) : Prop :=
 gD pg (pY 45) w fun b0 w =>
 gD pg (mK 45 [(0, (.int .u32 1)), (1, (.int .u32 4)), (2, (.int .u32 8))]) w fun b1 w =>
 gD pg (jZ 45 b0 b1) w fun _u w =>
 Um pg 45 b0 w fun r0 => R r0 w
theorem P5 (R : K1) (hr : HR KP R Q) (h : EU R w) : jK pg I3 HP Q g w :=
 lM (kn := no) (l := []) h mI hr trivial
def Qs (w : asY) (R : K1) : Prop :=
 EU R w
theorem Rb {w : asY} {R : K1} (h : Qs w R) : jD pg Cg #[] w R := by
 refine B0 (ann := I3) Tryz.f21 HP [] KP 2 TryzM.mixed Tryz.func21 ?_
 exact (P5 _ _ _ R (fun _ _ h => h) h)
def AZ : FA := ⟨Dw, fun i => match Nat.beq i 5 with | true => .leaf ([3], [(1, 3)]) [(false, []), (false, []), (false, []), (true, [1]), (false, [])] | false => match Nat.beq i 8 with | true => .leaf ([5, 7, 9], [(1, 5), (3, 5), (3, 7)]) [(false, []), (false, []), (false, []), (false, []), (false, []), (true, [1, 3]), (false, []), (true, [3]), (false, []), (true, [])] | false => match Nat.beq i 11 with | true => .leaf ([3], []) [(false, []), (false, []), (false, []), (true, []), (false, [])] | false => match Nat.beq i 12 with | true => .leaf ([2, 5], [(2, 3)]) [(false, []), (false, []), (true, []), (false, [0]), (false, []), (true, []), (false, [])] | false => .leaf ([], []) []⟩
def Gu : List ResultVar := [.tmp 10, .cell 11 45, .tmp 12]
noncomputable def zM : Code := kF Tryz.f22
def tL (R : K1) (zH c1 TF R9 : asZ) (w : asY) : Prop :=
 gD pg (jE 65 TF) w fun j4 w =>
 jD pg xY #[j4] w fun j5 w =>
 gD pg (jV j5 0) w fun j6 w =>
 gD pg (jV j5 1) w fun j7 w =>
 gD pg (gV .neq 24 (.tmp 68) (.const (atA 0)) j7 (atA 0)) w fun j9 w =>
 nG j9
  (gD pg (jE 45 zH) (dr w) fun l0 w_ => w_ = (dr w) /\
  (dr w) = (dr w) /\
  (dr w) = (dr w) /\
  gD pg (jZ 45 c1 l0) (dr w) fun _u3 ZE =>
  ZE = ZE /\
  Um pg 45 c1 ZE fun r1 => R (.tuple #[(.slice none 0 0), r1, j7]) ZE)
  ((dr w) = (dr w) /\
  (dr w) = (dr w) /\
  gD pg (oF .append #[22, 22] 22 [j6, R9]) (dr w) fun l4 XV =>
  gD pg (jE 45 zH) XV fun l5 w_ => w_ = XV /\
  (jF pg (jE 45 zH) l5 (dr w) /\ True) /\
  XV = XV /\
  gD pg (jZ 45 c1 l5) XV fun _u5 Zt =>
  Zt = Zt /\
  Um pg 45 c1 Zt fun r1 => R (.tuple #[l4, r1, (atA 0)]) Zt)
theorem Rc (R : K1) (hr : HR Gu R Q) (h : tL R (g 9) (g 11) (g 14) (g 15) w) : jK pg AZ (fU 5 zM) Q g w :=
 lM (kn := no) (l := []) h mI hr trivial
def Gw (kn : K4) (qW kZ b2 iZ r_4 : asZ) (w : asY) : Prop :=
 gD pg (Q7 45 r_4) w fun zH w =>
 gD pg (pY 45) w fun c1 w =>
 gD pg (lR 22 qW (some kZ) (some b2) none) w fun d4 w =>
 gD pg (oF .len #[22] 3 [qW]) w fun d7 w =>
 gD pg (gV .eql 3 (.tmp 25) (.tmp 27) b2 d7) w fun d8 w =>
 gD pg (oF .len #[22] 3 [d4]) w fun e0 w =>
 gD pg (mK 65 [(0, d8), (1, (atA 0)), (2, e0)]) w fun e1 w =>
 gD pg (pY 65) w fun TF w =>
 gD pg (jZ 65 TF e1) w fun _u w =>
 jD pg AE #[d4] w fun e4 w =>
 nG e4
  ((dr w) = (dr w) /\
  gD pg (lR 22 d4 none (some (atA 1)) none) (dr w) fun e6 w_ => w_ = (dr w) /\
  gD pg (jJ 65 TF 1) (dr w) fun e7 w_ => w_ = (dr w) /\
  gD pg (jZ 3 e7 (atA 1)) (dr w) fun _u3 Zl =>
  (jF pg (lR 22 d4 none (some (atA 1)) none) e6 Zl /\ True) /\
  Zl = Zl /\
  kn zH c1 TF e6 Zl)
  (gD pg (jE 45 zH) w fun f3 w =>
  jD pg Cr #[qW, kZ, b2, iZ, f3] w fun f4 w =>
  gD pg (jV f4 0) w fun f5 w =>
  gD pg (jV f4 1) w fun f6 w =>
  gD pg (jV f4 2) w fun f7 w =>
  gD pg (pY 45) w fun c7 w =>
  gD pg (jZ 45 c7 f6) w fun _u w =>
  gD pg (gV .eql 24 (.tmp 48) (.const (atA 0)) f7 (atA 0)) w fun f9 w =>
  Gd (kK f9 true) (fun K => K f5 w) w fun i1 w =>
  Gd (kK f9 true) (fun K => gD pg (oF .len #[22] 3 [i1]) w K) w fun i2 w =>
  Gd (kK f9 true) (fun K => K d4 w) w fun i3 w =>
  Gd (kK f9 true) (fun K => gD pg (oF .len #[22] 3 [i3]) w K) w fun i4 w =>
  Gd (kK f9 true) (fun K => gD pg (gV .lss 3 iI iI i2 i4) w K) w fun i5 w =>
  gD pg (mA f9 i5 (.bool false)) w fun i6 w =>
  nG i6
   ((dr w) = (dr w) /\
   gD pg (oF .len #[22] 3 [f5]) (dr w) fun i8 w_ => w_ = (dr w) /\
   (dr w) = (dr w) /\
   gD pg (jE 45 c7) (dr w) fun j0 w_ => w_ = (dr w) /\
   gD pg (jJ 65 TF 1) (dr w) fun j1 w_ => w_ = (dr w) /\
   gD pg (jZ 3 j1 (atA 2)) (dr w) fun _u5 adE =>
   (jF pg (jE 45 c7) j0 adE /\ jF pg (oF .len #[22] 3 [f5]) i8 adE /\ True) /\
   gD pg (jJ 65 TF 2) adE fun j2 w_ => w_ = adE /\
   gD pg (jZ 3 j2 i8) adE fun _u7 ahI =>
   (jF pg (jE 45 c7) j0 ahI /\ True) /\
   ahI = ahI /\
   gD pg (jZ 45 zH j0) ahI fun _u9 alZ =>
   kn zH c1 TF f5 alZ)
   (kn zH c1 TF d4 w))
theorem QL (kn : K4) (hn : N4 Q kn 9 11 14 15) (h : Gw kn (g 0) (g 1) (g 2) (g 3) (g 4) w) : jK pg AZ (gR 5 zM) Q g w :=
 lM (kr := no) (l := []) h hn mI trivial
def GK (R : K1) (qW kZ b2 iZ r_4 : asZ) (w : asY) : Prop :=
 Gw (fun zH c1 TF R9 w => tL R zH c1 TF R9 w) qW kZ b2 iZ r_4 w
theorem QM (R : K1) (hr : HR Gu R Q) (h : GK R (g 0) (g 1) (g 2) (g 3) (g 4) w) : jK pg AZ zM Q g w :=
 oE 5 (QL _ g w (tL R) (fun g w h => iA (Rc _ g w R hr h)) h)
def SB (a0 a1 a2 a3 a4 : asZ) (w : asY) (R : K1) : Prop :=
 GK R a0 a1 a2 a3 a4 w
theorem Rx {a0 a1 a2 a3 a4 : asZ} {w : asY} {R : K1} (h : SB a0 a1 a2 a3 a4 w R) : jD pg Dw #[a0, a1, a2, a3, a4] w R := by
 refine B0 (ann := AZ) Tryz.f22 zM [a0, a1, a2, a3, a4] Gu 76 TryzM.mixed Tryz.func22 ?_
 exact (QM _ _ _ R (fun _ _ h => h) h)
def VF : FA := ⟨OR, fun i => .leaf ([], []) []⟩
def Wb : List ResultVar := [.tmp 2]
noncomputable def Ug : Code := kF Tryz.f23
def TT (R : K1) (qW : asZ) (w : asY) : Prop :=
 jD pg Pa #[] w fun b4 w =>
 jD pg A6 #[b4, qW] w fun b7 w =>
 jD pg D9 #[b4] w fun b9 w =>
 R b9 w
theorem W6 (R : K1) (hr : HR Wb R Q) (h : TT R (g 0) w) : jK pg VF Ug Q g w :=
 lM (kn := no) (l := []) h mI hr trivial
def adS (a0 : asZ) (w : asY) (R : K1) : Prop :=
 TT R a0 w
theorem Xl {a0 : asZ} {w : asY} {R : K1} (h : adS a0 w R) : jD pg OR #[a0] w R := by
 refine B0 (ann := VF) Tryz.f23 Ug [a0] Wb 10 TryzM.mixed Tryz.func23 ?_
 exact (W6 _ _ _ R (fun _ _ h => h) h)
def ED : FA := ⟨pG, fun i => .leaf ([], []) []⟩
def F9 : List ResultVar := [.tmp 2]
noncomputable def Dv : Code := kF Tryz.f25
def Af (R : K1) (EC : asZ) (w : asY) : Prop :=
 gD pg (gV .eql 22 (.tmp 3) (.const (.slice none 0 0)) EC (.slice none 0 0)) w fun b4 w =>
 nG b4
  (R (.slice none 0 0) w)
  (gD pg (lI 22 0 []) w fun b5 w =>
  gD pg (oF .append #[22, 22] 22 [b5, EC]) w fun b7 w =>
  R b7 w)
theorem KI (R : K1) (hr : HR F9 R Q) (h : Af R (g 0) w) : jK pg ED Dv Q g w :=
 lM (kn := no) (l := []) h mI hr trivial
def Jf (a0 : asZ) (w : asY) (R : K1) : Prop :=
 Af R a0 w
theorem LB {a0 : asZ} {w : asY} {R : K1} (h : Jf a0 w R) : jD pg pG #[a0] w R := by
 refine B0 (ann := ED) Tryz.f25 Dv [a0] F9 8 TryzM.mixed Tryz.func25 ?_
 exact (KI _ _ _ R (fun _ _ h => h) h)
def Gp : FA := ⟨nU, fun i => .leaf ([], []) []⟩
def GU : List ResultVar := [.tmp 0]
noncomputable def Ey : Code := kF Tryz.f27
def Bh (R : K1)  (w : asY) : Prop :=
 gD pg (mK 77 []) w fun b1 w =>
 gD pg (Q7 77 b1) w fun b2 w =>
 R b2 w
theorem Lg (R : K1) (hr : HR GU R Q) (h : Bh R w) : jK pg Gp Ey Q g w :=
 lM (kn := no) (l := []) h mI hr trivial
def KN (w : asY) (R : K1) : Prop :=
 Bh R w
theorem Nf {w : asY} {R : K1} (h : KN w R) : jD pg nU #[] w R := by
 refine B0 (ann := Gp) Tryz.f27 Ey [] GU 3 TryzM.mixed Tryz.func27 ?_
 exact (Lg _ _ _ R (fun _ _ h => h) h)
def pL : FA := ⟨jL, fun i => .leaf ([], []) []⟩
def wA : List ResultVar := []
noncomputable def pF : Code := kF Tryz.f28
def rJ (kn : K4) (k0 : K0) (yD BZ c7 c8 : asZ) (w : asY) : Prop :=
 gD pg (gV .lss 3 iI iI c8 c7) w fun c9 w =>
 nG c9
  (gD pg (rO yD) w fun d3 w =>
  gD pg (jJ 77 d3 0) w fun d4 w =>
  gD pg (jE 22 d4) w fun d5 w =>
  gD pg (gV .mul 3 iI iI (atA 8) c8) w fun d8 w =>
  gD pg (nL 3 50 d8) w fun d9 w =>
  gD pg (gV .shr 32 iI iI BZ d9) w fun e0 w =>
  gD pg (nL 32 5 e0) w fun e1 w =>
  gD pg (lI 22 1 [(0, e1)]) w fun e2 w =>
  gD pg (oF .append #[22, 22] 22 [d5, e2]) w fun e3 w =>
  gD pg (rO yD) w fun e4 w =>
  gD pg (jJ 77 e4 0) w fun e5 w =>
  gD pg (jZ 22 e5 e3) w fun _u w =>
  gD pg (gV .add 3 iI iI c8 (atA 1)) w fun e6 w =>
  kn yD BZ c7 e6 w)
  (k0 w)
theorem Iw (kn : K4) (k0 : K0) (hn : N4 Q kn 0 1 17 18) (h0 : E0 Q k0 0) (h : rJ kn k0 (g 0) (g 1) (g 17) (g 18) w) : jK pg pL (bI (bI (fU 2 pF))) Q g w :=
 lM (kr := no) (l := [(0, fun g w => k0 w)]) h hn mI ⟨h0, trivial⟩
def vU (k0 : K0) (yD BZ c7 c8 : asZ) (w : asY) : Prop :=
 kE (fun (X : asZ -> K0) (t : asZ) (w : asY) => rJ (fun _ _ _ c8 w => X c8 w) k0 yD BZ c7 t w) c8 w
theorem HD (k0 : K0) (h0 : E0 Q k0 0) (h : vU k0 (g 0) (g 1) (g 17) (g 18) w) : jK pg pL (bI (fU 2 pF)) Q g w := by
 refine MJ (fun g : Env => g 18) (fun X t w => rJ (fun _ _ _ c8 w => X c8 w) k0 (g 0) (g 1) (g 17) t w) h (fun X g1 w1 ha hL => ?_)
 rw [<- qP 0 ha, <- qP 1 ha, <- qP 17 ha] at hL
 exact (Iw _ g1 w1 (fun _ _ _ c8 w => X c8 w) k0 (fun _ _ h => h) h0 hL)
def wF (kn : K0) (yD BZ c7 c8 : asZ) (w : asY) : Prop :=
 vU kn yD BZ c7 c8 w
def vO (kn : K4) (R : K1) (yD BZ OM : asZ) (w : asY) : Prop :=
 gD pg (gV .eql 60 (.tmp 7) (.const (.pointer none)) yD (.pointer none)) w fun b8 w =>
 Gd (kK b8 false) (fun K => K OM w) w fun c0 w =>
 Gd (kK b8 false) (fun K => gD pg (gV .lss 3 iI iI c0 (atA 1)) w K) w fun c1 w =>
 gD pg (mA b8 (.bool true) c1) w fun c2 w =>
 Gd (kK c2 false) (fun K => K OM w) w fun c4 w =>
 Gd (kK c2 false) (fun K => gD pg (gV .gtr 3 iI iI c4 (atA 8)) w K) w fun c5 w =>
 gD pg (mA c2 (.bool true) c5) w fun c6 w =>
 nG c6
  (R (.tuple #[]) w)
  (kn yD BZ OM (atA 0) w)
theorem Hf (kn : K4) (R : K1) (hn : N4 Q kn 0 1 17 18) (hr : HR wA R Q) (h : vO kn R (g 0) (g 1) (g 2) w) : jK pg pL (gR 2 pF) Q g w :=
 lM (l := []) h hn hr trivial
def vZ (kn : K0) (R : K1) (yD BZ OM : asZ) (w : asY) : Prop :=
 vO (fun yD BZ c7 c8 w => wF kn yD BZ c7 c8 w) R yD BZ OM w
theorem HV (kn : K0) (R : K1) (hn : N0 Q kn) (hr : HR wA R Q) (h : vZ kn R (g 0) (g 1) (g 2) w) : jK pg pL pF Q g w :=
 oE 2 (Hf _ g w (wF kn) R (fun g w h => iA (G5 0 (HD _ g w kn hn h))) hr h)
def Ga (a0 a1 a2 : asZ) (w : asY) (R : K1) : Prop :=
 vZ (fun  w => R (.tuple #[]) w) R a0 a1 a2 w
theorem IJ {a0 a1 a2 : asZ} {w : asY} {R : K1} (h : Ga a0 a1 a2 w R) : jD pg jL #[a0, a1, a2] w R := by
 refine B0 (ann := pL) Tryz.f28 pF [a0, a1, a2] wA 37 TryzM.mixed Tryz.func28 ?_
 exact (HV _ _ _ (fun  w => R (.tuple #[]) w) R (fun _ _ h => h) (fun _ _ h => h) h)
def Ev : FA := ⟨nD, fun i => .leaf ([], []) []⟩
def Gc : List ResultVar := [.tmp 2]
noncomputable def D8 : Code := kF Tryz.f29
def Ag (R : K1) (yD : asZ) (w : asY) : Prop :=
 gD pg (gV .eql 60 (.tmp 3) (.const (.pointer none)) yD (.pointer none)) w fun b4 w =>
 nG b4
  (R (.slice none 0 0) w)
  (gD pg (rO yD) w fun b6 w =>
  gD pg (jJ 77 b6 0) w fun b7 w =>
  gD pg (jE 22 b7) w fun b8 w =>
  jD pg pG #[b8] w fun b9 w =>
  R b9 w)
theorem KS (R : K1) (hr : HR Gc R Q) (h : Ag R (g 0) w) : jK pg Ev D8 Q g w :=
 lM (kn := no) (l := []) h mI hr trivial
def I5 (a0 : asZ) (w : asY) (R : K1) : Prop :=
 Ag R a0 w
theorem Mi {a0 : asZ} {w : asY} {R : K1} (h : I5 a0 w R) : jD pg nD #[a0] w R := by
 refine B0 (ann := Ev) Tryz.f29 D8 [a0] Gc 10 TryzM.mixed Tryz.func29 ?_
 exact (KS _ _ _ R (fun _ _ h => h) h)
def KK : FA := ⟨AE, fun i => .leaf ([], []) []⟩
def Mz : List ResultVar := [.tmp 2]
noncomputable def Jb : Code := kF Tryz.f30
def GC (R : K1) (qW : asZ) (w : asY) : Prop :=
 gD pg (Q7 22 qW) w fun xK w =>
 gD pg (jE 22 xK) w fun b3 w =>
 gD pg (oF .len #[22] 3 [b3]) w fun b4 w =>
 gD pg (gV .gtr 3 iI iI b4 (atA 0)) w fun b5 w =>
 Gd (kK b5 true) (fun K => gD pg (jE 22 xK) w K) w fun b7 w =>
 Gd (kK b5 true) (fun K => gD pg (VD (.func 43) [] [xK]) w K) w fun b8 w =>
 Gd (kK b5 true) (fun K => jD pg sM #[b7, b8] w K) w fun b9 w =>
 Gd (kK b5 true) (fun K => gD pg (Yp .not b9) w K) w fun c0 w =>
 gD pg (mA b5 c0 (.bool false)) w fun c1 w =>
 R c1 w
theorem Q8 (R : K1) (hr : HR Mz R Q) (h : GC R (g 0) w) : jK pg KK Jb Q g w :=
 lM (kn := no) (l := []) h mI hr trivial
def RD (a0 : asZ) (w : asY) (R : K1) : Prop :=
 GC R a0 w
theorem Sh {a0 : asZ} {w : asY} {R : K1} (h : RD a0 w R) : jD pg AE #[a0] w R := by
 refine B0 (ann := KK) Tryz.f30 Jb [a0] Mz 12 TryzM.mixed Tryz.func30 ?_
 exact (Q8 _ _ _ R (fun _ _ h => h) h)
def pI : FA := ⟨Cr, fun i => match Nat.beq i 3 with | true => .leaf ([3], []) [(false, []), (false, []), (false, []), (true, []), (false, [])] | false => match Nat.beq i 16 with | true => .leaf ([3], []) [(false, []), (false, []), (false, []), (true, []), (false, [])] | false => match Nat.beq i 19 with | true => .leaf ([3], []) [(false, []), (false, []), (false, []), (true, []), (false, [])] | false => match Nat.beq i 20 with | true => .leaf ([2, 3, 6], [(2, 4), (3, 4)]) [(false, []), (false, []), (true, []), (true, []), (false, [0, 1]), (false, []), (true, []), (false, [])] | false => .leaf ([], []) []⟩
def A0 : List ResultVar := [.tmp 10, .cell 11 45, .tmp 12]
noncomputable def oN : Code := kF Tryz.f31
def AV (R : K1) (qW b2 zH c1 D7 mB rK : asZ) (w : asY) : Prop :=
 gD pg (lR 22 qW (some rK) (some b2) none) w fun m0 w =>
 gD pg (oF .append #[22, 22] 22 [mB, m0]) w fun m1 w =>
 jD pg AW #[m1] w fun m4 w =>
 gD pg (jV m4 0) w fun m5 w =>
 gD pg (jV m4 1) w fun m6 w =>
 gD pg (gV .neq 24 (.tmp 87) (.const (atA 0)) m6 (atA 0)) w fun m8 w =>
 nG m8
  (gD pg (jE 45 zH) (dr w) fun m9 w_ => w_ = (dr w) /\
  (dr w) = (dr w) /\
  (dr w) = (dr w) /\
  gD pg (jZ 45 c1 m9) (dr w) fun _u3 Zp =>
  Zp = Zp /\
  Um pg 45 c1 Zp fun r1 => R (.tuple #[(.slice none 0 0), r1, m6]) Zp)
  (jD pg zV #[D7] w fun n3 w =>
  gD pg (jV n3 0) w fun n4 w =>
  gD pg (jV n3 1) w fun n5 w =>
  gD pg (gV .neq 24 (.tmp 96) (.const (atA 0)) n5 (atA 0)) w fun n7 w =>
  nG n7
   (gD pg (jE 45 zH) (dr w) fun n8 w_ => w_ = (dr w) /\
   (dr w) = (dr w) /\
   (dr w) = (dr w) /\
   gD pg (jZ 45 c1 n8) (dr w) fun _u3 ZO =>
   ZO = ZO /\
   Um pg 45 c1 ZO fun r1 => R (.tuple #[(.slice none 0 0), r1, n5]) ZO)
   ((dr w) = (dr w) /\
   (dr w) = (dr w) /\
   gD pg (lI 137 2 [(0, m5), (1, n4)]) (dr w) fun o2 ahZ =>
   jD pg uF #[o2] ahZ fun o3 X4 =>
   gD pg (jE 45 zH) X4 fun o4 w_ => w_ = X4 /\
   (jF pg (jE 45 zH) o4 ahZ /\ jF pg (jE 45 zH) o4 (dr w) /\ True) /\
   X4 = X4 /\
   gD pg (jZ 45 c1 o4) X4 fun _u6 Zu =>
   Zu = Zu /\
   Um pg 45 c1 Zu fun r1 => R (.tuple #[o3, r1, (atA 0)]) Zu))
theorem Pt (R : K1) (hr : HR A0 R Q) (h : AV R (g 0) (g 2) (g 9) (g 11) (g 13) (g 16) (g 17) w) : jK pg pI (fU 1 (fU 5 oN)) Q g w :=
 lM (kn := no) (l := []) h mI hr trivial
def AP (kn : K10) (k0 : K7) (qW b2 zH c1 D7 mB rK e6 e7 e8 : asZ) (w : asY) : Prop :=
 gD pg (gV .lss 3 iI iI e8 e7) w fun e9 w =>
 nG e9
  (gD pg (jO 80 e6 e8) w fun f1 w =>
  gD pg (jE 84 f1) w fun f2 w =>
  gD pg (pY 84) w fun aaD w =>
  gD pg (jZ 84 aaD f2) w fun _u w =>
  gD pg (jJ 84 aaD 0) w fun f7 w =>
  gD pg (jE 38 f7) w fun f8 w =>
  gD pg (nL 38 3 f8) w fun f9 w =>
  gD pg (gV .add 3 iI iI rK f9) w fun i0 w =>
  gD pg (lR 22 qW (some rK) (some i0) none) w fun i1 w =>
  gD pg (oF .append #[22, 22] 22 [mB, i1]) w fun i2 w =>
  gD pg (jJ 84 aaD 0) w fun i4 w =>
  gD pg (jE 38 i4) w fun i5 w =>
  gD pg (nL 38 3 i5) w fun i6 w =>
  gD pg (jJ 84 aaD 1) w fun i7 w =>
  gD pg (jE 38 i7) w fun i8 w =>
  gD pg (nL 38 3 i8) w fun i9 w =>
  gD pg (gV .add 3 iI iI i6 i9) w fun j0 w =>
  gD pg (gV .add 3 iI iI rK j0) w fun j1 w =>
  gD pg (jE 45 zH) w fun j5 w =>
  gD pg (jJ 84 aaD 0) w fun j6 w =>
  gD pg (jE 38 j6) w fun j7 w =>
  gD pg (jJ 84 aaD 2) w fun j8 w =>
  gD pg (jE 38 j8) w fun j9 w =>
  jD pg Vj #[j5, j7, j9] w fun l0 w =>
  gD pg (jV l0 0) w fun l1 w =>
  gD pg (jV l0 1) w fun l2 w =>
  gD pg (jO 80 D7 e8) w fun l3 w =>
  gD pg (jJ 84 l3 2) w fun l4 w =>
  gD pg (jZ 38 l4 l1) w fun _u w =>
  gD pg (jZ 45 zH l2) w fun _u w =>
  gD pg (gV .add 3 iI iI e8 (atA 1)) w fun l5 w =>
  kn qW b2 zH c1 D7 i2 j1 e6 e7 l5 w)
  (k0 qW b2 zH c1 D7 mB rK w)
theorem Pn (kn : K10) (k0 : K7) (hn : N10 Q kn 0 2 9 11 13 16 17 36 37 38) (h0 : E7 Q k0 0 0 2 9 11 13 16 17) (h : AP kn k0 (g 0) (g 2) (g 9) (g 11) (g 13) (g 16) (g 17) (g 36) (g 37) (g 38) w) : jK pg pI (bI (bI (fU 1 (gR 1 (fU 5 oN))))) Q g w :=
 lM (kr := no) (l := [(0, fun g w => k0 (g 0) (g 2) (g 9) (g 11) (g 13) (g 16) (g 17) w)]) h hn mI ⟨h0, trivial⟩
def Fa (k0 : K7) (qW b2 zH c1 D7 mB rK e6 e7 e8 : asZ) (w : asY) : Prop :=
 kE (fun (X : (asZ × asZ × asZ) -> K0) (t : asZ × asZ × asZ) (w : asY) => AP (fun _ _ _ _ _ mB rK _ _ e8 w => X (mB, rK, e8) w) k0 qW b2 zH c1 D7 t.1 t.2.1 e6 e7 t.2.2 w) (mB, rK, e8) w
theorem PG (k0 : K7) (h0 : E7 Q k0 0 0 2 9 11 13 16 17) (h : Fa k0 (g 0) (g 2) (g 9) (g 11) (g 13) (g 16) (g 17) (g 36) (g 37) (g 38) w) : jK pg pI (bI (fU 1 (gR 1 (fU 5 oN)))) Q g w := by
 refine MJ (fun g : Env => (g 16, g 17, g 38)) (fun X t w => AP (fun _ _ _ _ _ mB rK _ _ e8 w => X (mB, rK, e8) w) k0 (g 0) (g 2) (g 9) (g 11) (g 13) t.1 t.2.1 (g 36) (g 37) t.2.2 w) h (fun X g1 w1 ha hL => ?_)
 rw [<- qP 0 ha, <- qP 2 ha, <- qP 9 ha, <- qP 11 ha, <- qP 13 ha, <- qP 36 ha, <- qP 37 ha] at hL
 exact (Pn _ g1 w1 (fun _ _ _ _ _ mB rK _ _ e8 w => X (mB, rK, e8) w) k0 (fun _ _ h => h) h0 hL)
def EP (kn : K7) (qW b2 zH c1 D7 mB rK e6 e7 e8 : asZ) (w : asY) : Prop :=
 Fa kn qW b2 zH c1 D7 mB rK e6 e7 e8 w
def Fm (kn : K10) (qW b2 zH c1 D7 mB rK : asZ) (w : asY) : Prop :=
 gD pg (oF .len #[80] 3 [D7]) w fun e7 w =>
 kn qW b2 zH c1 D7 mB rK D7 e7 (atA 0) w
theorem PC (kn : K10) (hn : N10 Q kn 0 2 9 11 13 16 17 36 37 38) (h : Fm kn (g 0) (g 2) (g 9) (g 11) (g 13) (g 16) (g 17) w) : jK pg pI (gR 1 (gR 1 (fU 5 oN))) Q g w :=
 lM (kr := no) (l := []) h hn mI trivial
def ET (kn : K7) (qW b2 zH c1 D7 mB rK : asZ) (w : asY) : Prop :=
 Fm (fun qW b2 zH c1 D7 mB rK e6 e7 e8 w => EP kn qW b2 zH c1 D7 mB rK e6 e7 e8 w) qW b2 zH c1 D7 mB rK w
def FI (R : K1) (qW b2 zH c1 D7 mB rK : asZ) (w : asY) : Prop :=
 ET (fun qW b2 zH c1 D7 mB rK w => AV R qW b2 zH c1 D7 mB rK w) qW b2 zH c1 D7 mB rK w
theorem P3 (kn : K7) (hn : N7 Q kn 0 2 9 11 13 16 17) (h : ET kn (g 0) (g 2) (g 9) (g 11) (g 13) (g 16) (g 17) w) : jK pg pI (gR 1 (fU 5 oN)) Q g w :=
 oE 1 (PC _ g w (EP kn) (fun g w h => iA (G5 0 (PG _ g w kn hn h))) h)
def Fc (kn : K7) (R : K1) (qW kZ b2 iZ r_4 : asZ) (w : asY) : Prop :=
 gD pg (Q7 45 r_4) w fun zH w =>
 gD pg (pY 45) w fun c1 w =>
 jD pg DA #[qW, kZ, b2, iZ] w fun d7 w =>
 gD pg (jV d7 0) w fun d8 w =>
 gD pg (jV d7 1) w fun d9 w =>
 gD pg (jV d7 2) w fun e0 w =>
 gD pg (gV .neq 24 (.tmp 31) (.const (atA 0)) e0 (atA 0)) w fun e2 w =>
 nG e2
  (gD pg (jE 45 zH) (dr w) fun e3 w_ => w_ = (dr w) /\
  (dr w) = (dr w) /\
  (dr w) = (dr w) /\
  gD pg (jZ 45 c1 e3) (dr w) fun _u3 ahD =>
  ahD = ahD /\
  Um pg 45 c1 ahD fun r1 => R (.tuple #[(.slice none 0 0), r1, e0]) ahD)
  (kn qW b2 zH c1 d8 (.slice none 0 0) kZ w)
theorem Pw (kn : K7) (R : K1) (hn : N7 Q kn 0 2 9 11 13 16 17) (hr : HR A0 R Q) (h : Fc kn R (g 0) (g 1) (g 2) (g 3) (g 4) w) : jK pg pI (gR 5 oN) Q g w :=
 lM (l := []) h hn hr trivial
def FJ (R : K1) (qW kZ b2 iZ r_4 : asZ) (w : asY) : Prop :=
 Fc (fun qW b2 zH c1 D7 mB rK w => FI R qW b2 zH c1 D7 mB rK w) R qW kZ b2 iZ r_4 w
theorem Pk (R : K1) (hr : HR A0 R Q) (h : FJ R (g 0) (g 1) (g 2) (g 3) (g 4) w) : jK pg pI oN Q g w :=
 oE 5 (Pw _ g w (FI R) R (fun g w h => iA (oE 1 (P3 _ g w (AV R) (fun g w h => iA (Pt _ g w R hr h)) h))) hr h)
def Qm (a0 a1 a2 a3 a4 : asZ) (w : asY) (R : K1) : Prop :=
 FJ R a0 a1 a2 a3 a4 w
theorem Q3 {a0 a1 a2 a3 a4 : asZ} {w : asY} {R : K1} (h : Qm a0 a1 a2 a3 a4 w R) : jD pg Cr #[a0, a1, a2, a3, a4] w R := by
 refine B0 (ann := pI) Tryz.f31 oN [a0, a1, a2, a3, a4] A0 105 TryzM.mixed Tryz.func31 ?_
 exact (Pk _ _ _ R (fun _ _ h => h) h)
def tZ : FA := ⟨xY, fun i => .leaf ([], []) []⟩
def uO : List ResultVar := [.tmp 2, .tmp 3]
noncomputable def tB : Code := kF Tryz.f32
def rQ (R : K1) (F0 : asZ) (w : asY) : Prop :=
 jD pg nU #[] w fun e5 w =>
 gD pg (nL 3 32 F0) w fun e8 w =>
 jD pg jL #[e5, e8, (atA 3)] w fun e9 w =>
 jD pg nD #[e5] w fun f1 w =>
 R (.tuple #[f1, (atA 0)]) w
theorem Ll (R : K1) (hr : HR uO R Q) (h : rQ R (g 4) w) : jK pg tZ (fU 4 tB) Q g w :=
 lM (kn := no) (l := []) h mI hr trivial
def BE (kn : K1) (R : K1) (nN : asZ) (w : asY) : Prop :=
 gD pg (Q7 65 nN) w fun BZ w =>
 gD pg (jJ 65 BZ 1) w fun b6 w =>
 gD pg (jE 3 b6) w fun b7 w =>
 gD pg (gV .lss 3 iI iI b7 (atA 0)) w fun b8 w =>
 Gd (kK b8 false) (fun K => gD pg (jJ 65 BZ 1) w K) w fun c0 w =>
 Gd (kK b8 false) (fun K => gD pg (jE 3 c0) w K) w fun c1 w =>
 Gd (kK b8 false) (fun K => gD pg (gV .gtr 3 iI iI c1 (atA 2)) w K) w fun c2 w =>
 gD pg (mA b8 (.bool true) c2) w fun c3 w =>
 Gd (kK c3 false) (fun K => gD pg (jJ 65 BZ 2) w K) w fun c5 w =>
 Gd (kK c3 false) (fun K => gD pg (jE 3 c5) w K) w fun c6 w =>
 Gd (kK c3 false) (fun K => gD pg (gV .lss 3 iI iI c6 (atA 0)) w K) w fun c7 w =>
 gD pg (mA c3 (.bool true) c7) w fun c8 w =>
 Gd (kK c8 false) (fun K => gD pg (jJ 65 BZ 2) w K) w fun d0 w =>
 Gd (kK c8 false) (fun K => gD pg (jE 3 d0) w K) w fun d1 w =>
 Gd (kK c8 false) (fun K => gD pg (gV .geq 3 iI iI d1 (atA 2097152)) w K) w fun d2 w =>
 gD pg (mA c8 (.bool true) d2) w fun d3 w =>
 nG d3
  (R (.tuple #[(.slice none 0 0), (atA 1)]) w)
  (gD pg (jJ 65 BZ 2) w fun d4 w =>
  gD pg (jE 3 d4) w fun d5 w =>
  gD pg (gV .shl 3 iI iI d5 (.int .u64 3)) w fun d6 w =>
  gD pg (jJ 65 BZ 1) w fun d7 w =>
  gD pg (jE 3 d7) w fun d8 w =>
  gD pg (gV .shl 3 iI iI d8 (.int .u64 1)) w fun d9 w =>
  gD pg (gV .or 3 iI iI d6 d9) w fun e0 w =>
  gD pg (jJ 65 BZ 0) w fun e1 w =>
  gD pg (jE 4 e1) w fun e2 w =>
  nG e2
   (gD pg (gV .or 3 iI iI e0 (atA 1)) w fun e4 w =>
   kn e4 w)
   (kn e0 w))
theorem LZ (kn : K1) (R : K1) (hn : N1 Q kn 4) (hr : HR uO R Q) (h : BE kn R (g 0) w) : jK pg tZ (gR 4 tB) Q g w :=
 lM (l := []) h hn hr trivial
def BP (R : K1) (nN : asZ) (w : asY) : Prop :=
 BE (fun F0 w => rQ R F0 w) R nN w
theorem LG (R : K1) (hr : HR uO R Q) (h : BP R (g 0) w) : jK pg tZ tB Q g w :=
 oE 4 (LZ _ g w (rQ R) R (fun g w h => iA (Ll _ g w R hr h)) hr h)
def KJ (a0 : asZ) (w : asY) (R : K1) : Prop :=
 BP R a0 w
theorem MY {a0 : asZ} {w : asY} {R : K1} (h : KJ a0 w R) : jD pg xY #[a0] w R := by
 refine B0 (ann := tZ) Tryz.f32 tB [a0] uO 42 TryzM.mixed Tryz.func32 ?_
 exact (LG _ _ _ R (fun _ _ h => h) h)
def TY : FA := ⟨Pa, fun i => .leaf ([], []) []⟩
def Vi : List ResultVar := [.tmp 0]
noncomputable def RQ : Code := kF Tryz.f33
def QN (R : K1)  (w : asY) : Prop :=
 gD pg (gV .add 32 iI iI (.int .u64 11400714785074694791) (.int .u64 14029467366897019727)) w fun b3 w =>
 gD pg (Yp .neg (.int .u64 11400714785074694791)) w fun b5 w =>
 gD pg (mK 90 [(0, b3), (1, (.int .u64 14029467366897019727)), (2, (.int .u64 0)), (3, b5)]) w fun b6 w =>
 gD pg (mK 93 [(0, b6)]) w fun b7 w =>
 gD pg (Q7 93 b7) w fun b8 w =>
 R b8 w
theorem VK (R : K1) (hr : HR Vi R Q) (h : QN R w) : jK pg TY RQ Q g w :=
 lM (kn := no) (l := []) h mI hr trivial
def ZT (w : asY) (R : K1) : Prop :=
 QN R w
theorem W4 {w : asY} {R : K1} (h : ZT w R) : jD pg Pa #[] w R := by
 refine B0 (ann := TY) Tryz.f33 RQ [] Vi 9 TryzM.mixed Tryz.func33 ?_
 exact (VK _ _ _ R (fun _ _ h => h) h)
def lK : FA := ⟨A6, fun i => match Nat.beq i 3 with | true => .leaf ([9], []) [(false, []), (false, []), (false, []), (false, []), (false, []), (false, []), (false, []), (false, []), (false, []), (true, []), (false, [])] | false => match Nat.beq i 10 with | true => .leaf ([17, 18, 22], [(4, 17), (5, 17), (6, 17), (7, 17), (17, 19), (17, 20), (18, 19), (18, 20)]) [(false, []), (false, []), (false, []), (false, []), (false, []), (false, []), (false, []), (false, []), (false, []), (false, []), (false, []), (false, []), (false, []), (false, []), (false, []), (false, []), (false, []), (true, [9, 10, 11, 12]), (true, []), (false, [0, 1]), (false, [1, 2]), (false, []), (true, [])] | false => .leaf ([], []) []⟩
def Ee : List ResultVar := []
noncomputable def kY : Code := kF Tryz.f34
def rL (kn : K2) (qH xK : asZ) (w : asY) : Prop :=
 gD pg (rO qH) w fun l4 w =>
 gD pg (jJ 93 l4 2) w fun l5 w =>
 gD pg (jZ 3 l5 (atA 0)) w fun _u w =>
 kn qH xK w
theorem Oh (kn : K2) (hn : N2 Q kn 0 1) (h : rL kn (g 0) (g 1) w) : jK pg lK (fU 1 (cT (fU 4 (bI (fU 1 (bI (bI (fU 2 kY)))))))) Q g w :=
 lM (kr := no) (l := []) h hn mI trivial
def uE (kn : K3) (k2 : K2) (qH xK f7 : asZ) (w : asY) : Prop :=
 gD pg (gV .lss 3 iI iI f7 (atA 4)) w fun f8 w =>
 nG f8
  ((dr w) = (dr w) /\
  (dr w) = (dr w) /\
  (dr w) = (dr w) /\
  (dr w) = (dr w) /\
  gD pg (rO qH) (dr w) fun i4 w_ => w_ = (dr w) /\
  gD pg (jJ 93 i4 0) (dr w) fun i5 w_ => w_ = (dr w) /\
  gD pg (jO 90 i5 f7) (dr w) fun i6 w_ => w_ = (dr w) /\
  gD pg (jE 32 i6) (dr w) fun i7 w_ => w_ = (dr w) /\
  (dr w) = (dr w) /\
  gD pg (rO qH) (dr w) fun i9 w_ => w_ = (dr w) /\
  gD pg (jJ 93 i9 1) (dr w) fun j0 w_ => w_ = (dr w) /\
  (dr w) = (dr w) /\
  gD pg (gV .mul 3 iI iI (atA 8) f7) (dr w) fun j2 w_ => w_ = (dr w) /\
  (dr w) = (dr w) /\
  gD pg (gV .mul 3 iI iI (atA 8) f7) (dr w) fun j4 w_ => w_ = (dr w) /\
  gD pg (gV .add 3 iI iI j4 (atA 8)) (dr w) fun j5 w_ => w_ = (dr w) /\
  gD pg (lR 91 j0 (some j2) (some j5) none) (dr w) fun j6 w_ => w_ = (dr w) /\
  jD pg AH #[j6] (dr w) fun j7 QR =>
  (jF pg (jE 32 i6) i7 QR /\ jF pg (jO 90 i5 f7) i6 QR /\ jF pg (jJ 93 i4 0) i5 QR /\ jF pg (rO qH) i4 QR /\ True) /\
  jD pg C9 #[i7, j7] QR fun j8 Q4 =>
  gD pg (rO qH) Q4 fun j9 w_ => w_ = Q4 /\
  (jF pg (rO qH) j9 QR /\ jF pg (rO qH) j9 (dr w) /\ True) /\
  gD pg (jJ 93 j9 0) Q4 fun l0 w_ => w_ = Q4 /\
  (jF pg (jJ 93 j9 0) l0 QR /\ jF pg (jJ 93 j9 0) l0 (dr w) /\ True) /\
  gD pg (jO 90 l0 f7) Q4 fun l1 w_ => w_ = Q4 /\
  gD pg (jZ 32 l1 j8) Q4 fun _u22 akE =>
  gD pg (gV .add 3 iI iI f7 (atA 1)) akE fun l2 w =>
  kn qH xK l2 w)
  (k2 qH xK w)
theorem OW (kn : K3) (k2 : K2) (hn : N3 Q kn 0 1 47) (h2 : E2 Q k2 2 0 1) (h : uE kn k2 (g 0) (g 1) (g 47) w) : jK pg lK (bI (bI (fU 1 (gR 1 (cT (fU 4 (bI (fU 1 (bI (bI (fU 2 kY))))))))))) Q g w :=
 lM (kr := no) (l := [(2, fun g w => k2 (g 0) (g 1) w)]) h hn mI ⟨h2, trivial⟩
def Dy (k2 : K2) (qH xK f7 : asZ) (w : asY) : Prop :=
 kE (fun (X : asZ -> K0) (t : asZ) (w : asY) => uE (fun _ _ f7 w => X f7 w) k2 qH xK t w) f7 w
theorem Ol (k2 : K2) (h2 : E2 Q k2 2 0 1) (h : Dy k2 (g 0) (g 1) (g 47) w) : jK pg lK (bI (fU 1 (gR 1 (cT (fU 4 (bI (fU 1 (bI (bI (fU 2 kY)))))))))) Q g w := by
 refine MJ (fun g : Env => g 47) (fun X t w => uE (fun _ _ f7 w => X f7 w) k2 (g 0) (g 1) t w) h (fun X g1 w1 ha hL => ?_)
 rw [<- qP 0 ha, <- qP 1 ha] at hL
 exact (OW _ g1 w1 (fun _ _ f7 w => X f7 w) k2 (fun _ _ h => h) h2 hL)
def Dj (kn : K2) (qH xK f7 : asZ) (w : asY) : Prop :=
 Dy kn qH xK f7 w
def El (kn : K3) (qH xK : asZ) (w : asY) : Prop :=
 kn qH xK (atA 0) w
theorem NS (kn : K3) (hn : N3 Q kn 0 1 47) (h : El kn (g 0) (g 1) w) : jK pg lK (gR 1 (gR 1 (cT (fU 4 (bI (fU 1 (bI (bI (fU 2 kY))))))))) Q g w :=
 lM (kr := no) (l := []) h hn mI trivial
def zY (kn : K2) (qH xK : asZ) (w : asY) : Prop :=
 El (fun qH xK f7 w => Dj kn qH xK f7 w) qH xK w
def zZ (kn : K2) (qH xK : asZ) (w : asY) : Prop :=
 zY (fun qH xK w => rL kn qH xK w) qH xK w
theorem OT (kn : K2) (hn : N2 Q kn 0 1) (h : zY kn (g 0) (g 1) w) : jK pg lK (gR 1 (cT (fU 4 (bI (fU 1 (bI (bI (fU 2 kY)))))))) Q g w :=
 oE 1 (NS _ g w (Dj kn) (fun g w h => iA (G5 2 (Ol _ g w kn hn h))) h)
def tY (kn : K2) (qH xK : asZ) (w : asY) : Prop :=
 kn qH xK w
theorem NK (kn : K2) (hn : N2 Q kn 0 1) (h : tY kn (g 0) (g 1) w) : jK pg lK (cE (fU 4 (bI (fU 1 (bI (bI (fU 2 kY))))))) Q g w :=
 lM (kr := no) (l := []) h hn mI trivial
def tN (kn : K2) (qH xK f6 : asZ) (w : asY) : Prop :=
 nG f6 (zZ kn qH xK w) (tY kn qH xK w)
def sP (kn : K3) (qH xK : asZ) (w : asY) : Prop :=
 (dr w) = (dr w) /\
 gD pg (rO qH) (dr w) fun d2 w_ => w_ = (dr w) /\
 gD pg (jJ 93 d2 1) (dr w) fun d3 w_ => w_ = (dr w) /\
 (dr w) = (dr w) /\
 gD pg (rO qH) (dr w) fun d5 w_ => w_ = (dr w) /\
 gD pg (jJ 93 d5 2) (dr w) fun d6 w_ => w_ = (dr w) /\
 gD pg (jE 3 d6) (dr w) fun d7 w_ => w_ = (dr w) /\
 gD pg (lR 91 d3 (some d7) none none) (dr w) fun d8 w_ => w_ = (dr w) /\
 (dr w) = (dr w) /\
 gD pg (oF .copy #[22, 22] 3 [d8, xK]) (dr w) fun e0 ajV =>
 ajV = ajV /\
 gD pg (rO qH) ajV fun e2 w =>
 gD pg (jJ 93 e2 2) w fun e3 w =>
 gD pg (jE 3 e3) w fun e4 w =>
 gD pg (gV .add 3 iI iI e4 e0) w fun e6 w =>
 gD pg (rO qH) w fun e7 w =>
 gD pg (jJ 93 e7 2) w fun e8 w =>
 gD pg (jZ 3 e8 e6) w fun _u w =>
 gD pg (lR 22 xK (some e0) none none) w fun f1 w =>
 gD pg (rO qH) w fun f3 w =>
 gD pg (jJ 93 f3 2) w fun f4 w =>
 gD pg (jE 3 f4) w fun f5 w =>
 gD pg (gV .eql 3 (.tmp 45) (.const (atA 32)) f5 (atA 32)) w fun f6 w =>
 kn qH f1 f6 w
theorem MQ (kn : K3) (hn : N3 Q kn 0 1 46) (h : sP kn (g 0) (g 1) w) : jK pg lK (gR 4 (bI (fU 1 (bI (bI (fU 2 kY)))))) Q g w :=
 lM (kr := no) (l := []) h hn mI trivial
def wT (kn : K2) (qH xK : asZ) (w : asY) : Prop :=
 sP (fun qH xK f6 w => tN kn qH xK f6 w) qH xK w
def sW (kn : K2) (qH xK : asZ) (w : asY) : Prop :=
 wT kn qH xK w
def sV (kn : K2) (k0 : K0) (qH xK : asZ) (w : asY) : Prop :=
 gD pg (oF .len #[22] 3 [xK]) w fun c9 w =>
 gD pg (gV .gtr 3 iI iI c9 (atA 0)) w fun d0 w =>
 nG d0
  (kn qH xK w)
  (k0 w)
theorem Nm (kn : K2) (k0 : K0) (hn : N2 Q kn 0 1) (h0 : E0 Q k0 0) (h : sV kn k0 (g 0) (g 1) w) : jK pg lK (gR 1 (bI (bI (fU 2 kY)))) Q g w :=
 lM (kr := no) (l := [(0, fun g w => k0 w)]) h hn mI ⟨h0, trivial⟩
def qS (kn : K2) (k0 : K0) (qH xK : asZ) (w : asY) : Prop :=
 sV (fun qH xK w => sW kn qH xK w) k0 qH xK w
def xQ (k0 : K0) (qH xK : asZ) (w : asY) : Prop :=
 kE (fun (X : asZ -> K0) (t : asZ) (w : asY) => qS (fun _ xK w => X xK w) k0 qH t w) xK w
theorem Nk (kn : K2) (k0 : K0) (hn : N2 Q kn 0 1) (h0 : E0 Q k0 0) (h : qS kn k0 (g 0) (g 1) w) : jK pg lK (bI (bI (fU 2 kY))) Q g w :=
 oE 1 (Nm _ g w (sW kn) k0 (fun g w h => iA (G5 1 (oE 4 (MQ _ g w (tN kn) (fun g w h => iA (cdD (.tmp 46) (fun h => (oE 1 (OT _ g w (rL kn) (fun g w h => iA (Oh _ g w kn hn h)) h))) (fun h => (NK _ g w kn hn h)) h)) h)))) h0 h)
theorem Nb (k0 : K0) (h0 : E0 Q k0 0) (h : xQ k0 (g 0) (g 1) w) : jK pg lK (bI (fU 2 kY)) Q g w := by
 refine MJ (fun g : Env => g 1) (fun X t w => qS (fun _ xK w => X xK w) k0 (g 0) t w) h (fun X g1 w1 ha hL => ?_)
 rw [<- qP 0 ha] at hL
 exact (Nk _ g1 w1 (fun _ xK w => X xK w) k0 (fun _ _ h => h) h0 hL)
def CU (kn : K0) (qH xK : asZ) (w : asY) : Prop :=
 xQ kn qH xK w
def CM (kn : K2) (R : K1) (qH xK : asZ) (w : asY) : Prop :=
 gD pg (gV .eql 68 (.tmp 6) (.const (.pointer none)) qH (.pointer none)) w fun b7 w =>
 nG b7
  (R (.tuple #[]) w)
  (gD pg (rO qH) w fun b9 w =>
  gD pg (jJ 93 b9 3) w fun c0 w =>
  gD pg (jE 32 c0) w fun c1 w =>
  gD pg (oF .len #[22] 3 [xK]) w fun c3 w =>
  gD pg (nL 3 32 c3) w fun c4 w =>
  gD pg (gV .add 32 iI iI c1 c4) w fun c5 w =>
  gD pg (rO qH) w fun c6 w =>
  gD pg (jJ 93 c6 3) w fun c7 w =>
  gD pg (jZ 32 c7 c5) w fun _u w =>
  kn qH xK w)
theorem NB (kn : K2) (R : K1) (hn : N2 Q kn 0 1) (hr : HR Ee R Q) (h : CM kn R (g 0) (g 1) w) : jK pg lK (gR 2 kY) Q g w :=
 lM (l := []) h hn hr trivial
def CO (kn : K0) (R : K1) (qH xK : asZ) (w : asY) : Prop :=
 CM (fun qH xK w => CU kn qH xK w) R qH xK w
theorem MO (kn : K0) (R : K1) (hn : N0 Q kn) (hr : HR Ee R Q) (h : CO kn R (g 0) (g 1) w) : jK pg lK kY Q g w :=
 oE 2 (NB _ g w (CU kn) R (fun g w h => iA (G5 0 (Nb _ g w kn hn h))) hr h)
def OB (a0 a1 : asZ) (w : asY) (R : K1) : Prop :=
 CO (fun  w => R (.tuple #[]) w) R a0 a1 w
theorem PL {a0 a1 : asZ} {w : asY} {R : K1} (h : OB a0 a1 w R) : jD pg A6 #[a0, a1] w R := by
 refine B0 (ann := lK) Tryz.f34 kY [a0, a1] Ee 76 TryzM.mixed Tryz.func34 ?_
 exact (MO _ _ _ (fun  w => R (.tuple #[]) w) R (fun _ _ h => h) (fun _ _ h => h) h)
def mL : FA := ⟨D9, fun i => match Nat.beq i 3 with | true => .leaf ([1], [(1, 3), (1, 4), (1, 5)]) [(false, []), (true, []), (false, []), (false, [1]), (false, [2]), (false, [3]), (false, []), (false, [])] | false => match Nat.beq i 4 with | true => .leaf ([], []) [(false, []), (false, []), (false, []), (false, []), (false, []), (false, []), (false, []), (false, []), (false, [])] | false => .leaf ([], []) []⟩
def Cj : List ResultVar := [.tmp 2]
noncomputable def mH : Code := kF Tryz.f35
def Cp (R : K1) (nX : asZ) (w : asY) : Prop :=
 gD pg (gV .shr 32 iI iI nX (.int .u64 33)) w fun j9 w =>
 gD pg (gV .xor 32 iI iI nX j9) w fun l0 w =>
 gD pg (gV .mul 32 iI iI l0 (.int .u64 14029467366897019727)) w fun l1 w =>
 gD pg (gV .shr 32 iI iI l1 (.int .u64 29)) w fun l4 w =>
 gD pg (gV .xor 32 iI iI l1 l4) w fun l5 w =>
 gD pg (gV .mul 32 iI iI l5 (.int .u64 1609587929392839161)) w fun l6 w =>
 gD pg (gV .shr 32 iI iI l6 (.int .u64 32)) w fun l9 w =>
 gD pg (gV .xor 32 iI iI l6 l9) w fun m0 w =>
 R m0 w
theorem QZ (R : K1) (hr : HR Cj R Q) (h : Cp R (g 3) w) : jK pg mL (fU 1 (fU 1 (fU 1 (fU 4 mH)))) Q g w :=
 lM (kn := no) (l := []) h mI hr trivial
def yI (kn : K4) (k2 : K1) (nX i3 i4 i5 : asZ) (w : asY) : Prop :=
 gD pg (gV .lss 3 iI iI i5 i4) w fun i6 w =>
 nG i6
  (gD pg (jO 22 i3 i5) w fun i7 w =>
  gD pg (jE 5 i7) w fun i8 w =>
  gD pg (nL 5 32 i8) w fun j1 w =>
  gD pg (gV .mul 32 iI iI j1 (.int .u64 2870177450012600261)) w fun j2 w =>
  gD pg (gV .xor 32 iI iI nX j2) w fun j3 w =>
  jD pg mD #[j3, (atA 11)] w fun j4 w =>
  gD pg (gV .mul 32 iI iI j4 (.int .u64 11400714785074694791)) w fun j5 w =>
  gD pg (gV .add 3 iI iI i5 (atA 1)) w fun j6 w =>
  kn j5 i3 i4 j6 w)
  (k2 nX w)
theorem QO (kn : K4) (k2 : K1) (hn : N4 Q kn 3 53 54 55) (h2 : E1 Q k2 2 3) (h : yI kn k2 (g 3) (g 53) (g 54) (g 55) w) : jK pg mL (bI (bI (fU 1 (gR 1 (fU 1 (fU 1 (fU 4 mH))))))) Q g w :=
 lM (kr := no) (l := [(2, fun g w => k2 (g 3) w)]) h hn mI ⟨h2, trivial⟩
def GA (k2 : K1) (nX i3 i4 i5 : asZ) (w : asY) : Prop :=
 kE (fun (X : (asZ × asZ) -> K0) (t : asZ × asZ) (w : asY) => yI (fun nX _ _ i5 w => X (nX, i5) w) k2 t.1 i3 i4 t.2 w) (nX, i5) w
theorem Q5 (k2 : K1) (h2 : E1 Q k2 2 3) (h : GA k2 (g 3) (g 53) (g 54) (g 55) w) : jK pg mL (bI (fU 1 (gR 1 (fU 1 (fU 1 (fU 4 mH)))))) Q g w := by
 refine MJ (fun g : Env => (g 3, g 55)) (fun X t w => yI (fun nX _ _ i5 w => X (nX, i5) w) k2 t.1 (g 53) (g 54) t.2 w) h (fun X g1 w1 ha hL => ?_)
 rw [<- qP 53 ha, <- qP 54 ha] at hL
 exact (QO _ g1 w1 (fun nX _ _ i5 w => X (nX, i5) w) k2 (fun _ _ h => h) h2 hL)
def GF (kn : K1) (nX i3 i4 i5 : asZ) (w : asY) : Prop :=
 GA kn nX i3 i4 i5 w
def GL (kn : K4) (nX J3 : asZ) (w : asY) : Prop :=
 gD pg (oF .len #[22] 3 [J3]) w fun i4 w =>
 kn nX J3 i4 (atA 0) w
theorem QQ (kn : K4) (hn : N4 Q kn 3 53 54 55) (h : GL kn (g 3) (g 4) w) : jK pg mL (gR 1 (gR 1 (fU 1 (fU 1 (fU 4 mH))))) Q g w :=
 lM (kr := no) (l := []) h hn mI trivial
def GJ (kn : K1) (nX J3 : asZ) (w : asY) : Prop :=
 GL (fun nX i3 i4 i5 w => GF kn nX i3 i4 i5 w) nX J3 w
def Ch (R : K1) (nX J3 : asZ) (w : asY) : Prop :=
 GJ (fun nX w => Cp R nX w) nX J3 w
theorem QX (kn : K1) (hn : N1 Q kn 3) (h : GJ kn (g 3) (g 4) w) : jK pg mL (gR 1 (fU 1 (fU 1 (fU 4 mH)))) Q g w :=
 oE 1 (QQ _ g w (GF kn) (fun g w h => iA (G5 2 (Q5 _ g w kn hn h))) h)
def Co (kn : K2) (nX J3 : asZ) (w : asY) : Prop :=
 gD pg (oF .len #[22] 3 [J3]) w fun f0 w =>
 gD pg (gV .geq 3 iI iI f0 (atA 4)) w fun f1 w =>
 nG f1
  (gD pg (lR 22 J3 none (some (atA 4)) none) w fun f4 w =>
  jD pg AH #[f4] w fun f5 w =>
  gD pg (gV .mul 32 iI iI f5 (.int .u64 11400714785074694791)) w fun f6 w =>
  gD pg (gV .xor 32 iI iI nX f6) w fun f7 w =>
  jD pg mD #[f7, (atA 23)] w fun f8 w =>
  gD pg (gV .mul 32 iI iI f8 (.int .u64 14029467366897019727)) w fun f9 w =>
  gD pg (gV .add 32 iI iI f9 (.int .u64 1609587929392839161)) w fun i0 w =>
  gD pg (lR 22 J3 (some (atA 4)) none none) w fun i2 w =>
  kn i0 i2 w)
  (kn nX J3 w)
theorem Q1 (kn : K2) (hn : N2 Q kn 3 4) (h : Co kn (g 3) (g 4) w) : jK pg mL (gR 1 (fU 1 (fU 4 mH))) Q g w :=
 lM (kr := no) (l := []) h hn mI trivial
def Ck (R : K1) (nX J3 : asZ) (w : asY) : Prop :=
 Co (fun nX J3 w => Ch R nX J3 w) nX J3 w
def vX (kn : K2) (k0 : K2) (nX J3 : asZ) (w : asY) : Prop :=
 gD pg (oF .len #[22] 3 [J3]) w fun d6 w =>
 gD pg (gV .geq 3 iI iI d6 (atA 8)) w fun d7 w =>
 nG d7
  (gD pg (lR 22 J3 none (some (atA 8)) none) w fun e0 w =>
  jD pg AH #[e0] w fun e1 w =>
  jD pg C9 #[(.int .u64 0), e1] w fun e2 w =>
  gD pg (gV .xor 32 iI iI nX e2) w fun e3 w =>
  jD pg mD #[e3, (atA 27)] w fun e4 w =>
  gD pg (gV .mul 32 iI iI e4 (.int .u64 11400714785074694791)) w fun e5 w =>
  gD pg (gV .add 32 iI iI e5 (.int .u64 9650029242287828579)) w fun e6 w =>
  gD pg (lR 22 J3 (some (atA 8)) none none) w fun e8 w =>
  kn e6 e8 w)
  (k0 nX J3 w)
theorem P1 (kn : K2) (k0 : K2) (hn : N2 Q kn 3 4) (h0 : E2 Q k0 0 3 4) (h : vX kn k0 (g 3) (g 4) w) : jK pg mL (bI (bI (gR 1 (fU 4 mH)))) Q g w :=
 lM (kr := no) (l := [(0, fun g w => k0 (g 3) (g 4) w)]) h hn mI ⟨h0, trivial⟩
def ES (k0 : K2) (nX J3 : asZ) (w : asY) : Prop :=
 kE (fun (X : (asZ × asZ) -> K0) (t : asZ × asZ) (w : asY) => vX (fun nX J3 w => X (nX, J3) w) k0 t.1 t.2 w) (nX, J3) w
theorem P2 (k0 : K2) (h0 : E2 Q k0 0 3 4) (h : ES k0 (g 3) (g 4) w) : jK pg mL (bI (gR 1 (fU 4 mH))) Q g w := by
 refine MJ (fun g : Env => (g 3, g 4)) (fun X t w => vX (fun nX J3 w => X (nX, J3) w) k0 t.1 t.2 w) h (fun X g1 w1 ha hL => ?_)
 exact (P1 _ g1 w1 (fun nX J3 w => X (nX, J3) w) k0 (fun _ _ h => h) h0 hL)
def EY (kn : K2) (nX J3 : asZ) (w : asY) : Prop :=
 ES kn nX J3 w
def AS (R : K1) (nX J3 : asZ) (w : asY) : Prop :=
 EY (fun nX J3 w => Ck R nX J3 w) nX J3 w
theorem Pm (kn : K2) (hn : N2 Q kn 3 4) (h : EY kn (g 3) (g 4) w) : jK pg mL (gR 1 (fU 4 mH)) Q g w :=
 G5 0 (P2 _ g w kn hn h)
def EJ (kn : K2) (R : K1) (qH : asZ) (w : asY) : Prop :=
 gD pg (gV .eql 68 (.tmp 7) (.const (.pointer none)) qH (.pointer none)) w fun b8 w =>
 nG b8
  (jD pg OR #[(.slice none 0 0)] w fun b9 w =>
  R b9 w)
  ((dr w) = (dr w) /\
  jD pg zI #[qH] (dr w) fun c1 CE =>
  CE = CE /\
  gD pg (rO qH) CE fun c3 w_ => w_ = CE /\
  (jF pg (rO qH) c3 (dr w) /\ True) /\
  gD pg (jJ 93 c3 3) CE fun c4 w_ => w_ = CE /\
  (jF pg (jJ 93 c3 3) c4 (dr w) /\ True) /\
  gD pg (jE 32 c4) CE fun c5 w_ => w_ = CE /\
  (jF pg (jE 32 c4) c5 (dr w) /\ True) /\
  gD pg (gV .add 32 iI iI c1 c5) CE fun c6 w_ => w_ = CE /\
  CE = CE /\
  (dr CE) = (dr CE) /\
  gD pg (rO qH) (dr CE) fun c8 w_ => w_ = (dr CE) /\
  gD pg (jJ 93 c8 1) (dr CE) fun c9 w_ => w_ = (dr CE) /\
  (dr CE) = (dr CE) /\
  gD pg (rO qH) (dr CE) fun d1 w_ => w_ = (dr CE) /\
  gD pg (jJ 93 d1 2) (dr CE) fun d2 w_ => w_ = (dr CE) /\
  gD pg (jE 3 d2) (dr CE) fun d3 w_ => w_ = (dr CE) /\
  gD pg (lR 91 c9 none (some d3) none) (dr CE) fun d4 w_ => w_ = (dr CE) /\
  (dr CE) = (dr CE) /\
  kn c6 d4 (dr CE))
theorem Po (kn : K2) (R : K1) (hn : N2 Q kn 3 4) (hr : HR Cj R Q) (h : EJ kn R (g 0) w) : jK pg mL (gR 4 mH) Q g w :=
 lM (l := []) h hn hr trivial
def FF (R : K1) (qH : asZ) (w : asY) : Prop :=
 EJ (fun nX J3 w => AS R nX J3 w) R qH w
theorem Py (R : K1) (hr : HR Cj R Q) (h : FF R (g 0) w) : jK pg mL mH Q g w :=
 oE 4 (Po _ g w (AS R) R (fun g w h => iA (oE 1 (Pm _ g w (Ck R) (fun g w h => iA (oE 1 (Q1 _ g w (Ch R) (fun g w h => iA (oE 1 (QX _ g w (Cp R) (fun g w h => iA (QZ _ g w R hr h)) h))) h))) h))) hr h)
def RC (a0 : asZ) (w : asY) (R : K1) : Prop :=
 FF R a0 w
theorem Rw {a0 : asZ} {w : asY} {R : K1} (h : RC a0 w R) : jD pg D9 #[a0] w R := by
 refine B0 (ann := mL) Tryz.f35 mH [a0] Cj 81 TryzM.mixed Tryz.func35 ?_
 exact (Py _ _ _ R (fun _ _ h => h) h)
def yH : FA := ⟨sM, fun i => .leaf ([], []) []⟩
def Ac : List ResultVar := [.tmp 4]
noncomputable def wI : Code := kF Tryz.f42
def sB (R : K1) (EC Ua : asZ) (w : asY) : Prop :=
 jD pg vV #[EC, Ua] w fun b7 w =>
 gD pg (gV .geq 3 iI iI b7 (atA 0)) w fun b8 w =>
 R b8 w
theorem Fw (R : K1) (hr : HR Ac R Q) (h : sB R (g 0) (g 1) w) : jK pg yH wI Q g w :=
 lM (kn := no) (l := []) h mI hr trivial
def Ca (a0 a1 : asZ) (w : asY) (R : K1) : Prop :=
 sB R a0 a1 w
theorem Gj {a0 a1 : asZ} {w : asY} {R : K1} (h : Ca a0 a1 w R) : jD pg sM #[a0, a1] w R := by
 refine B0 (ann := yH) Tryz.f42 wI [a0, a1] Ac 9 TryzM.mixed Tryz.func42 ?_
 exact (Fw _ _ _ R (fun _ _ h => h) h)
def HB : FA := ⟨wE, fun i => .leaf ([], []) []⟩
def I0 : List ResultVar := [.tmp 3]
noncomputable def GN : Code := kF Tryz.f43
def D3 (R : K1) (c_0 b1 : asZ) (w : asY) : Prop :=
 gD pg (jE 22 b1) w fun b5 w =>
 gD pg (jO 22 b5 (atA 0)) w fun b6 w =>
 gD pg (jE 5 b6) w fun b7 w =>
 gD pg (gV .neq 5 (.tmp 4) (.tmp 7) c_0 b7) w fun b8 w =>
 R b8 w
theorem NH (R : K1) (hr : HR I0 R Q) (h : D3 R (g 0) (g 1) w) : jK pg HB GN Q g w :=
 lM (kn := no) (l := []) h mI hr trivial
def Oj (a0 a1 : asZ) (w : asY) (R : K1) : Prop :=
 D3 R a0 a1 w
theorem Ps {a0 a1 : asZ} {w : asY} {R : K1} (h : Oj a0 a1 w R) : jD pg wE #[a0, a1] w R := by
 refine B0 (ann := HB) Tryz.f43 GN [a0, a1] I0 9 TryzM.mixed Tryz.func43 ?_
 exact (NH _ _ _ R (fun _ _ h => h) h)
def kG : FA := ⟨DA, fun i => match Nat.beq i 5 with | true => .split 2 4 (.perm [0, 1, 2, 3, 4, 5, 6, 7, 8, 9] [(2, 4)] ([2, 4, 8], [(2, 6), (4, 6)]) [(false, []), (false, []), (true, []), (false, []), (true, []), (false, []), (false, [1, 3]), (false, []), (true, []), (false, [])]) (.perm [0, 1, 3, 4, 2, 5, 6, 7, 8, 9] [(4, 2)] ([3, 4, 8], [(3, 6), (4, 6)]) [(false, []), (false, []), (false, []), (true, []), (true, []), (false, []), (false, [1, 2]), (false, []), (true, []), (false, [])]) | false => .leaf ([], []) []⟩
def F5 : List ResultVar := [.tmp 8, .tmp 9, .tmp 10]
noncomputable def jX : Code := kF Tryz.f44
def FZ (R : K1) (b2 jQ jP : asZ) (w : asY) : Prop :=
 gD pg (gV .sub 3 iI iI b2 jP) w fun s5 w =>
 R (.tuple #[jQ, s5, (atA 0)]) w
theorem Tu (R : K1) (hr : HR F5 R Q) (h : FZ R (g 2) (g 13) (g 14) w) : jK pg kG (fU 1 (fU 2 (fU 1 (fU 4 jX)))) Q g w :=
 lM (kn := no) (l := []) h mI hr trivial
def F6 (kn : K6) (b2 iZ lV jQ kM : asZ) (w : asY) : Prop :=
 kn b2 iZ lV jQ kM kM w
theorem Tg (kn : K6) (hn : N6 Q kn 2 3 11 13 14 15) (h : F6 kn (g 2) (g 3) (g 11) (g 13) (g 15) w) : jK pg kG (fU 1 (fU 1 (fU 3 (bI (fU 1 (bI (bI (fU 1 (gR 1 (fU 2 (fU 1 (fU 4 jX)))))))))))) Q g w :=
 lM (kr := no) (l := []) h hn mI trivial
def B1 (kn : K6) (k4 : K5) (b2 iZ lV jQ kM JO : asZ) (w : asY) : Prop :=
 gD pg (gV .lss 3 iI iI kM JO) w fun q5 w =>
 nG q5
  (jD pg oA #[lV, kM] w fun s0 w =>
  gD pg (gV .add 3 iI iI kM (atA 1)) w fun q7 w =>
  kn b2 iZ lV jQ q7 JO w)
  (k4 b2 iZ lV jQ kM w)
theorem TG (kn : K6) (k4 : K5) (hn : N6 Q kn 2 3 11 13 15 20) (h4 : E5 Q k4 4 2 3 11 13 15) (h : B1 kn k4 (g 2) (g 3) (g 11) (g 13) (g 15) (g 20) w) : jK pg kG (bI (bI (fU 1 (gR 1 (fU 1 (fU 3 (bI (fU 1 (bI (bI (fU 1 (gR 1 (fU 2 (fU 1 (fU 4 jX))))))))))))))) Q g w :=
 lM (kr := no) (l := [(4, fun g w => k4 (g 2) (g 3) (g 11) (g 13) (g 15) w)]) h hn mI ⟨h4, trivial⟩
def F8 (k4 : K5) (b2 iZ lV jQ kM JO : asZ) (w : asY) : Prop :=
 kE (fun (X : asZ -> K0) (t : asZ) (w : asY) => B1 (fun _ _ _ _ kM _ w => X kM w) k4 b2 iZ lV jQ t JO w) kM w
theorem TO (k4 : K5) (h4 : E5 Q k4 4 2 3 11 13 15) (h : F8 k4 (g 2) (g 3) (g 11) (g 13) (g 15) (g 20) w) : jK pg kG (bI (fU 1 (gR 1 (fU 1 (fU 3 (bI (fU 1 (bI (bI (fU 1 (gR 1 (fU 2 (fU 1 (fU 4 jX)))))))))))))) Q g w := by
 refine MJ (fun g : Env => g 15) (fun X t w => B1 (fun _ _ _ _ kM _ w => X kM w) k4 (g 2) (g 3) (g 11) (g 13) t (g 20) w) h (fun X g1 w1 ha hL => ?_)
 rw [<- qP 2 ha, <- qP 3 ha, <- qP 11 ha, <- qP 13 ha, <- qP 20 ha] at hL
 exact (TG _ g1 w1 (fun _ _ _ _ kM _ w => X kM w) k4 (fun _ _ h => h) h4 hL)
def Ju (kn : K5) (b2 iZ lV jQ kM JO : asZ) (w : asY) : Prop :=
 F8 kn b2 iZ lV jQ kM JO w
def Jo (kn : K6) (b2 iZ lV jQ kM Na : asZ) (w : asY) : Prop :=
 gD pg (gV .add 3 iI iI kM Na) w fun q2 w =>
 kn b2 iZ lV jQ kM q2 w
theorem TN (kn : K6) (hn : N6 Q kn 2 3 11 13 15 20) (h : Jo kn (g 2) (g 3) (g 11) (g 13) (g 15) (g 16) w) : jK pg kG (gR 1 (gR 1 (fU 1 (fU 3 (bI (fU 1 (bI (bI (fU 1 (gR 1 (fU 2 (fU 1 (fU 4 jX))))))))))))) Q g w :=
 lM (kr := no) (l := []) h hn mI trivial
def Jr (kn : K5) (b2 iZ lV jQ kM Na : asZ) (w : asY) : Prop :=
 Jo (fun b2 iZ lV jQ kM JO w => Ju kn b2 iZ lV jQ kM JO w) b2 iZ lV jQ kM Na w
def JL (kn : K6) (b2 iZ lV jQ kM Na : asZ) (w : asY) : Prop :=
 Jr (fun b2 iZ lV jQ kM w => F6 kn b2 iZ lV jQ kM w) b2 iZ lV jQ kM Na w
theorem Td (kn : K5) (hn : N5 Q kn 2 3 11 13 15) (h : Jr kn (g 2) (g 3) (g 11) (g 13) (g 15) (g 16) w) : jK pg kG (gR 1 (fU 1 (fU 3 (bI (fU 1 (bI (bI (fU 1 (gR 1 (fU 2 (fU 1 (fU 4 jX)))))))))))) Q g w :=
 oE 1 (TN _ g w (Ju kn) (fun g w h => iA (G5 4 (TO _ g w kn hn h))) h)
def Jw (kn : K6) (b2 iZ lV jQ jP kM Na Q0 : asZ) (w : asY) : Prop :=
 gD pg (gV .sub 3 iI iI kM jP) w fun p1 w =>
 gD pg (nL 3 38 p1) w fun p2 w =>
 gD pg (nL 3 38 Na) w fun p4 w =>
 gD pg (nL 3 38 Q0) w fun p6 w =>
 gD pg (mK 84 [(0, p2), (1, p4), (2, p6)]) w fun p7 w =>
 gD pg (lI 80 1 [(0, p7)]) w fun p8 w =>
 gD pg (oF .append #[80, 80] 80 [jQ, p8]) w fun p9 w =>
 kn b2 iZ lV p9 kM Na w
theorem Ty (kn : K6) (hn : N6 Q kn 2 3 11 13 15 16) (h : Jw kn (g 2) (g 3) (g 11) (g 13) (g 14) (g 15) (g 16) (g 17) w) : jK pg kG (gR 1 (fU 3 (bI (fU 1 (bI (bI (fU 1 (gR 1 (fU 2 (fU 1 (fU 4 jX))))))))))) Q g w :=
 lM (kr := no) (l := []) h hn mI trivial
def AD (kn : K6) (b2 iZ lV jQ jP kM Na Q0 : asZ) (w : asY) : Prop :=
 Jw (fun b2 iZ lV jQ kM Na w => JL kn b2 iZ lV jQ kM Na w) b2 iZ lV jQ jP kM Na Q0 w
def It (kn : K8) (k3 : K6) (b2 iZ lV jQ jP kM : asZ) (w : asY) : Prop :=
 jD pg rR #[lV, kM] w fun l2 w =>
 gD pg (jV l2 0) w fun l3 w =>
 gD pg (jV l2 1) w fun l4 w =>
 gD pg (gV .lss 3 iI iI l3 (atA 4)) w fun l6 w =>
 nG l6
  (jD pg oA #[lV, kM] w fun l9 w =>
  gD pg (gV .add 3 iI iI kM (atA 1)) w fun m1 w =>
  k3 b2 iZ lV jQ jP m1 w)
  (gD pg (gV .gtr 3 iI iI iZ (atA 4)) w fun m3 w =>
  Gd (kK m3 true) (fun K => K kM w) w fun m5 w =>
  Gd (kK m3 true) (fun K => gD pg (gV .add 3 iI iI m5 (atA 1)) w K) w fun m6 w =>
  Gd (kK m3 true) (fun K => K b2 w) w fun m7 w =>
  Gd (kK m3 true) (fun K => gD pg (gV .lss 3 iI iI m6 m7) w K) w fun m8 w =>
  gD pg (mA m3 m8 (.bool false)) w fun m9 w =>
  nG m9
   (jD pg oA #[lV, kM] w fun n2 w =>
   gD pg (gV .add 3 iI iI kM (atA 1)) w fun n6 w =>
   jD pg rR #[lV, n6] w fun n7 w =>
   gD pg (jV n7 0) w fun n8 w =>
   gD pg (jV n7 1) w fun n9 w =>
   gD pg (gV .add 3 iI iI l3 (atA 1)) w fun o2 w =>
   gD pg (gV .gtr 3 iI iI n8 o2) w fun o3 w =>
   nG o3
    (gD pg (gV .add 3 iI iI kM (atA 1)) w fun o5 w =>
    kn b2 iZ lV jQ jP o5 n8 n9 w)
    (kn b2 iZ lV jQ jP kM l3 l4 w))
   (kn b2 iZ lV jQ jP kM l3 l4 w))
theorem Rz (kn : K8) (k3 : K6) (hn : N8 Q kn 2 3 11 13 14 15 16 17) (h3 : E6 Q k3 3 2 3 11 13 14 15) (h : It kn k3 (g 2) (g 3) (g 11) (g 13) (g 14) (g 15) w) : jK pg kG (gR 3 (bI (fU 1 (bI (bI (fU 1 (gR 1 (fU 2 (fU 1 (fU 4 jX)))))))))) Q g w :=
 lM (kr := no) (l := [(3, fun g w => k3 (g 2) (g 3) (g 11) (g 13) (g 14) (g 15) w)]) h hn mI ⟨h3, trivial⟩
def On (kn : K6) (k3 : K6) (b2 iZ lV jQ jP kM : asZ) (w : asY) : Prop :=
 It (fun b2 iZ lV jQ jP kM Na Q0 w => AD kn b2 iZ lV jQ jP kM Na Q0 w) k3 b2 iZ lV jQ jP kM w
def Hp (kn : K6) (b2 iZ lV jQ jP kM : asZ) (w : asY) : Prop :=
 On kn kn b2 iZ lV jQ jP kM w
def Ef (kn : K6) (k2 : K3) (b2 iZ lV jQ jP kM : asZ) (w : asY) : Prop :=
 gD pg (gV .lss 3 iI iI kM b2) w fun j8 w =>
 nG j8
  (kn b2 iZ lV jQ jP kM w)
  (k2 b2 jQ jP w)
theorem SS (kn : K6) (k2 : K3) (hn : N6 Q kn 2 3 11 13 14 15) (h2 : E3 Q k2 2 2 13 14) (h : Ef kn k2 (g 2) (g 3) (g 11) (g 13) (g 14) (g 15) w) : jK pg kG (gR 1 (bI (bI (fU 1 (gR 1 (fU 2 (fU 1 (fU 4 jX)))))))) Q g w :=
 lM (kr := no) (l := [(2, fun g w => k2 (g 2) (g 13) (g 14) w)]) h hn mI ⟨h2, trivial⟩
def Av (kn : K6) (k2 : K3) (b2 iZ lV jQ jP kM : asZ) (w : asY) : Prop :=
 Ef (fun b2 iZ lV jQ jP kM w => Hp kn b2 iZ lV jQ jP kM w) k2 b2 iZ lV jQ jP kM w
def DL (k2 : K3) (b2 iZ lV jQ jP kM : asZ) (w : asY) : Prop :=
 kE (fun (X : (asZ × asZ × asZ) -> K0) (t : asZ × asZ × asZ) (w : asY) => Av (fun _ _ _ jQ jP kM w => X (jQ, jP, kM) w) k2 b2 iZ lV t.1 t.2.1 t.2.2 w) (jQ, jP, kM) w
theorem RG (kn : K6) (k2 : K3) (hn : N6 Q kn 2 3 11 13 14 15) (h2 : E3 Q k2 2 2 13 14) (h : Av kn k2 (g 2) (g 3) (g 11) (g 13) (g 14) (g 15) w) : jK pg kG (bI (bI (fU 1 (gR 1 (fU 2 (fU 1 (fU 4 jX))))))) Q g w :=
 oE 1 (SS _ g w (Hp kn) k2 (fun g w h => iA (G5 3 (oE 3 (Rz _ g w (AD kn) kn (fun g w h => iA (oE 1 (Ty _ g w (JL kn) (fun g w h => iA (oE 1 (Td _ g w (F6 kn) (fun g w h => iA (Tg _ g w kn hn h)) h))) h))) hn h)))) h2 h)
theorem SM (k2 : K3) (h2 : E3 Q k2 2 2 13 14) (h : DL k2 (g 2) (g 3) (g 11) (g 13) (g 14) (g 15) w) : jK pg kG (bI (fU 1 (gR 1 (fU 2 (fU 1 (fU 4 jX)))))) Q g w := by
 refine MJ (fun g : Env => (g 13, g 14, g 15)) (fun X t w => Av (fun _ _ _ jQ jP kM w => X (jQ, jP, kM) w) k2 (g 2) (g 3) (g 11) t.1 t.2.1 t.2.2 w) h (fun X g1 w1 ha hL => ?_)
 rw [<- qP 2 ha, <- qP 3 ha, <- qP 11 ha] at hL
 exact (RG _ g1 w1 (fun _ _ _ jQ jP kM w => X (jQ, jP, kM) w) k2 (fun _ _ h => h) h2 hL)
def HA (kn : K3) (b2 iZ lV jQ jP kM : asZ) (w : asY) : Prop :=
 DL kn b2 iZ lV jQ jP kM w
def HX (kn : K6) (kZ b2 iZ lV jQ jP : asZ) (w : asY) : Prop :=
 kn b2 iZ lV jQ jP kZ w
theorem Ss (kn : K6) (hn : N6 Q kn 2 3 11 13 14 15) (h : HX kn (g 1) (g 2) (g 3) (g 11) (g 13) (g 14) w) : jK pg kG (gR 1 (gR 1 (fU 2 (fU 1 (fU 4 jX))))) Q g w :=
 lM (kr := no) (l := []) h hn mI trivial
def Ic (kn : K3) (kZ b2 iZ lV jQ jP : asZ) (w : asY) : Prop :=
 HX (fun b2 iZ lV jQ jP kM w => HA kn b2 iZ lV jQ jP kM w) kZ b2 iZ lV jQ jP w
def HN (R : K1) (kZ b2 iZ lV jQ jP : asZ) (w : asY) : Prop :=
 Ic (fun b2 jQ jP w => FZ R b2 jQ jP w) kZ b2 iZ lV jQ jP w
theorem Sp (kn : K3) (hn : N3 Q kn 2 13 14) (h : Ic kn (g 1) (g 2) (g 3) (g 11) (g 13) (g 14) w) : jK pg kG (gR 1 (fU 2 (fU 1 (fU 4 jX)))) Q g w :=
 oE 1 (Ss _ g w (HA kn) (fun g w h => iA (G5 2 (SM _ g w kn hn h))) h)
def HC (kn : K6) (kZ b2 iZ lV : asZ) (w : asY) : Prop :=
 kn kZ b2 iZ lV (.slice none 0 0) kZ w
theorem Sv (kn : K6) (hn : N6 Q kn 1 2 3 11 13 14) (h : HC kn (g 1) (g 2) (g 3) (g 11) w) : jK pg kG (gR 2 (fU 1 (fU 4 jX))) Q g w :=
 lM (kr := no) (l := []) h hn mI trivial
def Ho (R : K1) (kZ b2 iZ lV : asZ) (w : asY) : Prop :=
 HC (fun kZ b2 iZ lV jQ jP w => HN R kZ b2 iZ lV jQ jP w) kZ b2 iZ lV w
def Ay (kn : K6) (k0 : K4) (kZ b2 iZ lV i6 i7 : asZ) (w : asY) : Prop :=
 gD pg (gV .lss 3 iI iI i7 i6) w fun i8 w =>
 nG i8
  (jD pg oA #[lV, i7] w fun j2 w =>
  gD pg (gV .add 3 iI iI i7 (atA 1)) w fun j3 w =>
  kn kZ b2 iZ lV i6 j3 w)
  (k0 kZ b2 iZ lV w)
theorem R1 (kn : K6) (k0 : K4) (hn : N6 Q kn 1 2 3 11 56 57) (h0 : E4 Q k0 0 1 2 3 11) (h : Ay kn k0 (g 1) (g 2) (g 3) (g 11) (g 56) (g 57) w) : jK pg kG (bI (bI (fU 1 (gR 1 (fU 4 jX))))) Q g w :=
 lM (kr := no) (l := [(0, fun g w => k0 (g 1) (g 2) (g 3) (g 11) w)]) h hn mI ⟨h0, trivial⟩
def HJ (k0 : K4) (kZ b2 iZ lV i6 i7 : asZ) (w : asY) : Prop :=
 kE (fun (X : asZ -> K0) (t : asZ) (w : asY) => Ay (fun _ _ _ _ _ i7 w => X i7 w) k0 kZ b2 iZ lV i6 t w) i7 w
theorem Rk (k0 : K4) (h0 : E4 Q k0 0 1 2 3 11) (h : HJ k0 (g 1) (g 2) (g 3) (g 11) (g 56) (g 57) w) : jK pg kG (bI (fU 1 (gR 1 (fU 4 jX)))) Q g w := by
 refine MJ (fun g : Env => g 57) (fun X t w => Ay (fun _ _ _ _ _ i7 w => X i7 w) k0 (g 1) (g 2) (g 3) (g 11) (g 56) t w) h (fun X g1 w1 ha hL => ?_)
 rw [<- qP 1 ha, <- qP 2 ha, <- qP 3 ha, <- qP 11 ha, <- qP 56 ha] at hL
 exact (R1 _ g1 w1 (fun _ _ _ _ _ i7 w => X i7 w) k0 (fun _ _ h => h) h0 hL)
def H9 (kn : K4) (kZ b2 iZ lV i6 i7 : asZ) (w : asY) : Prop :=
 HJ kn kZ b2 iZ lV i6 i7 w
def HU (kn : K6) (kZ b2 iZ lV : asZ) (w : asY) : Prop :=
 kn kZ b2 iZ lV kZ (atA 0) w
theorem Ru (kn : K6) (hn : N6 Q kn 1 2 3 11 56 57) (h : HU kn (g 1) (g 2) (g 3) (g 11) w) : jK pg kG (gR 1 (gR 1 (fU 4 jX))) Q g w :=
 lM (kr := no) (l := []) h hn mI trivial
def H3 (kn : K4) (kZ b2 iZ lV : asZ) (w : asY) : Prop :=
 HU (fun kZ b2 iZ lV i6 i7 w => H9 kn kZ b2 iZ lV i6 i7 w) kZ b2 iZ lV w
def DT (R : K1) (kZ b2 iZ lV : asZ) (w : asY) : Prop :=
 H3 (fun kZ b2 iZ lV w => Ho R kZ b2 iZ lV w) kZ b2 iZ lV w
theorem Rq (kn : K4) (hn : N4 Q kn 1 2 3 11) (h : H3 kn (g 1) (g 2) (g 3) (g 11) w) : jK pg kG (gR 1 (fU 4 jX)) Q g w :=
 oE 1 (Ru _ g w (H9 kn) (fun g w h => iA (G5 0 (Rk _ g w kn hn h))) h)
def Ir (kn : K4) (R : K1) (qW kZ b2 iZ : asZ) (w : asY) : Prop :=
 gD pg (gV .lss 3 iI iI kZ (atA 0)) w fun d2 w =>
 Gd (kK d2 false) (fun K => K b2 w) w fun d4 w =>
 Gd (kK d2 false) (fun K => K kZ w) w fun d5 w =>
 Gd (kK d2 false) (fun K => gD pg (gV .lss 3 iI iI d4 d5) w K) w fun d6 w =>
 gD pg (mA d2 (.bool true) d6) w fun d7 w =>
 Gd (kK d7 false) (fun K => K b2 w) w fun d9 w =>
 Gd (kK d7 false) (fun K => K qW w) w fun e0 w =>
 Gd (kK d7 false) (fun K => gD pg (oF .len #[22] 3 [e0]) w K) w fun e1 w =>
 Gd (kK d7 false) (fun K => gD pg (gV .gtr 3 iI iI d9 e1) w K) w fun e2 w =>
 gD pg (mA d7 (.bool true) e2) w fun e3 w =>
 Gd (kK e3 false) (fun K => K iZ w) w fun e5 w =>
 Gd (kK e3 false) (fun K => gD pg (gV .lss 3 iI iI e5 (atA 0)) w K) w fun e6 w =>
 gD pg (mA e3 (.bool true) e6) w fun e7 w =>
 Gd (kK e7 false) (fun K => K iZ w) w fun e9 w =>
 Gd (kK e7 false) (fun K => gD pg (gV .gtr 3 iI iI e9 (atA 9)) w K) w fun f0 w =>
 gD pg (mA e7 (.bool true) f0) w fun f1 w =>
 nG f1
  (R (.tuple #[(.slice none 0 0), (atA 0), (atA 1)]) w)
  (gD pg (gV .eql 3 (.tmp 42) (.const (atA 0)) iZ (atA 0)) w fun f3 w =>
  nG f3
   (gD pg (gV .sub 3 iI iI b2 kZ) w fun f6 w =>
   R (.tuple #[(.slice none 0 0), f6, (atA 0)]) w)
   (Ord (ahU DA 5 (Qn 5 jX) 2 4 w)
    ((dr w) = (dr w) /\
    (dr w) = (dr w) /\
    gD pg (TS 116 none) (dr w) fun f9 agX =>
    agX = agX /\
    gD pg (tW 117 b2 b2) agX fun i1 Rf =>
    Rf = Rf /\
    gD pg (gV .shl 3 iI iI (atA 1) iZ) Rf fun i3 w_ => w_ = Rf /\
    (jF pg (gV .shl 3 iI iI (atA 1) iZ) i3 agX /\ jF pg (gV .shl 3 iI iI (atA 1) iZ) i3 (dr w) /\ True) /\
    gD pg (mK 119 [(0, qW), (1, b2), (2, f9), (3, i1), (4, i3)]) Rf fun i4 w_ => w_ = Rf /\
    gD pg (Q7 119 i4) Rf fun i5 YT =>
    YT = YT /\
    kn kZ b2 iZ i5 YT)
    ((dr w) = (dr w) /\
    (dr w) = (dr w) /\
    (dr w) = (dr w) /\
    gD pg (tW 117 b2 b2) (dr w) fun i1 Zl =>
    gD pg (TS 116 none) Zl fun f9 Rf =>
    Rf = Rf /\
    gD pg (gV .shl 3 iI iI (atA 1) iZ) Rf fun i3 w_ => w_ = Rf /\
    (jF pg (gV .shl 3 iI iI (atA 1) iZ) i3 Zl /\ jF pg (gV .shl 3 iI iI (atA 1) iZ) i3 (dr w) /\ True) /\
    gD pg (mK 119 [(0, qW), (1, b2), (2, f9), (3, i1), (4, i3)]) Rf fun i4 w_ => w_ = Rf /\
    gD pg (Q7 119 i4) Rf fun i5 YT =>
    YT = YT /\
    kn kZ b2 iZ i5 YT)))
theorem Rp (kn : K4) (R : K1) (hn : N4 Q kn 1 2 3 11) (hr : HR F5 R Q) (h : Ir kn R (g 0) (g 1) (g 2) (g 3) w) : jK pg kG (gR 4 jX) Q g w :=
 lM (l := []) h hn hr trivial
def H6 (R : K1) (qW kZ b2 iZ : asZ) (w : asY) : Prop :=
 Ir (fun kZ b2 iZ lV w => DT R kZ b2 iZ lV w) R qW kZ b2 iZ w
theorem Sy (R : K1) (hr : HR F5 R Q) (h : H6 R (g 0) (g 1) (g 2) (g 3) w) : jK pg kG jX Q g w :=
 oE 4 (Rp _ g w (DT R) R (fun g w h => iA (oE 1 (Rq _ g w (Ho R) (fun g w h => iA (oE 2 (Sv _ g w (HN R) (fun g w h => iA (oE 1 (Sp _ g w (FZ R) (fun g w h => iA (Tu _ g w R hr h)) h))) h))) h))) hr h)
def Vg (a0 a1 a2 a3 : asZ) (w : asY) (R : K1) : Prop :=
 H6 R a0 a1 a2 a3 w
theorem Uz {a0 a1 a2 a3 : asZ} {w : asY} {R : K1} (h : Vg a0 a1 a2 a3 w R) : jD pg DA #[a0, a1, a2, a3] w R := by
 refine B0 (ann := kG) Tryz.f44 jX [a0, a1, a2, a3] F5 136 TryzM.mixed Tryz.func44 ?_
 exact (Sy _ _ _ R (fun _ _ h => h) h)
def nR : FA := ⟨AW, fun i => .leaf ([], []) []⟩
def zU : List ResultVar := [.tmp 2, .tmp 3]
noncomputable def mZ : Code := kF Tryz.f46
def rI (R : K1) (qB : asZ) (w : asY) : Prop :=
 gD pg (jE 22 qB) w fun j2 w =>
 R (.tuple #[j2, (atA 0)]) w
theorem Om (R : K1) (hr : HR zU R Q) (h : rI R (g 4) w) : jK pg nR (fU 1 (fU 1 (fU 6 mZ))) Q g w :=
 lM (kn := no) (l := []) h mI hr trivial
def Dq (kn : K1) (kT qB mS nY : asZ) (w : asY) : Prop :=
 jD pg G3 #[nY] w fun i0 w =>
 gD pg (jV i0 0) w fun i1 w =>
 gD pg (jV i0 1) w fun i2 w =>
 gD pg (gV .eql 24 (.tmp 53) (.const (atA 0)) i2 (atA 0)) w fun i4 w =>
 nG i4
  (jD pg Ad #[kT, i1, (.bool true)] w fun i8 w =>
  gD pg (jV i8 0) w fun i9 w =>
  gD pg (jV i8 1) w fun j0 w =>
  gD pg (CZ mS [i9, j0]) w fun j1 w =>
  kn qB w)
  (kn qB w)
theorem NN (kn : K1) (hn : N1 Q kn 4) (h : Dq kn (g 0) (g 4) (g 6) (g 7) w) : jK pg nR (gR 1 (fU 1 (fU 6 mZ))) Q g w :=
 lM (kr := no) (l := []) h hn mI trivial
def Du (R : K1) (kT qB mS nY : asZ) (w : asY) : Prop :=
 Dq (fun qB w => rI R qB w) kT qB mS nY w
def zN (kn : K7) (k0 : K4) (kT qB mS nY e5 e6 e7 : asZ) (w : asY) : Prop :=
 gD pg (gV .lss 3 iI iI e7 e6) w fun e8 w =>
 nG e8
  (gD pg (jO 22 e5 e7) w fun e9 w =>
  gD pg (jE 5 e9) w fun f0 w =>
  gD pg (jO 128 nY f0) w fun f3 w =>
  gD pg (jE 38 f3) w fun f4 w =>
  gD pg (gV .add 38 iI iI f4 (.int .u32 1)) w fun f5 w =>
  gD pg (jO 128 nY f0) w fun f6 w =>
  gD pg (jZ 38 f6 f5) w fun _u w =>
  gD pg (gV .add 3 iI iI e7 (atA 1)) w fun f7 w =>
  kn kT qB mS nY e5 e6 f7 w)
  (k0 kT qB mS nY w)
theorem Of (kn : K7) (k0 : K4) (hn : N7 Q kn 0 4 6 7 35 36 37) (h0 : E4 Q k0 0 0 4 6 7) (h : zN kn k0 (g 0) (g 4) (g 6) (g 7) (g 35) (g 36) (g 37) w) : jK pg nR (bI (bI (fU 1 (gR 1 (fU 6 mZ))))) Q g w :=
 lM (kr := no) (l := [(0, fun g w => k0 (g 0) (g 4) (g 6) (g 7) w)]) h hn mI ⟨h0, trivial⟩
def DU (k0 : K4) (kT qB mS nY e5 e6 e7 : asZ) (w : asY) : Prop :=
 kE (fun (X : asZ -> K0) (t : asZ) (w : asY) => zN (fun _ _ _ _ _ _ e7 w => X e7 w) k0 kT qB mS nY e5 e6 t w) e7 w
theorem Ok (k0 : K4) (h0 : E4 Q k0 0 0 4 6 7) (h : DU k0 (g 0) (g 4) (g 6) (g 7) (g 35) (g 36) (g 37) w) : jK pg nR (bI (fU 1 (gR 1 (fU 6 mZ)))) Q g w := by
 refine MJ (fun g : Env => g 37) (fun X t w => zN (fun _ _ _ _ _ _ e7 w => X e7 w) k0 (g 0) (g 4) (g 6) (g 7) (g 35) (g 36) t w) h (fun X g1 w1 ha hL => ?_)
 rw [<- qP 0 ha, <- qP 4 ha, <- qP 6 ha, <- qP 7 ha, <- qP 35 ha, <- qP 36 ha] at hL
 exact (Of _ g1 w1 (fun _ _ _ _ _ _ e7 w => X e7 w) k0 (fun _ _ h => h) h0 hL)
def D4 (kn : K4) (kT qB mS nY e5 e6 e7 : asZ) (w : asY) : Prop :=
 DU kn kT qB mS nY e5 e6 e7 w
def D0 (kn : K7) (kT qB mS nY : asZ) (w : asY) : Prop :=
 gD pg (oF .len #[22] 3 [kT]) w fun e6 w =>
 kn kT qB mS nY kT e6 (atA 0) w
theorem OP (kn : K7) (hn : N7 Q kn 0 4 6 7 35 36 37) (h : D0 kn (g 0) (g 4) (g 6) (g 7) w) : jK pg nR (gR 1 (gR 1 (fU 6 mZ))) Q g w :=
 lM (kr := no) (l := []) h hn mI trivial
def Dk (kn : K4) (kT qB mS nY : asZ) (w : asY) : Prop :=
 D0 (fun kT qB mS nY e5 e6 e7 w => D4 kn kT qB mS nY e5 e6 e7 w) kT qB mS nY w
def DD (R : K1) (kT qB mS nY : asZ) (w : asY) : Prop :=
 Dk (fun kT qB mS nY w => Du R kT qB mS nY w) kT qB mS nY w
theorem NY (kn : K4) (hn : N4 Q kn 0 4 6 7) (h : Dk kn (g 0) (g 4) (g 6) (g 7) w) : jK pg nR (gR 1 (fU 6 mZ)) Q g w :=
 oE 1 (OP _ g w (D4 kn) (fun g w h => iA (G5 0 (Ok _ g w kn hn h))) h)
def C1 (kn : K4) (R : K1) (kT : asZ) (w : asY) : Prop :=
 jD pg Eh #[kT] w fun c4 w =>
 gD pg (jV c4 0) w fun c5 w =>
 gD pg (jV c4 1) w fun c6 w =>
 gD pg (pY 22) w fun qB w =>
 gD pg (jZ 22 qB c5) w fun _u w =>
 gD pg (gV .neq 24 (.tmp 17) (.const (atA 0)) c6 (atA 0)) w fun c8 w =>
 nG c8
  (R (.tuple #[(.slice none 0 0), c6]) w)
  (gD pg (VD (.func 64) [] [qB]) w fun d0 w =>
  jD pg AE #[kT] w fun d2 w =>
  nG d2
   (gD pg (jO 22 kT (atA 0)) w fun d5 w =>
   gD pg (jE 5 d5) w fun d6 w =>
   gD pg (oF .len #[22] 3 [kT]) w fun d8 w =>
   jD pg Cm #[d6, d8] w fun d9 w =>
   gD pg (jV d9 0) w fun e0 w =>
   gD pg (jV d9 1) w fun e1 w =>
   gD pg (CZ d0 [e0, e1]) w fun e2 w =>
   gD pg (jE 22 qB) w fun e3 w =>
   R (.tuple #[e3, (atA 0)]) w)
   (gD pg (tW 128 (atA 256) (atA 256)) w fun e4 w =>
   kn kT qB d0 e4 w))
theorem M4 (kn : K4) (R : K1) (hn : N4 Q kn 0 4 6 7) (hr : HR zU R Q) (h : C1 kn R (g 0) w) : jK pg nR (gR 6 mZ) Q g w :=
 lM (l := []) h hn hr trivial
def CP (R : K1) (kT : asZ) (w : asY) : Prop :=
 C1 (fun kT qB mS nY w => DD R kT qB mS nY w) R kT w
theorem MN (R : K1) (hr : HR zU R Q) (h : CP R (g 0) w) : jK pg nR mZ Q g w :=
 oE 6 (M4 _ g w (DD R) R (fun g w h => iA (oE 1 (NY _ g w (Du R) (fun g w h => iA (oE 1 (NN _ g w (rI R) (fun g w h => iA (Om _ g w R hr h)) h))) h))) hr h)
def NX (a0 : asZ) (w : asY) (R : K1) : Prop :=
 CP R a0 w
theorem Pq {a0 : asZ} {w : asY} {R : K1} (h : NX a0 w R) : jD pg AW #[a0] w R := by
 refine B0 (ann := nR) Tryz.f46 mZ [a0] zU 63 TryzM.mixed Tryz.func46 ?_
 exact (MN _ _ _ R (fun _ _ h => h) h)
def mY : FA := ⟨zV, fun i => .leaf ([], []) []⟩
def oZ : List ResultVar := [.tmp 2, .tmp 3]
noncomputable def mO : Code := kF Tryz.f47
def Cy (R : K1) (kT Nj qA b8 nI c0 : asZ) (w : asY) : Prop :=
 gD pg (jE 131 qA) w fun n5 w =>
 gD pg (jE 108 b8) w fun n6 w =>
 jD pg QJ #[kT, n5, n6] w fun n7 w =>
 gD pg (jV n7 0) w fun n8 w =>
 gD pg (jV n7 1) w fun n9 w =>
 gD pg (gV .neq 24 (.tmp 100) (.const (atA 0)) n9 (atA 0)) w fun o1 w =>
 nG o1
  (R (.tuple #[(.slice none 0 0), n9]) w)
  (gD pg (nL 3 32 nI) w fun o5 w =>
  jD pg jL #[Nj, o5, (atA 1)] w fun o6 w =>
  jD pg oB #[Nj, c0] w fun o9 w =>
  jD pg oB #[Nj, n8] w fun p2 w =>
  jD pg nD #[Nj] w fun p4 w =>
  R (.tuple #[p4, (atA 0)]) w)
theorem M5 (R : K1) (hr : HR oZ R Q) (h : Cy R (g 0) (g 4) (g 6) (g 8) (g 9) (g 10) w) : jK pg mY (fU 1 (fU 5 (fU 3 mO))) Q g w :=
 lM (kn := no) (l := []) h mI hr trivial
def C7 (kn : K7) (k1 : K6) (R : K1) (kT Nj qA b8 nI c0 j3 : asZ) (w : asY) : Prop :=
 gD pg (gV .lss 3 iI iI j3 (atA 3)) w fun j4 w =>
 nG j4
  (gD pg (jO 131 qA j3) w fun j9 w =>
  gD pg (jE 117 j9) w fun l0 w =>
  jD pg Vn #[j3, l0] w fun l1 w =>
  gD pg (jV l1 0) w fun l2 w =>
  gD pg (jV l1 1) w fun l3 w =>
  gD pg (jV l1 2) w fun l4 w =>
  gD pg (jV l1 3) w fun l5 w =>
  gD pg (pY 106) w fun alH w =>
  gD pg (jZ 106 alH l2) w fun _u w =>
  gD pg (gV .neq 24 (.tmp 76) (.const (atA 0)) l5 (atA 0)) w fun l7 w =>
  nG l7
   (R (.tuple #[(.slice none 0 0), l5]) w)
   (gD pg (jE 106 alH) w fun m0 w =>
   gD pg (jO 108 b8 j3) w fun m1 w =>
   gD pg (jZ 106 m1 m0) w fun _u w =>
   gD pg (gV .mul 3 iI iI (atA 2) j3) w fun m5 w =>
   gD pg (gV .sub 3 iI iI (atA 6) m5) w fun m6 w =>
   gD pg (gV .shl 3 iI iI l3 m6) w fun m7 w =>
   gD pg (gV .or 3 iI iI nI m7) w fun m8 w =>
   gD pg (oF .append #[22, 22] 22 [c0, l4]) w fun n1 w =>
   gD pg (gV .add 3 iI iI j3 (atA 1)) w fun n2 w =>
   kn kT Nj qA b8 m8 n1 n2 w))
  (k1 kT Nj qA b8 nI c0 w)
theorem Nu (kn : K7) (k1 : K6) (R : K1) (hn : N7 Q kn 0 4 6 8 9 10 63) (h1 : E6 Q k1 1 0 4 6 8 9 10) (hr : HR oZ R Q) (h : C7 kn k1 R (g 0) (g 4) (g 6) (g 8) (g 9) (g 10) (g 63) w) : jK pg mY (bI (bI (fU 1 (gR 1 (fU 5 (fU 3 mO)))))) Q g w :=
 lM (l := [(1, fun g w => k1 (g 0) (g 4) (g 6) (g 8) (g 9) (g 10) w)]) h hn hr ⟨h1, trivial⟩
def Ie (k1 : K6) (R : K1) (kT Nj qA b8 nI c0 j3 : asZ) (w : asY) : Prop :=
 kE (fun (X : (asZ × asZ × asZ) -> K0) (t : asZ × asZ × asZ) (w : asY) => C7 (fun _ _ _ _ nI c0 j3 w => X (nI, c0, j3) w) k1 R kT Nj qA b8 t.1 t.2.1 t.2.2 w) (nI, c0, j3) w
theorem MU (k1 : K6) (R : K1) (h1 : E6 Q k1 1 0 4 6 8 9 10) (hr : HR oZ R Q) (h : Ie k1 R (g 0) (g 4) (g 6) (g 8) (g 9) (g 10) (g 63) w) : jK pg mY (bI (fU 1 (gR 1 (fU 5 (fU 3 mO))))) Q g w := by
 refine MJ (fun g : Env => (g 9, g 10, g 63)) (fun X t w => C7 (fun _ _ _ _ nI c0 j3 w => X (nI, c0, j3) w) k1 R (g 0) (g 4) (g 6) (g 8) t.1 t.2.1 t.2.2 w) h (fun X g1 w1 ha hL => ?_)
 rw [<- qP 0 ha, <- qP 4 ha, <- qP 6 ha, <- qP 8 ha] at hL
 exact (Nu _ g1 w1 (fun _ _ _ _ nI c0 j3 w => X (nI, c0, j3) w) k1 R (fun _ _ h => h) h1 hr hL)
def H7 (kn : K6) (R : K1) (kT Nj qA b8 nI c0 j3 : asZ) (w : asY) : Prop :=
 Ie kn R kT Nj qA b8 nI c0 j3 w
def Hh (kn : K7) (kT Nj qA b8 nI c0 : asZ) (w : asY) : Prop :=
 kn kT Nj qA b8 nI c0 (atA 0) w
theorem MW (kn : K7) (hn : N7 Q kn 0 4 6 8 9 10 63) (h : Hh kn (g 0) (g 4) (g 6) (g 8) (g 9) (g 10) w) : jK pg mY (gR 1 (gR 1 (fU 5 (fU 3 mO)))) Q g w :=
 lM (kr := no) (l := []) h hn mI trivial
def HH (kn : K6) (R : K1) (kT Nj qA b8 nI c0 : asZ) (w : asY) : Prop :=
 Hh (fun kT Nj qA b8 nI c0 j3 w => H7 kn R kT Nj qA b8 nI c0 j3 w) kT Nj qA b8 nI c0 w
def HL (R : K1) (kT Nj qA b8 nI c0 : asZ) (w : asY) : Prop :=
 HH (fun kT Nj qA b8 nI c0 w => Cy R kT Nj qA b8 nI c0 w) R kT Nj qA b8 nI c0 w
theorem Nc (kn : K6) (R : K1) (hn : N6 Q kn 0 4 6 8 9 10) (hr : HR oZ R Q) (h : HH kn R (g 0) (g 4) (g 6) (g 8) (g 9) (g 10) w) : jK pg mY (gR 1 (fU 5 (fU 3 mO))) Q g w :=
 oE 1 (MW _ g w (H7 kn R) (fun g w h => iA (G5 1 (MU _ g w kn R hn hr h))) h)
def H0 (kn : K6) (R : K1) (kT Nj : asZ) (w : asY) : Prop :=
 jD pg SD #[kT] w fun i7 w =>
 gD pg (jV i7 0) w fun i8 w =>
 gD pg (jV i7 1) w fun i9 w =>
 gD pg (pY 131) w fun qA w =>
 gD pg (jZ 131 qA i8) w fun _u w =>
 gD pg (gV .neq 24 (.tmp 60) (.const (atA 0)) i9 (atA 0)) w fun j1 w =>
 nG j1
  (R (.tuple #[(.slice none 0 0), i9]) w)
  (gD pg (pY 108) w fun b8 w =>
  kn kT Nj qA b8 (atA 0) (.slice none 0 0) w)
theorem Np (kn : K6) (R : K1) (hn : N6 Q kn 0 4 6 8 9 10) (hr : HR oZ R Q) (h : H0 kn R (g 0) (g 4) w) : jK pg mY (gR 5 (fU 3 mO)) Q g w :=
 lM (l := []) h hn hr trivial
def Hk (R : K1) (kT Nj : asZ) (w : asY) : Prop :=
 H0 (fun kT Nj qA b8 nI c0 w => HL R kT Nj qA b8 nI c0 w) R kT Nj w
def BS (kn : K2) (R : K1) (kT : asZ) (w : asY) : Prop :=
 jD pg nU #[] w fun c7 w =>
 gD pg (oF .len #[80] 3 [kT]) w fun c9 w =>
 gD pg (gV .gtr 3 iI iI c9 (atA 98047)) w fun d9 w =>
 nG d9
  (R (.tuple #[(.slice none 0 0), (atA 1)]) w)
  (gD pg (gV .eql 3 (.tmp 31) (.const (atA 0)) c9 (atA 0)) w fun e2 w =>
  nG e2
   (gD pg (lI 22 1 [(0, (.int .u8 0))]) w fun e3 w =>
   R (.tuple #[e3, (atA 0)]) w)
   (gD pg (gV .lss 3 iI iI c9 (atA 128)) w fun e6 w =>
   nG e6
    (gD pg (nL 3 32 c9) w fun e9 w =>
    jD pg jL #[c7, e9, (atA 1)] w fun f0 w =>
    kn kT c7 w)
    (gD pg (gV .lss 3 iI iI c9 (atA 32512)) w fun f3 w =>
    nG f3
     (gD pg (gV .shr 3 iI iI c9 (.int .u64 8)) w fun f6 w =>
     gD pg (gV .add 3 iI iI f6 (atA 128)) w fun f7 w =>
     gD pg (nL 3 32 f7) w fun f8 w =>
     jD pg jL #[c7, f8, (atA 1)] w fun f9 w =>
     gD pg (gV .and 3 iI iI c9 (atA 255)) w fun i2 w =>
     gD pg (nL 3 32 i2) w fun i3 w =>
     jD pg jL #[c7, i3, (atA 1)] w fun i4 w =>
     kn kT c7 w)
     (jD pg jL #[c7, (.int .u64 255), (atA 1)] w fun d1 w =>
     gD pg (gV .sub 3 iI iI c9 (atA 32512)) w fun d4 w =>
     gD pg (nL 3 32 d4) w fun d5 w =>
     jD pg jL #[c7, d5, (atA 2)] w fun d6 w =>
     kn kT c7 w))))
theorem LV (kn : K2) (R : K1) (hn : N2 Q kn 0 4) (hr : HR oZ R Q) (h : BS kn R (g 0) w) : jK pg mY (gR 3 mO) Q g w :=
 lM (l := []) h hn hr trivial
def BI (R : K1) (kT : asZ) (w : asY) : Prop :=
 BS (fun kT Nj w => Hk R kT Nj w) R kT w
theorem Ld (R : K1) (hr : HR oZ R Q) (h : BI R (g 0) w) : jK pg mY mO Q g w :=
 oE 3 (LV _ g w (Hk R) R (fun g w h => iA (oE 5 (Np _ g w (HL R) R (fun g w h => iA (oE 1 (Nc _ g w (Cy R) R (fun g w h => iA (M5 _ g w R hr h)) hr h))) hr h))) hr h)
def Ms (a0 : asZ) (w : asY) (R : K1) : Prop :=
 BI R a0 w
theorem O7 {a0 : asZ} {w : asY} {R : K1} (h : Ms a0 w R) : jD pg zV #[a0] w R := by
 refine B0 (ann := mY) Tryz.f47 mO [a0] oZ 115 TryzM.mixed Tryz.func47 ?_
 exact (Ld _ _ _ R (fun _ _ h => h) h)
def jT : FA := ⟨uF, fun i => .leaf ([], []) []⟩
def zC : List ResultVar := [.tmp 2]
noncomputable def jR : Code := kF Tryz.f48
def tF (R : K1) (kH : asZ) (w : asY) : Prop :=
 R kH w
theorem JJ (R : K1) (hr : HR zC R Q) (h : tF R (g 6) w) : jK pg jT (fU 1 (fU 1 (fU 1 (fU 2 jR)))) Q g w :=
 lM (kn := no) (l := []) h mI hr trivial
def pK (kn : K4) (k2 : K1) (kH d5 d6 d7 : asZ) (w : asY) : Prop :=
 gD pg (gV .lss 3 iI iI d7 d6) w fun d8 w =>
 nG d8
  (gD pg (jO 137 d5 d7) w fun d9 w =>
  gD pg (jE 22 d9) w fun e0 w =>
  gD pg (oF .append #[22, 22] 22 [kH, e0]) w fun e3 w =>
  gD pg (gV .add 3 iI iI d7 (atA 1)) w fun e4 w =>
  kn e3 d5 d6 e4 w)
  (k2 kH w)
theorem JU (kn : K4) (k2 : K1) (hn : N4 Q kn 6 25 26 27) (h2 : E1 Q k2 2 6) (h : pK kn k2 (g 6) (g 25) (g 26) (g 27) w) : jK pg jT (bI (bI (fU 1 (gR 1 (fU 1 (fU 1 (fU 2 jR))))))) Q g w :=
 lM (kr := no) (l := [(2, fun g w => k2 (g 6) w)]) h hn mI ⟨h2, trivial⟩
def zB (k2 : K1) (kH d5 d6 d7 : asZ) (w : asY) : Prop :=
 kE (fun (X : (asZ × asZ) -> K0) (t : asZ × asZ) (w : asY) => pK (fun kH _ _ d7 w => X (kH, d7) w) k2 t.1 d5 d6 t.2 w) (kH, d7) w
theorem Jz (k2 : K1) (h2 : E1 Q k2 2 6) (h : zB k2 (g 6) (g 25) (g 26) (g 27) w) : jK pg jT (bI (fU 1 (gR 1 (fU 1 (fU 1 (fU 2 jR)))))) Q g w := by
 refine MJ (fun g : Env => (g 6, g 27)) (fun X t w => pK (fun kH _ _ d7 w => X (kH, d7) w) k2 t.1 (g 25) (g 26) t.2 w) h (fun X g1 w1 ha hL => ?_)
 rw [<- qP 25 ha, <- qP 26 ha] at hL
 exact (JU _ g1 w1 (fun kH _ _ d7 w => X (kH, d7) w) k2 (fun _ _ h => h) h2 hL)
def yV (kn : K1) (kH d5 d6 d7 : asZ) (w : asY) : Prop :=
 zB kn kH d5 d6 d7 w
def yT (kn : K4) (jS kH : asZ) (w : asY) : Prop :=
 gD pg (oF .len #[137] 3 [jS]) w fun d6 w =>
 kn kH jS d6 (atA 0) w
theorem JI (kn : K4) (hn : N4 Q kn 6 25 26 27) (h : yT kn (g 0) (g 6) w) : jK pg jT (gR 1 (gR 1 (fU 1 (fU 1 (fU 2 jR))))) Q g w :=
 lM (kr := no) (l := []) h hn mI trivial
def yU (kn : K1) (jS kH : asZ) (w : asY) : Prop :=
 yT (fun kH d5 d6 d7 w => yV kn kH d5 d6 d7 w) jS kH w
def zA (R : K1) (jS kH : asZ) (w : asY) : Prop :=
 yU (fun kH w => tF R kH w) jS kH w
theorem Jv (kn : K1) (hn : N1 Q kn 6) (h : yU kn (g 0) (g 6) w) : jK pg jT (gR 1 (fU 1 (fU 1 (fU 2 jR)))) Q g w :=
 oE 1 (JI _ g w (yV kn) (fun g w h => iA (G5 2 (Jz _ g w kn hn h))) h)
def yR (kn : K2) (jS mU : asZ) (w : asY) : Prop :=
 jD pg xL #[(.slice none 0 0), mU] w fun d4 w =>
 kn jS d4 w
theorem J0 (kn : K2) (hn : N2 Q kn 0 6) (h : yR kn (g 0) (g 3) w) : jK pg jT (gR 1 (fU 1 (fU 2 jR))) Q g w :=
 lM (kr := no) (l := []) h hn mI trivial
def yQ (R : K1) (jS mU : asZ) (w : asY) : Prop :=
 yR (fun jS kH w => zA R jS kH w) jS mU w
def qD (kn : K5) (jS mU b9 c0 c1 : asZ) (w : asY) : Prop :=
 gD pg (gV .add 3 iI iI c1 (atA 1)) w fun d2 w =>
 kn jS mU b9 c0 d2 w
theorem IG (kn : K5) (hn : N5 Q kn 0 3 9 10 11) (h : qD kn (g 0) (g 3) (g 9) (g 10) (g 11) w) : jK pg jT (fU 3 (bI (bI (fU 1 (gR 1 (fU 2 jR)))))) Q g w :=
 lM (kr := no) (l := []) h hn mI trivial
def qE (kn : K5) (k0 : K2) (jS mU b9 c0 c1 : asZ) (w : asY) : Prop :=
 gD pg (gV .lss 3 iI iI c1 c0) w fun c2 w =>
 nG c2
  (gD pg (jO 137 b9 c1) w fun c3 w =>
  gD pg (jE 22 c3) w fun c4 w =>
  gD pg (oF .len #[22] 3 [c4]) w fun c7 w =>
  gD pg (gV .add 3 iI iI mU c7) w fun c8 w =>
  gD pg (gV .lss 3 iI iI c8 (atA 0)) w fun d0 w =>
  nG d0
   (gD pg (VC 9 (.string ⟨#[108, 101, 110, 32, 111, 117, 116, 32, 111, 102, 32, 114, 97, 110, 103, 101]⟩)) w fun d1 w =>
   gD pg (V (Instr.panic d1)) w fun _u w =>
   kn jS c8 b9 c0 c1 w)
   (kn jS c8 b9 c0 c1 w))
  (k0 jS mU w)
theorem IA (kn : K5) (k0 : K2) (hn : N5 Q kn 0 3 9 10 11) (h0 : E2 Q k0 0 0 3) (h : qE kn k0 (g 0) (g 3) (g 9) (g 10) (g 11) w) : jK pg jT (gR 3 (bI (bI (fU 1 (gR 1 (fU 2 jR)))))) Q g w :=
 lM (kr := no) (l := [(0, fun g w => k0 (g 0) (g 3) w)]) h hn mI ⟨h0, trivial⟩
def pE (kn : K5) (k0 : K2) (jS mU b9 c0 c1 : asZ) (w : asY) : Prop :=
 qE (fun jS mU b9 c0 c1 w => qD kn jS mU b9 c0 c1 w) k0 jS mU b9 c0 c1 w
def yA (k0 : K2) (jS mU b9 c0 c1 : asZ) (w : asY) : Prop :=
 kE (fun (X : (asZ × asZ) -> K0) (t : asZ × asZ) (w : asY) => pE (fun _ mU _ _ c1 w => X (mU, c1) w) k0 jS t.1 b9 c0 t.2 w) (mU, c1) w
theorem IU (kn : K5) (k0 : K2) (hn : N5 Q kn 0 3 9 10 11) (h0 : E2 Q k0 0 0 3) (h : pE kn k0 (g 0) (g 3) (g 9) (g 10) (g 11) w) : jK pg jT (bI (bI (fU 1 (gR 1 (fU 2 jR))))) Q g w :=
 oE 3 (IA _ g w (qD kn) k0 (fun g w h => iA (IG _ g w kn hn h)) h0 h)
theorem IN (k0 : K2) (h0 : E2 Q k0 0 0 3) (h : yA k0 (g 0) (g 3) (g 9) (g 10) (g 11) w) : jK pg jT (bI (fU 1 (gR 1 (fU 2 jR)))) Q g w := by
 refine MJ (fun g : Env => (g 3, g 11)) (fun X t w => pE (fun _ mU _ _ c1 w => X (mU, c1) w) k0 (g 0) t.1 (g 9) (g 10) t.2 w) h (fun X g1 w1 ha hL => ?_)
 rw [<- qP 0 ha, <- qP 9 ha, <- qP 10 ha] at hL
 exact (IU _ g1 w1 (fun _ mU _ _ c1 w => X (mU, c1) w) k0 (fun _ _ h => h) h0 hL)
def xS (kn : K2) (jS mU b9 c0 c1 : asZ) (w : asY) : Prop :=
 yA kn jS mU b9 c0 c1 w
def wU (kn : K5) (jS mU : asZ) (w : asY) : Prop :=
 gD pg (oF .len #[137] 3 [jS]) w fun c0 w =>
 kn jS mU jS c0 (atA 0) w
theorem Iy (kn : K5) (hn : N5 Q kn 0 3 9 10 11) (h : wU kn (g 0) (g 3) w) : jK pg jT (gR 1 (gR 1 (fU 2 jR))) Q g w :=
 lM (kr := no) (l := []) h hn mI trivial
def xB (kn : K2) (jS mU : asZ) (w : asY) : Prop :=
 wU (fun jS mU b9 c0 c1 w => xS kn jS mU b9 c0 c1 w) jS mU w
def xA (R : K1) (jS mU : asZ) (w : asY) : Prop :=
 xB (fun jS mU w => yQ R jS mU w) jS mU w
theorem IT (kn : K2) (hn : N2 Q kn 0 3) (h : xB kn (g 0) (g 3) w) : jK pg jT (gR 1 (fU 2 jR)) Q g w :=
 oE 1 (Iy _ g w (xS kn) (fun g w h => iA (G5 0 (IN _ g w kn hn h))) h)
def wO (kn : K2) (jS : asZ) (w : asY) : Prop :=
 kn jS (atA 0) w
theorem IE (kn : K2) (hn : N2 Q kn 0 3) (h : wO kn (g 0) w) : jK pg jT (gR 2 jR) Q g w :=
 lM (kr := no) (l := []) h hn mI trivial
def wW (R : K1) (jS : asZ) (w : asY) : Prop :=
 wO (fun jS mU w => xA R jS mU w) jS w
theorem Iz (R : K1) (hr : HR zC R Q) (h : wW R (g 0) w) : jK pg jT jR Q g w :=
 oE 2 (IE _ g w (xA R) (fun g w h => iA (oE 1 (IT _ g w (yQ R) (fun g w h => iA (oE 1 (J0 _ g w (zA R) (fun g w h => iA (oE 1 (Jv _ g w (tF R) (fun g w h => iA (JJ _ g w R hr h)) h))) h))) h))) h)
def Ii (a0 : asZ) (w : asY) (R : K1) : Prop :=
 wW R a0 w
theorem KE {a0 : asZ} {w : asY} {R : K1} (h : Ii a0 w R) : jD pg uF #[a0] w R := by
 refine B0 (ann := jT) Tryz.f48 jR [a0] zC 36 TryzM.mixed Tryz.func48 ?_
 exact (Iz _ _ _ R (fun _ _ h => h) h)
def Qp : FA := ⟨C9, fun i => .leaf ([], []) []⟩
def Sa : List ResultVar := [.tmp 4]
noncomputable def Ox : Code := kF Tryz.f49
def Lh (R : K1) (v_0 BZ : asZ) (w : asY) : Prop :=
 gD pg (gV .mul 32 iI iI BZ (.int .u64 14029467366897019727)) w fun b7 w =>
 gD pg (gV .add 32 iI iI v_0 b7) w fun b8 w =>
 jD pg mD #[b8, (atA 31)] w fun b9 w =>
 gD pg (gV .mul 32 iI iI b9 (.int .u64 11400714785074694791)) w fun c0 w =>
 R c0 w
theorem UC (R : K1) (hr : HR Sa R Q) (h : Lh R (g 0) (g 1) w) : jK pg Qp Ox Q g w :=
 lM (kn := no) (l := []) h mI hr trivial
def Wn (a0 a1 : asZ) (w : asY) (R : K1) : Prop :=
 Lh R a0 a1 w
theorem U0 {a0 a1 : asZ} {w : asY} {R : K1} (h : Wn a0 a1 w R) : jD pg C9 #[a0, a1] w R := by
 refine B0 (ann := Qp) Tryz.f49 Ox [a0, a1] Sa 11 TryzM.mixed Tryz.func49 ?_
 exact (UC _ _ _ R (fun _ _ h => h) h)
def rE : FA := ⟨AH, fun i => .leaf ([], []) []⟩
def JD : List ResultVar := [.tmp 2]
noncomputable def qI : Code := kF Tryz.f50
def F4 (R : K1) (nX : asZ) (w : asY) : Prop :=
 R nX w
theorem TD (R : K1) (hr : HR JD R Q) (h : F4 R (g 3) w) : jK pg rE (fU 1 (fU 2 qI)) Q g w :=
 lM (kn := no) (l := []) h mI hr trivial
def B5 (kn : K4) (k0 : K1) (nX b6 b7 b8 : asZ) (w : asY) : Prop :=
 gD pg (gV .lss 3 iI iI b8 b7) w fun b9 w =>
 nG b9
  (gD pg (jO 22 b6 b8) w fun c1 w =>
  gD pg (jE 5 c1) w fun c2 w =>
  gD pg (nL 5 32 c2) w fun c5 w =>
  gD pg (gV .mul 3 iI iI (atA 8) b8) w fun c7 w =>
  gD pg (nL 3 50 c7) w fun c8 w =>
  gD pg (gV .shl 32 iI iI c5 c8) w fun c9 w =>
  gD pg (gV .or 32 iI iI nX c9) w fun d0 w =>
  gD pg (gV .add 3 iI iI b8 (atA 1)) w fun d1 w =>
  kn d0 b6 b7 d1 w)
  (k0 nX w)
theorem Te (kn : K4) (k0 : K1) (hn : N4 Q kn 3 6 7 8) (h0 : E1 Q k0 0 3) (h : B5 kn k0 (g 3) (g 6) (g 7) (g 8) w) : jK pg rE (bI (bI (fU 1 (gR 1 (fU 2 qI))))) Q g w :=
 lM (kr := no) (l := [(0, fun g w => k0 (g 3) w)]) h hn mI ⟨h0, trivial⟩
def JV (k0 : K1) (nX b6 b7 b8 : asZ) (w : asY) : Prop :=
 kE (fun (X : (asZ × asZ) -> K0) (t : asZ × asZ) (w : asY) => B5 (fun nX _ _ b8 w => X (nX, b8) w) k0 t.1 b6 b7 t.2 w) (nX, b8) w
theorem Tz (k0 : K1) (h0 : E1 Q k0 0 3) (h : JV k0 (g 3) (g 6) (g 7) (g 8) w) : jK pg rE (bI (fU 1 (gR 1 (fU 2 qI)))) Q g w := by
 refine MJ (fun g : Env => (g 3, g 8)) (fun X t w => B5 (fun nX _ _ b8 w => X (nX, b8) w) k0 t.1 (g 6) (g 7) t.2 w) h (fun X g1 w1 ha hL => ?_)
 rw [<- qP 6 ha, <- qP 7 ha] at hL
 exact (Te _ g1 w1 (fun nX _ _ b8 w => X (nX, b8) w) k0 (fun _ _ h => h) h0 hL)
def JK (kn : K1) (nX b6 b7 b8 : asZ) (w : asY) : Prop :=
 JV kn nX b6 b7 b8 w
def Jp (kn : K4) (qW nX : asZ) (w : asY) : Prop :=
 gD pg (oF .len #[22] 3 [qW]) w fun b7 w =>
 kn nX qW b7 (atA 0) w
theorem TQ (kn : K4) (hn : N4 Q kn 3 6 7 8) (h : Jp kn (g 0) (g 3) w) : jK pg rE (gR 1 (gR 1 (fU 2 qI))) Q g w :=
 lM (kr := no) (l := []) h hn mI trivial
def JX (kn : K1) (qW nX : asZ) (w : asY) : Prop :=
 Jp (fun nX b6 b7 b8 w => JK kn nX b6 b7 b8 w) qW nX w
def JQ (R : K1) (qW nX : asZ) (w : asY) : Prop :=
 JX (fun nX w => F4 R nX w) qW nX w
theorem Tw (kn : K1) (hn : N1 Q kn 3) (h : JX kn (g 0) (g 3) w) : jK pg rE (gR 1 (fU 2 qI)) Q g w :=
 oE 1 (TQ _ g w (JK kn) (fun g w h => iA (G5 0 (Tz _ g w kn hn h))) h)
def JG (kn : K2) (qW : asZ) (w : asY) : Prop :=
 kn qW (.int .u64 0) w
theorem S8 (kn : K2) (hn : N2 Q kn 0 3) (h : JG kn (g 0) w) : jK pg rE (gR 2 qI) Q g w :=
 lM (kr := no) (l := []) h hn mI trivial
def JF (R : K1) (qW : asZ) (w : asY) : Prop :=
 JG (fun qW nX w => JQ R qW nX w) qW w
theorem TL (R : K1) (hr : HR JD R Q) (h : JF R (g 0) w) : jK pg rE qI Q g w :=
 oE 2 (S8 _ g w (JQ R) (fun g w h => iA (oE 1 (Tw _ g w (F4 R) (fun g w h => iA (TD _ g w R hr h)) h))) h)
def UU (a0 : asZ) (w : asY) (R : K1) : Prop :=
 JF R a0 w
theorem Uu {a0 : asZ} {w : asY} {R : K1} (h : UU a0 w R) : jD pg AH #[a0] w R := by
 refine B0 (ann := rE) Tryz.f50 qI [a0] JD 23 TryzM.mixed Tryz.func50 ?_
 exact (TL _ _ _ R (fun _ _ h => h) h)
def lN : FA := ⟨zI, fun i => .leaf ([], []) []⟩
def wM : List ResultVar := [.tmp 2]
noncomputable def lA : Code := kF Tryz.f51
def xG (R : K1) (nX : asZ) (w : asY) : Prop :=
 R nX w
theorem M0 (R : K1) (hr : HR wM R Q) (h : xG R (g 3) w) : jK pg lN (fU 1 (fU 1 (fU 3 lA))) Q g w :=
 lM (kn := no) (l := []) h mI hr trivial
def sU (kn : K3) (k2 : K1) (nX e2 e3 : asZ) (w : asY) : Prop :=
 gD pg (gV .lss 3 iI iI e3 (atA 4)) w fun e4 w =>
 nG e4
  (gD pg (PU 90 e2 e3) w fun e5 w =>
  jD pg C9 #[(.int .u64 0), e5] w fun e8 w =>
  gD pg (gV .xor 32 iI iI nX e8) w fun e9 w =>
  gD pg (gV .mul 32 iI iI e9 (.int .u64 11400714785074694791)) w fun f0 w =>
  gD pg (gV .add 32 iI iI f0 (.int .u64 9650029242287828579)) w fun f1 w =>
  gD pg (gV .add 3 iI iI e3 (atA 1)) w fun f2 w =>
  kn f1 e2 f2 w)
  (k2 nX w)
theorem M6 (kn : K3) (k2 : K1) (hn : N3 Q kn 3 32 33) (h2 : E1 Q k2 2 3) (h : sU kn k2 (g 3) (g 32) (g 33) w) : jK pg lN (bI (bI (fU 1 (gR 1 (fU 1 (fU 3 lA)))))) Q g w :=
 lM (kr := no) (l := [(2, fun g w => k2 (g 3) w)]) h hn mI ⟨h2, trivial⟩
def CR (k2 : K1) (nX e2 e3 : asZ) (w : asY) : Prop :=
 kE (fun (X : (asZ × asZ) -> K0) (t : asZ × asZ) (w : asY) => sU (fun nX _ e3 w => X (nX, e3) w) k2 t.1 e2 t.2 w) (nX, e3) w
theorem Nd (k2 : K1) (h2 : E1 Q k2 2 3) (h : CR k2 (g 3) (g 32) (g 33) w) : jK pg lN (bI (fU 1 (gR 1 (fU 1 (fU 3 lA))))) Q g w := by
 refine MJ (fun g : Env => (g 3, g 33)) (fun X t w => sU (fun nX _ e3 w => X (nX, e3) w) k2 t.1 (g 32) t.2 w) h (fun X g1 w1 ha hL => ?_)
 rw [<- qP 32 ha] at hL
 exact (M6 _ g1 w1 (fun nX _ e3 w => X (nX, e3) w) k2 (fun _ _ h => h) h2 hL)
def Cz (kn : K1) (nX e2 e3 : asZ) (w : asY) : Prop :=
 CR kn nX e2 e3 w
def Ct (kn : K3) (qH nX : asZ) (w : asY) : Prop :=
 gD pg (rO qH) w fun e0 w =>
 gD pg (jJ 93 e0 0) w fun e1 w =>
 gD pg (jE 90 e1) w fun e2 w =>
 kn nX e2 (atA 0) w
theorem MX (kn : K3) (hn : N3 Q kn 3 32 33) (h : Ct kn (g 0) (g 3) w) : jK pg lN (gR 1 (gR 1 (fU 1 (fU 3 lA)))) Q g w :=
 lM (kr := no) (l := []) h hn mI trivial
def C4 (kn : K1) (qH nX : asZ) (w : asY) : Prop :=
 Ct (fun nX e2 e3 w => Cz kn nX e2 e3 w) qH nX w
def CG (R : K1) (qH nX : asZ) (w : asY) : Prop :=
 C4 (fun nX w => xG R nX w) qH nX w
theorem Ni (kn : K1) (hn : N1 Q kn 3) (h : C4 kn (g 0) (g 3) w) : jK pg lN (gR 1 (fU 1 (fU 3 lA))) Q g w :=
 oE 1 (MX _ g w (Cz kn) (fun g w h => iA (G5 2 (Nd _ g w kn hn h))) h)
def sO (kn : K4) (k0 : K2) (qH nX c3 c4 : asZ) (w : asY) : Prop :=
 gD pg (gV .lss 3 iI iI c4 (atA 4)) w fun c5 w =>
 nG c5
  (gD pg (PU 139 c3 c4) w fun c7 w =>
  gD pg (rO qH) w fun d1 w =>
  gD pg (jJ 93 d1 0) w fun d2 w =>
  gD pg (jO 90 d2 c4) w fun d3 w =>
  gD pg (jE 32 d3) w fun d4 w =>
  jD pg mD #[d4, c7] w fun d6 w =>
  gD pg (gV .add 32 iI iI nX d6) w fun d7 w =>
  gD pg (gV .add 3 iI iI c4 (atA 1)) w fun d8 w =>
  kn qH d7 c3 d8 w)
  (k0 qH nX w)
theorem MS (kn : K4) (k0 : K2) (hn : N4 Q kn 0 3 13 14) (h0 : E2 Q k0 0 0 3) (h : sO kn k0 (g 0) (g 3) (g 13) (g 14) w) : jK pg lN (bI (bI (fU 1 (gR 1 (fU 3 lA))))) Q g w :=
 lM (kr := no) (l := [(0, fun g w => k0 (g 0) (g 3) w)]) h hn mI ⟨h0, trivial⟩
def C3 (k0 : K2) (qH nX c3 c4 : asZ) (w : asY) : Prop :=
 kE (fun (X : (asZ × asZ) -> K0) (t : asZ × asZ) (w : asY) => sO (fun _ nX _ c4 w => X (nX, c4) w) k0 qH t.1 c3 t.2 w) (nX, c4) w
theorem Nl (k0 : K2) (h0 : E2 Q k0 0 0 3) (h : C3 k0 (g 0) (g 3) (g 13) (g 14) w) : jK pg lN (bI (fU 1 (gR 1 (fU 3 lA)))) Q g w := by
 refine MJ (fun g : Env => (g 3, g 14)) (fun X t w => sO (fun _ nX _ c4 w => X (nX, c4) w) k0 (g 0) t.1 (g 13) t.2 w) h (fun X g1 w1 ha hL => ?_)
 rw [<- qP 0 ha, <- qP 13 ha] at hL
 exact (MS _ g1 w1 (fun _ nX _ c4 w => X (nX, c4) w) k0 (fun _ _ h => h) h0 hL)
def By (kn : K2) (qH nX c3 c4 : asZ) (w : asY) : Prop :=
 C3 kn qH nX c3 c4 w
def Bx (kn : K4) (qH nX : asZ) (w : asY) : Prop :=
 gD pg (mK 139 [(0, (atA 1)), (1, (atA 7)), (2, (atA 12)), (3, (atA 18))]) w fun c3 w =>
 kn qH nX c3 (atA 0) w
theorem Le (kn : K4) (hn : N4 Q kn 0 3 13 14) (h : Bx kn (g 0) (g 3) w) : jK pg lN (gR 1 (gR 1 (fU 3 lA))) Q g w :=
 lM (kr := no) (l := []) h hn mI trivial
def Bz (kn : K2) (qH nX : asZ) (w : asY) : Prop :=
 Bx (fun qH nX c3 c4 w => By kn qH nX c3 c4 w) qH nX w
def BO (R : K1) (qH nX : asZ) (w : asY) : Prop :=
 Bz (fun qH nX w => CG R qH nX w) qH nX w
theorem L5 (kn : K2) (hn : N2 Q kn 0 3) (h : Bz kn (g 0) (g 3) w) : jK pg lN (gR 1 (fU 3 lA)) Q g w :=
 oE 1 (Le _ g w (By kn) (fun g w h => iA (G5 0 (Nl _ g w kn hn h))) h)
def uV (kn : K2) (R : K1) (qH : asZ) (w : asY) : Prop :=
 gD pg (rO qH) w fun b9 w =>
 gD pg (jJ 93 b9 3) w fun c0 w =>
 gD pg (jE 32 c0) w fun c1 w =>
 gD pg (gV .lss 32 iI iI c1 (.int .u64 32)) w fun c2 w =>
 nG c2
  (R (.int .u64 2870177450012600261) w)
  (kn qH (.int .u64 0) w)
theorem Mk (kn : K2) (R : K1) (hn : N2 Q kn 0 3) (hr : HR wM R Q) (h : uV kn R (g 0) w) : jK pg lN (gR 3 lA) Q g w :=
 lM (l := []) h hn hr trivial
def vH (R : K1) (qH : asZ) (w : asY) : Prop :=
 uV (fun qH nX w => BO R qH nX w) R qH w
theorem LN (R : K1) (hr : HR wM R Q) (h : vH R (g 0) w) : jK pg lN lA Q g w :=
 oE 3 (Mk _ g w (BO R) R (fun g w h => iA (oE 1 (L5 _ g w (CG R) (fun g w h => iA (oE 1 (Ni _ g w (xG R) (fun g w h => iA (M0 _ g w R hr h)) h))) h))) hr h)
def GB (a0 : asZ) (w : asY) (R : K1) : Prop :=
 vH R a0 w
theorem Ou {a0 : asZ} {w : asY} {R : K1} (h : GB a0 w R) : jD pg zI #[a0] w R := by
 refine B0 (ann := lN) Tryz.f51 lA [a0] wM 44 TryzM.mixed Tryz.func51 ?_
 exact (LN _ _ _ R (fun _ _ h => h) h)
def Am : FA := ⟨mD, fun i => .leaf ([], []) []⟩
def Ba : List ResultVar := [.tmp 4]
noncomputable def zL : Code := kF Tryz.f52
def tI (R : K1) (nN k_1 : asZ) (w : asY) : Prop :=
 gD pg (nL 3 50 k_1) w fun b7 w =>
 gD pg (gV .and 50 iI iI b7 (.int .u64 63)) w fun b8 w =>
 gD pg (gV .shl 32 iI iI nN b8) w fun c1 w =>
 gD pg (gV .sub 50 iI iI (.int .u64 64) b8) w fun c4 w =>
 gD pg (gV .shr 32 iI iI nN c4) w fun c5 w =>
 gD pg (gV .or 32 iI iI c1 c5) w fun c6 w =>
 R c6 w
theorem GD (R : K1) (hr : HR Ba R Q) (h : tI R (g 0) (g 1) w) : jK pg Am zL Q g w :=
 lM (kn := no) (l := []) h mI hr trivial
def DH (a0 a1 : asZ) (w : asY) (R : K1) : Prop :=
 tI R a0 a1 w
theorem G7 {a0 a1 : asZ} {w : asY} {R : K1} (h : DH a0 a1 w R) : jD pg mD #[a0, a1] w R := by
 refine B0 (ann := Am) Tryz.f52 zL [a0, a1] Ba 17 TryzM.mixed Tryz.func52 ?_
 exact (GD _ _ _ R (fun _ _ h => h) h)
def lX : FA := ⟨vV, fun i => .leaf ([], []) []⟩
def nZ : List ResultVar := [.tmp 4]
noncomputable def lQ : Code := kF Tryz.f58
def qU (R : K1)  (w : asY) : Prop :=
 R (atA (-1)) w
theorem G8 (R : K1) (hr : HR nZ R Q) (h : qU R w) : jK pg lX (fU 1 (fU 1 lQ)) Q g w :=
 lM (kn := no) (l := []) h mI hr trivial
def qV (kn : K4) (k0 : K0) (R : K1) (EC Ua b7 b8 : asZ) (w : asY) : Prop :=
 gD pg (gV .lss 3 iI iI b8 b7) w fun b9 w =>
 nG b9
  (gD pg (jO 22 EC b8) w fun c4 w =>
  gD pg (jE 5 c4) w fun c5 w =>
  gD pg (CZ Ua [c5]) w fun c6 w =>
  nG c6
   (R b8 w)
   (gD pg (gV .add 3 iI iI b8 (atA 1)) w fun c8 w =>
   kn EC Ua b7 c8 w))
  (k0 w)
theorem G0 (kn : K4) (k0 : K0) (R : K1) (hn : N4 Q kn 0 1 7 8) (h0 : E0 Q k0 0) (hr : HR nZ R Q) (h : qV kn k0 R (g 0) (g 1) (g 7) (g 8) w) : jK pg lX (bI (bI (fU 1 (gR 1 (fU 1 lQ))))) Q g w :=
 lM (l := [(0, fun g w => k0 w)]) h hn hr ⟨h0, trivial⟩
def uK (k0 : K0) (R : K1) (EC Ua b7 b8 : asZ) (w : asY) : Prop :=
 kE (fun (X : asZ -> K0) (t : asZ) (w : asY) => qV (fun _ _ _ b8 w => X b8 w) k0 R EC Ua b7 t w) b8 w
theorem GY (k0 : K0) (R : K1) (h0 : E0 Q k0 0) (hr : HR nZ R Q) (h : uK k0 R (g 0) (g 1) (g 7) (g 8) w) : jK pg lX (bI (fU 1 (gR 1 (fU 1 lQ)))) Q g w := by
 refine MJ (fun g : Env => g 8) (fun X t w => qV (fun _ _ _ b8 w => X b8 w) k0 R (g 0) (g 1) (g 7) t w) h (fun X g1 w1 ha hL => ?_)
 rw [<- qP 0 ha, <- qP 1 ha, <- qP 7 ha] at hL
 exact (G0 _ g1 w1 (fun _ _ _ b8 w => X b8 w) k0 R (fun _ _ h => h) h0 hr hL)
def uI (kn : K0) (R : K1) (EC Ua b7 b8 : asZ) (w : asY) : Prop :=
 uK kn R EC Ua b7 b8 w
def uH (kn : K4) (EC Ua : asZ) (w : asY) : Prop :=
 gD pg (oF .len #[22] 3 [EC]) w fun b7 w =>
 kn EC Ua b7 (atA 0) w
theorem G6 (kn : K4) (hn : N4 Q kn 0 1 7 8) (h : uH kn (g 0) (g 1) w) : jK pg lX (gR 1 (gR 1 (fU 1 lQ))) Q g w :=
 lM (kr := no) (l := []) h hn mI trivial
def uM (kn : K0) (R : K1) (EC Ua : asZ) (w : asY) : Prop :=
 uH (fun EC Ua b7 b8 w => uI kn R EC Ua b7 b8 w) EC Ua w
def uN (R : K1) (EC Ua : asZ) (w : asY) : Prop :=
 uM (fun  w => qU R w) R EC Ua w
theorem GX (kn : K0) (R : K1) (hn : N0 Q kn) (hr : HR nZ R Q) (h : uM kn R (g 0) (g 1) w) : jK pg lX (gR 1 (fU 1 lQ)) Q g w :=
 oE 1 (G6 _ g w (uI kn R) (fun g w h => iA (G5 0 (GY _ g w kn R hn hr h))) h)
def uG (kn : K2) (EC Ua : asZ) (w : asY) : Prop :=
 kn EC Ua w
theorem G1 (kn : K2) (hn : N2 Q kn 0 1) (h : uG kn (g 0) (g 1) w) : jK pg lX (gR 1 lQ) Q g w :=
 lM (kr := no) (l := []) h hn mI trivial
def uL (R : K1) (EC Ua : asZ) (w : asY) : Prop :=
 uG (fun EC Ua w => uN R EC Ua w) EC Ua w
theorem G2 (R : K1) (hr : HR nZ R Q) (h : uL R (g 0) (g 1) w) : jK pg lX lQ Q g w :=
 oE 1 (G1 _ g w (uN R) (fun g w h => iA (oE 1 (GX _ g w (fun  w => qU R w) R (fun g w h => iA (G8 _ g w R hr h)) hr h))) h)
def EF (a0 a1 : asZ) (w : asY) (R : K1) : Prop :=
 uL R a0 a1 w
theorem Ia {a0 a1 : asZ} {w : asY} {R : K1} (h : EF a0 a1 w R) : jD pg vV #[a0, a1] w R := by
 refine B0 (ann := lX) Tryz.f58 lQ [a0, a1] nZ 19 TryzM.mixed Tryz.func58 ?_
 exact (G2 _ _ _ R (fun _ _ h => h) h)
def tC : FA := ⟨oA, fun i => match Nat.beq i 1 with | true => .leaf ([], []) [(false, []), (false, []), (false, []), (false, []), (false, []), (false, []), (false, []), (false, []), (false, []), (false, []), (false, [])] | false => match Nat.beq i 7 with | true => .leaf ([6], []) [(false, []), (false, []), (false, []), (false, []), (false, []), (false, []), (true, [])] | false => .leaf ([], []) []⟩
def O8 : List ResultVar := []
noncomputable def sI : Code := kF Tryz.f59
def oT (kn : K0) (rN nF k_4 acN : asZ) (w : asY) : Prop :=
 nG acN
  ((dr w) = (dr w) /\
  gD pg (rO rN) (dr w) fun f9 w_ => w_ = (dr w) /\
  gD pg (jJ 119 f9 2) (dr w) fun i0 w_ => w_ = (dr w) /\
  gD pg (jE 116 i0) (dr w) fun i1 w_ => w_ = (dr w) /\
  gD pg (jE 146 k_4) (dr w) fun i2 w_ => w_ = (dr w) /\
  (dr w) = (dr w) /\
  gD pg (UO 116 i1 i2 nF) (dr w) fun _u6 amP =>
  kn amP)
  (kn w)
theorem Kz (kn : K0) (hn : N0 Q kn) (h : oT kn (g 0) (g 1) (g 4) (g 5) w) : jK pg tC (fU 3 sI) Q g w :=
 lM (kr := no) (l := []) h hn mI trivial
def rF (kn : K4) (rN nF : asZ) (w : asY) : Prop :=
 jD pg rB #[rN, nF] w fun c1 w =>
 gD pg (jV c1 0) w fun c2 w =>
 gD pg (jV c1 1) w fun c3 w =>
 gD pg (pY 146) w fun k_4 w =>
 gD pg (jZ 146 k_4 c2) w fun _u w =>
 (dr w) = (dr w) /\
 gD pg (rO rN) (dr w) fun c6 w_ => w_ = (dr w) /\
 gD pg (jJ 119 c6 2) (dr w) fun c7 w_ => w_ = (dr w) /\
 gD pg (jE 116 c7) (dr w) fun c8 w_ => w_ = (dr w) /\
 gD pg (jE 146 k_4) (dr w) fun c9 w_ => w_ = (dr w) /\
 gD pg (Xx 116 c8 c9 true) (dr w) fun d0 w_ => w_ = (dr w) /\
 (dr w) = (dr w) /\
 gD pg (jV d0 0) (dr w) fun d1 w_ => w_ = (dr w) /\
 gD pg (jV d0 1) (dr w) fun d2 w_ => w_ = (dr w) /\
 (dr w) = (dr w) /\
 (dr w) = (dr w) /\
 gD pg (Yp .not c3) (dr w) fun d5 w =>
 Gd (kK d5 false) (fun K => K d2 w) w fun d7 w =>
 Gd (kK d5 false) (fun K => gD pg (Yp .not d7) w K) w fun d8 w =>
 gD pg (mA d5 (.bool true) d8) w fun d9 w =>
 nG d9
  (gD pg (rO rN) w fun e1 w =>
  gD pg (jJ 119 e1 3) w fun e2 w =>
  gD pg (jE 117 e2) w fun e3 w =>
  gD pg (jO 117 e3 nF) w fun e5 w =>
  gD pg (jZ 3 e5 (atA (-1))) w fun _u w =>
  kn rN nF k_4 c3 w)
  (gD pg (gV .lss 3 iI iI d1 nF) w fun e9 w =>
  nG e9
   (gD pg (rO rN) w fun f1 w =>
   gD pg (jJ 119 f1 3) w fun f2 w =>
   gD pg (jE 117 f2) w fun f3 w =>
   gD pg (jO 117 f3 nF) w fun f6 w =>
   gD pg (jZ 3 f6 d1) w fun _u w =>
   kn rN nF k_4 c3 w)
   (kn rN nF k_4 c3 w))
theorem Kq (kn : K4) (hn : N4 Q kn 0 1 4 5) (h : rF kn (g 0) (g 1) w) : jK pg tC (gR 3 sI) Q g w :=
 lM (kr := no) (l := []) h hn mI trivial
def qZ (kn : K0) (rN nF : asZ) (w : asY) : Prop :=
 rF (fun rN nF k_4 acN w => oT kn rN nF k_4 acN w) rN nF w
theorem KD (kn : K0) (hn : N0 Q kn) (h : qZ kn (g 0) (g 1) w) : jK pg tC sI Q g w :=
 oE 3 (Kq _ g w (oT kn) (fun g w h => iA (Kz _ g w kn hn h)) h)
def zR (a0 a1 : asZ) (w : asY) (R : K1) : Prop :=
 qZ (fun  w => R (.tuple #[]) w) a0 a1 w
theorem LS {a0 a1 : asZ} {w : asY} {R : K1} (h : zR a0 a1 w R) : jD pg oA #[a0, a1] w R := by
 refine B0 (ann := tC) Tryz.f59 sI [a0, a1] O8 54 TryzM.mixed Tryz.func59 ?_
 exact (KD _ _ _ (fun  w => R (.tuple #[]) w) (fun _ _ h => h) h)
def jY : FA := ⟨rR, fun i => match Nat.beq i 4 with | true => .leaf ([], []) [(false, []), (false, []), (false, []), (false, []), (false, []), (false, []), (false, []), (false, []), (false, []), (false, []), (false, [])] | false => .leaf ([], []) []⟩
def tX : List ResultVar := [.tmp 4, .tmp 5]
noncomputable def jW : Code := kF Tryz.f60
def As (R : K1) (jU kS : asZ) (w : asY) : Prop :=
 R (.tuple #[jU, kS]) w
theorem KB (R : K1) (hr : HR tX R Q) (h : As R (g 10) (g 11) w) : jK pg jY (fU 1 (fU 6 (bI (fU 1 jW)))) Q g w :=
 lM (kn := no) (l := []) h mI hr trivial
def pA (kn : K7) (rN nF mW jU kS e5 e6 : asZ) (w : asY) : Prop :=
 gD pg (gV .add 3 iI iI e6 (atA 1)) w fun i8 w =>
 kn rN nF mW jU kS e5 i8 w
theorem Kk (kn : K7) (hn : N7 Q kn 0 1 8 10 11 35 36) (h : pA kn (g 0) (g 1) (g 8) (g 10) (g 11) (g 35) (g 36) w) : jK pg jY (fU 1 (fU 2 (bI (bI (fU 1 (gR 1 (fU 6 (bI (fU 1 jW))))))))) Q g w :=
 lM (kr := no) (l := []) h hn mI trivial
def lZ (kn : K7) (k0 : K2) (rN nF mW jU kS e5 e6 : asZ) (w : asY) : Prop :=
 gD pg (rO rN) w fun i0 w =>
 gD pg (jJ 119 i0 3) w fun i1 w =>
 gD pg (jE 117 i1) w fun i2 w =>
 gD pg (jO 117 i2 mW) w fun i4 w =>
 gD pg (jE 3 i4) w fun i5 w =>
 gD pg (gV .lss 3 iI iI i5 (atA 0)) w fun i7 w =>
 nG i7
  (k0 jU kS w)
  (kn rN nF i5 jU kS e5 e6 w)
theorem Ki (kn : K7) (k0 : K2) (hn : N7 Q kn 0 1 8 10 11 35 36) (h0 : E2 Q k0 0 10 11) (h : lZ kn k0 (g 0) (g 1) (g 8) (g 10) (g 11) (g 35) (g 36) w) : jK pg jY (fU 1 (bI (gR 1 (fU 2 (bI (bI (fU 1 (gR 1 (fU 6 (bI (fU 1 jW))))))))))) Q g w :=
 lM (kr := no) (l := [(0, fun g w => k0 (g 10) (g 11) w)]) h hn mI ⟨h0, trivial⟩
def pS (kn : K7) (rN nF mW jU kS e5 e6 : asZ) (w : asY) : Prop :=
 jD pg vB #[rN, mW, nF] w fun f1 w =>
 gD pg (gV .gtr 3 iI iI f1 jU) w fun f4 w =>
 nG f4
  (gD pg (gV .sub 3 iI iI nF mW) w fun f8 w =>
  kn rN nF mW f1 f8 e5 e6 w)
  (kn rN nF mW jU kS e5 e6 w)
theorem KW (kn : K7) (hn : N7 Q kn 0 1 8 10 11 35 36) (h : pS kn (g 0) (g 1) (g 8) (g 10) (g 11) (g 35) (g 36) w) : jK pg jY (gR 1 (bI (gR 1 (fU 2 (bI (bI (fU 1 (gR 1 (fU 6 (bI (fU 1 jW))))))))))) Q g w :=
 lM (kr := no) (l := []) h hn mI trivial
def rD (kn : K7) (k0 : K2) (rN nF mW jU kS e5 e6 : asZ) (w : asY) : Prop :=
 pS (fun rN nF mW jU kS e5 e6 w => lZ kn k0 rN nF mW jU kS e5 e6 w) rN nF mW jU kS e5 e6 w
def pU (kn : K7) (k0 : K2) (rN nF mW jU kS e5 e6 : asZ) (w : asY) : Prop :=
 rD kn k0 rN nF mW jU kS e5 e6 w
def pR (kn : K7) (k0 : K2) (rN nF mW jU kS e5 e6 : asZ) (w : asY) : Prop :=
 pU (fun rN nF mW jU kS e5 e6 w => pA kn rN nF mW jU kS e5 e6 w) k0 rN nF mW jU kS e5 e6 w
theorem KR (kn : K7) (k0 : K2) (hn : N7 Q kn 0 1 8 10 11 35 36) (h0 : E2 Q k0 0 10 11) (h : pU kn k0 (g 0) (g 1) (g 8) (g 10) (g 11) (g 35) (g 36) w) : jK pg jY (gR 1 (fU 2 (bI (bI (fU 1 (gR 1 (fU 6 (bI (fU 1 jW))))))))) Q g w :=
 G5 1 (oE 1 (KW _ g w (lZ kn k0) (fun g w h => iA (Ki _ g w kn k0 hn h0 h)) h))
def pQ (kn : K7) (k0 : K2) (rN nF mW jU kS e5 e6 : asZ) (w : asY) : Prop :=
 gD pg (gV .lss 3 iI iI e6 e5) w fun e7 w =>
 nG e7
  (kn rN nF mW jU kS e5 e6 w)
  (k0 jU kS w)
theorem KG (kn : K7) (k0 : K2) (hn : N7 Q kn 0 1 8 10 11 35 36) (h0 : E2 Q k0 0 10 11) (h : pQ kn k0 (g 0) (g 1) (g 8) (g 10) (g 11) (g 35) (g 36) w) : jK pg jY (gR 2 (bI (bI (fU 1 (gR 1 (fU 6 (bI (fU 1 jW)))))))) Q g w :=
 lM (kr := no) (l := [(0, fun g w => k0 (g 10) (g 11) w)]) h hn mI ⟨h0, trivial⟩
def oR (kn : K7) (k0 : K2) (rN nF mW jU kS e5 e6 : asZ) (w : asY) : Prop :=
 pQ (fun rN nF mW jU kS e5 e6 w => pR kn k0 rN nF mW jU kS e5 e6 w) k0 rN nF mW jU kS e5 e6 w
def tD (k0 : K2) (rN nF mW jU kS e5 e6 : asZ) (w : asY) : Prop :=
 kE (fun (X : (asZ × asZ × asZ × asZ) -> K0) (t : asZ × asZ × asZ × asZ) (w : asY) => oR (fun _ _ mW jU kS _ e6 w => X (mW, jU, kS, e6) w) k0 rN nF t.1 t.2.1 t.2.2.1 e5 t.2.2.2 w) (mW, jU, kS, e6) w
theorem Ka (kn : K7) (k0 : K2) (hn : N7 Q kn 0 1 8 10 11 35 36) (h0 : E2 Q k0 0 10 11) (h : oR kn k0 (g 0) (g 1) (g 8) (g 10) (g 11) (g 35) (g 36) w) : jK pg jY (bI (bI (fU 1 (gR 1 (fU 6 (bI (fU 1 jW))))))) Q g w :=
 oE 2 (KG _ g w (pR kn k0) k0 (fun g w h => iA (oE 1 (KR _ g w (pA kn) k0 (fun g w h => iA (Kk _ g w kn hn h)) h0 h))) h0 h)
theorem JH (k0 : K2) (h0 : E2 Q k0 0 10 11) (h : tD k0 (g 0) (g 1) (g 8) (g 10) (g 11) (g 35) (g 36) w) : jK pg jY (bI (fU 1 (gR 1 (fU 6 (bI (fU 1 jW)))))) Q g w := by
 refine MJ (fun g : Env => (g 8, g 10, g 11, g 36)) (fun X t w => oR (fun _ _ mW jU kS _ e6 w => X (mW, jU, kS, e6) w) k0 (g 0) (g 1) t.1 t.2.1 t.2.2.1 (g 35) t.2.2.2 w) h (fun X g1 w1 ha hL => ?_)
 rw [<- qP 0 ha, <- qP 1 ha, <- qP 35 ha] at hL
 exact (Ka _ g1 w1 (fun _ _ mW jU kS _ e6 w => X (mW, jU, kS, e6) w) k0 (fun _ _ h => h) h0 hL)
def Eu (kn : K2) (rN nF mW jU kS e5 e6 : asZ) (w : asY) : Prop :=
 tD kn rN nF mW jU kS e5 e6 w
def zE (kn : K7) (rN nF mW jU kS : asZ) (w : asY) : Prop :=
 gD pg (rO rN) w fun e3 w =>
 gD pg (jJ 119 e3 4) w fun e4 w =>
 gD pg (jE 3 e4) w fun e5 w =>
 kn rN nF mW jU kS e5 (atA 0) w
theorem Jn (kn : K7) (hn : N7 Q kn 0 1 8 10 11 35 36) (h : zE kn (g 0) (g 1) (g 8) (g 10) (g 11) w) : jK pg jY (gR 1 (gR 1 (fU 6 (bI (fU 1 jW))))) Q g w :=
 lM (kr := no) (l := []) h hn mI trivial
def yY (kn : K2) (rN nF mW jU kS : asZ) (w : asY) : Prop :=
 zE (fun rN nF mW jU kS e5 e6 w => Eu kn rN nF mW jU kS e5 e6 w) rN nF mW jU kS w
def zF (R : K1) (rN nF mW jU kS : asZ) (w : asY) : Prop :=
 yY (fun jU kS w => As R jU kS w) rN nF mW jU kS w
theorem J2 (kn : K2) (hn : N2 Q kn 10 11) (h : yY kn (g 0) (g 1) (g 8) (g 10) (g 11) w) : jK pg jY (gR 1 (fU 6 (bI (fU 1 jW)))) Q g w :=
 oE 1 (Jn _ g w (Eu kn) (fun g w h => iA (G5 0 (JH _ g w kn hn h))) h)
def yW (kn : K5) (R : K1) (rN nF : asZ) (w : asY) : Prop :=
 jD pg rB #[rN, nF] w fun c6 w =>
 gD pg (jV c6 0) w fun c7 w =>
 gD pg (jV c6 1) w fun c8 w =>
 gD pg (pY 146) w fun k_6 w =>
 gD pg (jZ 146 k_6 c7) w fun _u w =>
 gD pg (Yp .not c8) w fun d0 w =>
 nG d0
  (R (.tuple #[(atA 0), (atA 0)]) w)
  ((dr w) = (dr w) /\
  gD pg (rO rN) (dr w) fun d3 w_ => w_ = (dr w) /\
  gD pg (jJ 119 d3 2) (dr w) fun d4 w_ => w_ = (dr w) /\
  gD pg (jE 116 d4) (dr w) fun d5 w_ => w_ = (dr w) /\
  gD pg (jE 146 k_6) (dr w) fun d6 w_ => w_ = (dr w) /\
  gD pg (Xx 116 d5 d6 true) (dr w) fun d7 w_ => w_ = (dr w) /\
  (dr w) = (dr w) /\
  gD pg (jV d7 0) (dr w) fun d8 w_ => w_ = (dr w) /\
  gD pg (jV d7 1) (dr w) fun d9 w_ => w_ = (dr w) /\
  (dr w) = (dr w) /\
  (dr w) = (dr w) /\
  gD pg (Yp .not d9) (dr w) fun e1 w =>
  nG e1
   (R (.tuple #[(atA 0), (atA 0)]) w)
   (kn rN nF d8 (atA 0) (atA 0) w))
theorem JE (kn : K5) (R : K1) (hn : N5 Q kn 0 1 8 10 11) (hr : HR tX R Q) (h : yW kn R (g 0) (g 1) w) : jK pg jY (gR 6 (bI (fU 1 jW))) Q g w :=
 lM (l := []) h hn hr trivial
def Ew (R : K1) (rN nF : asZ) (w : asY) : Prop :=
 yW (fun rN nF mW jU kS w => zF R rN nF mW jU kS w) R rN nF w
def yX (R : K1) (rN nF : asZ) (w : asY) : Prop :=
 Ew R rN nF w
def yP (kn : K2) (rN nF : asZ) (w : asY) : Prop :=
 kn rN nF w
theorem Jx (kn : K2) (hn : N2 Q kn 0 1) (h : yP kn (g 0) (g 1) w) : jK pg jY (gR 1 jW) Q g w :=
 lM (kr := no) (l := []) h hn mI trivial
def yZ (R : K1) (rN nF : asZ) (w : asY) : Prop :=
 yP (fun rN nF w => yX R rN nF w) rN nF w
theorem Jt (R : K1) (hr : HR tX R Q) (h : yZ R (g 0) (g 1) w) : jK pg jY jW Q g w :=
 oE 1 (Jx _ g w (yX R) (fun g w h => iA (scD (oE 6 (JE _ g w (zF R) R (fun g w h => iA (oE 1 (J2 _ g w (As R) (fun g w h => iA (KB _ g w R hr h)) h))) hr h)))) h)
def Jh (a0 a1 : asZ) (w : asY) (R : K1) : Prop :=
 yZ R a0 a1 w
theorem Lw {a0 a1 : asZ} {w : asY} {R : K1} (h : Jh a0 a1 w R) : jD pg rR #[a0, a1] w R := by
 refine B0 (ann := jY) Tryz.f60 jW [a0, a1] tX 61 TryzM.mixed Tryz.func60 ?_
 exact (Jt _ _ _ R (fun _ _ h => h) h)
def J7 : FA := ⟨Eh, fun i => .leaf ([], []) []⟩
def ME : List ResultVar := [.tmp 2, .tmp 3]
noncomputable def I7 : Code := kF Tryz.f63
def GG (R : K1) (kT : asZ) (w : asY) : Prop :=
 gD pg (oF .len #[22] 3 [kT]) w fun b5 w =>
 gD pg (gV .gtr 3 iI iI b5 (atA 131072)) w fun b6 w =>
 nG b6
  (R (.tuple #[(.slice none 0 0), (atA 1)]) w)
  (gD pg (oF .len #[22] 3 [kT]) w fun b8 w =>
  jD pg vY #[(atA 0), b8] w fun b9 w =>
  gD pg (oF .append #[22, 22] 22 [b9, kT]) w fun c1 w =>
  R (.tuple #[c1, (atA 0)]) w)
theorem Ra (R : K1) (hr : HR ME R Q) (h : GG R (g 0) w) : jK pg J7 I7 Q g w :=
 lM (kn := no) (l := []) h mI hr trivial
def Se (a0 : asZ) (w : asY) (R : K1) : Prop :=
 GG R a0 w
theorem RK {a0 : asZ} {w : asY} {R : K1} (h : Se a0 w R) : jD pg Eh #[a0] w R := by
 refine B0 (ann := J7) Tryz.f63 I7 [a0] ME 12 TryzM.mixed Tryz.func63 ?_
 exact (Ra _ _ _ R (fun _ _ h => h) h)
def Gn : FA := ⟨pO, fun i => .leaf ([], []) []⟩
def PH : List ResultVar := []
noncomputable def Ez : Code := kF Tryz.f64
def uU (kn : K0) (qW e_1 b2 : asZ) (w : asY) : Prop :=
 gD pg (gV .eql 24 (.tmp 5) (.const (atA 0)) e_1 (atA 0)) w fun b6 w =>
 nG b6
  (gD pg (jE 22 b2) w fun b7 w =>
  gD pg (lI 137 2 [(0, b7), (1, qW)]) w fun b9 w =>
  jD pg Ab #[b9] w fun c0 w =>
  gD pg (jZ 22 b2 c0) w fun _u w =>
  kn w)
  (kn w)
theorem LD (kn : K0) (hn : N0 Q kn) (h : uU kn (g 0) (g 1) (g 2) w) : jK pg Gn Ez Q g w :=
 lM (kr := no) (l := []) h hn mI trivial
def Fy (a0 a1 a2 : asZ) (w : asY) (R : K1) : Prop :=
 uU (fun  w => R (.tuple #[]) w) a0 a1 a2 w
theorem Ex {a0 a1 a2 : asZ} {w : asY} {R : K1} (h : Fy a0 a1 a2 w R) : jD pg pO #[a0, a1, a2] w R := by
 refine B0 (ann := Gn) Tryz.f64 Ez [a0, a1, a2] PH 11 TryzM.mixed Tryz.func64 ?_
 exact (LD _ _ _ (fun  w => R (.tuple #[]) w) (fun _ _ h => h) h)
def GO : FA := ⟨Ab, fun i => .leaf ([], []) []⟩
def Hl : List ResultVar := [.tmp 2]
noncomputable def Gm : Code := kF Tryz.f65
def CW (R : K1) (kT : asZ) (w : asY) : Prop :=
 jD pg yO #[kT, (.func (.func 83) #[] #[])] w fun b4 w =>
 R b4 w
theorem NA (R : K1) (hr : HR Hl R Q) (h : CW R (g 0) w) : jK pg GO Gm Q g w :=
 lM (kn := no) (l := []) h mI hr trivial
def MC (a0 : asZ) (w : asY) (R : K1) : Prop :=
 CW R a0 w
theorem NT {a0 : asZ} {w : asY} {R : K1} (h : MC a0 w R) : jD pg Ab #[a0] w R := by
 refine B0 (ann := GO) Tryz.f65 Gm [a0] Hl 5 TryzM.mixed Tryz.func65 ?_
 exact (NA _ _ _ R (fun _ _ h => h) h)
def I4 : FA := ⟨Cm, fun i => .leaf ([], []) []⟩
def Ky : List ResultVar := [.tmp 4, .tmp 5]
noncomputable def Hc : Code := kF Tryz.f66
def Fp (R : K1) (c_0 Un : asZ) (w : asY) : Prop :=
 gD pg (gV .lss 3 iI iI Un (atA 0)) w fun b7 w =>
 Gd (kK b7 false) (fun K => K Un w) w fun b9 w =>
 Gd (kK b7 false) (fun K => gD pg (gV .gtr 3 iI iI b9 (atA 131072)) w K) w fun c0 w =>
 gD pg (mA b7 (.bool true) c0) w fun c1 w =>
 nG c1
  (R (.tuple #[(.slice none 0 0), (atA 1)]) w)
  (jD pg vY #[(atA 1), Un] w fun c3 w =>
  gD pg (lI 22 1 [(0, c_0)]) w fun c5 w =>
  gD pg (oF .append #[22, 22] 22 [c3, c5]) w fun c6 w =>
  R (.tuple #[c6, (atA 0)]) w)
theorem Ph (R : K1) (hr : HR Ky R Q) (h : Fp R (g 0) (g 1) w) : jK pg I4 Hc Q g w :=
 lM (kn := no) (l := []) h mI hr trivial
def Qx (a0 a1 : asZ) (w : asY) (R : K1) : Prop :=
 Fp R a0 a1 w
theorem QI {a0 a1 : asZ} {w : asY} {R : K1} (h : Qx a0 a1 w R) : jD pg Cm #[a0, a1] w R := by
 refine B0 (ann := I4) Tryz.f66 Hc [a0, a1] Ky 17 TryzM.mixed Tryz.func66 ?_
 exact (Ph _ _ _ R (fun _ _ h => h) h)
def kP : FA := ⟨G3, fun i => .leaf ([], []) []⟩
def F1 : List ResultVar := [.tmp 2, .tmp 3]
noncomputable def kB : Code := kF Tryz.f67
def FX (R : K1) (kX : asZ) (w : asY) : Prop :=
 R (.tuple #[kX, (atA 0)]) w
theorem Tt (R : K1) (hr : HR F1 R Q) (h : FX R (g 11) w) : jK pg kP (fU 1 (fU 4 (fU 1 (fU 3 kB)))) Q g w :=
 lM (kn := no) (l := []) h mI hr trivial
def B4 (kn : K5) (sS kX i1 i2 i3 : asZ) (w : asY) : Prop :=
 gD pg (gV .add 3 iI iI i3 (atA 1)) w fun j8 w =>
 kn sS kX i1 i2 j8 w
theorem S5 (kn : K5) (hn : N5 Q kn 10 11 51 52 53) (h : B4 kn (g 10) (g 11) (g 51) (g 52) (g 53) w) : jK pg kP (fU 1 (fU 2 (bI (bI (fU 1 (gR 1 (fU 4 (fU 1 (fU 3 kB))))))))) Q g w :=
 lM (kr := no) (l := []) h hn mI trivial
def Cb (kn : K5) (sS kX afT i1 i2 i3 : asZ) (w : asY) : Prop :=
 gD pg (nL 3 5 afT) w fun j5 w =>
 gD pg (lI 22 1 [(0, j5)]) w fun j6 w =>
 gD pg (oF .append #[22, 22] 22 [kX, j6]) w fun j7 w =>
 kn sS j7 i1 i2 i3 w
theorem Tj (kn : K5) (hn : N5 Q kn 10 11 51 52 53) (h : Cb kn (g 10) (g 11) (g 14) (g 51) (g 52) (g 53) w) : jK pg kP (fU 3 (bI (gR 1 (fU 2 (bI (bI (fU 1 (gR 1 (fU 4 (fU 1 (fU 3 kB))))))))))) Q g w :=
 lM (kr := no) (l := []) h hn mI trivial
def JZ (kn : K6) (sS kX i1 i2 i3 : asZ) (w : asY) : Prop :=
 gD pg (jO 117 i1 i3) w fun i5 w =>
 gD pg (jE 3 i5) w fun i6 w =>
 gD pg (gV .gtr 3 iI iI i6 (atA 0)) w fun i8 w =>
 nG i8
  (gD pg (gV .add 3 iI iI sS (atA 1)) w fun j0 w =>
  gD pg (gV .sub 3 iI iI j0 i6) w fun j2 w =>
  kn sS kX j2 i1 i2 i3 w)
  (kn sS kX (atA 0) i1 i2 i3 w)
theorem Tv (kn : K6) (hn : N6 Q kn 10 11 14 51 52 53) (h : JZ kn (g 10) (g 11) (g 51) (g 52) (g 53) w) : jK pg kP (gR 3 (bI (gR 1 (fU 2 (bI (bI (fU 1 (gR 1 (fU 4 (fU 1 (fU 3 kB))))))))))) Q g w :=
 lM (kr := no) (l := []) h hn mI trivial
def Qi (kn : K5) (sS kX i1 i2 i3 : asZ) (w : asY) : Prop :=
 JZ (fun sS kX afT i1 i2 i3 w => Cb kn sS kX afT i1 i2 i3 w) sS kX i1 i2 i3 w
def JA (kn : K5) (sS kX i1 i2 i3 : asZ) (w : asY) : Prop :=
 Qi kn sS kX i1 i2 i3 w
def JW (kn : K5) (sS kX i1 i2 i3 : asZ) (w : asY) : Prop :=
 JA (fun sS kX i1 i2 i3 w => B4 kn sS kX i1 i2 i3 w) sS kX i1 i2 i3 w
theorem S1 (kn : K5) (hn : N5 Q kn 10 11 51 52 53) (h : JA kn (g 10) (g 11) (g 51) (g 52) (g 53) w) : jK pg kP (gR 1 (fU 2 (bI (bI (fU 1 (gR 1 (fU 4 (fU 1 (fU 3 kB))))))))) Q g w :=
 G5 3 (oE 3 (Tv _ g w (Cb kn) (fun g w h => iA (Tj _ g w kn hn h)) h))
def Jk (kn : K5) (k2 : K1) (sS kX i1 i2 i3 : asZ) (w : asY) : Prop :=
 gD pg (gV .lss 3 iI iI i3 i2) w fun i4 w =>
 nG i4
  (kn sS kX i1 i2 i3 w)
  (k2 kX w)
theorem TE (kn : K5) (k2 : K1) (hn : N5 Q kn 10 11 51 52 53) (h2 : E1 Q k2 2 11) (h : Jk kn k2 (g 10) (g 11) (g 51) (g 52) (g 53) w) : jK pg kP (gR 2 (bI (bI (fU 1 (gR 1 (fU 4 (fU 1 (fU 3 kB)))))))) Q g w :=
 lM (kr := no) (l := [(2, fun g w => k2 (g 11) w)]) h hn mI ⟨h2, trivial⟩
def FV (kn : K5) (k2 : K1) (sS kX i1 i2 i3 : asZ) (w : asY) : Prop :=
 Jk (fun sS kX i1 i2 i3 w => JW kn sS kX i1 i2 i3 w) k2 sS kX i1 i2 i3 w
def HK (k2 : K1) (sS kX i1 i2 i3 : asZ) (w : asY) : Prop :=
 kE (fun (X : (asZ × asZ) -> K0) (t : asZ × asZ) (w : asY) => FV (fun _ kX _ _ i3 w => X (kX, i3) w) k2 sS t.1 i1 i2 t.2 w) (kX, i3) w
theorem Ta (kn : K5) (k2 : K1) (hn : N5 Q kn 10 11 51 52 53) (h2 : E1 Q k2 2 11) (h : FV kn k2 (g 10) (g 11) (g 51) (g 52) (g 53) w) : jK pg kP (bI (bI (fU 1 (gR 1 (fU 4 (fU 1 (fU 3 kB))))))) Q g w :=
 oE 2 (TE _ g w (JW kn) k2 (fun g w h => iA (oE 1 (S1 _ g w (B4 kn) (fun g w h => iA (S5 _ g w kn hn h)) h))) h2 h)
theorem Sb (k2 : K1) (h2 : E1 Q k2 2 11) (h : HK k2 (g 10) (g 11) (g 51) (g 52) (g 53) w) : jK pg kP (bI (fU 1 (gR 1 (fU 4 (fU 1 (fU 3 kB)))))) Q g w := by
 refine MJ (fun g : Env => (g 11, g 53)) (fun X t w => FV (fun _ kX _ _ i3 w => X (kX, i3) w) k2 (g 10) t.1 (g 51) (g 52) t.2 w) h (fun X g1 w1 ha hL => ?_)
 rw [<- qP 10 ha, <- qP 51 ha, <- qP 52 ha] at hL
 exact (Ta _ g1 w1 (fun _ kX _ _ i3 w => X (kX, i3) w) k2 (fun _ _ h => h) h2 hL)
def Hu (kn : K1) (sS kX i1 i2 i3 : asZ) (w : asY) : Prop :=
 HK kn sS kX i1 i2 i3 w
def HZ (kn : K5) (l_9 sS kX : asZ) (w : asY) : Prop :=
 gD pg (oF .len #[117] 3 [l_9]) w fun i2 w =>
 kn sS kX l_9 i2 (atA 0) w
theorem Sr (kn : K5) (hn : N5 Q kn 10 11 51 52 53) (h : HZ kn (g 9) (g 10) (g 11) w) : jK pg kP (gR 1 (gR 1 (fU 4 (fU 1 (fU 3 kB))))) Q g w :=
 lM (kr := no) (l := []) h hn mI trivial
def HI (kn : K1) (l_9 sS kX : asZ) (w : asY) : Prop :=
 HZ (fun sS kX i1 i2 i3 w => Hu kn sS kX i1 i2 i3 w) l_9 sS kX w
def HO (R : K1) (l_9 sS kX : asZ) (w : asY) : Prop :=
 HI (fun kX w => FX R kX w) l_9 sS kX w
theorem RW (kn : K1) (hn : N1 Q kn 11) (h : HI kn (g 9) (g 10) (g 11) w) : jK pg kP (gR 1 (fU 4 (fU 1 (fU 3 kB)))) Q g w :=
 oE 1 (Sr _ g w (Hu kn) (fun g w h => iA (G5 2 (Sb _ g w kn hn h))) h)
def Ip (kn : K3) (R : K1) (gP kL b5 mT : asZ) (w : asY) : Prop :=
 gD pg (oF .len #[128] 3 [gP]) w fun e3 w =>
 gD pg (gV .gtr 3 iI iI e3 (atA 256)) w fun e4 w =>
 Gd (kK e4 false) (fun K => K b5 w) w fun e6 w =>
 Gd (kK e4 false) (fun K => gD pg (gV .lss 3 iI iI e6 (atA 2)) w K) w fun e7 w =>
 gD pg (mA e4 (.bool true) e7) w fun e8 w =>
 Gd (kK e8 false) (fun K => K kL w) w fun f0 w =>
 Gd (kK e8 false) (fun K => gD pg (gV .gtr 32 iI iI f0 (.int .u64 2147483647)) w K) w fun f1 w =>
 gD pg (mA e8 (.bool true) f1) w fun f2 w =>
 nG f2
  (R (.tuple #[(.slice none 0 0), (atA 1)]) w)
  (gD pg (gV .add 3 iI iI mT (atA 1)) w fun f5 w =>
  gD pg (lR 128 gP none (some f5) none) w fun f6 w =>
  jD pg zJ #[f6, kL] w fun f8 w =>
  jD pg zS #[f8] w fun i0 w =>
  kn f8 i0 (.slice none 0 0) w)
theorem RI (kn : K3) (R : K1) (hn : N3 Q kn 9 10 11) (hr : HR F1 R Q) (h : Ip kn R (g 0) (g 4) (g 5) (g 6) w) : jK pg kP (gR 4 (fU 1 (fU 3 kB))) Q g w :=
 lM (l := []) h hn hr trivial
def Ej (R : K1) (gP kL b5 mT : asZ) (w : asY) : Prop :=
 Ip (fun l_9 sS kX w => HO R l_9 sS kX w) R gP kL b5 mT w
def Au (kn : K7) (gP kL b5 mT c5 c6 c7 : asZ) (w : asY) : Prop :=
 gD pg (gV .add 3 iI iI c7 (atA 1)) w fun e1 w =>
 kn gP kL b5 mT c5 c6 e1 w
theorem RP (kn : K7) (hn : N7 Q kn 0 4 5 6 15 16 17) (h : Au kn (g 0) (g 4) (g 5) (g 6) (g 15) (g 16) (g 17) w) : jK pg kP (fU 3 (bI (bI (fU 1 (gR 1 (fU 3 kB)))))) Q g w :=
 lM (kr := no) (l := []) h hn mI trivial
def HG (kn : K7) (k0 : K4) (gP kL b5 mT c5 c6 c7 : asZ) (w : asY) : Prop :=
 gD pg (gV .lss 3 iI iI c7 c6) w fun c8 w =>
 nG c8
  (gD pg (jO 128 c5 c7) w fun d0 w =>
  gD pg (jE 38 d0) w fun d1 w =>
  gD pg (nL 38 32 d1) w fun d4 w =>
  gD pg (gV .add 32 iI iI kL d4) w fun d5 w =>
  gD pg (gV .gtr 38 iI iI d1 (.int .u32 0)) w fun d7 w =>
  nG d7
   (gD pg (gV .add 3 iI iI b5 (atA 1)) w fun d9 w =>
   kn gP d5 d9 c7 c5 c6 c7 w)
   (kn gP d5 b5 mT c5 c6 c7 w))
  (k0 gP kL b5 mT w)
theorem RL (kn : K7) (k0 : K4) (hn : N7 Q kn 0 4 5 6 15 16 17) (h0 : E4 Q k0 0 0 4 5 6) (h : HG kn k0 (g 0) (g 4) (g 5) (g 6) (g 15) (g 16) (g 17) w) : jK pg kP (gR 3 (bI (bI (fU 1 (gR 1 (fU 3 kB)))))) Q g w :=
 lM (kr := no) (l := [(0, fun g w => k0 (g 0) (g 4) (g 5) (g 6) w)]) h hn mI ⟨h0, trivial⟩
def DF (kn : K7) (k0 : K4) (gP kL b5 mT c5 c6 c7 : asZ) (w : asY) : Prop :=
 HG (fun gP kL b5 mT c5 c6 c7 w => Au kn gP kL b5 mT c5 c6 c7 w) k0 gP kL b5 mT c5 c6 c7 w
def HF (k0 : K4) (gP kL b5 mT c5 c6 c7 : asZ) (w : asY) : Prop :=
 kE (fun (X : (asZ × asZ × asZ × asZ) -> K0) (t : asZ × asZ × asZ × asZ) (w : asY) => DF (fun _ kL b5 mT _ _ c7 w => X (kL, b5, mT, c7) w) k0 gP t.1 t.2.1 t.2.2.1 c5 c6 t.2.2.2 w) (kL, b5, mT, c7) w
theorem R7 (kn : K7) (k0 : K4) (hn : N7 Q kn 0 4 5 6 15 16 17) (h0 : E4 Q k0 0 0 4 5 6) (h : DF kn k0 (g 0) (g 4) (g 5) (g 6) (g 15) (g 16) (g 17) w) : jK pg kP (bI (bI (fU 1 (gR 1 (fU 3 kB))))) Q g w :=
 oE 3 (RL _ g w (Au kn) k0 (fun g w h => iA (RP _ g w kn hn h)) h0 h)
theorem Sw (k0 : K4) (h0 : E4 Q k0 0 0 4 5 6) (h : HF k0 (g 0) (g 4) (g 5) (g 6) (g 15) (g 16) (g 17) w) : jK pg kP (bI (fU 1 (gR 1 (fU 3 kB)))) Q g w := by
 refine MJ (fun g : Env => (g 4, g 5, g 6, g 17)) (fun X t w => DF (fun _ kL b5 mT _ _ c7 w => X (kL, b5, mT, c7) w) k0 (g 0) t.1 t.2.1 t.2.2.1 (g 15) (g 16) t.2.2.2 w) h (fun X g1 w1 ha hL => ?_)
 rw [<- qP 0 ha, <- qP 15 ha, <- qP 16 ha] at hL
 exact (R7 _ g1 w1 (fun _ kL b5 mT _ _ c7 w => X (kL, b5, mT, c7) w) k0 (fun _ _ h => h) h0 hL)
def Hx (kn : K4) (gP kL b5 mT c5 c6 c7 : asZ) (w : asY) : Prop :=
 HF kn gP kL b5 mT c5 c6 c7 w
def HE (kn : K7) (gP kL b5 mT : asZ) (w : asY) : Prop :=
 gD pg (oF .len #[128] 3 [gP]) w fun c6 w =>
 kn gP kL b5 mT gP c6 (atA 0) w
theorem Sx (kn : K7) (hn : N7 Q kn 0 4 5 6 15 16 17) (h : HE kn (g 0) (g 4) (g 5) (g 6) w) : jK pg kP (gR 1 (gR 1 (fU 3 kB))) Q g w :=
 lM (kr := no) (l := []) h hn mI trivial
def Hs (kn : K4) (gP kL b5 mT : asZ) (w : asY) : Prop :=
 HE (fun gP kL b5 mT c5 c6 c7 w => Hx kn gP kL b5 mT c5 c6 c7 w) gP kL b5 mT w
def DJ (R : K1) (gP kL b5 mT : asZ) (w : asY) : Prop :=
 Hs (fun gP kL b5 mT w => Ej R gP kL b5 mT w) gP kL b5 mT w
theorem SQ (kn : K4) (hn : N4 Q kn 0 4 5 6) (h : Hs kn (g 0) (g 4) (g 5) (g 6) w) : jK pg kP (gR 1 (fU 3 kB)) Q g w :=
 oE 1 (Sx _ g w (Hx kn) (fun g w h => iA (G5 0 (Sw _ g w kn hn h))) h)
def Im (kn : K4) (gP : asZ) (w : asY) : Prop :=
 kn gP (.int .u64 0) (atA 0) (atA 0) w
theorem SJ (kn : K4) (hn : N4 Q kn 0 4 5 6) (h : Im kn (g 0) w) : jK pg kP (gR 3 kB) Q g w :=
 lM (kr := no) (l := []) h hn mI trivial
def HW (R : K1) (gP : asZ) (w : asY) : Prop :=
 Im (fun gP kL b5 mT w => DJ R gP kL b5 mT w) gP w
theorem RO (R : K1) (hr : HR F1 R Q) (h : HW R (g 0) w) : jK pg kP kB Q g w :=
 oE 3 (SJ _ g w (DJ R) (fun g w h => iA (oE 1 (SQ _ g w (Ej R) (fun g w h => iA (oE 4 (RI _ g w (HO R) R (fun g w h => iA (oE 1 (RW _ g w (FX R) (fun g w h => iA (Tt _ g w R hr h)) h))) hr h))) h))) h)
def U1 (a0 : asZ) (w : asY) (R : K1) : Prop :=
 HW R a0 w
theorem Ul {a0 : asZ} {w : asY} {R : K1} (h : U1 a0 w R) : jD pg G3 #[a0] w R := by
 refine B0 (ann := kP) Tryz.f67 kB [a0] F1 70 TryzM.mixed Tryz.func67 ?_
 exact (RO _ _ _ R (fun _ _ h => h) h)
def rS : FA := ⟨Ad, fun i => .leaf ([], []) []⟩
def sR : List ResultVar := [.tmp 6, .tmp 7]
noncomputable def rG : Code := kF Tryz.f68
def qT (R : K1) (mF Bu Zy Sm SU Sj : asZ) (w : asY) : Prop :=
 jD pg nU #[] w fun l5 w =>
 gD pg (gV .shl 3 iI iI Sm (.int .u64 2)) w fun l9 w =>
 gD pg (gV .or 3 iI iI Bu l9) w fun m0 w =>
 gD pg (oF .len #[22] 3 [mF]) w fun m2 w =>
 gD pg (gV .shl 3 iI iI m2 (.int .u64 4)) w fun m3 w =>
 gD pg (gV .or 3 iI iI m0 m3) w fun m4 w =>
 gD pg (nL 3 32 m4) w fun m5 w =>
 gD pg (oF .len #[22] 3 [Zy]) w fun m7 w =>
 gD pg (nL 3 32 m7) w fun m8 w =>
 gD pg (gV .add 3 iI iI (atA 4) SU) w fun n0 w =>
 gD pg (gV .shl 32 iI iI m8 n0) w fun n1 w =>
 gD pg (gV .or 32 iI iI m5 n1) w fun n2 w =>
 jD pg jL #[l5, n2, Sj] w fun n4 w =>
 jD pg oB #[l5, Zy] w fun n7 w =>
 jD pg nD #[l5] w fun n9 w =>
 R (.tuple #[n9, (atA 0)]) w
theorem No (R : K1) (hr : HR sR R Q) (h : qT R (g 0) (g 8) (g 9) (g 14) (g 15) (g 16) w) : jK pg rS (fU 6 (fU 5 rG)) Q g w :=
 lM (kn := no) (l := []) h mI hr trivial
def Cx (kn : K6) (R : K1) (mF TM Bu Zy : asZ) (w : asY) : Prop :=
 jD pg vD #[TM, mF] w fun f0 w =>
 gD pg (jV f0 0) w fun f1 w =>
 gD pg (jV f0 1) w fun f2 w =>
 gD pg (gV .neq 24 (.tmp 43) (.const (atA 0)) f2 (atA 0)) w fun f4 w =>
 nG f4
  (R (.tuple #[(.slice none 0 0), f2]) w)
  (gD pg (oF .append #[22, 22] 22 [Zy, f1]) w fun f8 w =>
  gD pg (oF .len #[22] 3 [f8]) w fun i0 w =>
  gD pg (gV .geq 3 iI iI i0 (atA 262144)) w fun i1 w =>
  nG i1
   (R (.tuple #[(.slice none 0 0), (atA 1)]) w)
   (gD pg (oF .len #[22] 3 [mF]) w fun i3 w =>
   gD pg (oF .len #[22] 3 [f8]) w fun i5 w =>
   gD pg (oF .max #[3, 3] 3 [i3, i5]) w fun i6 w =>
   gD pg (oF .len #[22] 3 [mF]) w fun i9 w =>
   gD pg (gV .lss 3 iI iI i9 (atA 256)) w fun j0 w =>
   Gd (kK j0 true) (fun K => K i6 w) w fun j2 w =>
   Gd (kK j0 true) (fun K => gD pg (gV .lss 3 iI iI j2 (atA 1024)) w K) w fun j3 w =>
   gD pg (mA j0 j3 (.bool false)) w fun j4 w =>
   nG j4
    (kn mF Bu f8 (atA 0) (atA 10) (atA 3) w)
    (gD pg (oF .len #[22] 3 [mF]) w fun j7 w =>
    gD pg (gV .lss 3 iI iI j7 (atA 256)) w fun j8 w =>
    nG j8
     (R (.tuple #[(.slice none 0 0), (atA 1)]) w)
     (gD pg (gV .lss 3 iI iI i6 (atA 1024)) w fun l1 w =>
     nG l1
      (kn mF Bu f8 (atA 1) (atA 10) (atA 3) w)
      (gD pg (gV .lss 3 iI iI i6 (atA 16384)) w fun l4 w =>
      nG l4
       (kn mF Bu f8 (atA 2) (atA 14) (atA 4) w)
       (kn mF Bu f8 (atA 3) (atA 18) (atA 5) w))))))
theorem Ng (kn : K6) (R : K1) (hn : N6 Q kn 0 8 9 14 15 16) (hr : HR sR R Q) (h : Cx kn R (g 0) (g 1) (g 8) (g 9) w) : jK pg rS (gR 6 (fU 5 rG)) Q g w :=
 lM (l := []) h hn hr trivial
def xO (R : K1) (mF TM Bu Zy : asZ) (w : asY) : Prop :=
 Cx (fun mF Bu Zy Sm SU Sj w => qT R mF Bu Zy Sm SU Sj w) R mF TM Bu Zy w
def CV (kn : K4) (R : K1) (mF TM Xb : asZ) (w : asY) : Prop :=
 gD pg (oF .len #[22] 3 [mF]) w fun d0 w =>
 gD pg (gV .eql 3 (.tmp 20) (.const (atA 0)) d0 (atA 0)) w fun d1 w =>
 Gd (kK d1 false) (fun K => K mF w) w fun d3 w =>
 Gd (kK d1 false) (fun K => gD pg (oF .len #[22] 3 [d3]) w K) w fun d4 w =>
 Gd (kK d1 false) (fun K => gD pg (gV .gtr 3 iI iI d4 (atA 131072)) w K) w fun d5 w =>
 gD pg (mA d1 (.bool true) d5) w fun d6 w =>
 nG d6
  (R (.tuple #[(.slice none 0 0), (atA 1)]) w)
  (nG Xb
   (jD pg yJ #[TM] w fun e0 w =>
   gD pg (jV e0 0) w fun e1 w =>
   gD pg (jV e0 1) w fun e2 w =>
   gD pg (gV .neq 24 (.tmp 33) (.const (atA 0)) e2 (atA 0)) w fun e4 w =>
   nG e4
    (R (.tuple #[(.slice none 0 0), e2]) w)
    (kn mF TM (atA 2) e1 w))
   (kn mF TM (atA 3) (.slice none 0 0) w))
theorem ND (kn : K4) (R : K1) (hn : N4 Q kn 0 1 8 9) (hr : HR sR R Q) (h : CV kn R (g 0) (g 1) (g 2) w) : jK pg rS (gR 5 rG) Q g w :=
 lM (l := []) h hn hr trivial
def CY (R : K1) (mF TM Xb : asZ) (w : asY) : Prop :=
 CV (fun mF TM Bu Zy w => xO R mF TM Bu Zy w) R mF TM Xb w
theorem Nq (R : K1) (hr : HR sR R Q) (h : CY R (g 0) (g 1) (g 2) w) : jK pg rS rG Q g w :=
 oE 5 (ND _ g w (xO R) R (fun g w h => iA (oE 6 (Ng _ g w (qT R) R (fun g w h => iA (No _ g w R hr h)) hr h))) hr h)
def Mo (a0 a1 a2 : asZ) (w : asY) (R : K1) : Prop :=
 CY R a0 a1 a2 w
theorem Ot {a0 a1 a2 : asZ} {w : asY} {R : K1} (h : Mo a0 a1 a2 w R) : jD pg Ad #[a0, a1, a2] w R := by
 refine B0 (ann := rS) Tryz.f68 rG [a0, a1, a2] sR 100 TryzM.mixed Tryz.func68 ?_
 exact (Nq _ _ _ R (fun _ _ h => h) h)
end Go.Proofs.YtoecppploooloaaGreatDoor

/- Parts of the proof of LiteralsBehind: merged and given short names by a program of ours. -/
import Derived.Orders
import Derived.Below
import Derived.KernelRfl
import Derived.Eval
import Derived.RangeFuncRecord
import Derived.Laws.Sem
import Derived.Scope
import Derived.Test.YtgpimhlgaokobaaRows
set_option linter.unusedVariables false
set_option linter.unusedSimpArgs false
open Array renaming getD_eq_getD_getElem? → aiL, getElem?_eq_getElem → ajC, getElem?_setIfInBounds_self_of_lt → ajX, getElem?_setIfInBounds_ne → ajZ, all_eq_true' → akR, length_toList → alH, getElem?_eq_none → alI, mem_of_getElem? → anM
open Bool renaming false_eq_true → aiD, and_eq_true → aiN, not_true → ajB, or_eq_true → akV, not_eq_true' → alC, or_eq_false_iff → amC
open List renaming getElem?_cons_succ → aiA, getElem?_eq_getElem → aiH, getD_eq_getElem?_getD → aiJ, getElem?_eq_none → aiO, length_cons → aiP, mem_cons_of_mem → aiT, map_congr_left → ajH, drop_eq_getElem_cons → ajK, mem_range → ajL, length_eq_zero_iff → ajM, mem_append → ajT, mem_cons → ajW, all_eq_true → akE, mem_of_getElem? → akH, mem_map → akM, mem_append_left → akS, map_cons → akZ, mem_cons_self → alN, getElem_of_mem → amI, mem_append_right → amO, mem_filter → amW, length_erase_of_mem → anA, map_nil → anO
open Nat renaming zero_add → aiC, le_refl → aiM, lt_or_ge → aiS, eq_of_beq_eq_true → ajN, le_trans → akT, add_assoc → alJ, lt_of_lt_of_le → alM, le_of_ble_eq_true → alO, mod_lt → amD, blt_eq → amK, lt_trichotomy → anC
open Option renaming map_some → ajS, getD_some → anJ
open Option.some renaming inj → ajE
namespace Go.En
open Go
abbrev anU := World
abbrev anV := Value
abbrev Env := Nat -> anV
def put (g : Env) (d : Option Tmp) (v : anV) : Env :=
 match d with
 | some d => fun i => match Nat.beq i d with | true => v | false => g i
 | none => g
def ev (g : Env) : Operand -> anV
 | .tmp t => g t
 | .const v => v
 | .global b => .pointer (some ⟨b, 0, none⟩)
 | .func f => .func (.func f) #[] #[]
def Ret (P : Program) (f : FuncId) (args : Array anV) (w : anU) (v : anV) (w' : anU) : Prop :=
 Calls P f args w fun e w'' => e = .returned v /\ w'' = w'
def aP (P : Program) (f : FuncId) (args : Array anV) (w : anU) (R : anV -> anU -> Prop) : Prop :=
 ∃ v w', Ret P f args w v w' /\ R v w'
theorem aP.mono {P : Program} {f : FuncId} {args : Array anV} {w : anU} {R R' : anV -> anU -> Prop} (h : aP P f args w R)
 (hr : ∀ v w', R v w' -> R' v w') : aP P f args w R' :=
 let ⟨v, w', a, b⟩ := h; ⟨v, w', a, hr _ _ b⟩
def afM (P : Program) (l : Nat) (f : FuncId) (tmps : Array anV) (ahY bd : Code) (w : anU) (v : anV) (w' : anU) : Prop :=
 RoundIn Fence.wide 0 P l f tmps ahY bd w fun e w'' => e = .returned v /\ w'' = w'
def TK (P : Program) (l : Nat) (f : FuncId) (tmps : Array anV) (ahY bd : Code) (w : anU) (R : anV -> anU -> Prop) : Prop :=
 ∃ v w', afM P l f tmps ahY bd w v w' /\ R v w'
def XH (P : Program) (r : Result Next) (K : anV -> anU -> Prop) : Prop :=
 match r with
 | .ok (.value v) w => K v w
 | .ok .skip w => K undef w
 | .ok (.enter f args) w => aP P f args w K
 | .ok (.round l f tmps ahY bd) w => TK P l f tmps ahY bd w K
 | _ => False
theorem aA (P : Program) (v : anV) (w : anU) (K : anV -> anU -> Prop) : XH P (.ok (.value v) w) K = K v w := Eq.trans rfl rfl
theorem stepR_skip (P : Program) (w : anU) (K : anV -> anU -> Prop) : XH P (.ok .skip w) K = K undef w := Eq.trans rfl rfl
theorem V0 (P : Program) (l : Nat) (f : FuncId) (tmps : Array anV) (ahY bd : Code) (w : anU) (K : anV -> anU -> Prop) :
 XH P (.ok (.round l f tmps ahY bd) w) K = TK P l f tmps ahY bd w K := Eq.trans rfl rfl
def aD (P : Program) (s : Sem Next) (w : anU) (K : anV -> anU -> Prop) : Prop := XH P (s.run P w) K
def eL (P : Program) (s : Sem Next) (v : anV) (w : anU) : Prop := s.run P w = .ok (.value v) w
def Gd (b : Bool) (s : (anV -> anU -> Prop) -> Prop) (w : anU) (K : anV -> anU -> Prop) : Prop :=
 match b with
 | true => s K
 | false => K undef w
def asB (v : anV) : Option Bool := match v with | .bool b => some b | _ => none
def eS (v : anV) (want : Bool) : Bool := asB v == some want
def eY (v : anV) (A B : Prop) : Prop :=
 match v with
 | .bool b => (match b with | true => A | false => B)
 | _ => False
def A9 (ops : Array Oper) (j : Nat) : Option Tmp := (ops[j]?).bind (·.dst)
def vP (g : Env) (t : Option Tmp) (want : Bool) : Bool := match t with | some t => eS (g t) want | none => false
def V (s : Sem anV) : Sem Next := do pure (.value (<- s))
def U (s : Sem Unit) : Sem Next := do s; pure .skip
def GV (op : BinOp) : Bool := match op with | .eql | .neq => true | _ => false
def aG (op : BinOp) (t : TypeId) (ox oy : Operand) (x y : anV) : Sem Next :=
 match GV op with
 | true => V (do eqGuard op t ox oy x y; binOp op t x y)
 | false => V (binOp op t x y)
def gD (b : Builtin) (ats : Array TypeId) (ty : TypeId) (args : List anV) : Sem Next := builtin b ats ty #[] args.toArray
def Du (f : anV) (args : List anV) : Sem Next := do let d <- Deferred.ofValue f args.toArray; invoke d.target d.args
def Vm (fn : Fn) (first captured : List anV) : Sem Next := V (Instr.makeFunc fn first.toArray captured.toArray)
def dG (t : TypeId) (ps : List (Nat × anV)) : Sem Next := V (Instr.build t ps.toArray)
def cD (t : TypeId) (n : Nat) (ps : List (Nat × anV)) : Sem Next := V (Instr.buildSlice t n ps.toArray)
def Hh (g : Env) (o : Oper) : Sem Next :=
 match o.op with
 | .binOp op t x y _ => aG op t x y (ev g x) (ev g y)
 | .makeFunc fn first captured => Vm fn (first.toList.map (ev g)) (captured.toList.map (ev g))
 | .build t ps => dG t (ps.toList.map fun p => (p.1, ev g p.2))
 | .buildSlice t n ps => cD t n (ps.toList.map fun p => (p.1, ev g p.2))
 | .call c => (match c.callee with
   | .builtin b => gD b c.argTypes o.type (c.args.toList.map (ev g))
   | .value f => Du (ev g f) (c.args.toList.map (ev g))
   | _ => execOp (ev g) o)
 | _ => execOp (ev g) o
def FG (P : Program) (g : Env) (o : Oper) (w : anU) (K : anV -> anU -> Prop) : Prop :=
 match o.op with
 | .move x => K (ev g x) w
 | .assign x => K (ev g x) w
 | .call c => (match c.callee with
   | .value (.func f) => aP P f (c.args.toList.map (ev g)).toArray w K
   | _ => aD P (Hh g o) w K)
 | _ => aD P (Hh g o) w K
def Ea (P : Program) (ops : Array Oper) (g : Env) (o : Oper) (w : anU) (K : anV -> anU -> Prop) : Prop :=
 match o.guard with
 | none => FG P g o w K
 | some (j, want) => Gd (vP g (A9 ops j) want) (FG P g o w) w K
def St (P : Program) (ops : Array Oper) : List Oper -> Env -> anU -> (Env -> anU -> Prop) -> Prop
 | [], g, w, K => K g w
 | o :: rest, g, w, K => Ea P ops g o w fun v w' => St P ops rest (put g o.dst v) w' K
structure Rec where
 heavy : Bool
 o : Oper
 g : Env
 w : anU
 v : anV
def gOf (ops : Array Oper) (o : Oper) (g : Env) : Bool := match o.guard with | none => true | some (j, want) => vP g (A9 ops j) want
def Gs (b : Bool) (p : Prop) : Prop := match b with | true => p | false => True
def MP (P : Program) (ops : Array Oper) (q : Rec) (o : Oper) (g : Env) (w' : anU) (v : anV) : Prop :=
 match q.heavy with
 | true => Gs (gOf ops o g) (eL P (Hh g o) v q.w)
 | false => Gs (gOf ops q.o q.g) (eL P (Hh q.g q.o) q.v w')
def Sx (i j : Nat) : List (Nat × Nat) -> Bool
 | [] => false
 | (a, b) :: r => match Nat.beq a i with
   | true => (match Nat.beq b j with | true => true | false => Sx i j r)
   | false => Sx i j r
def lM (i : Nat) : List Nat -> Bool
 | [] => false
 | a :: r => match Nat.beq a i with | true => true | false => lM i r
def VJ : List Rec -> Nat -> Option Rec
 | [], _ => none
 | q :: _, 0 => some q
 | _ :: r, n + 1 => VJ r n
def abK (P : Program) (ops : Array Oper) (o : Oper) (g : Env) (w' : anU) (v : anV) (hist : List Rec) : List Nat -> Prop
 | [] => True
 | k :: ks => (match VJ hist k with
   | some q => MP P ops q o g w' v
   | none => False) /\ abK P ops o g w' v hist ks
abbrev XX := List Nat × List (Nat × Nat)
abbrev Vf := List (Bool × List Nat)
def mV (P : Program) (ops : Array Oper) : List Oper -> Vf -> List Rec -> Env -> anU -> (Env -> anU -> Prop) -> Prop
 | [], _, _, g, w, K => K g w
 | _ :: _, [], _, _, _, _ => False
 | o :: rest, (hv, ks) :: pl, hist, g, w, K =>
   Ea P ops g o w fun v w' =>
    match hv, ks with
    | true, [] => mV P ops rest pl (⟨true, o, g, w, v⟩ :: hist) (put g o.dst v) w' K
    | true, k :: ks => abK P ops o g w' v hist (k :: ks) /\ mV P ops rest pl (⟨true, o, g, w, v⟩ :: hist) (put g o.dst v) w' K
    | false, [] => w' = w /\ mV P ops rest pl (⟨false, o, g, w, v⟩ :: hist) (put g o.dst v) w K
    | false, k :: ks => w' = w /\ abK P ops o g w v hist (k :: ks) /\ mV P ops rest pl (⟨false, o, g, w, v⟩ :: hist) (put g o.dst v) w K
def cK {α : Type} (F : (α -> anU -> Prop) -> α -> anU -> Prop) (g : α) (w : anU) : Prop :=
 ∃ I : Nat -> α -> anU -> Prop, (∃ n, I n g w) /\ ∀ n g w, I n g w -> F (fun g' w' => ∃ m, m < n /\ I m g' w') g w
def xZ (K : Env -> anU -> Prop) (Q : Exit -> Env -> anU -> Prop) : Exit -> Env -> anU -> Prop :=
 fun e g w => (fun (_ : Program -> Sem Next -> anU -> (anV -> anU -> Prop) -> Prop) => match e with | .normal => K g w | e => Q e g w) aD
def blk (id : Nat) (Q : Exit -> Env -> anU -> Prop) : Exit -> Env -> anU -> Prop :=
 fun e g w => (fun (_ : Program -> Sem Next -> anU -> (anV -> anU -> Prop) -> Prop) => match e with | .exit i => (match Nat.beq i id with | true => Q .normal g w | false => Q (.exit i) g w) | e => Q e g w) aD
inductive HT where
 | leaf (an : XX) (pl : Vf)
 | perm (π : List Nat) (es : List (Nat × Nat)) (an : XX) (pl : Vf)
 | split (a b : Nat) (x y : HT)
structure FA where
 f : FuncId
 t : Nat -> HT
def sG : List Nat -> Nat -> Nat
 | [], _ => 0
 | a :: r, i => match Nat.beq a i with | true => 0 | false => sG r i + 1
def Dn (π : List Nat) (i : Nat) : List (Nat × Nat) -> List Edge
 | [] => []
 | (a, b) :: r => match Nat.beq b i with | true => ⟨sG π a, .data⟩ :: Dn π i r | false => Dn π i r
def FW (π : List Nat) (es : List (Nat × Nat)) (i : Nat) (o : Oper) : Oper :=
 { dst := o.dst, op := o.op, type := o.type, pos := o.pos, after := (o.after.toList.map (fun e => (⟨sG π e.on, e.ground⟩ : Edge)) ++ Dn π i es).toArray,
   guard := match o.guard with | none => none | some (j, b) => some (sG π j, b) }
def Om (π : List Nat) (es : List (Nat × Nat)) (l : List Oper) : List Nat -> List Oper
 | [] => []
 | i :: r => match l[i]? with | some o => FW π es i o :: Om π es l r | none => Om π es l r
def lI (π : List Nat) (es : List (Nat × Nat)) (ops : Array Oper) : Array Oper := (Om π es ops.toList π).toArray
def abQ (f : FuncId) (id : Nat) (ops : Array Oper) (a b : Nat) (w : anU) : Bool :=
 Nat.ble ((Region.schedule true ops (w.tape w.drawn (.order f id))).idxOf a) ((Region.schedule true ops (w.tape w.drawn (.order f id))).idxOf b)
def Ord (b : Bool) (A B : Prop) : Prop := match b with | true => A | false => B
def VK (P : Program) (f : FuncId) (id : Nat) (ops : Array Oper) : HT -> Env -> anU -> anU -> (Env -> anU -> Prop) -> Prop
 | .leaf _ pl, g, _, w, K => mV P ops ops.toList pl [] g w K
 | .perm π es _ pl, g, _, w, K => mV P (lI π es ops) (lI π es ops).toList pl [] g w K
 | .split a b x y, g, w0, w, K => Ord (abQ f id ops a b w0) (VK P f id ops x g w0 w K) (VK P f id ops y g w0 w K)
def DS : Nat := 1000003
def Ve : anV -> List Deferred
 | .pointer (some a) => [{ target := .collected a.block, args := #[] }]
 | _ => []
def noMark : anV -> Bool
 | .pointer _ => false
 | _ => true
def tmpsOf (N : Nat) (g : Env) : Array anV := Array.ofFn (n := N) fun i => g i.val
def PR (P : Program) (f : FuncId) : Nat := match P.funcs[f]? with | some fn => fn.ntmps | none => 0
def adW (Q : Exit -> Env -> anU -> Prop) (g : Env) : Option Code -> anU -> Prop
 | none, w => Q .normal g w
 | some .ret, w => Q .ret g w
 | some (.exit i), w => Q (.exit i) g w
 | _, _ => False
def Zb (l : Nat) (Q : Exit -> Env -> anU -> Prop) (g : Env) (w : anU) : Prop :=
 ∃ r : Loop, w.heap[l]? = some (.loop r) /\ r.state ≠ .busy /\ adW Q g r.pending (w.putObj l (.loop { r with state := .exhausted }))
def YU (f : FuncId) (N : Nat) (ps : Array Tmp) (ahY bd : Code) (g : Env) (w : anU) : anU :=
 (w.alloc (.deferred (some []))).alloc (.loop { state := .ready, pending := none, fn := f, tmps := tmpsOf N g, params := ps, assign := ahY, body := bd, defers := w.heap.size })
def afF (P : Program) (r : Result Next) (K : anV -> anU -> Prop) : Prop :=
 match r with
 | .ok (.enter f args) w => aP P f args w K
 | _ => False
def DZ (l : Nat) : anV := .func (.yield l) #[] #[]
def RF (P : Program) (f : FuncId) (gf : Operand) (ps : Array Tmp) (ahY bd : Code) (Q : Exit -> Env -> anU -> Prop) (g : Env) (w : anU) : Prop :=
 match noMark (g DS) with
 | true => afF P ((Du (ev g gf) [DZ (w.heap.size + 1)]).run P (YU f (PR P f) ps ahY bd g w)) fun _ w3 =>
  Zb (w.heap.size + 1) Q (put g (some DS) (.pointer (some ⟨w.heap.size, 0, none⟩))) w3
 | false => False
def bA (P : Program) (ann : FA) : Code -> (Exit -> Env -> anU -> Prop) -> Env -> anU -> Prop
 | .skip, Q, g, w => Q .normal g w
 | .region id ops draw, Q, g, w => match draw with
   | false => St P ops ops.toList g w (Q .normal)
   | true => VK P ann.f id ops (ann.t id) g w { w with drawn := w.drawn + 1 } (Q .normal)
 | .seq x y, Q, g, w => bA P ann x (xZ (fun g w => bA P ann y Q g w) Q) g w
 | .cond c x y, Q, g, w => eY (ev g c) (bA P ann x Q g w) (bA P ann y Q g w)
 | .block id c, Q, g, w => bA P ann c (blk id Q) g w
 | .loop c, Q, g, w => cK (fun X g w => bA P ann c (xZ X Q) g w) g w
 | .scope c, Q, g, w => bA P ann c Q g w
 | .label _, Q, g, w => Q .normal g w
 | .exit id, Q, g, w => Q (.exit id) g w
 | .ret, Q, g, w => Q .ret g w
 | .rangeFunc gf ps ahY bd, Q, g, w => RF P ann.f gf ps ahY bd Q g w
 | _, _, _, _ => False
def XD (N : Nat) (o : Oper) : Bool := match o.dst with | some d => Nat.blt d N | none => true
def YW (b : Array Nat) (i j : Nat) : Bool := (b.getD j 0).testBit i
def looks (ops : Array Oper) (o : Oper) : List Tmp :=
 (o.op.operands.toList.filterMap fun | .tmp t => some t | _ => none) ++ (match o.guard with | some (j, _) => (A9 ops j).toList | none => [])
def Z8 (ops : Array Oper) (x y : Oper) : Bool :=
 (match x.dst with | some d => (looks ops y).contains d || y.dst == some d | none => false) ||
 (match y.dst with | some d => (looks ops x).contains d | none => false)
def QF (o : Oper) : Bool := match o.op with | .select .. => true | _ => false
def ZP (o : Oper) : Bool := match o.op with | .call { callee := .value (.func _), .. } => true | _ => false
def TL (o : Oper) : Bool := match o.op with | .defer .. => true | _ => false
def Tw : Operand -> Bool | .tmp t => Nat.blt t DS | _ => true
def Ry (P : Program) (o : Oper) : Bool :=
 match o.op with
 | .call c => (match c.callee with
   | .value (.func f) => (match P.funcs[f]? with | some fn => fn.body.isSome && !(fn.name == "runtime.NumGoroutine") | none => false)
   | .builtin b => (match b with | .print | .println => false | _ => true)
   | _ => true)
 | _ => true
def Ab (P : Program) (o : Oper) : Bool := Ry P o && (o.op.operands.toList.all Tw && (!QF o && !TL o))
def HL (o : Oper) : Bool := match o.op with | .move _ | .assign _ => true | _ => false
def KW (ops : Array Oper) (b : Array Nat) (an : XX) (i j : Nat) (x y : Oper) : Bool :=
 YW b i j ||
 (!Z8 ops x y &&
   match lM i an.1, lM j an.1 with
   | true, true => false
   | false, false => true
   | true, false => HL y || Sx i j an.2
   | false, true => HL x || Sx i j an.2)
def Vs (ops : Array Oper) (b : Array Nat) (an : XX) : Bool :=
 (List.range ops.size).all fun j => (List.range j).all fun i =>
  match ops[i]?, ops[j]? with
  | some x, some y => KW ops b an i j x y
  | _, _ => false
def TH (ops : Array Oper) : Bool :=
 (List.range ops.size).all fun i => match ops[i]? with
  | some o => o.after.all fun e => !Region.binds .any e || Nat.blt e.on i
  | none => false
def Tq (ops : Array Oper) (b : Array Nat) : Bool :=
 (List.range ops.size).all fun j => (List.range ops.size).all fun i =>
  !YW b i j || (match ops[j]? with
   | some o => o.after.any fun e => Region.binds .any e && (Nat.beq e.on i || YW b i e.on)
   | none => false)
def RN (ops : Array Oper) (an : XX) : Bool :=
 TH ops && Tq ops (Region.before ops) && Vs ops (Region.before ops) an && (ops.all fun o => !QF o) &&
  (List.range ops.size).all fun i => match ops[i]? with | some o => !ZP o || lM i an.1 | none => false
def SC (n : Nat) (an : XX) (pl : Vf) : Bool :=
 (List.range n).all fun i => match pl[i]? with
  | some (h, ks) => h == lM i an.1 && an.2.all fun p => !Nat.beq p.2 i || (Nat.blt p.1 i && ks.contains (i - 1 - p.1))
  | none => false
def W6 (π : List Nat) (ops : Array Oper) : Bool :=
 Nat.beq π.length ops.size && ((List.range ops.size).all fun k => match π[k]? with | some i => Nat.beq (sG π i) k && Nat.blt i ops.size | none => false) &&
  ((List.range ops.size).all fun i => match π[sG π i]? with | some j => Nat.beq j i | none => false) &&
  ((List.range ops.size).all fun i => match ops[i]? with
    | some o => (o.after.all fun e => Nat.blt e.on ops.size) && (match o.guard with | some (j, _) => Nat.blt j ops.size | none => true)
    | none => false)
def MT (P : Program) (N : Nat) (ops : Array Oper) : List (Nat × Nat) -> HT -> Bool
 | _, .leaf an pl => RN ops an && SC ops.size an pl
 | path, .perm π es an pl => (es.all fun p => Sx p.1 p.2 path && Nat.blt p.1 ops.size) && W6 π ops && (lI π es ops).all (XD N) && (lI π es ops).all (Ab P) &&
  RN (lI π es ops) an && SC (lI π es ops).size an pl
 | path, .split a b x y => !Nat.beq a b && MT P N ops ((a, b) :: path) x && MT P N ops ((b, a) :: path) y
def codeOk (P : Program) (N : Nat) (ann : FA) : Code -> Bool
 | .skip | .exit _ | .ret | .label _ => true
 | .scope c => codeOk P N ann c
 | .region id ops draw => ops.all (XD N) && ops.all (Ab P) && (!draw || MT P N ops [] (ann.t id))
 | .seq x y => codeOk P N ann x && codeOk P N ann y
 | .cond c x y => Tw c && (codeOk P N ann x && codeOk P N ann y)
 | .block _ c => codeOk P N ann c
 | .loop c => codeOk P N ann c
 | .rangeFunc gf _ _ _ => Tw gf
 | _ => false
def oB : Code -> Bool
 | .seq x y => oB x && oB y
 | .cond _ x y => oB x && oB y
 | .block _ c => oB c
 | .loop c => oB c
 | .scope c => oB c
 | .rangeFunc .. => false
 | _ => true
def Ts : ResultVar -> Bool
 | .tmp t => Nat.blt t DS
 | .cell a _ => Nat.blt a DS
theorem GH (g : Env) (d i : Nat) (v : anV) : put g (some d) v i = if i = d then v else g i := by
 unfold put
 by_cases h : i = d
 .subst h; simp
 .have : Nat.beq i d = false := by
   cases hb : Nat.beq i d
   .rfl
   .exact absurd (ajN hb) h
  simp [this, h]
theorem VA {P : Program} {o : Oper} (h : Ab P o = true) : Ry P o = true := by
 unfold Ab at h; simp only [aiN] at h; exact h.1
theorem Wb {P : Program} {o : Oper} (h : Ab P o = true) : ∀ x ∈ o.op.operands, Tw x = true := by
 unfold Ab at h; simp only [aiN] at h
 intro x hx
 exact akE.1 h.2.1 x (by simpa using hx)
theorem W4 {P : Program} {o : Oper} (h : Ab P o = true) : QF o = false := by
 unfold Ab at h; simp only [aiN, alC] at h; exact h.2.2.1
theorem WG {P : Program} {o : Oper} (h : Ab P o = true) : TL o = false := by
 unfold Ab at h; simp only [aiN, alC] at h; exact h.2.2.2
def MV (N : Nat) (ops : Array Oper) : Prop := ∀ (i : Nat) (o : Oper), ops[i]? = some o -> ∀ t, o.dst = some t -> t < N
structure JR (N : Nat) (g : Env) (a : Act) : Prop where
 le : N <= DS
 defers : a.defers = Ve (g DS)
 size : a.tmps.size = N
 at_ : ∀ i, i ≠ DS -> a.tmps.getD i undef = g i
theorem JR.ev {N : Nat} {g : Env} {a : Act} (h : JR N g a) (x : Operand) (hx : Tw x = true) : a.eval x = ev g x := by
 cases x with
 | tmp t =>
   have : t < DS := (amK (x := t) (y := DS)) ▸ hx
   have e := h.at_ t (Nat.ne_of_lt this)
   simp [Act.eval, En.ev, <- e]
 | _ => simp [Act.eval, En.ev]
theorem JR.put {N : Nat} {g : Env} {a : Act} (h : JR N g a) (d : Option Tmp) (v : anV) (hd : ∀ t, d = some t -> t < N) :
 JR N (put g d v) (a.put d v) := by
 cases d with
 | none => exact h
 | some t =>
   obtain ⟨h0, h1, h2, h3⟩ := h
   have ht := hd t rfl
   refine ⟨h0, ?_, by simp [Act.put, h2], fun i hne => ?_⟩
   .rw [GH, if_neg (Nat.ne_of_gt (alM ht h0))]; exact h1
   .rw [GH, <- h3 i hne]
    by_cases hi : i = t
    .subst hi; simp [Act.put, h2, ht]
    .have hi' : t ≠ i := fun e => hi e.symm
     simp [Act.put, hi, ajZ hi']
theorem JR.wanted {N : Nat} {g : Env} {a : Act} (h : JR N g a) (ops : Array Oper) (hd : MV N ops) (o : Oper) :
 Region.wanted o (yielded ops a.tmps) = match o.guard with | none => true | some (j, want) => vP g (A9 ops j) want := by
 unfold Region.wanted
 cases o.guard with
 | none => rfl
 | some p =>
   obtain ⟨j, want⟩ := p
   simp only [yielded, vP, A9]
   cases ho : ops[j]? with
   | none => simp
   | some o' =>
     cases hdd : o'.dst with
     | none => simp [hdd]
     | some t =>
       have hlt := hd j o' ho t hdd
       have hle := h.le
       have h3 := h.at_ t (Nat.ne_of_lt (alM hlt hle))
       simp only [hdd, Option.bind_some, eS, asB, <- h3]
       simp only [aiL]
       cases ht : a.tmps[t]? with
       | none => simp [undef]
       | some v => cases v <;> simp
def upX (P : Program) (o : Oper) (a : Act) (next : Act -> anU -> Prop) : Result Next -> Prop
 | .ok (.value v) w' => next (a.put o.dst v) w'
 | .ok .skip w' => next (a.put o.dst undef) w'
 | .ok (.enter f args) w' => ∃ v w'', Ret P f args w' v w'' /\ next (a.put o.dst v) w''
 | .ok (.round l f tmps ahY bd) w' => ∃ v w'', afM P l f tmps ahY bd w' v w'' /\ next (a.put o.dst v) w''
 | _ => False
def WW (P : Program) (o : Oper) (a : Act) (w : anU) (next : Act -> anU -> Prop) : Prop := TL o = false /\ upX P o a next ((execOp a.eval o).run P w)
def Lf (P : Program) (ops : Array Oper) (i : Nat) (K : Act -> anU -> Prop) (a : Act) (w : anU) : Prop :=
 match ops[i]? with
 | none => K a w
 | some o => if Region.wanted o (yielded ops a.tmps) then WW P o a w K else K (a.put o.dst undef) w
def AY (P : Program) (ops : Array Oper) (Q : Act -> anU -> Prop) : List Nat -> Act -> anU -> Prop
 | [], a, w => Q a w
 | i :: rest, a, w => Lf P ops i (AY P ops Q rest) a w
def SB (P : Program) (ops : Array Oper) (Q : Act -> anU -> Prop) : Nat -> Array Bool -> Act -> anU -> Prop
 | 0, listed, a, w => Region.ready .any ops listed = [] /\ Q a w
 | fuel + 1, listed, a, w =>
   (Region.ready .any ops listed = [] -> Q a w) /\ ∀ i ∈ Region.ready .any ops listed, Lf P ops i (SB P ops Q fuel (listed.setIfInBounds i true)) a w
theorem Tp {P : Program} {o : Oper} {a : Act} {w : anU} {K K' : Act -> anU -> Prop} (h : ∀ a w, K a w -> K' a w) (hh : WW P o a w K) : WW P o a w K' := by
 refine ⟨hh.1, ?_⟩
 have hh := hh.2
 generalize (execOp a.eval o).run P w = r at *
 cases r with
 | ok x w' =>
   cases x <;> simp only [upX] at hh ⊢ <;> first | exact h _ _ hh | (obtain ⟨v, w'', h1, h2⟩ := hh; exact ⟨v, w'', h1, h _ _ h2⟩) | exact hh
 | halt x w' => exact hh.elim
theorem WH {P : Program} {ops : Array Oper} {i : Nat} {a : Act} {w : anU} {K K' : Act -> anU -> Prop} (h : ∀ a w, K a w -> K' a w) (hh : Lf P ops i K a w) : Lf P ops i K' a w := by
 unfold Lf at *
 split
 .exact h _ _ (by simpa [*] using hh)
 .rename_i o ho
  simp only [ho] at hh
  split
  .rename_i hw; simp only [hw, if_true] at hh; exact Tp h hh
  .rename_i hw; simp only [hw] at hh; exact h _ _ hh
def RO (ro : Option Nat) : Fence := { Fence.wide with round := ro }
theorem YJ {P : Program} {ops : Array Oper} {Q : Act -> anU -> Prop} (ro : Option Nat) : ∀ (L : List Nat) (a : Act) (w : anU), AY P ops Q L a w →
 wpOpsIn (RO ro) 0 P ops (fun e a w => e = .normal /\ Q a w) L a w := by
 intro L
 induction L with
 | nil => intro a w h; exact ⟨rfl, h⟩
 | cons i L ih =>
   intro a w h
   simp only [AY, Lf] at h
   simp only [wpOpsIn]
   cases ho : ops[i]? with
   | none => rw [ho] at h; exact ih _ _ h
   | some o =>
     rw [ho] at h
     simp only at h ⊢
     by_cases hw : Region.wanted o (yielded ops a.tmps) = true
     .rw [if_pos hw] at h ⊢
      obtain ⟨hd, h⟩ := h
      refine ⟨fun _ _ => trivial, ?_⟩
      rw [Oper.semAt_eq _ _ _ (fun c hc => by simp [TL, hc] at hd)]
      generalize (execOp a.eval o).run P w = r at *
      cases r with
      | halt x w' => exact h.elim
      | ok x w' =>
        cases x <;> simp only [upX] at h <;> simp only [Oper.uponIn] <;> try (exact h.elim)
        .exact ih _ _ h
        .exact ih _ _ h
        .obtain ⟨v, w'', h1, h2⟩ := h
         refine ⟨fun hn => by simp [RO, Fence.wide] at hn, ?_⟩
         have := callsIn_wide (n := 0).2 h1
         refine CallsIn.mono (F := RO ro) (n := 0) this ?_
         rintro e w3 ⟨rfl, rfl⟩
         exact ih _ _ h2
        .obtain ⟨v, w'', h1, h2⟩ := h
         refine ⟨fun hn => by simp [RO, Fence.wide] at hn, ?_⟩
         refine RoundIn.mono (F := RO ro) (n := 0) h1 ?_
         rintro e w3 ⟨rfl, rfl⟩
         exact ih _ _ h2
     .rw [if_neg hw] at h ⊢
      exact ⟨fun _ _ => trivial, ih _ _ h⟩
section
variable {P : Program} {ops : Array Oper}
def QI (P : Program) (ops : Array Oper) (g : Env) (o : Oper) (w : anU) (v : anV) (w' : anU) : Prop :=
 ∀ K : anV -> anU -> Prop, K v w' -> Ea P ops g o w K
theorem Xy {s : Sem Next} {w : anU} {K : anV -> anU -> Prop} (h : aD P s w K) :
 ∃ v w', (∀ K' : anV -> anU -> Prop, K' v w' -> aD P s w K') /\ K v w' := by
 unfold aD at *
 generalize s.run P w = r at *
 match r, h with
 | .ok (.value v) w1, h => exact ⟨v, w1, fun _ h' => h', h⟩
 | .ok .skip w1, h => exact ⟨undef, w1, fun _ h' => h', h⟩
 | .ok (.enter f args) w1, h =>
   obtain ⟨v, w', hr, hk⟩ := h
   exact ⟨v, w', fun _ h' => ⟨v, w', hr, h'⟩, hk⟩
 | .ok (.round l f tmps ahY bd) w1, h =>
   obtain ⟨v, w', hr, hk⟩ := h
   exact ⟨v, w', fun _ h' => ⟨v, w', hr, h'⟩, hk⟩
theorem Th {g : Env} {o : Oper} {w : anU} {K : anV -> anU -> Prop} (h : FG P g o w K) :
 ∃ v w', (∀ K' : anV -> anU -> Prop, K' v w' -> FG P g o w K') /\ K v w' := by
 unfold FG at *
 split at h
 .exact ⟨_, _, fun _ h' => h', h⟩
 .exact ⟨_, _, fun _ h' => h', h⟩
 .split at h
  .obtain ⟨v, w', a, b⟩ := h
   exact ⟨v, w', fun _ h' => ⟨v, w', a, h'⟩, b⟩
  .exact Xy h
 .exact Xy h
theorem aaY (op : BinOp) (t : TypeId) (ox oy : Operand) (x y : anV) : aG op t ox oy x y = V (do eqGuard op t ox oy x y; binOp op t x y) := by
 cases op <;> simp [aG, GV, eqGuard]
theorem Zc {g : Env} {o : Oper} (ho : Ab P o = true) : Hh g o = execOp (ev g) o := by
 have ho := VA ho
 unfold Hh
 split
 .rename_i op t x y yt hx
  simp only [execOp, hx, aaY, V]
 .rename_i fn first captured hx
  have e1 : (List.map (ev g) first.toList).toArray = first.map (ev g) := by obtain ⟨l⟩ := first; simp
  have e2 : (List.map (ev g) captured.toList).toArray = captured.map (ev g) := by obtain ⟨l⟩ := captured; simp
  simp only [execOp, hx, Vm, V, e1, e2]
 .rename_i t ps hx
  have e : (List.map (fun p : Nat × Operand => (p.1, ev g p.2)) ps.toList).toArray = ps.map (fun p => (p.1, ev g p.2)) := by obtain ⟨l⟩ := ps; simp
  simp only [execOp, hx, dG, V, e]
 .rename_i t n ps hx
  have e : (List.map (fun p : Nat × Operand => (p.1, ev g p.2)) ps.toList).toArray = ps.map (fun p => (p.1, ev g p.2)) := by obtain ⟨l⟩ := ps; simp
  simp only [execOp, hx, cD, V, e]
 .rename_i c hx
  split
  .rename_i b hb
   simp only [execOp, hx, resolve, hb, pure_bind, invoke, gD]
   unfold Ry at ho
   simp only [hx, hb] at ho
   have e : (List.map (ev g) c.args.toList).toArray = c.args.map (ev g) := by obtain ⟨l⟩ := c.args; simp
   rw [e]
   cases b <;> first | rfl | (cases ho)
  .rename_i f hb
   have e : (List.map (ev g) c.args.toList).toArray = c.args.map (ev g) := by obtain ⟨l⟩ := c.args; simp
   simp only [execOp, hx, resolve, hb, Du, e]
  .rfl
 .rfl
theorem OB {f : FuncId} {fn : Func} (hf : P.funcs[f]? = some fn) (hb : fn.body.isSome = true) (hn : (fn.name == "runtime.NumGoroutine") = false)
 (args : Array anV) (w : anU) : (callFunc f args).run P w = .ok (.enter f args) w := by
 unfold callFunc
 have hb' : fn.body.isNone = false := by cases h : fn.body <;> simp_all
 show Sem.run P (Sem.program fun p => _) w = _
 simp only [Sem.run]
 simp only [bind, Sem.bind, hf, hn, hb', aiD, if_false]
 rfl
theorem Ip {g : Env} {o : Oper} {w : anU} {K : anV -> anU -> Prop} (h : Ea P ops g o w K) :
 ∃ v w', QI P ops g o w v w' /\ K v w' := by
 unfold QI
 unfold Ea at *
 split at h
 .obtain ⟨v, w', h1, h2⟩ := Th h
  exact ⟨v, w', h1, h2⟩
 .rename_i j want hg
  unfold Gd at *
  cases hb : vP g (A9 ops j) want with
  | true =>
    simp only [hb] at h
    obtain ⟨v, w', h1, h2⟩ := Th h
    exact ⟨v, w', fun K hk => h1 K hk, h2⟩
  | false =>
    simp only [hb] at h
    exact ⟨_, _, fun K hk => hk, h⟩
theorem QR {N i : Nat} {g : Env} {a : Act} {o : Oper} {w w' : anU} {v : anV} {next : Act -> anU -> Prop}
 (hi : ops[i]? = some o) (hc : Ab P o = true) (hd : MV N ops) (hr : JR N g a) (hy : QI P ops g o w v w') (hn : next (a.put o.dst v) w') : Lf P ops i next a w := by
 have h := hy (fun v2 w2 => v2 = v /\ w2 = w') ⟨rfl, rfl⟩
 unfold Lf
 rw [hi]
 simp only [hr.wanted ops hd]
 have run : FG P g o w (fun v2 w2 => v2 = v /\ w2 = w') -> WW P o a w next := by
  intro h
  refine ⟨WG hc, ?_⟩
  have hevs : execOp a.eval o = execOp (ev g) o := execOp_congr o (fun cs b he => by have := W4 hc; simp [QF, he] at this) (fun x hx => hr.ev x (Wb hc x hx))
  have stp : aD P (Hh g o) w (fun v2 w2 => v2 = v /\ w2 = w') -> upX P o a next ((execOp (ev g) o).run P w) := by
   intro h
   rw [Zc hc] at h
   unfold aD at h
   generalize (execOp (ev g) o).run P w = r at *
   match r, h with
   | .ok (.value v) w1, h => obtain ⟨rfl, rfl⟩ := h; exact hn
   | .ok .skip w1, h => obtain ⟨rfl, rfl⟩ := h; exact hn
   | .ok (.enter f args) w1, h =>
     obtain ⟨v2, w2, hret, rfl, rfl⟩ := h
     exact ⟨_, _, hret, hn⟩
   | .ok (.round l f tmps ahY bd) w1, h =>
     obtain ⟨v2, w2, hret, rfl, rfl⟩ := h
     exact ⟨_, _, hret, hn⟩
  rw [hevs]
  unfold FG at h
  split at h
  .rename_i x hx
   obtain ⟨rfl, rfl⟩ := h
   simp only [execOp, hx]; exact hn
  .rename_i x hx
   obtain ⟨rfl, rfl⟩ := h
   simp only [execOp, hx]; exact hn
  .rename_i c hx
   split at h
   .rename_i f hcal
    obtain ⟨v2, w2, hret, rfl, rfl⟩ := h
    have e : (execOp (ev g) o).run P w = .ok (.enter f (List.map (ev g) c.args.toList).toArray) w := by
     have hc := VA hc
     unfold Ry at hc
     simp only [hx, hcal] at hc
     cases hfn : P.funcs[f]? with
     | none => rw [hfn] at hc; cases hc
     | some fn =>
       rw [hfn] at hc
       simp only [aiN, alC] at hc
       have ea : (List.map (ev g) c.args.toList).toArray = c.args.map (ev g) := by obtain ⟨l⟩ := c.args; simp
       rw [ea]
       simp only [execOp, hx, resolve, hcal, ev, Deferred.ofValue, pure_bind, invoke]
       simp only [Array.empty_append, Array.append_empty]
       exact OB hfn hc.1 hc.2 _ w
    rw [e]
    exact ⟨_, _, hret, hn⟩
   .exact stp h
  .exact stp h
 unfold Ea at h
 cases hg : o.guard with
 | none =>
   rw [hg] at h
   simp only [if_true]
   exact run h
 | some p =>
   obtain ⟨j, want⟩ := p
   simp only [hg] at h
   simp only
   by_cases hb : vP g (A9 ops j) want = true
   .rw [if_pos hb]
    simp only [hb, Gd] at h
    exact run h
   .rw [if_neg hb]
    have hb' : vP g (A9 ops j) want = false := by simpa using hb
    simp only [hb', Gd] at h
    obtain ⟨rfl, rfl⟩ := h
    exact hn
def Ps (P : Program) (ops : Array Oper) : Prop := ∀ (i : Nat) (o : Oper), ops[i]? = some o -> Ab P o = true
theorem Yh {N : Nat} (hd : MV N ops) (hca : Ps P ops) {Q : Act -> anU -> Prop} {K : Env -> anU -> Prop}
 (hQ : ∀ g a w, JR N g a -> K g w -> Q a w) :
 ∀ (l : List Oper) (k : Nat) (g : Env) (a : Act) (w : anU), (∀ j, l[j]? = ops[k + j]?) -> JR N g a -> St P ops l g w K →
   AY P ops Q (List.range' k l.length) a w := by
 intro l
 induction l with
 | nil => intro k g a w _ hr h; exact hQ _ _ _ hr h
 | cons o l ih =>
   intro k g a w hl hr h
   have h0 : ops[k]? = some o := by have := hl 0; simpa using this.symm
   obtain ⟨v, w', hy, hk⟩ := Ip h
   rw [aiP, List.range'_succ]
   show Lf P ops k (AY P ops Q _) a w
   refine QR h0 (hca k o h0) hd hr hy ?_
   refine ih (k + 1) _ _ _ (fun j => ?_) (hr.put _ _ (hd k o h0)) hk
   have := hl (j + 1)
   simp only [aiA] at this
   rw [this]; congr 1; omega
def QG (an : XX) (O : Nat -> Oper) (G : Nat -> Env) (W : Nat -> anU) (V : Nat -> anV) (i : Nat) : Rec :=
 ⟨lM i an.1, O i, G i, W i, V i⟩
def Xl (P : Program) (ops : Array Oper) (an : XX) (O : Nat -> Oper) (G : Nat -> Env) (W : Nat -> anU) (V : Nat -> anV) (i j : Nat) : Prop :=
 MP P ops (QG an O G W V i) (O j) (G j) (W (j + 1)) (V j)
structure YX (P : Program) (ops : Array Oper) (an : XX) (g0 : Env) (w0 : anU) (n : Nat) (O : Nat -> Oper) (G : Nat -> Env) (W : Nat -> anU) (V : Nat -> anV) : Prop where
 g0 : G 0 = g0
 w0 : W 0 = w0
 op : ∀ i, i < n -> ops[i]? = some (O i)
 yld : ∀ i, i < n -> QI P ops (G i) (O i) (W i) (V i) (W (i + 1))
 light : ∀ i, i < n -> lM i an.1 = false -> W (i + 1) = W i
 env : ∀ i, i < n -> G (i + 1) = put (G i) (O i).dst (V i)
 chk : ∀ i j, i < j -> j < n -> Sx i j an.2 = true -> Xl P ops an O G W V i j
theorem Vj {o : Oper} {g : Env} {w' : anU} {v : anV} {hist : List Rec} : ∀ {ks : List Nat}, abK P ops o g w' v hist ks -> ∀ k ∈ ks, ∃ q, VJ hist k = some q /\ MP P ops q o g w' v := by
 intro ks
 induction ks with
 | nil => intro _ k hk; cases hk
 | cons a ks ih =>
   rintro ⟨h1, h2⟩ k hk
   rcases ajW.1 hk with rfl | hk
   .cases hn : VJ hist k with
    | none => rw [hn] at h1; exact h1.elim
    | some q => rw [hn] at h1; exact ⟨q, rfl, h1⟩
   .exact ih h2 k hk
theorem YM {n : Nat} {an : XX} {pl : Vf} (h : SC n an pl = true) {i : Nat} (hi : i < n) :
 ∃ ks, pl[i]? = some (lM i an.1, ks) /\ ∀ j, Sx j i an.2 = true -> j < i /\ (i - 1 - j) ∈ ks := by
 have := akE.1 h i (ajL.2 hi)
 cases hp : pl[i]? with
 | none => rw [hp] at this; cases this
 | some p =>
   obtain ⟨hv, ks⟩ := p
   rw [hp] at this
   simp only [aiN] at this
   obtain ⟨h1, h2⟩ := this
   have h1 : hv = lM i an.1 := by simpa using h1
   refine ⟨ks, by rw [h1], fun j hj => ?_⟩
   have mm : ∀ (l : List (Nat × Nat)), Sx j i l = true -> (j, i) ∈ l := by
    intro l
    induction l with
    | nil => intro h; cases h
    | cons q r ih =>
      obtain ⟨a, b⟩ := q
      intro h
      unfold Sx at h
      cases ha : Nat.beq a j with
      | true =>
        simp only [ha] at h
        cases hb : Nat.beq b i with
        | true =>
          obtain rfl := ajN ha
          obtain rfl := ajN hb
          exact alN
        | false => simp only [hb] at h; exact aiT _ (ih h)
      | false => simp only [ha] at h; exact aiT _ (ih h)
   have := akE.1 h2 (j, i) (mm _ hj)
   simp only [Nat.beq_refl, ajB, Bool.false_or, aiN] at this
   refine ⟨?_, by simpa using this.2⟩
   have hlt := this.1
   exact (amK (x := j) (y := i)) ▸ hlt
theorem VU {an : XX} {pl : Vf} {g0 : Env} {w0 : anU} {K : Env -> anU -> Prop} (hpl : SC ops.size an pl = true) :
 ∀ (l : List Oper) (m : Nat) (hist : List Rec) (O : Nat -> Oper) (G : Nat -> Env) (W : Nat -> anU) (V : Nat -> anV),
   (∀ j, l[j]? = ops[m + j]?) -> m + l.length = ops.size -> YX P ops an g0 w0 m O G W V -> (∀ i, i < m -> VJ hist (m - 1 - i) = some (QG an O G W V i)) →
   mV P ops l (pl.drop m) hist (G m) (W m) K →
   ∃ (O : Nat -> Oper) (G : Nat -> Env) (W : Nat -> anU) (V : Nat -> anV), YX P ops an g0 w0 (m + l.length) O G W V /\ K (G (m + l.length)) (W (m + l.length)) := by
 intro l
 induction l with
 | nil => intro m hist O G W V _ _ hr _ h; exact ⟨O, G, W, V, hr, by unfold mV at h; exact h⟩
 | cons o l ih =>
   intro m hist O G W V hl hlen hr hh h
   have h0 : ops[m]? = some o := by have := hl 0; simpa using this.symm
   have hmn : m < ops.size := by rw [aiP] at hlen; omega
   obtain ⟨ks, hk1, hk2⟩ := YM hpl hmn
   have hdrop : pl.drop m = (lM m an.1, ks) :: pl.drop (m + 1) := by
    have hlt : m < pl.length := by
     rcases aiS m pl.length with h | h
     .exact h
     .rw [aiO h] at hk1; cases hk1
    rw [ajK hlt]
    rw [aiH hlt] at hk1
    rw [ajE hk1]
   rw [hdrop] at h
   obtain ⟨v, w', hy, hk⟩ := Ip h
   have key : (lM m an.1 = false -> w' = W m) /\ (∀ k ∈ ks, ∃ q, VJ hist k = some q /\ MP P ops q o (G m) w' v) /\
       (mV P ops l (pl.drop (m + 1)) (⟨lM m an.1, o, G m, W m, v⟩ :: hist) (put (G m) o.dst v) w' K) := by
    have nil : ∀ w', ∀ k ∈ ([] : List Nat), ∃ q, VJ hist k = some q /\ MP P ops q o (G m) w' v := fun _ k hk => (by cases hk)
    cases hm : lM m an.1 with
    | true =>
      rw [hm] at hk
      cases ks with
      | nil => exact ⟨fun e => (by cases e), nil _, hk⟩
      | cons k ks => exact ⟨fun e => (by cases e), Vj hk.1, hk.2⟩
    | false =>
      rw [hm] at hk
      cases ks with
      | nil => obtain ⟨rfl, hk⟩ := hk; exact ⟨fun _ => rfl, nil _, hk⟩
      | cons k ks => obtain ⟨rfl, hc, hk⟩ := hk; exact ⟨fun _ => rfl, Vj hc, hk⟩
   obtain ⟨kl, c1, c2⟩ := key
   let O' : Nat -> Oper := fun i => if i = m then o else O i
   let V' : Nat -> anV := fun i => if i = m then v else V i
   let G' : Nat -> Env := fun i => if i = m + 1 then put (G m) o.dst v else G i
   let W' : Nat -> anU := fun i => if i = m + 1 then w' else W i
   have eO : ∀ i, i < m -> O' i = O i := fun i hi => if_neg (by omega)
   have eV : ∀ i, i < m -> V' i = V i := fun i hi => if_neg (by omega)
   have eG : ∀ i, i <= m -> G' i = G i := fun i hi => if_neg (by omega)
   have eW : ∀ i, i <= m -> W' i = W i := fun i hi => if_neg (by omega)
   have oO : O' m = o := if_pos rfl
   have oV : V' m = v := if_pos rfl
   have oG : G' (m + 1) = put (G m) o.dst v := if_pos rfl
   have oW : W' (m + 1) = w' := if_pos rfl
   have eR : ∀ i, i < m -> QG an O' G' W' V' i = QG an O G W V i := fun i hi => by
    simp only [QG, eO i hi, eV i hi, eG i (by omega), eW i (by omega)]
   have hr' : YX P ops an g0 w0 (m + 1) O' G' W' V' := by
    refine ⟨by rw [eG 0 (by omega)]; exact hr.g0, by rw [eW 0 (by omega)]; exact hr.w0, fun i hi => ?_, fun i hi => ?_, fun i hi hm => ?_, fun i hi => ?_, fun i j hij hj hm => ?_⟩
    .by_cases hi' : i = m
     .subst hi'; rw [oO]; exact h0
     .rw [eO i (by omega)]; exact hr.op i (by omega)
    .by_cases hi' : i = m
     .subst hi'; rw [oO, oV, oW, eG i (by omega), eW i (by omega)]; exact hy
     .rw [eO i (by omega), eV i (by omega), eG i (by omega), eW i (by omega), eW (i + 1) (by omega)]; exact hr.yld i (by omega)
    .by_cases hi' : i = m
     .subst hi'; rw [oW, eW i (by omega)]; exact kl hm
     .rw [eW i (by omega), eW (i + 1) (by omega)]; exact hr.light i (by omega) hm
    .by_cases hi' : i = m
     .subst hi'; rw [oO, oV, oG, eG i (by omega)]
     .rw [eO i (by omega), eV i (by omega), eG i (by omega), eG (i + 1) (by omega)]; exact hr.env i (by omega)
    .unfold Xl
     by_cases hj' : j = m
     .subst hj'
      rw [eR i (by omega), oO, oV, oW, eG j (by omega)]
      obtain ⟨q, hq, hc⟩ := c1 _ (hk2 i hm).2
      rw [hh i hij] at hq
      obtain rfl := ajE hq
      exact hc
     .rw [eR i (by omega), eO j (by omega), eV j (by omega), eG j (by omega), eW (j + 1) (by omega)]
      exact hr.chk i j hij (by omega) hm
   have := ih (m + 1) (⟨lM m an.1, o, G m, W m, v⟩ :: hist) O' G' W' V' (fun j => by
       have := hl (j + 1)
       simp only [aiA] at this
       rw [this]; congr 1; omega) (by rw [aiP] at hlen; omega) hr' (fun i hi => by
       by_cases hi' : i = m
       .subst hi'
        rw [show i + 1 - 1 - i = 0 from by omega]
        simp only [VJ, QG, oO, oV, eG i (by omega), eW i (by omega)]
       .rw [eR i (by omega), show m + 1 - 1 - i = (m - 1 - i) + 1 from by omega]
        exact hh i (by omega)) (by rw [oG, oW]; exact c2)
   rw [aiP, show m + (l.length + 1) = m + 1 + l.length from by omega]
   exact this
end
section
variable {P : Program} {ops : Array Oper} {an : XX} {g0 : Env} {w0 : anU} {O : Nat -> Oper} {G : Nat -> Env} {W : Nat -> anU} {V : Nat -> anV}
def Im (n : Nat) (O : Nat -> Oper) (V : Nat -> anV) (g0 : Env) (S : Nat -> Prop) (g : Env) : Prop :=
 ∀ s, (∃ j, j < n /\ S j /\ (O j).dst = some s /\ (∀ k, k < n -> S k -> (O k).dst = some s -> k <= j) /\ g s = V j) ∨
   ((∀ j, j < n -> S j -> (O j).dst ≠ some s) /\ g s = g0 s)
theorem Im.agree {n : Nat} {S T : Nat -> Prop} {g g' : Env} (h : Im n O V g0 S g) (h' : Im n O V g0 T g') (s : Nat)
 (hs : ∀ j, j < n -> (O j).dst = some s -> (S j ↔ T j)) : g s = g' s := by
 rcases h s with ⟨j, h1, h2, h3, h4, h5⟩ | ⟨h1, h2⟩ <;> rcases h' s with ⟨k, k1, k2, k3, k4, k5⟩ | ⟨k1, k2⟩
 .have a := h4 k k1 ((hs k k1 k3).2 k2) k3
  have b := k4 j h1 ((hs j h1 h3).1 h2) h3
  have : j = k := by omega
  subst this; rw [h5, k5]
 .exact absurd h3 (k1 j h1 ((hs j h1 h3).1 h2))
 .exact absurd k3 (h1 k k1 ((hs k k1 k3).2 k2))
 .rw [h2, k2]
theorem Im.step {n : Nat} {S : Nat -> Prop} {g : Env} (h : Im n O V g0 S g) (i : Nat) (hi : i < n)
 (hw : ∀ s, (O i).dst = some s -> ∀ j, j < n -> j ≠ i -> (O j).dst = some s -> S j -> j < i) :
 Im n O V g0 (fun j => S j ∨ j = i) (put g (O i).dst (V i)) := by
 intro s
 cases hd : (O i).dst with
 | none =>
   rcases h s with ⟨j, h1, h2, h3, h4, h5⟩ | ⟨h1, h2⟩
   .refine .inl ⟨j, h1, .inl h2, h3, fun k k1 k2 k3 => ?_, h5⟩
    rcases k2 with k2 | rfl
    .exact h4 k k1 k2 k3
    .rw [hd] at k3; cases k3
   .refine .inr ⟨fun j h3 h4 h5 => ?_, h2⟩
    rcases h4 with h4 | rfl
    .exact h1 j h3 h4 h5
    .rw [hd] at h5; cases h5
 | some t =>
   rw [GH]
   by_cases hst : s = t
   .subst hst
    rw [if_pos rfl]
    refine .inl ⟨i, hi, .inr rfl, hd, fun k k1 k2 k3 => ?_, rfl⟩
    rcases k2 with k2 | rfl
    .by_cases hk : k = i
     .omega
     .have := hw s hd k k1 hk k3 k2; omega
    .omega
   .rw [if_neg hst]
    rcases h s with ⟨j, h1, h2, h3, h4, h5⟩ | ⟨h1, h2⟩
    .refine .inl ⟨j, h1, .inl h2, h3, fun k k1 k2 k3 => ?_, h5⟩
     rcases k2 with k2 | rfl
     .exact h4 k k1 k2 k3
     .rw [hd] at k3; exact absurd (ajE k3).symm hst
    .refine .inr ⟨fun j h3 h4 h5 => ?_, h2⟩
     rcases h4 with h4 | rfl
     .exact h1 j h3 h4 h5
     .rw [hd] at h5; exact absurd (ajE h5).symm hst
theorem YX.envFor {n : Nat} (r : YX P ops an g0 w0 n O G W V) : ∀ i, i <= n -> Im n O V g0 (fun j => j < i) (G i) := by
 intro i
 induction i with
 | zero => intro _ s; exact .inr ⟨fun j _ h => absurd h (by omega), by rw [r.g0]⟩
 | succ i ih =>
   intro hi
   have h := ih (by omega)
   have := h.step (V := V) i (by omega) (fun s _ j _ _ _ hj => hj)
   rw [<- r.env i (by omega)] at this
   intro s
   rcases this s with ⟨j, h1, h2, h3, h4, h5⟩ | ⟨h1, h2⟩
   .exact .inl ⟨j, h1, by omega, h3, fun k k1 k2 k3 => h4 k k1 (by omega) k3, h5⟩
   .exact .inr ⟨fun j a b => h1 j a (by omega), h2⟩
theorem YX.still {n : Nat} (r : YX P ops an g0 w0 n O G W V) (i : Nat) : ∀ d, i + d <= n -> (∀ h, i <= h -> h < i + d -> lM h an.1 = false) -> W (i + d) = W i := by
 intro d
 induction d with
 | zero => intro _ _; rfl
 | succ d ih =>
   intro h1 h2
   rw [<- alJ, r.light (i + d) (by omega) (h2 _ (by omega) (by omega))]
   exact ih (by omega) (fun h a b => h2 h a (by omega))
theorem YX.still' {n : Nat} (r : YX P ops an g0 w0 n O G W V) {i k : Nat} (hik : i <= k) (hk : k <= n) (hh : ∀ h, i <= h -> h < k -> lM h an.1 = false) : W k = W i := by
 have := r.still i (k - i) (by omega) (fun h a b => hh h a (by omega))
 rwa [show i + (k - i) = k from by omega] at this
theorem UU {i k : Nat} : (∃ h, i <= h /\ h < k /\ lM h an.1 = true) -> ∃ h, i <= h /\ h < k /\ lM h an.1 = true /\ ∀ h', i <= h' -> h' < h -> lM h' an.1 = false := by
 rintro ⟨h, h1, h2, h3⟩
 induction h using Nat.strongRecOn with
 | _ h ih =>
   by_cases hx : ∃ h', i <= h' /\ h' < h /\ lM h' an.1 = true
   .obtain ⟨h', a, b, c⟩ := hx
    exact ih h' b a (by omega) c
   .refine ⟨h, h1, h2, h3, fun h' a b => ?_⟩
    cases hm : lM h' an.1
    .rfl
    .exact absurd ⟨h', a, b, hm⟩ hx
theorem RK {i k : Nat} : (∃ h, i <= h /\ h < k /\ lM h an.1 = true) -> ∃ h, i <= h /\ h < k /\ lM h an.1 = true /\ ∀ h', h < h' -> h' < k -> lM h' an.1 = false := by
 rintro ⟨h, h1, h2, h3⟩
 induction hd : k - h using Nat.strongRecOn generalizing h with
 | _ d ih =>
   by_cases hx : ∃ h', h < h' /\ h' < k /\ lM h' an.1 = true
   .obtain ⟨h', a, b, c⟩ := hx
    exact ih (k - h') (by omega) h' (by omega) b c rfl
   .refine ⟨h, h1, h2, h3, fun h' a b => ?_⟩
    cases hm : lM h' an.1
    .rfl
    .exact absurd ⟨h', a, b, hm⟩ hx
structure SP (ops : Array Oper) (an : XX) (O : Nat -> Oper) (b : Array Nat) : Prop where
 back : ∀ i, i < ops.size -> ∀ e ∈ (O i).after, Region.binds .any e = true -> e.on < i
 closed : ∀ i j, i < ops.size -> j < ops.size -> YW b i j = true -> ∃ e ∈ (O j).after, Region.binds .any e = true /\ (e.on = i ∨ YW b i e.on = true)
 pair : ∀ i j, i < j -> j < ops.size -> KW ops b an i j (O i) (O j) = true
 sel : ∀ i, i < ops.size -> QF (O i) = false
 fn : ∀ i, i < ops.size -> ZP (O i) = true -> lM i an.1 = true
theorem YN (h : RN ops an = true) (ho : ∀ i, i < ops.size -> ops[i]? = some (O i)) : SP ops an O (Region.before ops) := by
 unfold RN at h
 simp only [aiN] at h
 obtain ⟨⟨⟨⟨h1, h2⟩, h3⟩, h5⟩, h6⟩ := h
 refine ⟨fun i hi e he hb => ?_, fun i j hi hj hb => ?_, fun i j hij hj => ?_, fun i hi => ?_, fun i hi hf => ?_⟩
 .unfold TH at h1
  have := akE.1 h1 i (ajL.2 hi)
  rw [ho i hi] at this
  have := akR.1 this e he
  simp only [hb, ajB, Bool.false_or] at this
  exact (amK (x := e.on) (y := i)) ▸ this
 .unfold Tq at h2
  have := akE.1 (akE.1 h2 j (ajL.2 hj)) i (ajL.2 hi)
  rw [ho j hj] at this
  simp only [hb, ajB, Bool.false_or] at this
  obtain ⟨e, he, h⟩ := Array.any_eq_true'.1 this
  simp only [aiN, akV] at h
  refine ⟨e, he, h.1, h.2.imp (fun h => ajN h) id⟩
 .unfold Vs at h3
  have := akE.1 (akE.1 h3 j (ajL.2 hj)) i (ajL.2 hij)
  rw [ho i (by omega), ho j hj] at this
  exact this
 .have := akR.1 h5 (O i) (anM (ho i hi))
  simpa using this
 .have := akE.1 h6 i (ajL.2 hi)
  rw [ho i hi] at this
  simpa [hf] using this
theorem ZO {i j : Nat} : ∀ {l : List (Nat × Nat)}, Sx i j l = true -> (i, j) ∈ l := by
 intro l
 induction l with
 | nil => intro h; cases h
 | cons p r ih =>
   obtain ⟨a, b⟩ := p
   intro h
   unfold Sx at h
   cases ha : Nat.beq a i with
   | true =>
     simp only [ha] at h
     cases hb : Nat.beq b j with
     | true =>
       obtain rfl := ajN ha
       obtain rfl := ajN hb
       exact alN
     | false => simp only [hb] at h; exact aiT _ (ih h)
   | false => simp only [ha] at h; exact aiT _ (ih h)
theorem SP.order {b : Array Nat} (st : SP ops an O b) {S : Nat -> Prop} {i : Nat} (hi : i < ops.size)
 (hdown : ∀ j k, j < ops.size -> k < ops.size -> S k -> YW b j k = true -> S j) (hbi : ∀ j, j < ops.size -> YW b j i = true -> S j) (hni : ¬ S i)
 {s : Nat} (hs : s ∈ looks ops (O i) ∨ (O i).dst = some s) {j : Nat} (hj : j < ops.size) (hji : j ≠ i) (hd : (O j).dst = some s) : S j ↔ j < i := by
 rcases aiS j i with h | h
 .refine ⟨fun _ => h, fun _ => ?_⟩
  have p := st.pair j i h hi
  unfold KW at p
  simp only [akV, aiN, alC] at p
  rcases p with p | p
  .exact hbi j hj p
  .exfalso
   have p1 := p.1
   unfold Z8 at p1
   simp only [hd, amC] at p1
   rcases hs with hs | hs
   .have := p1.1.1; simp [hs] at this
   .have := p1.1.2; simp [hs] at this
 .have h' : i < j := by omega
  refine ⟨fun hS => ?_, fun hh => by omega⟩
  exfalso
  have p := st.pair i j h' hj
  unfold KW at p
  simp only [akV, aiN, alC] at p
  rcases p with p | p
  .exact hni (hdown i j hi hj hS p)
  .have p1 := p.1
   unfold Z8 at p1
   simp only [hd, amC] at p1
   rcases hs with hs | hs
   .have := p1.2; simp [hs] at this
   .have := p1.1; rw [hs] at this; simp at this
theorem Hs {g g' : Env} {o : Oper} (h : ∀ s ∈ looks ops o, g s = g' s) : ∀ x ∈ o.op.operands, ev g x = ev g' x := by
 intro x hx
 cases x with
 | tmp t => exact h t (akS _ (List.mem_filterMap.2 ⟨.tmp t, by simpa using hx, rfl⟩))
 | _ => rfl
theorem VV {g g' : Env} {o : Oper} (hs : QF o = false) (h : ∀ s ∈ looks ops o, g s = g' s) : Hh g o = Hh g' o := by
 have e := execOp_congr o (fun cs b he => by simp [QF, he] at hs) (Hs h)
 have k := Hs h
 unfold Hh
 split
 .rename_i op t x y yt hx
  rw [k x (by simp [hx, Op.operands]), k y (by simp [hx, Op.operands])]
 .rename_i fn first captured hx
  have e1 : List.map (ev g) first.toList = List.map (ev g') first.toList := ajH fun p hp => k p (by simp [hx, Op.operands]; exact .inl (by simpa using hp))
  have e2 : List.map (ev g) captured.toList = List.map (ev g') captured.toList := ajH fun p hp => k p (by simp [hx, Op.operands]; exact .inr (by simpa using hp))
  rw [e1, e2]
 .rename_i t ps hx
  congr 1
  refine ajH fun p hp => ?_
  rw [k p.2 (by simp [hx, Op.operands]; exact ⟨p.1, by simpa using hp⟩)]
 .rename_i t n ps hx
  congr 1
  refine ajH fun p hp => ?_
  rw [k p.2 (by simp [hx, Op.operands]; exact ⟨p.1, by simpa using hp⟩)]
 .rename_i c hx
  split
  .rename_i b hb
   congr 1
   refine ajH fun p hp => ?_
   exact k p (by simp [hx, Op.operands, Call.operands, hb]; simpa using hp)
  .rename_i f hb
   have : List.map (ev g) c.args.toList = List.map (ev g') c.args.toList := ajH fun p hp => k p (by simp [hx, Op.operands, Call.operands, hb]; exact .inr (by simpa using hp))
   rw [this, k f (by simp [hx, Op.operands, Call.operands, hb])]
  .exact e
 .exact e
theorem S6 {g g' : Env} {o : Oper} {j : Nat} {want : Bool} (hg : o.guard = some (j, want)) (h : ∀ s ∈ looks ops o, g s = g' s) :
 vP g (A9 ops j) want = vP g' (A9 ops j) want := by
 cases hs : A9 ops j with
 | none => rfl
 | some t =>
   have := h t (amO _ (by simp [hg, hs]))
   simp [vP, this]
theorem OP {g g' : Env} {o : Oper} {w : anU} {K : anV -> anU -> Prop} (hs : QF o = false) (h : ∀ s ∈ looks ops o, g s = g' s)
 (hk : Ea P ops g o w K) : Ea P ops g' o w K := by
 have e := VV (ops := ops) hs h
 have run : FG P g o w = FG P g' o w := by
  funext K
  unfold FG
  split
  .rename_i x hx
   have := Hs (ops := ops) h x (by simp [hx, Op.operands])
   rw [this]
  .rename_i x hx
   have := Hs (ops := ops) h x (by simp [hx, Op.operands])
   rw [this]
  .rename_i c hx
   have k := Hs h
   have : List.map (ev g) c.args.toList = List.map (ev g') c.args.toList := ajH fun p hp => k p (by simp [hx, Op.operands, Call.operands]; exact .inr (by simpa using hp))
   rw [this, e]
  .rw [e]
 unfold Ea at *
 cases hg : o.guard with
 | none => rw [hg] at hk; simp only at hk ⊢; rwa [<- run]
 | some p =>
   obtain ⟨j, want⟩ := p
   simp only [hg] at hk ⊢
   rw [<- run, <- S6 hg h]
   exact hk
theorem V7 {n : Nat} (hn : n = ops.size) {b : Array Nat} (r : YX P ops an g0 w0 n O G W V) (st : SP ops an O b) {S : Nat -> Prop} {i k : Nat} (hi : i < n) (hk : k <= n)
 (hdown : ∀ j k, j < ops.size -> k < ops.size -> S k -> YW b j k = true -> S j) (hbi : ∀ j, j < ops.size -> YW b j i = true -> S j) (hni : ¬ S i)
 (hS : ∀ h, h < n -> lM h an.1 = true -> (S h ↔ h < k)) (hl : lM i an.1 = false) :
 QI P ops (G i) (O i) (W k) (V i) (W k) := by
 subst hn
 have same : Gs (gOf ops (O i) (G i)) (eL P (Hh (G i) (O i)) (V i) (W k)) -> HL (O i) = false -> QI P ops (G i) (O i) (W k) (V i) (W k) := by
  intro hs hm K hK
  have run : eL P (Hh (G i) (O i)) (V i) (W k) -> FG P (G i) (O i) (W k) K := by
   intro hs
   unfold eL at hs
   have stp : aD P (Hh (G i) (O i)) (W k) K := by unfold aD; rw [hs]; exact hK
   unfold FG
   split
   .rename_i x hx; simp [HL, hx] at hm
   .rename_i x hx; simp [HL, hx] at hm
   .rename_i c hx
    have hf : ZP (O i) = false := by
     cases hh : ZP (O i)
     .rfl
     .rw [st.fn i hi hh] at hl; cases hl
    obtain ⟨cal, cargs, cats⟩ := c
    cases cal with
    | value f =>
      cases f with
      | func f => simp [ZP, hx] at hf
      | _ => exact stp
    | _ => exact stp
   .exact stp
  have hy := r.yld i hi (fun v _ => v = V i) rfl
  unfold Ea at hy ⊢
  unfold gOf at hs
  cases hg : (O i).guard with
  | none => rw [hg] at hs; exact run hs
  | some p =>
    obtain ⟨j, want⟩ := p
    rw [hg] at hs
    simp only [hg] at hs hy ⊢
    cases hb : vP (G i) (A9 ops j) want with
    | true => rw [hb] at hs; exact run hs
    | false =>
      rw [hb] at hy
      have : undef = V i := hy
      show K undef (W k)
      rw [this]; exact hK
 have moved : HL (O i) = true -> QI P ops (G i) (O i) (W k) (V i) (W k) := by
  intro hm K hK
  have hy := r.yld i hi (fun v _ => v = V i) rfl
  unfold Ea at hy ⊢
  have mv : ∀ (K' : anV -> anU -> Prop) w, FG P (G i) (O i) w K' ↔ ∃ x, ((O i).op = .move x ∨ (O i).op = .assign x) /\ K' (ev (G i) x) w := by
   intro K' w
   unfold FG
   unfold HL at hm
   split
   .rename_i x hx; constructor
    .intro h; exact ⟨x, .inl hx, h⟩
    .rintro ⟨y, h | h, h'⟩
     .rw [hx] at h; cases h; exact h'
     .rw [hx] at h; cases h
   .rename_i x hx; constructor
    .intro h; exact ⟨x, .inr hx, h⟩
    .rintro ⟨y, h | h, h'⟩
     .rw [hx] at h; cases h
     .rw [hx] at h; cases h; exact h'
   .rename_i c hx; simp [hx] at hm
   .rename_i h1 h2 _; split at hm
    .rename_i x hx; exact absurd hx (h1 x)
    .rename_i x hx; exact absurd hx (h2 x)
    .cases hm
  cases hg : (O i).guard with
  | none =>
    rw [hg] at hy
    simp only at hy ⊢
    rw [mv] at hy ⊢
    obtain ⟨x, hx, h⟩ := hy
    exact ⟨x, hx, h ▸ hK⟩
  | some p =>
    obtain ⟨j, want⟩ := p
    simp only [hg] at hy ⊢
    unfold Gd at *
    cases hb : vP (G i) (A9 ops j) want with
    | true =>
      simp only [hb] at hy ⊢
      rw [mv] at hy ⊢
      obtain ⟨x, hx, h⟩ := hy
      exact ⟨x, hx, h ▸ hK⟩
    | false =>
      simp only [hb] at hy ⊢
      rwa [hy]
 rcases Nat.le_total k i with hki | hki
 .by_cases hx : ∃ h, k <= h /\ h < i /\ lM h an.1 = true
  .obtain ⟨h, h1, h2, h3, h4⟩ := UU hx
   have e : W h = W k := r.still' h1 (by omega) h4
   have p := st.pair h i h2 hi
   unfold KW at p
   simp only [akV, aiN, alC] at p
   rcases p with p | p
   .have := hbi h (by omega) p
    have := (hS h (by omega) h3).1 this
    omega
   .have p2 := p.2
    rw [h3, hl] at p2
    simp only [akV] at p2
    cases hmv : HL (O i) with
    | true => exact moved hmv
    | false =>
      rcases p2 with p2 | p2
      .rw [hmv] at p2; cases p2
      .refine same ?_ hmv
       have c := r.chk h i h2 hi p2
       unfold Xl MP QG at c
       simp only [h3] at c
       rw [<- e]; exact c
  .have e : W i = W k := r.still' hki (by omega) (fun h a b => by
    cases hm : lM h an.1
    .rfl
    .exact absurd ⟨h, a, b, hm⟩ hx)
   have hy := r.yld i hi
   rw [r.light i hi hl, e] at hy
   exact hy
 .by_cases hx : ∃ h, i <= h /\ h < k /\ lM h an.1 = true
  .obtain ⟨h, h1, h2, h3, h4⟩ := RK hx
   have hne : h ≠ i := fun e => by rw [e, hl] at h3; cases h3
   have e : W k = W (h + 1) := r.still' (by omega) hk (fun h' a b => h4 h' (by omega) b)
   have p := st.pair i h (by omega) (by omega)
   unfold KW at p
   simp only [akV, aiN, alC] at p
   rcases p with p | p
   .exact absurd (hdown i h (by omega) (by omega) ((hS h (by omega) h3).2 h2) p) hni
   .have p2 := p.2
    rw [h3, hl] at p2
    simp only [akV] at p2
    cases hmv : HL (O i) with
    | true => exact moved hmv
    | false =>
      rcases p2 with p2 | p2
      .rw [hmv] at p2; cases p2
      .refine same ?_ hmv
       have c := r.chk i h (by omega) (by omega) p2
       unfold Xl MP QG at c
       simp only [hl] at c
       rw [e]; exact c
  .have e : W k = W i := r.still' hki hk (fun h a b => by
    cases hm : lM h an.1
    .rfl
    .exact absurd ⟨h, a, b, hm⟩ hx)
   have hy := r.yld i hi
   rw [r.light i hi hl, <- e] at hy
   exact hy
def iW (listed : Array Bool) (i : Nat) : Prop := listed.getD i false = true
theorem ZJ {N n : Nat} (hn : n = ops.size) (hd : MV N ops) (hca : Ps P ops) {b : Array Nat} (r : YX P ops an g0 w0 n O G W V) (st : SP ops an O b)
 {Q : Act -> anU -> Prop} (hQ : ∀ a, JR N (G n) a -> Q a (W n)) :
 ∀ (fuel : Nat) (listed : Array Bool) (g : Env) (a : Act) (k : Nat), listed.size = n -> JR N g a -> k <= n →
   (∀ j, j < n -> iW listed j -> ∀ e ∈ (O j).after, Region.binds .any e = true -> iW listed e.on) →
   Im n O V g0 (iW listed) g -> (∀ h, h < n -> lM h an.1 = true -> (iW listed h ↔ h < k)) →
   ((List.range n).filter fun i => !listed.getD i false).length <= fuel →
   SB P ops Q fuel listed a (W k) := by
 subst hn
 have ready_iff : ∀ (listed : Array Bool), listed.size = ops.size -> ∀ i, i ∈ Region.ready .any ops listed ↔ (i < ops.size /\ ¬ iW listed i /\ ∀ e ∈ (O i).after, Region.binds .any e = true -> iW listed e.on) := by
  intro listed hsz i
  unfold Region.ready iW
  rw [amW, ajL]
  constructor
  .rintro ⟨h1, h2⟩
   rw [r.op i h1] at h2
   simp only [aiN, ajS, anJ] at h2
   refine ⟨h1, ?_, fun e he hb => ?_⟩
   .have := h2.1
    rw [aiL] at this ⊢
    rw [ajC (by omega)] at this ⊢
    simpa using this
   .have := akR.1 h2.2 e he
    simpa [hb] using this
  .rintro ⟨h1, h2, h3⟩
   refine ⟨h1, ?_⟩
   rw [r.op i h1]
   simp only [aiN, ajS, anJ]
   refine ⟨?_, akR.2 fun e he => ?_⟩
   .rw [aiL] at h2 ⊢
    rw [ajC (by omega)] at h2 ⊢
    simpa using h2
   .by_cases hb : Region.binds .any e = true
    .simp [hb, h3 e he hb]
    .simp [hb]
 have none_ready : ∀ (listed : Array Bool), listed.size = ops.size -> Region.ready .any ops listed = [] -> ∀ i, i < ops.size -> iW listed i := by
  intro listed hsz hr i
  induction i using Nat.strongRecOn with
  | _ i ih =>
    intro hi
    refine Classical.byContradiction fun hl => ?_
    have : i ∈ Region.ready .any ops listed := (ready_iff listed hsz i).2 ⟨hi, hl, fun e he hb => by
     have := st.back i hi e he hb
     exact ih e.on this (by omega)⟩
    rw [hr] at this; cases this
 have all_done : ∀ (listed : Array Bool) (g : Env) (a : Act) (k : Nat), JR N g a -> k <= ops.size -> Im ops.size O V g0 (iW listed) g →
     (∀ h, h < ops.size -> lM h an.1 = true -> (iW listed h ↔ h < k)) -> (∀ i, i < ops.size -> iW listed i) -> Q a (W k) := by
  intro listed g a k hr hk he hh hall
  have e : W ops.size = W k := r.still' hk (aiM _) (fun h h1 h2 => by
   cases hm : lM h an.1
   .rfl
   .have := (hh h h2 hm).1 (hall h h2); omega)
  have eg : g = G ops.size := funext fun s => he.agree (r.envFor ops.size (aiM _)) s (fun j hj _ => ⟨fun _ => hj, fun _ => hall j hj⟩)
  rw [<- e]; exact hQ a (eg ▸ hr)
 intro fuel
 induction fuel with
 | zero =>
   intro listed g a k hsz hr hk hdep henv hh hc
   have hall : ∀ i, i < ops.size -> iW listed i := by
    intro i hi
    have hnil : ((List.range ops.size).filter fun i => !listed.getD i false) = [] := ajM.1 (by omega)
    have := List.filter_eq_nil_iff.1 hnil i (ajL.2 hi)
    unfold iW; simpa using this
   refine ⟨?_, all_done listed g a k hr hk henv hh hall⟩
   rw [List.eq_nil_iff_forall_not_mem]
   intro i hi
   have := (ready_iff listed hsz i).1 hi
   exact this.2.1 (hall i this.1)
 | succ fuel ih =>
   intro listed g a k hsz hr hk hdep henv hh hc
   refine ⟨fun hn => all_done listed g a k hr hk henv hh (none_ready listed hsz hn), fun i hi => ?_⟩
   obtain ⟨h1, h2, h3⟩ := (ready_iff listed hsz i).1 hi
   have hdown : ∀ k j, j < ops.size -> k < ops.size -> iW listed k -> YW b j k = true -> iW listed j := by
    intro k
    induction k using Nat.strongRecOn with
    | _ k ihk =>
      intro j hj hk hl hb
      obtain ⟨e, he, hbi, h⟩ := st.closed j k hj hk hb
      have hle := hdep k hk hl e he hbi
      rcases h with h | h
      .exact h ▸ hle
      .have hlt := st.back k hk e he hbi
       exact ihk e.on hlt j hj (by omega) hle h
   have hbi : ∀ j, j < ops.size -> YW b j i = true -> iW listed j := by
    intro j hj hb
    obtain ⟨e, he, hbi, h⟩ := st.closed j i hj h1 hb
    have hle := h3 e he hbi
    rcases h with h | h
    .exact h ▸ hle
    .have hlt := st.back i h1 e he hbi
     exact hdown e.on j hj (by omega) hle h
   have hdown' : ∀ j k, j < ops.size -> k < ops.size -> iW listed k -> YW b j k = true -> iW listed j := fun j k => hdown k j
   have hlooks : ∀ s ∈ looks ops (O i), (G i) s = g s := fun s hs =>
    (r.envFor i (by omega)).agree henv s (fun j hj hd => by
      by_cases hji : j = i
      .subst hji
       exact ⟨fun h => absurd h (by omega), fun h => absurd h h2⟩
      .exact (st.order h1 hdown' hbi h2 (.inl hs) hj hji hd).symm)
   have hl' : ∀ j, iW (listed.setIfInBounds i true) j ↔ (iW listed j ∨ j = i) := by
    intro j
    unfold iW
    rw [aiL, aiL]
    by_cases hji : j = i
    .subst hji
     rw [ajX (by omega)]
     simp
    .rw [ajZ (fun e => hji e.symm)]
     simp [hji]
   have next : ∀ k', k' <= ops.size -> (∀ h, h < ops.size -> lM h an.1 = true -> ((iW listed h ∨ h = i) ↔ h < k')) -> QI P ops g (O i) (W k) (V i) (W k') →
       Lf P ops i (SB P ops Q fuel (listed.setIfInBounds i true)) a (W k) := by
    intro k' hk' hh' hy
    refine QR (r.op i h1) (hca i _ (r.op i h1)) hd hr hy ?_
    refine ih _ (put g (O i).dst (V i)) _ k' (by simp [hsz]) (hr.put _ _ (hd i _ (r.op i h1))) hk' ?_ ?_ ?_ ?_
    .intro j hj hlj e he hb
     rw [hl'] at hlj ⊢
     rcases hlj with hlj | rfl
     .exact .inl (hdep j hj hlj e he hb)
     .exact .inl (h3 e he hb)
    .have := henv.step i h1 (fun s hs j hj hji hd hlj => (st.order h1 hdown' hbi h2 (.inr hs) hj hji hd).1 hlj)
     intro s
     rcases this s with ⟨j, j1, j2, j3, j4, j5⟩ | ⟨j1, j2⟩
     .exact .inl ⟨j, j1, (hl' j).2 j2, j3, fun k k1 k2 k3 => j4 k k1 ((hl' k).1 k2) k3, j5⟩
     .exact .inr ⟨fun j a b => j1 j a ((hl' j).1 b), j2⟩
    .intro h a b; rw [hl']; exact hh' h a b
    .have hin : i ∈ (List.range ops.size).filter fun i => !listed.getD i false :=
      amW.2 ⟨ajL.2 h1, by unfold iW at h2; simpa using h2⟩
     have e1 : ((List.range ops.size).filter fun j => !(listed.setIfInBounds i true).getD j false) = ((List.range ops.size).filter fun j => !listed.getD j false).filter fun j => j != i := by
      rw [List.filter_filter]
      refine List.filter_congr fun j _ => ?_
      have := hl' j
      unfold iW at this
      by_cases hji : j = i
      .have hh : (listed.setIfInBounds i true).getD j false = true := this.2 (.inr hji)
       rw [hh, hji]; simp
      .have hne : (j != i) = true := by simpa using hji
       rw [hne, Bool.true_and]
       cases ha : listed.getD j false with
       | true => rw [this.2 (.inl ha)]
       | false =>
         cases hb : (listed.setIfInBounds i true).getD j false with
         | false => rfl
         | true => rcases this.1 hb with h | h
                   .rw [ha] at h; cases h
                   .exact absurd h hji
     have hnd : ((List.range ops.size).filter fun j => !listed.getD j false).Nodup := List.nodup_range.filter _
     rw [e1, <- List.Nodup.erase_eq_filter hnd, anA hin]
     omega
   cases hm : lM i an.1 with
   | true =>
     have hS : ∀ h, h < ops.size -> lM h an.1 = true -> (iW listed h ↔ h < i) := by
      intro h hh1 hhm
      rcases anC h i with hlt | heq | hgt
      .refine ⟨fun _ => hlt, fun _ => ?_⟩
       have p := st.pair h i hlt h1
       unfold KW at p
       rw [hhm, hm] at p
       simp only [akV, aiN, aiD, and_false, or_false] at p
       exact hbi h hh1 p
      .subst heq; exact ⟨fun hh => absurd hh h2, fun hh => absurd hh (by omega)⟩
      .refine ⟨fun hl => ?_, fun hh => absurd hh (by omega)⟩
       have p := st.pair i h hgt hh1
       unfold KW at p
       rw [hhm, hm] at p
       simp only [akV, aiN, aiD, and_false, or_false] at p
       exact absurd (hdown h i h1 hh1 hl p) h2
     have eW : W k = W i := by
      rcases Nat.le_total k i with hki | hki
      .exact (r.still' hki (by omega) (fun h a b => by
        cases hx : lM h an.1
        .rfl
        .have := (hh h (by omega) hx).1 ((hS h (by omega) hx).2 b); omega)).symm
      .exact r.still' hki hk (fun h a b => by
        cases hx : lM h an.1
        .rfl
        .have := (hS h (by omega) hx).1 ((hh h (by omega) hx).2 b); omega)
     refine next (i + 1) (by omega) (fun h a b => ?_) ?_
     .rw [hS h a b]; omega
     .rw [eW]
      intro K hK
      exact OP (ops := ops) (st.sel i h1) hlooks (r.yld i h1 K hK)
   | false =>
     refine next k hk (fun h a b => ?_) ?_
     .rw [<- hh h a b]
      constructor
      .rintro (h' | rfl)
       .exact h'
       .rw [hm] at b; cases b
      .exact .inl
     .intro K hK
      exact OP (ops := ops) (st.sel i h1) hlooks (V7 rfl r st h1 hk hdown' hbi h2 hh hm K hK)
end
abbrev RW (P : Program) : Machine -> Prop := Machine.fenced P Fence.wide
def Sr (P : Program) (f : FuncId) (ro : Option Nat) (c : Code) (Q : Exit -> Act -> anU -> Prop) (a : Act) (w : anU) : Prop :=
 ∀ (b : Frame) (k : List Item) (cs : List Frame), b.fn = f -> b.roundOf = ro -> ∃ e a' w', Q e a' w' /\ ArrivesIn (RW P) P (lone (b.atR a (.code c :: k)) cs w) b k cs e a' w'
section
variable {P : Program} {f : FuncId} {ro : Option Nat} {Q : Exit -> Act -> anU -> Prop} {a : Act} {w : anU}
theorem DN {m m1 : Machine} (h : step P m = .next m1) : StepsIn (RW P) P m m1 := .one (fenced_wide P m) h
theorem IA {m m1 m2 : Machine} (h : step P m = .next m1) (h' : StepsIn (RW P) P m1 m2) : StepsIn (RW P) P m m2 := .head (fenced_wide P m) h h'
theorem Y7 (h : Q .normal a w) : Sr P f ro .skip Q a w := fun _ _ _ _ _ => ⟨.normal, a, w, h, DN Go.stepR_skip⟩
theorem YR {l : Nat} (h : Q .normal a w) : Sr P f ro (.label l) Q a w := fun _ _ _ _ _ => ⟨.normal, a, w, h, DN stepR_label⟩
theorem VG {id : Nat} (h : Q (.exit id) a w) : Sr P f ro (.exit id) Q a w :=
 fun _ k _ _ _ => ⟨.exit id, a, w, h, fun _ hk => DN (stepR_exit hk), fun _ hk => ⟨k, hk, .refl _⟩⟩
theorem Xq (h : Q .ret a w) : Sr P f ro .ret Q a w :=
 fun _ k _ _ _ => ⟨.ret, a, w, h, fun hn => ⟨_, DN (stepR_ret hn)⟩, fun _ => ⟨k, .refl _⟩⟩
theorem abE {x y : Code} (h : Sr P f ro x (Exit.then (Sr P f ro y Q) Q) a w) : Sr P f ro (.seq x y) Q a w := by
 intro b k cs hb hro
 obtain ⟨e, a1, w1, hq, har⟩ := h b (.code y :: k) cs hb hro
 cases e with
 | normal =>
   obtain ⟨e2, a2, w2, hq2, har2⟩ := hq b k cs hb hro
   exact ⟨e2, a2, w2, hq2, .of_steps (IA stepR_seq har) har2⟩
 | _ => exact ⟨_, a1, w1, hq, .of_steps (DN stepR_seq) (.pass (x := .code y) rfl (fun _ _ => .inl (by simp)) har)⟩
theorem aaE {c : Operand} {x y : Code} {t : Bool} (hc : a.eval c = .bool t) (h : Sr P f ro (if t then x else y) Q a w) : Sr P f ro (.cond c x y) Q a w :=
 fun b k cs hb hro => let ⟨e, a1, w1, q, r⟩ := h b k cs hb hro; ⟨e, a1, w1, q, .of_steps (DN (stepR_cond hc)) r⟩
theorem Yn {id : Nat} {c : Code} (h : Sr P f ro c (Exit.inBlock id Q) a w) : Sr P f ro (.block id c) Q a w := by
 intro b k cs hb hro
 obtain ⟨e, a1, w1, hq, har⟩ := h b (.inBlock id :: k) cs hb hro
 cases e with
 | normal => exact ⟨.normal, a1, w1, hq, IA stepR_block (StepsIn.trans har (DN stepR_inBlock))⟩
 | exit i =>
   by_cases hid : i = id
   .simp only [Exit.inBlock, hid, if_true] at hq
    exact ⟨.normal, a1, w1, hq, IA stepR_block (har.1 k (by simp [exitTo, hid]))⟩
   .simp only [Exit.inBlock, hid, if_false] at hq
    have this : (id == i) = false := by simp; exact fun h => hid h.symm
    have hx : exitTo i (.inBlock id :: k) = exitTo i k := by simp [exitTo, this]
    exact ⟨.exit i, a1, w1, hq, fun k' hk => IA stepR_block (har.1 k' (by rw [hx]; exact hk)),
     fun hr' hk => let ⟨k1, h1, h2⟩ := har.2 hr' (by rw [hx]; exact hk); ⟨k1, h1, IA stepR_block h2⟩⟩
 | goto l =>
   have hx : gotoIn l (.inBlock id :: k) = gotoIn l k := by simp [gotoIn]
   exact ⟨_, a1, w1, hq, fun k' hk => IA stepR_block (har.1 k' (by rw [hx]; exact hk)),
    fun hr' hk => let ⟨k1, h1, h2⟩ := har.2 hr' (by rw [hx]; exact hk); ⟨k1, h1, IA stepR_block h2⟩⟩
 | ret => exact ⟨_, a1, w1, hq, .of_steps (DN stepR_block) har⟩
 | panic ch => exact ⟨_, a1, w1, hq, .of_steps (DN stepR_block) har⟩
 | outgrown => exact ⟨_, a1, w1, hq, .of_steps (DN stepR_block) har⟩
theorem xQ {b : Frame} {k : List Item} {cs : List Frame} {c : Code} :
 step P (lone (b.atR a (.code (.scope c) :: k)) cs w) = .next (lone (b.atR a (.code c :: .inScope c :: k)) cs w) :=
 step_lone_go (by simp [stepG, stepG.exec, Frame.atR])
theorem S1 {b : Frame} {k : List Item} {cs : List Frame} {c : Code} :
 step P (lone (b.atR a (.inScope c :: k)) cs w) = .next (lone (b.atR a k) cs w) :=
 step_lone_go (by simp [stepG, stepG.exec, Frame.atR])
theorem X3 {c : Code} (h : Sr P f ro c (Exit.noGoto Q) a w) : Sr P f ro (.scope c) Q a w := by
 intro b k cs hb hro
 obtain ⟨e, a1, w1, hq, har⟩ := h b (.inScope c :: k) cs hb hro
 cases e with
 | normal => exact ⟨.normal, a1, w1, hq, IA xQ (StepsIn.trans har (DN S1))⟩
 | exit id =>
   have hx : exitTo id (.inScope c :: k) = exitTo id k := by simp [exitTo]
   exact ⟨.exit id, a1, w1, hq, fun k' hk => IA xQ (har.1 k' (by rw [hx]; exact hk)),
    fun hr' hk => let ⟨k1, h1, h2⟩ := har.2 hr' (by rw [hx]; exact hk); ⟨k1, h1, IA xQ h2⟩⟩
 | goto l => exact hq.elim
 | ret => exact ⟨_, a1, w1, hq, .of_steps (DN xQ) har⟩
 | panic ch => exact ⟨_, a1, w1, hq, .of_steps (DN xQ) har⟩
 | outgrown => exact ⟨_, a1, w1, hq, .of_steps (DN xQ) har⟩
theorem Za {c : Code} (I : Act -> anU -> Prop) (μ : Act -> anU -> Nat) (h0 : I a w)
 (round : ∀ a w, I a w -> Sr P f ro c (Exit.then (fun a' w' => I a' w' /\ μ a' w' < μ a w) Q) a w) : Sr P f ro (.loop c) Q a w := by
 intro b k cs hb hro
 have key : ∀ n a w, μ a w = n -> I a w →
     ∃ e a' w', Q e a' w' /\ ArrivesIn (RW P) P (lone (b.atR a (.code c :: .inLoop c :: k)) cs w) b k cs e a' w' := by
  intro n
  induction n using Nat.strongRecOn with
  | _ n ih =>
    intro a w hn hI
    obtain ⟨e, a1, w1, hq, har⟩ := round a w hI b (.inLoop c :: k) cs hb hro
    cases e with
    | normal =>
      obtain ⟨hI1, hlt⟩ := hq
      obtain ⟨e2, a2, w2, hq2, har2⟩ := ih (μ a1 w1) (hn ▸ hlt) a1 w1 rfl hI1
      exact ⟨e2, a2, w2, hq2, .of_steps (StepsIn.trans har (DN stepR_inLoop)) har2⟩
    | _ => exact ⟨_, a1, w1, hq, .pass (x := .inLoop c) rfl (fun _ _ => .inl (by simp)) har⟩
 obtain ⟨e, a', w', hq, har⟩ := key _ a w rfl h0
 exact ⟨e, a', w', hq, .of_steps (DN stepR_loop) har⟩
theorem XR {ops : Array Oper} {L : List Nat} (h : AY P ops (Q .normal) L a w) (b : Frame) (k : List Item) (cs : List Frame) (hro : b.roundOf = ro) :
 ∃ e a' w', Q e a' w' /\ ArrivesIn (RW P) P (lone (b.atR a (.inRegion ops L :: k)) cs w) b k cs e a' w' := by
 obtain ⟨e, a', w', ⟨rfl, hq⟩, hs⟩ := wp_opsIn (F := RO ro) (n := 0) L a w (YJ ro L a w h) b k cs hro trivial (fun _ h => by simp [RO, Fence.wide] at h)
 exact ⟨.normal, a', w', hq, hs⟩
theorem Wq {id : Nat} {ops : Array Oper} (h : AY P ops (Q .normal) (List.range ops.size) a w) : Sr P f ro (.region id ops false) Q a w := by
 intro b k cs hb hro
 obtain ⟨e, a1, w1, q, r⟩ := XR h b k cs hro
 exact ⟨e, a1, w1, q, .of_steps (DN stepR_region) r⟩
theorem Rr (hm : P.follows .mixedOrders = true) {id : Nat} {ops : Array Oper}
 (h : AY P ops (Q .normal) (Region.schedule true ops (w.tape w.drawn (.order f id))) a { w with drawn := w.drawn + 1 }) : Sr P f ro (.region id ops true) Q a w := by
 intro b k cs hb hro
 obtain ⟨e, a1, w1, q, r⟩ := XR h b k cs hro
 refine ⟨e, a1, w1, q, .of_steps (DN ?_) r⟩
 have := @stepR_region_draw P b a k cs w ops id
 rw [hm, hb] at this
 exact this
def AE (v : anV) (w : anU) (K : anU -> Prop) : Prop :=
 match v with
 | .pointer (some a) => w.heap[a.block]? = some (.deferred (some [])) /\ K (w.putObj a.block (.deferred none))
 | _ => K w
def X4 (P : Program) (fn : Func) (R : anV -> anU -> Prop) : Exit -> Act -> anU -> Prop
 | .normal, a, w | .ret, a, w => ∃ m, a.defers = Ve m /\ AE m w fun w' => ∃ v, (results fn a.tmps).run P w' = .ok v w' /\ R v w'
 | _, _, _ => False
theorem VF {fn : Func} {R : anV -> anU -> Prop} {fr : Frame} {cs : List Frame} (hm : fr.mode = .returning) (hf : P.funcs[fr.fn]? = some fn) (hk : fr.kind = .normal) {m : anV} (hd : fr.defers = Ve m)
 (h : AE m w fun w' => ∃ v, (results fn fr.tmps).run P w' = .ok v w' /\ R v w') :
 ∃ v w' fr', R v w' /\ Steps P (lone fr cs w) (lone fr' cs w') /\ fr'.fn = fr.fn /\ fr'.leaving P w' (.returned v) := by
 have nil : fr.defers = [] -> (∃ v, (results fn fr.tmps).run P w = .ok v w /\ R v w) →
     ∃ v w' fr', R v w' /\ Steps P (lone fr cs w) (lone fr' cs w') /\ fr'.fn = fr.fn /\ fr'.leaving P w' (.returned v) := by
  rintro hd ⟨v, hv, hR⟩
  exact ⟨v, w, fr, hR, .refl _ _, rfl, hm, hd, hk, fn, hf, hv⟩
 cases m with
 | pointer p =>
   cases p with
   | none => exact nil hd h
   | some a =>
     obtain ⟨h1, v, hv, hR⟩ := h
     have hs := step_collected (P := P) (fr := fr) (cs := cs) (w := w) (d := { target := .collected a.block, args := #[] }) (r := a.block) (ds := []) (calls := [])
      (by rw [hm]; simp) hd rfl (run_takeDeferred h1)
     exact ⟨v, _, { fr with defers := [] }, hR, .head hs (.refl _ _), rfl, hm, rfl, hk, fn, hf, hv⟩
 | _ => exact nil hd h
theorem T8 {fn : Func} {c : Code} {args : Array anV} {w : anU} {R : anV -> anU -> Prop}
 (hf : P.funcs[f]? = some fn) (hb : fn.body = some c)
 (h : Sr P f none c (X4 P fn R) { tmps := args ++ Array.replicate (fn.ntmps - args.size) undef, defers := [] } w) : Calls P f args w fun e w' => ∃ v, e = .returned v /\ R v w' := by
 intro cs
 let b : Frame := { (default : Frame) with fn := f, kind := .normal, roundOf := none }
 have henter : Frame.enter P f args .normal = b.atR { tmps := args ++ Array.replicate (fn.ntmps - args.size) undef, defers := [] } [.code c] := by
  simp [Frame.enter, Frame.atR, hf, hb, b]
 obtain ⟨e, a', w', hq, har⟩ := h b [] cs rfl rfl
 rw [<- henter] at har
 cases e with
 | normal =>
   obtain ⟨m, hd, hq⟩ := hq
   obtain ⟨v, w2, fr, hR, hs, hfn, hl⟩ := VF (P := P) (cs := cs) (fr := { b.atR a' [] with mode := .returning }) rfl hf rfl hd hq
   exact ⟨.returned v, w2, fr, ⟨v, rfl, hR⟩, (StepsIn.steps har).trans (.head (stepR_end rfl) hs), hfn, hl⟩
 | ret =>
   obtain ⟨m, hd, hq⟩ := hq
   obtain ⟨todo, hs0⟩ := har.1 rfl
   obtain ⟨v, w2, fr, hR, hs, hfn, hl⟩ := VF (P := P) (cs := cs) (fr := { b.atR a' todo with mode := .returning }) rfl hf rfl hd hq
   exact ⟨.returned v, w2, fr, ⟨v, rfl, hR⟩, (StepsIn.steps hs0).trans hs, hfn, hl⟩
 | panic chain => exact hq.elim
 | exit id => exact hq.elim
 | goto l => exact hq.elim
 | outgrown => exact hq.elim
def acO (P : Program) (f : FuncId) (Q : Exit -> Act -> anU -> Prop) (a : Act) (w : anU) : Option Code -> Prop
 | none => Q .normal a w
 | some c => Sr P f none c Q a w
theorem YK {gf : Operand} {ps : Array Tmp} {ahY bd : Code} {d : Deferred} {g : FuncId} {args : Array anV} {w1 : anU} {l : Nat} {mark : List Deferred} {w2 w3 : anU} {v : anV}
 (he : (Instr.enterLoop f a.tmps ps ahY bd none).run P w = .ok (l, mark) w1)
 (hres : (resolve a.eval (rangeCall gf l) 0).run P w1 = .ok d w1) (hinv : (invoke d.target d.args).run P w1 = .ok (.enter g args) w2)
 (hcall : Ret P g args w2 v w3)
 {jump : Option Code} {w4 : anU} (hend : (Instr.endLoop l).run P w3 = .ok jump w4)
 (hj : acO P f Q { a with defers := mark ++ a.defers } w4 jump) :
 Sr P f none (.rangeFunc gf ps ahY bd) Q a w := by
 intro b k cs hb hro
 rw [<- hb, <- hro] at he
 have henter := stepR_rangeFunc (P := P) (b := b) (a := a) (k := k) (cs := cs) (w := w) he hres hinv
 obtain ⟨e, w3', fr, ⟨rfl, rfl⟩, hsteps, hfn, hleave⟩ := hcall (b.atR { a with defers := mark ++ a.defers } (.inRangeFunc l :: k) :: cs)
 have sback : StepsIn (RW P) P (lone (b.atR a (.code (.rangeFunc gf ps ahY bd) :: k)) cs w) (lone (b.atR { a with defers := mark ++ a.defers } ((jump.map Item.code).toList ++ k)) cs w4) := by
  refine IA henter (StepsIn.trans (stepsIn_wide.2 hsteps) (IA (m1 := lone (b.atR { a with defers := mark ++ a.defers } (.endRangeFunc l :: k)) cs w3') ?_ (DN (stepR_endRangeFunc hend))))
  rw [<- finish_atR_inRangeFunc l v]; exact step_leave_returned hleave
 cases jump with
 | none => exact ⟨.normal, _, w4, hj, sback⟩
 | some c =>
   obtain ⟨e', a'', w5, hq, harr⟩ := hj b k cs hb hro
   exact ⟨e', a'', w5, hq, .of_steps sback harr⟩
def We (P : Program) (l : Nat) (R : anV -> anU -> Prop) : Exit -> Act -> anU -> Prop
 | .normal, _, w => ∃ v w', (Instr.endRound l none).run P w = .ok v w' /\ R v w'
 | .ret, _, w => ∃ v w', (Instr.endRound l (some .ret)).run P w = .ok v w' /\ R v w'
 | .exit id, _, w => ∃ v w', (Instr.endRound l (some (.exit id))).run P w = .ok v w' /\ R v w'
 | _, _, _ => False
theorem Uq {l : Nat} {tmps : Array anV} {ahY bd : Code} {R : anV -> anU -> Prop}
 (h : Sr P f (some l) ahY (Exit.then (fun a1 w1 => ∃ w2, (Instr.beginRound l).run P w1 = .ok () w2 /\ Sr P f (some l) bd (We P l R) a1 w2) (fun _ _ _ => False))
   { tmps := tmps, defers := [] } w) :
 RoundIn Fence.wide 0 P l f tmps ahY bd w fun e w' => ∃ v, e = .returned v /\ R v w' := by
 refine ⟨trivial, fun c cs _ => ?_⟩
 let b : Frame := { (default : Frame) with fn := f, kind := .normal, roundOf := some l }
 have hb0 : Frame.round l f tmps ahY bd .normal = b.atR { tmps := tmps, defers := [] } [.code ahY, .beginRound, .code bd] := by
  simp [Frame.round, Frame.atR, b]
 obtain ⟨e, a1, w1, hq, harr⟩ := h b [.beginRound, .code bd] (c :: cs) rfl rfl
 rw [<- hb0] at harr
 cases e with
 | normal =>
   obtain ⟨w2, hbr, hbody⟩ := hq
   have s1 := DN (stepR_beginRound (P := P) (b := b) (a := a1) (k := [.code bd]) (cs := c :: cs) rfl hbr)
   obtain ⟨e2, a2, w3, hq2, harr2⟩ := hbody b [] (c :: cs) rfl rfl
   cases e2 with
   | normal =>
     obtain ⟨v, w4, hend, hR⟩ := hq2
     exact ⟨.returned v, w4, ⟨v, rfl, hR⟩, (StepsIn.trans harr s1).trans (StepsIn.trans harr2 (DN (stepR_round_end rfl rfl hend)))⟩
   | ret =>
     obtain ⟨v, w4, hend, hR⟩ := hq2
     obtain ⟨k1, hs⟩ := harr2.2 rfl
     exact ⟨.returned v, w4, ⟨v, rfl, hR⟩, (StepsIn.trans harr s1).trans (StepsIn.trans hs (DN (stepR_round_ret rfl rfl hend)))⟩
   | exit id =>
     obtain ⟨v, w4, hend, hR⟩ := hq2
     obtain ⟨k1, hk, hs⟩ := harr2.2 rfl rfl
     exact ⟨.returned v, w4, ⟨v, rfl, hR⟩, (StepsIn.trans harr s1).trans (StepsIn.trans hs (DN (stepR_round_exit rfl rfl hk hend)))⟩
   | goto t => exact hq2.elim
   | panic chain => exact hq2.elim
   | outgrown => exact hq2.elim
 | exit id => exact hq.elim
 | goto t => exact hq.elim
 | ret => exact hq.elim
 | panic chain => exact hq.elim
 | outgrown => exact hq.elim
end
def Ua (ops : Array Oper) : Nat -> Array Bool -> List Nat -> Prop
 | 0, _, L => L = []
 | _ + 1, listed, [] => Region.ready .any ops listed = []
 | n + 1, listed, i :: L => i ∈ Region.ready .any ops listed /\ Ua ops n (listed.setIfInBounds i true) L
section
variable {P : Program} {ops : Array Oper} {Q : Act -> anU -> Prop}
theorem abD : ∀ (fuel t : Nat) (listed : Array Bool), Ua ops fuel listed (Region.linearise.go .any ops fuel t listed []) := by
 intro fuel
 induction fuel with
 | zero => intro t listed; simp [Region.linearise.go, Ua]
 | succ fuel ih =>
   intro t listed
   simp only [Region.linearise.go]
   change Ua ops (fuel + 1) listed (match (Region.ready .any ops listed)[t % (Region.ready .any ops listed).length]? with
    | some i => Region.linearise.go .any ops fuel (t / (Region.ready .any ops listed).length) (listed.setIfInBounds i true) [i]
    | none => [].reverse)
   cases hi : (Region.ready .any ops listed)[t % (Region.ready .any ops listed).length]? with
   | none =>
     have : Region.ready .any ops listed = [] := by
      cases hr : Region.ready .any ops listed with
      | nil => rfl
      | cons x xs =>
        rw [hr] at hi
        have hlt : t % (x :: xs).length < (x :: xs).length := amD _ (by simp)
        rw [aiH hlt] at hi
        cases hi
     simpa [Ua] using this
   | some i =>
     simp only []
     rw [linearise_go_acc]
     exact ⟨akH hi, ih _ _⟩
theorem NQ : ∀ (fuel : Nat) (listed : Array Bool) (L : List Nat) (a : Act) (w : anU), SB P ops Q fuel listed a w -> Ua ops fuel listed L -> AY P ops Q L a w := by
 intro fuel
 induction fuel with
 | zero => intro listed L a w h hL; obtain rfl : L = [] := hL; exact h.2
 | succ fuel ih =>
   intro listed L a w h hL
   cases L with
   | nil => exact h.1 hL
   | cons i L =>
     exact WH (fun a w hh => ih _ _ a w hh hL.2) (h.2 i hL.1)
end
structure Perm (π : List Nat) (ops : Array Oper) : Prop where
 len : π.length = ops.size
 to : ∀ i, i < ops.size -> sG π i < ops.size /\ π[sG π i]? = some i
 back : ∀ k, k < ops.size -> ∃ i, π[k]? = some i /\ sG π i = k /\ i < ops.size
 after : ∀ (i : Nat) (o : Oper), ops[i]? = some o -> ∀ e ∈ o.after, e.on < ops.size
 guard : ∀ (i : Nat) (o : Oper) (j : Nat) (b : Bool), ops[i]? = some o -> o.guard = some (j, b) -> j < ops.size
theorem abJ {π : List Nat} {ops : Array Oper} (h : W6 π ops = true) : Perm π ops := by
 unfold W6 at h
 simp only [aiN] at h
 obtain ⟨⟨⟨h1, h2⟩, h3⟩, h4⟩ := h
 have h1 := ajN h1
 have at4 : ∀ (i : Nat) (o : Oper), ops[i]? = some o -> (o.after.all fun e => Nat.blt e.on ops.size) = true /\ (match o.guard with | some (j, _) => Nat.blt j ops.size | none => true) = true := by
  intro i o ho
  have hi : i < ops.size := by
   rcases aiS i ops.size with h | h
   .exact h
   .rw [alI h] at ho; cases ho
  have := akE.1 h4 i (ajL.2 hi)
  rw [ho] at this
  simp only [aiN] at this
  refine ⟨this.1, ?_⟩
  have h := this.2
  revert h
  cases o.guard <;> exact id
 refine ⟨h1, fun i hi => ?_, fun k hk => ?_, fun i o ho e he => ?_, fun i o j b ho hg => ?_⟩
 .have := akE.1 h3 i (ajL.2 hi)
  cases hp : π[sG π i]? with
  | none => rw [hp] at this; cases this
  | some j =>
    rw [hp] at this
    obtain rfl := ajN this
    refine ⟨?_, rfl⟩
    rcases aiS (sG π j) π.length with h | h
    .omega
    .rw [aiO h] at hp; cases hp
 .have := akE.1 h2 k (ajL.2 hk)
  cases hp : π[k]? with
  | none => rw [hp] at this; cases this
  | some i =>
    rw [hp] at this
    simp only [aiN] at this
    exact ⟨i, rfl, ajN this.1, (amK (x := i) (y := ops.size)) ▸ this.2⟩
 .have := akR.1 (at4 i o ho).1 e he
  exact (amK (x := e.on) (y := ops.size)) ▸ this
 .have := (at4 i o ho).2
  rw [hg] at this
  exact (amK (x := j) (y := ops.size)) ▸ this
theorem TA {π : List Nat} {es : List (Nat × Nat)} {l : List Oper} : ∀ (r : List Nat), (∀ i ∈ r, i < l.length) -> (Om π es l r).length = r.length /\ ∀ k i : Nat, r[k]? = some i -> (Om π es l r)[k]? = (l[i]?).map (FW π es i) := by
 intro r
 induction r with
 | nil => intro _; exact ⟨rfl, fun k i h => by simp at h⟩
 | cons j r ih =>
   intro h
   obtain ⟨h1, h2⟩ := ih fun i hi => h i (aiT _ hi)
   have hj : j < l.length := h j (by simp)
   simp only [Om, aiH hj]
   refine ⟨by simp [h1], fun k i hk => ?_⟩
   cases k with
   | zero => simp at hk; subst hk; simp [aiH hj]
   | succ k => simp at hk ⊢; exact h2 k i hk
section
variable {P : Program} {ops : Array Oper} {Q : Act -> anU -> Prop} {π : List Nat} {es : List (Nat × Nat)}
theorem Perm.mem (p : Perm π ops) : ∀ i ∈ π, i < ops.toList.length := by
 intro i hi
 obtain ⟨k, hk, e⟩ := amI hi
 obtain ⟨j, h1, _, h2⟩ := p.back k (by rw [<- p.len]; exact hk)
 rw [aiH hk] at h1
 cases h1
 rw [<- e]; simpa using h2
theorem Perm.size (p : Perm π ops) : (lI π es ops).size = ops.size := by
 unfold lI
 rw [List.size_toArray, (TA (es := es) (π := π) π p.mem).1, p.len]
theorem Perm.get (p : Perm π ops) {i : Nat} (hi : i < ops.size) : (lI π es ops)[sG π i]? = (ops[i]?).map (FW π es i) := by
 unfold lI
 have := (TA (es := es) (π := π) π p.mem).2 (sG π i) i (p.to i hi).2
 rw [Array.getElem?_toList] at this
 simpa using this
theorem Wt {i : Nat} {o : Oper} {a : Act} {w : anU} {K : Act -> anU -> Prop} : WW P (FW π es i o) a w K ↔ WW P o a w K := by
 unfold WW
 have h1 : execOp a.eval (FW π es i o) = execOp a.eval o := by
  obtain ⟨d, op, ty, ps, af, g⟩ := o
  cases op <;> rfl
 have h2 : TL (FW π es i o) = TL o := rfl
 rw [h1, h2]
 generalize (execOp a.eval o).run P w = r
 cases r with
 | ok n w => cases n <;> exact Iff.rfl
 | halt x w => exact Iff.rfl
theorem U1 (p : Perm π ops) {i : Nat} {o : Oper} (ho : ops[i]? = some o) (tmps : Array anV) :
 Region.wanted (FW π es i o) (yielded (lI π es ops) tmps) = Region.wanted o (yielded ops tmps) := by
 unfold Region.wanted FW
 simp only
 cases hg : o.guard with
 | none => rfl
 | some q =>
   obtain ⟨j, b⟩ := q
   simp only
   have hj := p.guard i o j b ho hg
   have : (lI π es ops)[sG π j]?.bind (·.dst) = (ops[j]?).bind (·.dst) := by
    rw [p.get hj]
    cases ops[j]? <;> rfl
   unfold yielded
   rw [this]
theorem Xa (p : Perm π ops) : ∀ (L : List Nat), (∀ i ∈ L, i < ops.size) -> ∀ (a : Act) (w : anU), AY P (lI π es ops) Q (L.map (sG π)) a w -> AY P ops Q L a w := by
 intro L
 induction L with
 | nil => intro _ a w h; exact h
 | cons i L ih =>
   intro hL a w h
   rw [akZ] at h
   simp only [AY] at h ⊢
   have hi := hL i (by simp)
   have ih := ih fun i hi => hL i (aiT _ hi)
   unfold Lf at h ⊢
   rw [p.get hi] at h
   rw [ajC hi] at h ⊢
   simp only [ajS] at h
   rw [U1 p (ajC hi)] at h
   simp only
   split
   .rename_i hw
    rw [if_pos hw, Wt] at h
    exact Tp (fun a w => ih a w) h
   .rename_i hw
    rw [if_neg hw] at h
    exact ih _ _ h
theorem Lq {ops : Array Oper} {listed : Array Bool} (hsz : listed.size = ops.size) (i : Nat) :
 i ∈ Region.ready .any ops listed ↔ (i < ops.size /\ listed.getD i false = false /\ ∀ o, ops[i]? = some o -> ∀ e ∈ o.after, Region.binds .any e = true -> listed.getD e.on false = true) := by
 unfold Region.ready
 rw [amW, ajL]
 constructor
 .rintro ⟨h1, h2⟩
  rw [ajC h1] at h2
  simp only [aiN, ajS, anJ] at h2
  refine ⟨h1, ?_, fun o ho e he hb => ?_⟩
  .have := h2.1
   rw [aiL] at this ⊢
   rw [ajC (by omega)] at this ⊢
   simpa using this
  .rw [ajC h1] at ho
   cases ho
   have := akR.1 h2.2 e he
   simpa [hb] using this
 .rintro ⟨h1, h2, h3⟩
  refine ⟨h1, ?_⟩
  rw [ajC h1]
  simp only [aiN, ajS, anJ]
  refine ⟨?_, akR.2 fun e he => ?_⟩
  .rw [aiL] at h2 ⊢
   rw [ajC (by omega)] at h2 ⊢
   simpa using h2
  .by_cases hb : Region.binds .any e = true
   .simp [hb, h3 _ (ajC h1) e he hb]
   .simp [hb]
theorem ZI {π : List Nat} {i : Nat} : ∀ {es : List (Nat × Nat)} {e : Edge}, e ∈ Dn π i es -> ∃ a, (a, i) ∈ es /\ e.on = sG π a := by
 intro es
 induction es with
 | nil => intro e h; simp [Dn] at h
 | cons q r ih =>
   obtain ⟨a, b⟩ := q
   intro e h
   simp only [Dn] at h
   cases hb : Nat.beq b i with
   | true =>
     rw [hb] at h
     obtain rfl := ajN hb
     rcases ajW.1 h with rfl | h
     .exact ⟨a, by simp, rfl⟩
     .obtain ⟨a, h1, h2⟩ := ih h; exact ⟨a, aiT _ h1, h2⟩
   | false => rw [hb] at h; obtain ⟨a, h1, h2⟩ := ih h; exact ⟨a, aiT _ h1, h2⟩
theorem YD (p : Perm π ops) {L0 : List Nat} (hes : ∀ q ∈ es, L0.idxOf q.1 <= L0.idxOf q.2 /\ q.1 ≠ q.2 /\ q.1 < ops.size) :
 ∀ (fuel : Nat) (listed listed' : Array Bool) (pre L : List Nat), L0 = pre ++ L -> listed.size = ops.size -> listed'.size = ops.size →
   (∀ j, j < ops.size -> listed'.getD (sG π j) false = listed.getD j false) -> (∀ j ∈ pre, listed.getD j false = true) -> (∀ j, listed.getD j false = true -> j ∈ pre) →
   Ua ops fuel listed L -> Ua (lI π es ops) fuel listed' (L.map (sG π)) /\ ∀ i ∈ L, i < ops.size := by
 intro fuel
 induction fuel with
 | zero => intro listed listed' pre L _ _ _ _ _ _ h; obtain rfl : L = [] := h; exact ⟨rfl, by simp⟩
 | succ fuel ih =>
   intro listed listed' pre L hL0 hs hs' hrel hpre hpre' h
   have hsz : (lI π es ops).size = ops.size := p.size
   cases L with
   | nil =>
     refine ⟨?_, by simp⟩
     show Region.ready .any (lI π es ops) listed' = []
     rw [List.eq_nil_iff_forall_not_mem]
     intro k hk
     obtain ⟨h1, h2, h3⟩ := (Lq (by omega) k).1 hk
     obtain ⟨i, hi1, hi2, hi3⟩ := p.back k (by omega)
     have : i ∈ Region.ready .any ops listed := by
      refine (Lq hs i).2 ⟨hi3, ?_, fun o ho e he hb => ?_⟩
      .rw [<- hrel i hi3, hi2]; exact h2
      .have g := p.get (es := es) hi3
       rw [hi2, ho] at g
       have hon := p.after i o ho e he
       have := h3 _ g ⟨sG π e.on, e.ground⟩ (by
        simp only [FW, List.mem_toArray, ajT, akM]
        exact .inl ⟨e, by simpa using he, rfl⟩) (by unfold Region.binds at hb ⊢; exact hb)
       rw [<- hrel e.on hon]; exact this
     rw [show Region.ready .any ops listed = [] from h] at this
     cases this
   | cons i L =>
     obtain ⟨h1, h2⟩ := h
     obtain ⟨r1, r2, r3⟩ := (Lq hs i).1 h1
     have hnot : i ∉ pre := fun hm => by rw [hpre i hm] at r2; cases r2
     have hidx : L0.idxOf i = pre.length := by
      rw [hL0, List.idxOf_append, if_neg hnot]; simp
     have ready' : sG π i ∈ Region.ready .any (lI π es ops) listed' := by
      refine (Lq (by omega) _).2 ⟨by rw [hsz]; exact (p.to i r1).1, by rw [hrel i r1]; exact r2, fun o' ho' e' he' hb => ?_⟩
      rw [p.get r1, ajC r1] at ho'
      simp only [ajS, Option.some.injEq] at ho'
      subst ho'
      simp only [FW, List.mem_toArray, ajT, akM] at he'
      rcases he' with ⟨e, he, rfl⟩ | he'
      .have ho := ajC r1
       have he2 : e ∈ ops[i].after := by simpa using he
       rw [hrel e.on (p.after i _ ho e he2)]
       exact r3 _ ho e he2 (by unfold Region.binds at hb ⊢; exact hb)
      .obtain ⟨a, ha, hon⟩ := ZI he'
       obtain ⟨q1, q2, q3⟩ := hes _ ha
       simp only at q1 q2 q3
       rw [hon, hrel a q3]
       refine hpre a ?_
       rw [hidx] at q1
       rw [hL0, List.idxOf_append] at q1
       by_cases hm : a ∈ pre
       .exact hm
       .rw [if_neg hm] at q1
        exfalso
        have hz : (i :: L).idxOf a = 0 := by omega
        rw [List.idxOf_cons] at hz
        cases hb : (i == a) with
        | true => exact q2 (by simpa using (beq_iff_eq.1 hb).symm)
        | false => rw [hb] at hz; simp at hz
     have hlen' : listed'.size = ops.size := hs'
     obtain ⟨k1, k2⟩ := ih (listed.setIfInBounds i true) (listed'.setIfInBounds (sG π i) true) (pre ++ [i]) L (by rw [hL0]; simp) (by simp [hs]) (by simp [hs'])
      (fun j hj => by
       by_cases hji : j = i
       .subst hji
        rw [aiL, aiL, ajX (by rw [hs']; exact (p.to j hj).1), ajX (by omega)]
       .have hne : sG π i ≠ sG π j := fun e => by
         have a1 := (p.to i r1).2
         have a2 := (p.to j hj).2
         rw [e] at a1
         rw [a1] at a2
         exact hji (ajE a2).symm
        have := hrel j hj
        rw [aiL, aiL] at this ⊢
        rw [ajZ hne, ajZ (fun e => hji e.symm)]
        exact this)
      (fun j hj => by
       rw [aiL]
       rcases ajT.1 hj with hj | hj
       .by_cases hji : j = i
        .subst hji; rw [ajX (by omega)] <;> rfl
        .rw [ajZ (fun e => hji e.symm), <- aiL]; exact hpre j hj
       .have : j = i := by simpa using hj
        subst this
        rw [ajX (by omega)] <;> rfl)
      (fun j hj => by
       by_cases hji : j = i
       .subst hji; simp
       .rw [aiL, ajZ (fun e => hji e.symm), <- aiL] at hj
        exact akS _ (hpre' j hj))
      h2
     exact ⟨⟨ready', k1⟩, fun j hj => (ajW.1 hj).elim (fun e => e ▸ r1) (k2 j)⟩
end
section
variable {P : Program} {ops : Array Oper}
theorem QL {N : Nat} {an : XX} {pl : Vf} (hok : RN ops an = true) (hpl : SC ops.size an pl = true) (hd : MV N ops) (hca : Ps P ops)
 {K : Env -> anU -> Prop} {Q : Act -> anU -> Prop} (hQ : ∀ g a w, JR N g a -> K g w -> Q a w) {g : Env} {a : Act} {w : anU} (hr : JR N g a)
 (h : mV P ops ops.toList pl [] g w K) : SB P ops Q ops.size (Array.replicate ops.size false) a w := by
 have r0 : YX P ops an g w 0 (fun _ => default) (fun _ => g) (fun _ => w) (fun _ => undef) :=
  ⟨rfl, rfl, fun i hi => by omega, fun i hi => by omega, fun i hi => by omega, fun i hi => by omega, fun i j _ hj => by omega⟩
 obtain ⟨O, G, W, V, r, hk⟩ := VU hpl ops.toList 0 [] _ _ _ _ (fun j => by simp) (by simp) r0 (fun i hi => by omega) h
 simp only [aiC, alH] at r hk
 have st := YN hok r.op
 have := ZJ (Q := Q) (n := ops.size) rfl hd hca r st (fun a hra => hQ _ a _ hra hk) ops.size (Array.replicate ops.size false) g a 0 (by simp) hr (by omega)
  (fun j hj hl => by unfold iW at hl; simp [aiL, hj] at hl)
  (fun s => .inr ⟨fun j hj hl => by unfold iW at hl; simp [aiL, hj] at hl, rfl⟩)
  (fun h hh _ => ⟨fun hl => by unfold iW at hl; simp [aiL, hh] at hl, fun hl => by omega⟩)
  (akT (List.length_filter_le _ _) (by simp))
 rw [r.w0] at this
 exact this
theorem PK {N : Nat} {ops : Array Oper} (h : ops.all (XD N) = true) : MV N ops := by
 intro i o ho t ht
 have := akR.1 h o (anM ho)
 unfold XD at this
 rw [ht] at this
 exact (amK (x := t) (y := N)) ▸ this
theorem R9 {ops : Array Oper} (h : ops.all (Ab P) = true) : Ps P ops :=
 fun _ o ho => akR.1 h o (anM ho)
theorem WN {N : Nat} {f : FuncId} {id : Nat} (hd : MV N ops) (hca : Ps P ops)
 {K : Env -> anU -> Prop} {Q : Act -> anU -> Prop} (hQ : ∀ g a w, JR N g a -> K g w -> Q a w) {g : Env} {a : Act} {w0 w : anU} (hr : JR N g a) :
 ∀ (T : HT) (path : List (Nat × Nat)), MT P N ops path T = true →
   (∀ q ∈ path, (Region.schedule true ops (w0.tape w0.drawn (.order f id))).idxOf q.1 <= (Region.schedule true ops (w0.tape w0.drawn (.order f id))).idxOf q.2 /\ q.1 ≠ q.2) →
   VK P f id ops T g w0 w K -> AY P ops Q (Region.schedule true ops (w0.tape w0.drawn (.order f id))) a w := by
 have lin : Ua ops ops.size (Array.replicate ops.size false) (Region.schedule true ops (w0.tape w0.drawn (.order f id))) := by
  unfold Region.schedule
  simp only [Bool.true_or, if_true]
  exact abD _ _ _
 generalize hL : Region.schedule true ops (w0.tape w0.drawn (.order f id)) = L at lin ⊢
 intro T
 induction T with
 | leaf an pl =>
   intro path hok _ h
   simp only [MT, aiN] at hok
   exact NQ _ _ _ _ _ (QL hok.1 hok.2 hd hca hQ hr h) lin
 | perm π es an pl =>
   intro path hok hpath h
   simp only [MT, aiN] at hok
   obtain ⟨⟨⟨⟨⟨h1, h2⟩, h3⟩, h4⟩, h5⟩, h6⟩ := hok
   have p := abJ h2
   have hes : ∀ q ∈ es, L.idxOf q.1 <= L.idxOf q.2 /\ q.1 ≠ q.2 /\ q.1 < ops.size := fun q hq => by
    have := akE.1 h1 q hq
    simp only [aiN] at this
    have hp := hpath q (ZO this.1)
    exact ⟨hp.1, hp.2, (amK (x := q.1) (y := ops.size)) ▸ this.2⟩
   obtain ⟨k1, k2⟩ := YD (es := es) p hes ops.size (Array.replicate ops.size false) (Array.replicate ops.size false) [] L rfl (by simp) (by simp)
    (fun j hj => by simp [aiL, hj, (p.to j hj).1]) (by simp)
    (fun j hj => by rw [aiL] at hj; by_cases hh : j < ops.size <;> simp [hh] at hj) lin
   have hw := QL h5 h6 (PK h3) (R9 h4) hQ hr h
   rw [p.size] at hw
   exact Xa (es := es) p L k2 a w (NQ _ _ _ _ _ hw k1)
 | split x y A B ihA ihB =>
   intro path hok hpath h
   simp only [MT, aiN] at hok
   have hne : x ≠ y := by
    intro e
    have := hok.1.1
    rw [e] at this
    simp at this
   simp only [VK] at h
   unfold Ord abQ at h
   rw [hL] at h
   cases hb : Nat.ble (L.idxOf x) (L.idxOf y) with
   | true =>
     rw [hb] at h
     refine ihA _ hok.1.2 (fun q hq => ?_) h
     rcases ajW.1 hq with rfl | hq
     .exact ⟨alO hb, hne⟩
     .exact hpath q hq
   | false =>
     rw [hb] at h
     refine ihB _ hok.2 (fun q hq => ?_) h
     rcases ajW.1 hq with rfl | hq
     .refine ⟨?_, hne.symm⟩
      simp only
      rcases aiS (L.idxOf y) (L.idxOf x) with hh | hh
      .omega
      .have := Nat.ble_eq_true_of_le hh; rw [this] at hb; cases hb
     .exact hpath q hq
end
section
variable {P : Program} {ann : FA}
def kK : List Oper -> List Nat
 | [] => []
 | o :: r => match o.dst with | some d => d :: kK r | none => kK r
def L6 : Code -> List Nat
 | .region _ ops _ => kK ops.toList
 | .seq x y => L6 x ++ L6 y
 | .cond _ x y => L6 x ++ L6 y
 | .block _ c => L6 c
 | .scope c => L6 c
 | .loop c => L6 c
 | .rangeFunc .. => [DS]
 | _ => []
def iR (l : List Nat) (g g' : Env) : Prop := ∀ s, s ∉ l -> g' s = g s
theorem iR.refl (l : List Nat) (g : Env) : iR l g g := fun _ _ => rfl
theorem iR.trans {l l1 l2 : List Nat} {a b c : Env} (h : iR l1 a b) (k : iR l2 b c) (h1 : ∀ s, s ∈ l1 -> s ∈ l) (h2 : ∀ s, s ∈ l2 -> s ∈ l) : iR l a c :=
 fun s hs => (k s fun h => hs (h2 s h)).trans (h s fun h => hs (h1 s h))
theorem iR.mono {l l1 : List Nat} {a b : Env} (h : iR l1 a b) (h1 : ∀ s, s ∈ l1 -> s ∈ l) : iR l a b := fun s hs => h s fun hh => hs (h1 s hh)
theorem iR.put {l : List Nat} {a : Env} (d : Option Tmp) (v : anV) (h : ∀ t, d = some t -> t ∈ l) : iR l a (put a d v) := by
 intro s hs
 cases d with
 | none => rfl
 | some t =>
   rw [GH, if_neg (fun e => hs (by rw [e]; exact h t rfl))]
theorem Wx {ops : Array Oper} {K : Env -> anU -> Prop} : ∀ (l : List Oper) (g : Env) (w : anU), St P ops l g w K →
 ∃ g' w', K g' w' /\ iR (kK l) g g' /\ ∀ K' : Env -> anU -> Prop, K' g' w' -> St P ops l g w K' := by
 intro l
 induction l with
 | nil => intro g w h; exact ⟨g, w, h, iR.refl _ _, fun _ h => h⟩
 | cons o l ih =>
   intro g w h
   obtain ⟨v, w1, hy, h1⟩ := Ip h
   obtain ⟨g', w', hk, ha, hall⟩ := ih _ _ h1
   refine ⟨g', w', hk, ?_, fun K' hk' => hy _ (hall K' hk')⟩
   refine iR.trans (iR.put o.dst v (l := kK (o :: l)) fun t ht => by simp [kK, ht]) ha (fun _ h => h) (fun s hs => ?_)
   unfold kK
   split
   .exact aiT _ hs
   .exact hs
theorem Q2 {ops : Array Oper} {K : Env -> anU -> Prop} : ∀ (l : List Oper) (pl : Vf) (hist : List Rec) (g : Env) (w : anU), mV P ops l pl hist g w K →
 ∃ g' w', K g' w' /\ iR (kK l) g g' /\ ∀ K' : Env -> anU -> Prop, K' g' w' -> mV P ops l pl hist g w K' := by
 intro l
 induction l with
 | nil => intro pl hist g w h; unfold mV at h; exact ⟨g, w, h, iR.refl _ _, fun _ h => (by unfold mV; exact h)⟩
 | cons o l ih =>
   intro pl hist g w h
   cases pl with
   | nil => exact h.elim
   | cons p pl =>
     obtain ⟨hv, ks⟩ := p
     obtain ⟨v, w1, hy, h1⟩ := Ip h
     have tail : ∀ (w2 : anU) (hist' : List Rec), mV P ops l pl hist' (put g o.dst v) w2 K →
         ∃ g' w', K g' w' /\ iR (kK (o :: l)) g g' /\ ∀ K' : Env -> anU -> Prop, K' g' w' -> mV P ops l pl hist' (put g o.dst v) w2 K' := by
      intro w2 hist' c2
      obtain ⟨g', w', hk, ha, hall⟩ := ih _ _ _ _ c2
      refine ⟨g', w', hk, ?_, hall⟩
      refine iR.trans (iR.put o.dst v (l := kK (o :: l)) fun t ht => by simp [kK, ht]) ha (fun _ h => h) (fun s hs => ?_)
      unfold kK
      split
      .exact aiT _ hs
      .exact hs
     cases hv with
     | true =>
       cases ks with
       | nil =>
         obtain ⟨g', w', hk, ha, hall⟩ := tail w1 _ h1
         exact ⟨g', w', hk, ha, fun K' hk' => hy _ (hall K' hk')⟩
       | cons k ks =>
         obtain ⟨hc, h1⟩ := h1
         obtain ⟨g', w', hk, ha, hall⟩ := tail w1 _ h1
         exact ⟨g', w', hk, ha, fun K' hk' => hy _ ⟨hc, hall K' hk'⟩⟩
     | false =>
       cases ks with
       | nil =>
         obtain ⟨rfl, h1⟩ := h1
         obtain ⟨g', w', hk, ha, hall⟩ := tail w1 _ h1
         exact ⟨g', w', hk, ha, fun K' hk' => hy _ ⟨rfl, hall K' hk'⟩⟩
       | cons k ks =>
         obtain ⟨rfl, hc, h1⟩ := h1
         obtain ⟨g', w', hk, ha, hall⟩ := tail w1 _ h1
         exact ⟨g', w', hk, ha, fun K' hk' => hy _ ⟨rfl, hc, hall K' hk'⟩⟩
theorem Fh {l : List Oper} {s : Nat} : s ∈ kK l ↔ ∃ o ∈ l, o.dst = some s := by
 induction l with
 | nil => simp [kK]
 | cons o l ih =>
   unfold kK
   cases hd : o.dst with
   | none => simp [ih, hd]
   | some d => simp [ih, hd, eq_comm]
theorem Wi {π : List Nat} {es : List (Nat × Nat)} {l : List Oper} {s : Nat} : ∀ (r : List Nat), s ∈ kK (Om π es l r) -> s ∈ kK l := by
 intro r
 induction r with
 | nil => intro h; simp [Om, kK] at h
 | cons i r ih =>
   intro h
   simp only [Om] at h
   cases ho : l[i]? with
   | none => rw [ho] at h; exact ih h
   | some o =>
     rw [ho] at h
     obtain ⟨o', h1, h2⟩ := Fh.1 h
     rcases ajW.1 h1 with rfl | h1
     .exact Fh.2 ⟨o, akH ho, h2⟩
     .exact ih (Fh.2 ⟨o', h1, h2⟩)
theorem ZR {f : FuncId} {id : Nat} {ops : Array Oper} {K : Env -> anU -> Prop} {g : Env} {w0 : anU} : ∀ (T : HT) (w : anU), VK P f id ops T g w0 w K →
 ∃ g' w', K g' w' /\ iR (kK ops.toList) g g' /\ ∀ K' : Env -> anU -> Prop, K' g' w' -> VK P f id ops T g w0 w K' := by
 intro T
 induction T with
 | leaf an pl => intro w h; exact Q2 _ _ _ _ _ h
 | perm π es an pl =>
   intro w h
   obtain ⟨g', w', a, b, c⟩ := Q2 _ _ _ _ _ h
   exact ⟨g', w', a, b.mono (fun s hs => Wi π (by simpa [lI] using hs)), c⟩
 | split x y A B ihA ihB =>
   intro w h
   simp only [VK, Ord] at h ⊢
   cases hb : abQ f id ops x y w0 with
   | true => rw [hb] at h; exact ihA w h
   | false => rw [hb] at h; exact ihB w h
theorem cK.head {α : Type} {F : (α -> anU -> Prop) -> α -> anU -> Prop} (hmono : ∀ X Y g w, (∀ g w, X g w -> Y g w) -> F X g w -> F Y g w)
 {g : α} {w : anU} (h : F (fun g' w' => cK F g' w') g w) (hdet : ∃ g' w', cK F g' w' /\ ∀ X : α -> anU -> Prop, X g' w' -> F X g w) : cK F g w := by
 obtain ⟨g1, w1, ⟨I, ⟨n1, h1⟩, hI⟩, hF⟩ := hdet
 refine ⟨fun n g' w' => I n g' w' ∨ (n = n1 + 1 /\ g' = g /\ w' = w), ⟨n1 + 1, .inr ⟨rfl, rfl, rfl⟩⟩, ?_⟩
 rintro n g' w' (h | ⟨rfl, rfl, rfl⟩)
 .exact hmono _ _ _ _ (fun _ _ ⟨m, hm, hh⟩ => ⟨m, hm, .inl hh⟩) (hI _ _ _ h)
 .exact hF _ ⟨n1, by omega, .inl h1⟩
theorem aeD {f : FuncId} {gf : Operand} {ps : Array Tmp} {ahY bd : Code} {Q : Exit -> Env -> anU -> Prop} {g : Env} {w : anU} (h : RF P f gf ps ahY bd Q g w) :
 ∃ e g' w', Q e g' w' /\ iR [DS] g g' /\ ∀ Q' : Exit -> Env -> anU -> Prop, Q' e g' w' -> RF P f gf ps ahY bd Q' g w := by
 unfold RF at h ⊢
 cases hn : noMark (g DS) with
 | false => rw [hn] at h; exact h.elim
 | true =>
   rw [hn] at h
   simp only at h ⊢
   generalize (Du (ev g gf) [DZ (w.heap.size + 1)]).run P (YU f (PR P f) ps ahY bd g w) = r at *
   match r, h with
   | .ok (.enter f2 args) w1, h =>
     obtain ⟨v, w3, hret, r, h1, h2, h3⟩ := h
     have ha : iR [DS] g (put g (some DS) (.pointer (some ⟨w.heap.size, 0, none⟩))) := iR.put _ _ (fun t ht => by cases ht; simp)
     cases hp : r.pending with
     | none =>
       rw [hp] at h3
       exact ⟨.normal, _, _, h3, ha, fun Q' h => ⟨v, w3, hret, r, h1, h2, by rw [hp]; exact h⟩⟩
     | some c =>
       rw [hp] at h3
       cases c <;> first
        | exact h3.elim
        | exact ⟨.ret, _, _, h3, ha, fun Q' h => ⟨v, w3, hret, r, h1, h2, by rw [hp]; exact h⟩⟩
        | exact ⟨.exit _, _, _, h3, ha, fun Q' h => ⟨v, w3, hret, r, h1, h2, by rw [hp]; exact h⟩⟩
theorem Rz : ∀ (c : Code) (Q : Exit -> Env -> anU -> Prop) (g : Env) (w : anU), bA P ann c Q g w →
 ∃ e g' w', Q e g' w' /\ iR (L6 c) g g' /\ ∀ Q' : Exit -> Env -> anU -> Prop, Q' e g' w' -> bA P ann c Q' g w := by
 intro c
 induction c with
 | skip => intro Q g w h; exact ⟨_, _, _, h, iR.refl _ _, fun _ h => h⟩
 | region id ops draw =>
   intro Q g w h
   cases draw with
   | false =>
     obtain ⟨g', w', a, b, c⟩ := Wx _ _ _ h
     exact ⟨.normal, g', w', a, b, fun Q' h => c _ h⟩
   | true =>
     obtain ⟨g', w', a, b, c⟩ := ZR _ _ h
     exact ⟨.normal, g', w', a, b, fun Q' h => c _ h⟩
 | seq x y ihx ihy =>
   intro Q g w h
   obtain ⟨e, g1, w1, a, b, c⟩ := ihx _ _ _ h
   cases e with
   | normal =>
     obtain ⟨e2, g2, w2, a2, b2, c2⟩ := ihy _ _ _ a
     exact ⟨e2, g2, w2, a2, b.trans b2 (fun s h => akS _ h) (fun s h => amO _ h), fun Q' h => c _ (c2 _ h)⟩
   | _ => exact ⟨_, g1, w1, a, b.mono (fun s h => akS _ h), fun Q' h => c _ h⟩
 | cond c x y ihx ihy =>
   intro Q g w h
   simp only [bA] at h ⊢
   unfold eY at h ⊢
   cases hc : ev g c with
   | bool b =>
     rw [hc] at h
     cases b with
     | true =>
       obtain ⟨e, g', w', a, b, c⟩ := ihx _ _ _ h
       exact ⟨e, g', w', a, b.mono (fun s h => akS _ h), c⟩
     | false =>
       obtain ⟨e, g', w', a, b, c⟩ := ihy _ _ _ h
       exact ⟨e, g', w', a, b.mono (fun s h => amO _ h), c⟩
   | _ => rw [hc] at h; exact h.elim
 | block id c ih =>
   intro Q g w h
   obtain ⟨e, g', w', a, b, c⟩ := ih _ _ _ h
   cases e with
   | exit i =>
     simp only [blk] at a
     cases hb : Nat.beq i id with
     | true =>
       simp only [hb] at a
       refine ⟨.normal, g', w', a, b, fun Q' h => c _ ?_⟩
       simp only [blk, hb]; exact h
     | false =>
       simp only [hb] at a
       refine ⟨.exit i, g', w', a, b, fun Q' h => c _ ?_⟩
       simp only [blk, hb]; exact h
   | _ => exact ⟨_, g', w', a, b, fun Q' h => c _ h⟩
 | loop c ih =>
   intro Q g w h
   have hmono : ∀ (Q : Exit -> Env -> anU -> Prop) (X Y : Env -> anU -> Prop) g w, (∀ g w, X g w -> Y g w) -> bA P ann c (xZ X Q) g w -> bA P ann c (xZ Y Q) g w := by
    intro Q X Y g w hxy h
    obtain ⟨e, g', w', a, _, k⟩ := ih _ _ _ h
    refine k _ ?_
    cases e with
    | normal => exact hxy _ _ a
    | _ => exact a
   obtain ⟨I, ⟨n, h0⟩, hI⟩ := h
   have key : ∀ n g w, I n g w -> ∃ e g' w', Q e g' w' /\ iR (L6 c) g g' /\ ∀ Q' : Exit -> Env -> anU -> Prop, Q' e g' w' -> cK (fun X g w => bA P ann c (xZ X Q') g w) g w := by
    intro n
    induction n using Nat.strongRecOn with
    | _ n ih2 =>
      intro g w hg
      obtain ⟨e, g1, w1, a, b, k⟩ := ih _ _ _ (hI n g w hg)
      have once : ∀ (Q' : Exit -> Env -> anU -> Prop), (∀ X : Env -> anU -> Prop, bA P ann c (xZ X Q') g w) -> cK (fun X g w => bA P ann c (xZ X Q') g w) g w := by
       intro Q' h
       refine ⟨fun n g' w' => g' = g /\ w' = w, ⟨0, rfl, rfl⟩, ?_⟩
       rintro _ g' w' ⟨rfl, rfl⟩
       exact h _
      cases e with
      | normal =>
        obtain ⟨m, hm, hIm⟩ := a
        obtain ⟨e2, g2, w2, a2, b2, k2⟩ := ih2 m hm g1 w1 hIm
        refine ⟨e2, g2, w2, a2, b.trans b2 (fun _ h => h) (fun _ h => h), fun Q' h => ?_⟩
        have hl := k2 Q' h
        exact cK.head (hmono Q') (k _ hl) ⟨g1, w1, hl, fun X hx => k _ hx⟩
      | _ => exact ⟨_, g1, w1, a, b, fun Q' h => once Q' fun X => k _ h⟩
   exact key n g w h0
 | exit id => intro Q g w h; exact ⟨_, _, _, h, iR.refl _ _, fun _ h => h⟩
 | label l => intro Q g w h; exact ⟨_, _, _, h, iR.refl _ _, fun _ h => h⟩
 | scope c ih => intro Q g w h; exact ih Q g w h
 | ret => intro Q g w h; exact ⟨_, _, _, h, iR.refl _ _, fun _ h => h⟩
 | rangeFunc gf ps ahY bd => intro Q g w h; exact aeD h
 | _ => intro Q g w h; exact h.elim
theorem Ch {c : Code} {Q Q' : Exit -> Env -> anU -> Prop} {g : Env} {w : anU} (h : bA P ann c Q g w)
 (hq : ∀ e g' w', iR (L6 c) g g' -> Q e g' w' -> Q' e g' w') : bA P ann c Q' g w :=
 let ⟨_, _, _, a, b, k⟩ := Rz c Q g w h
 k _ (hq _ _ _ b a)
def noG (Q : Exit -> Env -> anU -> Prop) : Exit -> Env -> anU -> Prop
 | .goto _, _, _ => False
 | e, g, w => Q e g w
theorem Xb : ∀ (c : Code) (Q : Exit -> Env -> anU -> Prop) (g : Env) (w : anU), bA P ann c Q g w -> bA P ann c (noG Q) g w := by
 intro c
 induction c with
 | skip => intro Q g w h; exact h
 | region id ops draw => intro Q g w h; cases draw <;> exact h
 | seq x y ihx ihy =>
   intro Q g w h
   show bA P ann x (xZ (fun g w => bA P ann y (noG Q) g w) (noG Q)) g w
   refine Ch (ihx _ _ _ h) (fun e g' w' _ hq => ?_)
   cases e with
   | normal => exact ihy _ _ _ hq
   | goto l => exact hq.elim
   | _ => exact hq
 | cond c x y ihx ihy =>
   intro Q g w h
   simp only [bA] at h ⊢
   unfold eY at h ⊢
   cases hc : ev g c with
   | bool b =>
     rw [hc] at h
     cases b with
     | true => exact ihx _ _ _ h
     | false => exact ihy _ _ _ h
   | _ => rw [hc] at h; exact h.elim
 | block id c ih =>
   intro Q g w h
   show bA P ann c (blk id (noG Q)) g w
   refine Ch (ih _ _ _ h) (fun e g' w' _ hq => ?_)
   cases e with
   | exit i =>
     simp only [noG, blk] at hq ⊢
     cases hb : Nat.beq i id with
     | true => rw [hb] at hq; exact hq
     | false => rw [hb] at hq; exact hq
   | goto l => exact hq.elim
   | _ => exact hq
 | loop c ih =>
   intro Q g w h
   obtain ⟨I, h0, hI⟩ := h
   refine ⟨I, h0, fun n g w hi => ?_⟩
   refine Ch (ih _ _ _ (hI n g w hi)) (fun e g' w' _ hq => ?_)
   cases e with
   | normal => exact hq
   | goto l => exact hq.elim
   | _ => exact hq
 | exit id => intro Q g w h; exact h
 | label l => intro Q g w h; exact h
 | scope c ih => intro Q g w h; exact ih Q g w h
 | ret => intro Q g w h; exact h
 | rangeFunc gf ps ahY bd =>
   intro Q g w h
   have h : RF P ann.f gf ps ahY bd Q g w := h
   show RF P ann.f gf ps ahY bd (noG Q) g w
   unfold RF at h ⊢
   cases hn : noMark (g DS) with
   | false => rw [hn] at h; exact h.elim
   | true =>
     rw [hn] at h
     simp only at h ⊢
     generalize (Du (ev g gf) [DZ (w.heap.size + 1)]).run P (YU ann.f (PR P ann.f) ps ahY bd g w) = r at *
     match r, h with
     | .ok (.enter f2 args) w1, h =>
       obtain ⟨v, w3, hret, r, h1, h2, h3⟩ := h
       refine ⟨v, w3, hret, r, h1, h2, ?_⟩
       cases hp : r.pending with
       | none => rw [hp] at h3; exact h3
       | some c => rw [hp] at h3; cases c <;> exact h3
 | _ => intro Q g w h; exact h.elim
theorem Sb {N : Nat} {g : Env} {a : Act} (h : JR N g a) : a.tmps = tmpsOf N g := by
 refine Array.ext (by simp [tmpsOf, h.size]) fun i h1 h2 => ?_
 have hi : i < N := by rw [<- h.size]; exact h1
 have := h.at_ i (Nat.ne_of_lt (alM hi h.le))
 rw [aiL, ajC h1] at this
 simp [tmpsOf] at this ⊢
 exact this
theorem aaG {v : anV} (h : noMark v = true) : Ve v = [] := by cases v <;> first | rfl | cases h
theorem Qh {N : Nat} (hm : P.follows .mixedOrders = true) {ro : Option Nat} (hN : PR P ann.f = N) : ∀ (c : Code), codeOk P N ann c = true -> ro = none ∨ oB c = true →
 ∀ (Q : Exit -> Env -> anU -> Prop) (QA : Exit -> Act -> anU -> Prop) (g : Env) (a : Act) (w : anU), JR N g a →
   (∀ e g a w, JR N g a -> Q e g w -> QA e a w) -> bA P ann c Q g w -> Sr P ann.f ro c QA a w := by
 intro c
 induction c with
 | skip => intro _ _ Q QA g a w hr hq h; exact Y7 (hq _ _ _ _ hr h)
 | region id ops draw =>
   intro hok _ Q QA g a w hr hq h
   simp only [codeOk, aiN, akV, alC] at hok
   have hd := PK hok.1.1
   have hca := R9 hok.1.2
   cases draw with
   | false =>
     refine Wq ?_
     have := Yh hd hca (P := P) (Q := QA .normal) (K := Q .normal) (fun g a w => hq .normal g a w) ops.toList 0 g a w (fun j => by simp) hr h
     rw [List.range_eq_range']
     simpa using this
   | true =>
     rcases hok.2 with h1 | h1
     .cases h1
     .exact Rr hm (WN hd hca (fun g a w => hq .normal g a w) hr _ [] h1 (by simp) h)
 | seq x y ihx ihy =>
   intro hok hfl Q QA g a w hr hq h
   simp only [codeOk, aiN] at hok
   have hfx : ro = none ∨ oB x = true := hfl.imp id fun h => by simp only [oB, aiN] at h; exact h.1
   have hfy : ro = none ∨ oB y = true := hfl.imp id fun h => by simp only [oB, aiN] at h; exact h.2
   refine abE (ihx hok.1 hfx _ _ g a w hr (fun e g a w hr h => ?_) h)
   cases e with
   | normal => exact ihy hok.2 hfy _ _ g a w hr hq h
   | _ => exact hq _ _ _ _ hr h
 | cond c x y ihx ihy =>
   intro hok hfl Q QA g a w hr hq h
   simp only [codeOk, aiN] at hok
   have hfx : ro = none ∨ oB x = true := hfl.imp id fun h => by simp only [oB, aiN] at h; exact h.1
   have hfy : ro = none ∨ oB y = true := hfl.imp id fun h => by simp only [oB, aiN] at h; exact h.2
   simp only [bA] at h
   unfold eY at h
   have he := hr.ev c hok.1
   cases hc : ev g c with
   | bool b =>
     rw [hc] at h he
     refine aaE he ?_
     cases b with
     | true => exact ihx hok.2.1 hfx _ _ g a w hr hq h
     | false => exact ihy hok.2.2 hfy _ _ g a w hr hq h
   | _ => rw [hc] at h; exact h.elim
 | block id c ih =>
   intro hok hfl Q QA g a w hr hq h
   refine Yn (ih hok hfl _ _ g a w hr (fun e g a w hr h => ?_) h)
   cases e with
   | exit i =>
     unfold Exit.inBlock
     simp only [blk] at h
     by_cases hi : i = id
     .subst hi
      simp only [if_true]
      simp only [Nat.beq_refl] at h
      exact hq _ _ _ _ hr h
     .simp only [hi, if_false]
      have : Nat.beq i id = false := by
       cases hb : Nat.beq i id
       .rfl
       .exact absurd (ajN hb) hi
      simp only [this] at h
      exact hq _ _ _ _ hr h
   | _ => exact hq _ _ _ _ hr h
 | loop c ih =>
   intro hok hfl Q QA g a w hr hq h
   obtain ⟨I, h0, hround⟩ := h
   have hex : ∀ a w, (∃ n g, JR N g a /\ I n g w) -> ∃ n, (∃ g, JR N g a /\ I n g w) /\ ∀ m, (∃ g, JR N g a /\ I m g w) -> n <= m := by
    rintro a w ⟨n, hn⟩
    induction n using Nat.strongRecOn with
    | _ n ih2 =>
      by_cases hx : ∃ m, m < n /\ ∃ g, JR N g a /\ I m g w
      .obtain ⟨m, hm, h⟩ := hx; exact ih2 m hm h
      .exact ⟨n, hn, fun m hm => Nat.le_of_not_lt fun hlt => hx ⟨m, hlt, hm⟩⟩
   have hdec : ∀ a w, Decidable (∃ n g, JR N g a /\ I n g w) := fun a w => Classical.propDecidable _
   let μ : Act -> anU -> Nat := fun a w => if hh : ∃ n g, JR N g a /\ I n g w then Classical.choose (hex a w hh) else 0
   have hμ : ∀ a w n g, JR N g a -> I n g w -> μ a w <= n /\ ∃ g, JR N g a /\ I (μ a w) g w := by
    intro a w n g hr hI
    have hh : ∃ n g, JR N g a /\ I n g w := ⟨n, g, hr, hI⟩
    have e : μ a w = Classical.choose (hex a w hh) := dif_pos hh
    have s := Classical.choose_spec (hex a w hh)
    rw [e]
    exact ⟨s.2 n ⟨g, hr, hI⟩, s.1⟩
   obtain ⟨n0, h0⟩ := h0
   refine Za (fun a w => ∃ n g, JR N g a /\ I n g w) μ ⟨n0, g, hr, h0⟩ ?_
   rintro a w ⟨n, g, hr, hI⟩
   obtain ⟨_, g', hr', hI'⟩ := hμ a w n g hr hI
   refine ih hok hfl _ _ g' a w hr' (fun e g1 a1 w1 hr1 h => ?_) (hround _ _ _ hI')
   cases e with
   | normal =>
     obtain ⟨m, hm, hIm⟩ := h
     have := hμ a1 w1 m g1 hr1 hIm
     exact ⟨⟨m, g1, hr1, hIm⟩, by omega⟩
   | _ => exact hq _ _ _ _ hr1 h
 | label l => intro _ _ Q QA g a w hr hq h; exact YR (hq _ _ _ _ hr h)
 | scope c ih =>
   intro hok hfl Q QA g a w hr hq h
   refine X3 (ih hok hfl (noG Q) _ g a w hr (fun e g a w hr h => ?_) (Xb c _ g w h))
   cases e with
   | goto l => exact h.elim
   | _ => exact hq _ _ _ _ hr h
 | exit id => intro _ _ Q QA g a w hr hq h; exact VG (hq _ _ _ _ hr h)
 | ret => intro _ _ Q QA g a w hr hq h; exact Xq (hq _ _ _ _ hr h)
 | rangeFunc gf ps ahY bd =>
   intro hok hfl Q QA g a w hr hq h
   have hro : ro = none := hfl.resolve_right (by simp [oB])
   subst hro
   have hok : Tw gf = true := hok
   have h : RF P ann.f gf ps ahY bd Q g w := h
   unfold RF at h
   cases hn : noMark (g DS) with
   | false => rw [hn] at h; exact h.elim
   | true =>
     rw [hn] at h
     simp only [hN] at h
     have ed : a.defers = [] := by rw [hr.defers, aaG hn]
     have er := run_enterLoop_outer (P := P) (w := w) ann.f a.tmps ps ahY bd
     rw [Sb hr] at er
     have er : (Instr.enterLoop ann.f a.tmps ps ahY bd none).run P w = .ok (w.heap.size + 1, [{ target := .collected w.heap.size, args := #[] }]) (YU ann.f N ps ahY bd g w) := by rw [Sb hr]; exact er
     generalize YU ann.f N ps ahY bd g w = w1 at *
     have ee := hr.ev gf hok
     unfold Du at h
     have hres : resolve a.eval (rangeCall gf (w.heap.size + 1)) 0 = Deferred.ofValue (ev g gf) #[DZ (w.heap.size + 1)] := by
      have : resolve a.eval (rangeCall gf (w.heap.size + 1)) 0 = Deferred.ofValue (a.eval gf) #[DZ (w.heap.size + 1)] := by
       simp only [resolve, List.map_toArray, akZ, anO]; rfl
      rw [this, ee]
     rw [show ([DZ (w.heap.size + 1)] : List anV).toArray = #[DZ (w.heap.size + 1)] from rfl, <- hres, Sem.run_bind] at h
     cases hv : (resolve a.eval (rangeCall gf (w.heap.size + 1)) 0).run P w1 with
     | halt x wx => rw [hv] at h; exact h.elim
     | ok d wx =>
       have hwx : wx = w1 := by
        rw [hres] at hv
        unfold Deferred.ofValue at hv
        split at hv <;> first | (simp only [Sem.run_pure] at hv; cases hv; rfl) | (simp [stuck] at hv)
       subst hwx
       rw [hv] at h
       simp only [Result.andThen] at h
       cases hi : (invoke d.target d.args).run P wx with
       | halt x w2 => rw [hi] at h; exact h.elim
       | ok nx w2 =>
         rw [hi] at h
         cases nx <;> try (exact h.elim)
         obtain ⟨v, w3, hret, r, h1, h2, h3⟩ := h
         have hrel : ∀ w, JR N (put g (some DS) (.pointer (some ⟨w, 0, none⟩))) { a with defers := [{ target := .collected w, args := #[] }] ++ a.defers } := fun w => by
          refine ⟨hr.le, ?_, hr.size, fun i hi => ?_⟩
          .rw [GH, if_pos rfl, ed] <;> rfl
          .rw [GH, if_neg hi]; exact hr.at_ i hi
         have key : ∀ (j : Option Code) (w5 : anU), adW Q (put g (some DS) (.pointer (some ⟨w.heap.size, 0, none⟩))) j w5 →
             acO P ann.f QA { a with defers := [{ target := .collected w.heap.size, args := #[] }] ++ a.defers } w5 j := by
          intro j w5 h
          cases j with
          | none => exact hq _ _ _ _ (hrel _) h
          | some c =>
            cases c <;> first
             | exact h.elim
             | exact Xq (hq _ _ _ _ (hrel _) h)
             | exact VG (hq _ _ _ _ (hrel _) h)
         exact YK er hv hi hret (run_endLoop h1 h2) (key _ _ h3)
 | _ => intro hok; simp [codeOk] at hok
def lS (P : Program) : List ResultVar -> Env -> anU -> (List anV -> Prop) -> Prop
 | [], _, _, K => K []
 | .tmp t :: r, g, w, K => lS P r g w fun vs => K (g t :: vs)
 | .cell a t :: r, g, w, K => ∃ v, (do loadVar t (<- asAddr (g a)) : Sem anV).run P w = .ok v w /\ lS P r g w fun vs => K (v :: vs)
def SQ : List anV -> anV
 | [v] => v
 | vs => .tuple vs.toArray
def afJ (P : Program) (rs : List ResultVar) (R : anV -> anU -> Prop) : Exit -> Env -> anU -> Prop
 | .normal, g, w => lS P rs g w fun vs => R (SQ vs) w
 | .ret, g, w => lS P rs g w fun vs => R (SQ vs) w
 | _, _, _ => False
theorem VE {N : Nat} {g : Env} {a : Act} {w : anU} (hr : JR N g a) : ∀ (rs : List ResultVar), rs.all Ts = true -> ∀ (K : List anV -> Prop), lS P rs g w K →
 ∃ vs, K vs /\ (rs.mapM fun | .tmp t => pure (a.tmps.getD t undef) | .cell b t => do loadVar t (<- asAddr (a.tmps.getD b undef)) : Sem (List anV)).run P w = .ok vs w := by
 have ne : ∀ t : Nat, Nat.blt t DS = true -> a.tmps.getD t undef = g t := fun t h => hr.at_ t (Nat.ne_of_lt ((amK (x := t) (y := DS)) ▸ h))
 intro rs
 induction rs with
 | nil => intro _ K h; exact ⟨[], h, by simp⟩
 | cons r rs ih =>
   intro hok K h
   simp only [List.all_cons, aiN] at hok
   cases r with
   | tmp t =>
     obtain ⟨vs, h1, h2⟩ := ih hok.2 _ h
     refine ⟨_, h1, ?_⟩
     rw [List.mapM_cons]
     rw [pure_bind, Sem.run_bind]
     simp only [h2, Result.andThen, Sem.run_pure, ne t hok.1]
   | cell b t =>
     obtain ⟨v, hv, h⟩ := h
     obtain ⟨vs, h1, h2⟩ := ih hok.2 _ h
     refine ⟨_, h1, ?_⟩
     rw [List.mapM_cons]
     rw [<- ne b hok.1] at hv
     rw [Sem.run_bind]
     simp only [hv, Result.andThen]
     rw [Sem.run_bind]
     simp only [h2, Result.andThen]
     rfl
theorem aeN (vs : Array anV) : (if h : vs.size = 1 then vs[0] else Value.tuple vs) = SQ vs.toList := by
 obtain ⟨l⟩ := vs
 match l with
 | [] => rfl
 | [v] => rfl
 | a :: b :: r => simp [SQ]
theorem VT {N : Nat} {g : Env} {a : Act} {w : anU} (fn : Func) {rs : List ResultVar} (hok : rs.all Ts = true) (hrs : fn.results = rs.toArray) (hr : JR N g a) {R : anV -> anU -> Prop}
 (h : lS P rs g w fun vs => R (SQ vs) w) : ∃ v, (results fn a.tmps).run P w = .ok v w /\ R v w := by
 obtain ⟨vs, h1, h2⟩ := VE hr rs hok _ h
 refine ⟨SQ vs, ?_, h1⟩
 unfold results
 rw [hrs, Array.mapM_eq_mapM_toList, List.toList_toArray]
 simp only [bind_assoc, map_eq_pure_bind]
 rw [Sem.run_bind]
 refine Eq.trans (congrArg (fun r => Result.andThen r _) h2) ?_
 simp only [Result.andThen]
 simp only [pure_bind, Sem.run_pure, aeN]
def QB (args : List anV) : Env := fun i => args.getD i undef
def adS (P : Program) (rs : List ResultVar) (R : anV -> anU -> Prop) : Exit -> Env -> anU -> Prop
 | .normal, g, w => AE (g DS) w fun w => lS P rs g w fun vs => R (SQ vs) w
 | .ret, g, w => AE (g DS) w fun w => lS P rs g w fun vs => R (SQ vs) w
 | _, _, _ => False
theorem Vz {g : Env} {w : anU} : ∀ (rs : List ResultVar) (K : List anV -> Prop), lS P rs g w K -> ∃ vs, K vs /\ ∀ K' : List anV -> Prop, K' vs -> lS P rs g w K' := by
 intro rs
 induction rs with
 | nil => intro K h; exact ⟨_, h, fun _ h => h⟩
 | cons r rs ih =>
   intro K h
   cases r with
   | tmp t =>
     obtain ⟨vs, a, b⟩ := ih _ h
     exact ⟨_, a, fun K' h => b _ h⟩
   | cell b t =>
     obtain ⟨v, hv, h⟩ := h
     obtain ⟨vs, a, b⟩ := ih _ h
     exact ⟨_, a, fun K' h => ⟨v, hv, b _ h⟩⟩
theorem TI {v : anV} {w : anU} {K : anU -> Prop} (h : AE v w K) : ∃ w', K w' /\ ∀ K' : anU -> Prop, K' w' -> AE v w K' := by
 cases v with
 | pointer p =>
   cases p with
   | none => exact ⟨_, h, fun _ h => h⟩
   | some a => exact ⟨_, h.2, fun _ h' => ⟨h.1, h'⟩⟩
 | _ => exact ⟨_, h, fun _ h => h⟩
theorem WT {v : anV} {w : anU} {K K' : anU -> Prop} (h : AE v w K) (hk : ∀ w, K w -> K' w) : AE v w K' :=
 let ⟨w', a, b⟩ := TI h; b _ (hk w' a)
theorem U0 {args : List anV} {N i : Nat} (hle : args.length <= N) (hi : N <= i) : QB args i = undef := by
 unfold QB
 rw [aiJ, aiO (by omega)] <;> rfl
theorem Ov {f : FuncId} {fn : Func} {c : Code} {args : List anV} {w : anU} {rs : List ResultVar} {R : anV -> anU -> Prop} (hm : P.follows .mixedOrders = true) (hAf : ann.f = f)
 (hf : P.funcs[f]? = some fn) (hb : fn.body = some c) (hrs : fn.results = rs.toArray) {N : Nat} (hN : fn.ntmps = N) (hle : args.length <= N)
 (hok : codeOk P N ann c = true) (hro : rs.all Ts = true) (hND : Nat.ble N DS = true) (h : bA P ann c (adS P rs R) (QB args) w) : aP P f args.toArray w R := by
 obtain ⟨e, g', w', hq, _, hall⟩ := Rz _ _ _ _ h
 have hND := alO hND
 have hNt : PR P ann.f = N := by unfold PR; rw [hAf, hf]; exact hN
 have hrv : AE (g' DS) w' fun w => lS P rs g' w fun vs => R (SQ vs) w := by cases e <;> first | exact hq | exact hq.elim
 obtain ⟨w2, hrv2, hsh⟩ := TI hrv
 obtain ⟨vs, hv, hrest⟩ := Vz _ _ hrv2
 refine ⟨SQ vs, w2, ?_, hv⟩
 have hrel : JR N (QB args) { tmps := args.toArray ++ Array.replicate (fn.ntmps - args.toArray.size) undef, defers := [] } := by
  refine ⟨hND, by rw [U0 hle hND] <;> rfl, by simp [hN]; omega, fun i _ => ?_⟩
  simp only [QB, aiL, aiJ]
  by_cases hi : i < args.length
  .simp [Array.getElem?_append, hi]
  .simp only [Array.getElem?_append, List.size_toArray, hi, if_false, Array.getElem?_replicate]
   rw [aiO (by omega)]
   split <;> rfl
 have key := T8 (P := P) (f := f) hf hb (R := fun v3 w3 => v3 = SQ vs /\ w3 = w2) (args := args.toArray) (w := w)
  (hAf ▸ Qh hm hNt c hok (.inl rfl) (adS P rs fun v3 w3 => v3 = SQ vs /\ w3 = w2) _ _ _ _ hrel (fun e g a w hr h => ?_) (hall _ ?_))
 .refine Calls.mono key ?_
  rintro e w3 ⟨v, rfl, rfl, rfl⟩
  exact ⟨rfl, rfl⟩
 .have hx : ∀ {w}, (AE (g DS) w fun w => lS P rs g w fun vs' => SQ vs' = SQ vs /\ w = w2) -> ∃ m, a.defers = Ve m /\ AE m w fun w' => ∃ v, (results fn a.tmps).run P w' = .ok v w' /\ (v = SQ vs /\ w' = w2) := by
   intro w h
   exact ⟨_, hr.defers, WT h fun w h => VT fn hro hrs hr (R := fun v3 w3 => v3 = SQ vs /\ w3 = w2) h⟩
  cases e with
  | normal => exact hx h
  | ret => exact hx h
  | _ => exact h.elim
 .have := hsh (fun w => lS P rs g' w fun vs' => SQ vs' = SQ vs /\ w = w2) (hrest _ ⟨rfl, rfl⟩)
  cases e <;> first | exact this | exact hq.elim
theorem acF {N : Nat} : ∀ (c : Code), codeOk P N ann c = true -> oB c = true -> ∀ s ∈ L6 c, s < N := by
 intro c
 induction c with
 | region id ops draw =>
   intro hok _ s hs
   simp only [codeOk, aiN] at hok
   obtain ⟨o, h1, h2⟩ := Fh.1 hs
   obtain ⟨i, hi, rfl⟩ := amI h1
   exact PK hok.1.1 i _ (by simp at hi ⊢) s h2
 | seq x y ihx ihy =>
   intro hok hfl s hs
   simp only [codeOk, oB, aiN] at hok hfl
   rcases ajT.1 hs with hs | hs
   .exact ihx hok.1 hfl.1 s hs
   .exact ihy hok.2 hfl.2 s hs
 | cond c x y ihx ihy =>
   intro hok hfl s hs
   simp only [codeOk, oB, aiN] at hok hfl
   rcases ajT.1 hs with hs | hs
   .exact ihx hok.2.1 hfl.1 s hs
   .exact ihy hok.2.2 hfl.2 s hs
 | block id c ih => intro hok hfl s hs; exact ih hok hfl s hs
 | loop c ih => intro hok hfl s hs; exact ih hok hfl s hs
 | scope c ih => intro hok hfl s hs; exact ih hok hfl s hs
 | rangeFunc => intro _ hfl; simp [oB] at hfl
 | _ => intro _ _ s hs; simp [L6] at hs
theorem UO {f : FuncId} {fn : Func} {c : Code} {args : List anV} {w : anU} {rs : List ResultVar} {R : anV -> anU -> Prop} (hm : P.follows .mixedOrders = true) (hAf : ann.f = f)
 (hf : P.funcs[f]? = some fn) (hb : fn.body = some c) (hrs : fn.results = rs.toArray) {N : Nat} (hN : fn.ntmps = N) (hle : args.length <= N)
 (hok : codeOk P N ann c = true) (hro : rs.all Ts = true) (hND : Nat.ble N DS = true) (hfl : oB c = true) (h : bA P ann c (afJ P rs R) (QB args) w) : aP P f args.toArray w R := by
 refine Ov hm hAf hf hb hrs hN hle hok hro hND (Ch h fun e g' w' ha hq => ?_)
 have hND := alO hND
 have : g' DS = undef := by
  rw [ha DS (fun hd => absurd (acF c hok hfl DS hd) (Nat.not_lt.2 hND)), U0 hle hND]
 cases e with
 | normal => show AE (g' DS) w' (fun w => lS P rs g' w fun vs => R (SQ vs) w); rw [this]; exact hq
 | ret => show AE (g' DS) w' (fun w => lS P rs g' w fun vs => R (SQ vs) w); rw [this]; exact hq
 | _ => exact hq.elim
def I1 (tmps : Array anV) : Env := fun i => tmps.getD i undef
def Ug (l : Nat) (R : anV -> anU -> Prop) : Exit -> Env -> anU -> Prop
 | .normal, _, w => ∃ r : Loop, w.heap[l]? = some (.loop r) /\ R (.bool true) (w.putObj l (.loop { r with state := .ready, pending := none }))
 | .ret, _, w => ∃ r : Loop, w.heap[l]? = some (.loop r) /\ R (.bool false) (w.putObj l (.loop { r with state := .done, pending := some .ret }))
 | .exit i, _, w => ∃ r : Loop, w.heap[l]? = some (.loop r) /\ R (.bool false) (w.putObj l (.loop { r with state := .done, pending := some (.exit i) }))
 | _, _, _ => False
def asQ (P : Program) (ann : FA) (l : Nat) (bd : Code) (R : anV -> anU -> Prop) : Exit -> Env -> anU -> Prop
 | .normal, g, w => ∃ r : Loop, w.heap[l]? = some (.loop r) /\ r.state = .ready /\ bA P ann bd (Ug l R) g (w.putObj l (.loop { r with state := .busy }))
 | _, _, _ => False
theorem Ur {f : FuncId} {l : Nat} {tmps : Array anV} {ahY bd : Code} {w : anU} {R : anV -> anU -> Prop} (hm : P.follows .mixedOrders = true) (hAf : ann.f = f) {N : Nat} (hN : PR P f = N) (hND : Nat.ble N DS = true)
 (hsz : tmps.size = N) (hok1 : codeOk P N ann ahY = true) (hf1 : oB ahY = true) (hok2 : codeOk P N ann bd = true) (hf2 : oB bd = true)
 (h : bA P ann ahY (asQ P ann l bd R) (I1 tmps) w) : TK P l f tmps ahY bd w R := by
 subst hAf
 have hND := alO hND
 obtain ⟨e, g1, w1, hq, ha, hall⟩ := Rz _ _ _ _ h
 cases e with
 | normal =>
   obtain ⟨r, h1, h2, hd⟩ := hq
   obtain ⟨e2, g2, w2, hq2, ha2, hall2⟩ := Rz _ _ _ _ hd
   have hx : ∃ v w4, R v w4 /\ ∀ R' : anV -> anU -> Prop, R' v w4 -> Ug l R' e2 g2 w2 := by
    cases e2 with
    | normal => obtain ⟨r2, k1, k2⟩ := hq2; exact ⟨_, _, k2, fun R' h => ⟨r2, k1, h⟩⟩
    | ret => obtain ⟨r2, k1, k2⟩ := hq2; exact ⟨_, _, k2, fun R' h => ⟨r2, k1, h⟩⟩
    | exit i => obtain ⟨r2, k1, k2⟩ := hq2; exact ⟨_, _, k2, fun R' h => ⟨r2, k1, h⟩⟩
    | _ => exact hq2.elim
   obtain ⟨v, w4, hR, hrest⟩ := hx
   refine ⟨v, w4, ?_, hR⟩
   have hrel : JR N (I1 tmps) { tmps := tmps, defers := [] } := by
    refine ⟨hND, ?_, hsz, fun i _ => rfl⟩
    have : I1 tmps DS = undef := by unfold I1; rw [aiL, alI (by omega)] <;> rfl
    rw [this] <;> rfl
   have key : RoundIn Fence.wide 0 P l ann.f tmps ahY bd w fun e w' => ∃ v', e = .returned v' /\ (v' = v /\ w' = w4) := by
    refine Uq (Qh hm hN ahY hok1 (.inr hf1) (fun e g w => e = .normal /\ g = g1 /\ w = w1) _ _ _ _ hrel ?_ (hall _ ⟨rfl, rfl, rfl⟩))
    rintro e g a w hra ⟨rfl, rfl, rfl⟩
    refine ⟨_, run_beginRound h1 h2, Qh hm hN bd hok2 (.inr hf2) (Ug l fun v' w' => v' = v /\ w' = w4) _ _ _ _ hra ?_ (hall2 _ (hrest _ ⟨rfl, rfl⟩))⟩
    intro e g a w _ h
    cases e with
    | normal => obtain ⟨r, k1, k2⟩ := h; exact ⟨_, _, run_endRound none k1, k2⟩
    | ret => obtain ⟨r, k1, k2⟩ := h; exact ⟨_, _, run_endRound (some .ret) k1, k2⟩
    | exit i => obtain ⟨r, k1, k2⟩ := h; exact ⟨_, _, run_endRound (some (.exit i)) k1, k2⟩
    | _ => exact h.elim
   refine RoundIn.mono key ?_
   rintro e w' ⟨v', rfl, rfl, rfl⟩
   exact ⟨rfl, rfl⟩
 | _ => exact hq.elim
theorem SX {f : FuncId} {args : Array anV} {w : anU} {R : anV -> anU -> Prop} (h : aP P f args w R) :
 Calls P f args w fun e w' => ∃ v, e = .returned v /\ R v w' := by
 obtain ⟨v, w', hr, hR⟩ := h
 refine Calls.mono hr ?_
 rintro e w'' ⟨rfl, rfl⟩
 exact ⟨v, rfl, hR⟩
end
def sA : Code -> Code | .seq a _ => a | c => c
def bI : Code -> Code | .block _ c => c | .loop c => c | .scope c => c | c => c
def bT (f : Func) : Code := match f.body with | some c => c | none => .skip
def aI : Nat -> Code -> Code
 | 0, c => c
 | 1, c => sA c
 | n + 1, .seq a b => .seq a (aI n b)
 | _, c => c
def aB : Nat -> Code -> Code
 | 0, c => c
 | n + 1, .seq _ b => aB n b
 | _, c => c
def WY : Nat -> Code -> Bool
 | 1, .seq _ _ => true
 | n + 1, .seq _ b => WY n b
 | _, _ => false
def dr (w : anU) : anU := { w with drawn := w.drawn + 1 }
def Mz (P : Program) (t : TypeId) (a : anV) (w : anU) (K : anV -> Prop) : Prop := ∃ v, (do loadVar t (<- asAddr a) : Sem anV).run P w = .ok v w /\ K v
def exL : List (Nat × (Env -> anU -> Prop)) -> Nat -> Env -> anU -> Prop
 | [], _, _, _ => False
 | (j, k) :: r, i, g, w => match Nat.beq i j with | true => k g w | false => exL r i g w
def exQ (kn kr : Env -> anU -> Prop) (l : List (Nat × (Env -> anU -> Prop))) : Exit -> Env -> anU -> Prop
 | .normal, g, w => kn g w
 | .ret, g, w => kr g w
 | .exit i, g, w => exL l i g w
 | _, _, _ => False
def XS (Q : Exit -> Env -> anU -> Prop) : List (Nat × (Env -> anU -> Prop)) -> Prop
 | [] => True
 | (i, k) :: r => (∀ g w, k g w -> Q (.exit i) g w) /\ XS Q r
def fH (c a b : anV) : Sem Next := do pure (.value (if <- asBool c then a else b))
def eM (t : TypeId) : Sem Next := V (Instr.alloc t true (.tuple #[]))
def Ic (t : TypeId) (x : anV) : Sem Next := V (Instr.box t x)
def aL (t : TypeId) (a : anV) : Sem Next := V (Instr.loadAt t a)
def bB (t : TypeId) (a x : anV) : Sem Next := U (Instr.storeAt t a x)
def lN (x : anV) : Sem Next := execOp (fun _ => x) ⟨none, .nilCheck (.tmp 0), 0, default, #[], none⟩
def X0 (op : UnOp) (x : anV) : Sem Next := V (Op.unary op x)
def fB (s d : TypeId) (x : anV) : Sem Next := V (convert s d x)
def Wp (t : TypeId) (x : anV) : Sem Next := V (Instr.makeInterface t x)
def iA (t : TypeId) (l c : anV) : Sem Next := V (Instr.makeSlice t l c)
def lO (t : TypeId) (x : anV) (lo hi mx : Option anV) : Sem Next := V (Instr.sliceAt t x lo hi mx)
def aJ (t : TypeId) (x : anV) (f : Nat) : Sem Next := V (Instr.fieldAt t x f)
def bK (t : TypeId) (x i : anV) : Sem Next := V (Instr.indexAt t x i)
def L1 (t : TypeId) (x i : anV) : Sem Next := V (Instr.index t x i)
def bF (t : anV) (i : Nat) : Sem Next := V (Instr.extract t i)
section
variable {P : Program} {ann : FA}
theorem adM {Q : Exit -> Env -> anU -> Prop} : ∀ {l : List (Nat × (Env -> anU -> Prop))}, XS Q l -> ∀ {i : Nat} {g : Env} {w : anU}, exL l i g w -> Q (.exit i) g w := by
 intro l
 induction l with
 | nil => intro _ i g w h; exact h.elim
 | cons p r ih =>
   obtain ⟨j, k⟩ := p
   rintro ⟨h1, h2⟩ i g w h
   simp only [exL] at h
   cases hb : Nat.beq i j with
   | true =>
     simp only [hb] at h
     obtain rfl := ajN hb
     exact h1 _ _ h
   | false => simp only [hb] at h; exact ih h2 h
theorem acB {c : Code} {kn kr : Env -> anU -> Prop} {l : List (Nat × (Env -> anU -> Prop))} {Q : Exit -> Env -> anU -> Prop} {g : Env} {w : anU} {A : Prop}
 (e : A = bA P ann c (exQ kn kr l) g w) (h : A) (hn : ∀ g w, kn g w -> Q .normal g w) (hr : ∀ g w, kr g w -> Q .ret g w) (hl : XS Q l) : bA P ann c Q g w := by
 rw [e] at h
 refine Ch h (fun e g' w' _ hq => ?_)
 cases e with
 | normal => exact hn _ _ hq
 | ret => exact hr _ _ hq
 | exit i => exact adM hl hq
 | _ => exact hq.elim
theorem Ye {x y z : Code} {Q : Exit -> Env -> anU -> Prop} {g : Env} {w : anU} (h : bA P ann (.seq (.seq x y) z) Q g w) : bA P ann (.seq x (.seq y z)) Q g w := by
 show bA P ann x (xZ (fun g w => bA P ann y (xZ (fun g w => bA P ann z Q g w) Q) g w) Q) g w
 have h : bA P ann x (xZ (fun g w => bA P ann y (xZ (fun g w => bA P ann z Q g w) Q) g w) (xZ (fun g w => bA P ann z Q g w) Q)) g w := h
 refine Ch h (fun e g' w' _ hq => ?_)
 cases e <;> exact hq
theorem aM {K : Env -> anU -> Prop} {Q : Exit -> Env -> anU -> Prop} {g : Env} {w : anU} (h : K g w) : xZ K Q .normal g w := h
theorem Yi {Q : Exit -> Env -> anU -> Prop} : ∀ (n : Nat) (c : Code) (g : Env) (w : anU), WY n c = true -> bA P ann (.seq (aI n c) (aB n c)) Q g w -> bA P ann c Q g w := by
 intro n
 induction n with
 | zero => intro c g w h; simp [WY] at h
 | succ n ih =>
   intro c g w h hd
   cases c with
   | seq a b =>
     cases n with
     | zero => exact hd
     | succ n =>
       have hb : WY (n + 1) b = true := by simpa [WY] using h
       have hd' : bA P ann (.seq (.seq a (aI (n + 1) b)) (aB (n + 1) b)) Q g w := hd
       have := Ye hd'
       show bA P ann a (xZ (fun g w => bA P ann b Q g w) Q) g w
       have h2 : bA P ann a (xZ (fun g w => bA P ann (.seq (aI (n + 1) b) (aB (n + 1) b)) Q g w) Q) g w := this
       refine Ch h2 (fun e g' w' _ hq => ?_)
       cases e with
       | normal => exact ih b g' w' hb hq
       | _ => exact hq
   | _ => cases n <;> simp [WY] at h
def adC (id : Nat) : Code -> Bool | .block i _ => Nat.beq i id | _ => false
def Y3 : Code -> Bool | .loop _ => true | _ => false
theorem abP {Q : Exit -> Env -> anU -> Prop} (id : Nat) (c : Code) (g : Env) (w : anU) (h : adC id c = true) (hd : bA P ann (bI c) (blk id Q) g w) : bA P ann c Q g w := by
 cases c with
 | block i c =>
   obtain rfl := ajN (show Nat.beq i id = true from h)
   exact hd
 | _ => cases h
def acV : Code -> Bool | .scope _ => true | _ => false
theorem aaO {Q : Exit -> Env -> anU -> Prop} (c : Code) (g : Env) (w : anU) (h : acV c = true) (hd : bA P ann (bI c) Q g w) : bA P ann c Q g w := by
 cases c with
 | scope c => exact hd
 | _ => cases h
theorem ZB {T : Type} (proj : Env -> T) (F : (T -> anU -> Prop) -> T -> anU -> Prop) {c : Code} {Q : Exit -> Env -> anU -> Prop} {g : Env} {w : anU}
 (hF : ∀ (X : T -> anU -> Prop) g' w', iR (L6 c) g g' -> F X (proj g') w' -> bA P ann c (xZ (fun g'' w'' => X (proj g'') w'') Q) g' w')
 (h : cK F (proj g) w) : bA P ann (.loop c) Q g w := by
 obtain ⟨I, ⟨n, h0⟩, hI⟩ := h
 refine ⟨fun n g' w' => iR (L6 c) g g' /\ I n (proj g') w', ⟨n, iR.refl _ _, h0⟩, ?_⟩
 rintro n g' w' ⟨ha, hi⟩
 have := hF _ g' w' ha (hI n _ _ hi)
 refine Ch this (fun e g2 w2 ha2 hq => ?_)
 cases e with
 | normal =>
   obtain ⟨m, hm, hh⟩ := hq
   exact ⟨m, hm, ha.trans ha2 (fun _ h => h) (fun _ h => h), hh⟩
 | _ => exact hq
theorem Yp {T : Type} (proj : Env -> T) (F : (T -> anU -> Prop) -> T -> anU -> Prop) (c : Code) {Q : Exit -> Env -> anU -> Prop} {g : Env} {w : anU} (hl : Y3 c = true)
 (h : cK F (proj g) w)
 (hF : ∀ (X : T -> anU -> Prop) g' w', iR (L6 (bI c)) g g' -> F X (proj g') w' -> bA P ann (bI c) (xZ (fun g'' w'' => X (proj g'') w'') Q) g' w') : bA P ann c Q g w := by
 cases c with
 | loop c => exact ZB proj F hF h
 | _ => cases hl
theorem WL {l : List Nat} {s : Nat} (hs : lM s l = false) : s ∉ l := by
 induction l with
 | nil => simp
 | cons a r ih =>
   unfold lM at hs
   cases hb : Nat.beq a s with
   | true => simp only [hb] at hs; cases hs
   | false =>
     simp only [hb] at hs
     intro hm
     rcases ajW.1 hm with e | hm
     .subst e; simp at hb
     .exact ih hs hm
theorem ZW {l : List Nat} {g g' : Env} (h : iR l g g') {s : Nat} (hs : lM s l = false) : g' s = g s := h s (WL hs)
def Mv (id : Nat) : Code -> Array Oper
 | .region i ops _ => match Nat.beq i id with | true => ops | false => #[]
 | .seq a b => match (Mv id a).size with | 0 => Mv id b | _ + 1 => Mv id a
 | .cond _ a b => match (Mv id a).size with | 0 => Mv id b | _ + 1 => Mv id a
 | .block _ c => Mv id c
 | .loop c => Mv id c
 | .scope c => Mv id c
 | _ => #[]
theorem Zj {b : Bool} {A B : Prop} (ha : A) (hb : B) : Ord b A B := by cases b <;> assumption
theorem cK.rule {α : Type} {F : (α -> anU -> Prop) -> α -> anU -> Prop} (I : Nat -> α -> anU -> Prop) {g : α} {w : anU} (n : Nat) (h0 : I n g w)
 (hr : ∀ n g w, I n g w -> F (fun g' w' => ∃ m, m < n /\ I m g' w') g w) : cK F g w := ⟨I, ⟨n, h0⟩, hr⟩
theorem aF (A B : Prop) : eY (.bool true) A B = A := Eq.trans rfl rfl
theorem aE (A B : Prop) : eY (.bool false) A B = B := Eq.trans rfl rfl
theorem bW (s : (anV -> anU -> Prop) -> Prop) (w : anU) (K : anV -> anU -> Prop) : Gd true s w K = s K := Eq.trans rfl rfl
theorem eF (s : (anV -> anU -> Prop) -> Prop) (w : anU) (K : anV -> anU -> Prop) : Gd false s w K = K undef w := Eq.trans rfl rfl
theorem Uz : eS (.bool true) true = true := Eq.trans rfl rfl
theorem jV : eS (.bool true) false = false := Eq.trans rfl rfl
theorem Wf : eS (.bool false) true = false := Eq.trans rfl rfl
theorem dS : eS (.bool false) false = true := Eq.trans rfl rfl
def aK : Operand := .tmp 0
theorem dQ {c : Code} {kn kr : Env -> anU -> Prop} {l : List (Nat × (Env -> anU -> Prop))} {Q : Exit -> Env -> anU -> Prop} {g : Env} {w : anU} {A : Prop}
 (h : A) (hn : ∀ g w, kn g w -> Q .normal g w) (hr : ∀ g w, kr g w -> Q .ret g w) (hl : XS Q l) (e : A = bA P ann c (exQ kn kr l) g w := by kernel_rfl) : bA P ann c Q g w := acB e h hn hr hl
theorem gY {Q : Exit -> Env -> anU -> Prop} (n : Nat) {c : Code} {g : Env} {w : anU}
 (hd : bA P ann (aI n c) (xZ (fun g w => bA P ann (aB n c) Q g w) Q) g w) (h : WY n c = true := by kernel_rfl) : bA P ann c Q g w := Yi n c g w h hd
theorem FP {Q : Exit -> Env -> anU -> Prop} (id : Nat) {c : Code} {g : Env} {w : anU} (hd : bA P ann (bI c) (blk id Q) g w) (h : adC id c = true := by kernel_rfl) : bA P ann c Q g w := abP id c g w h hd
theorem scD {Q : Exit -> Env -> anU -> Prop} {c : Code} {g : Env} {w : anU} (hd : bA P ann (bI c) Q g w) (h : acV c = true := by kernel_rfl) : bA P ann c Q g w := aaO c g w h hd
theorem NN {T : Type} (proj : Env -> T) (F : (T -> anU -> Prop) -> T -> anU -> Prop) {c : Code} {Q : Exit -> Env -> anU -> Prop} {g : Env} {w : anU}
 (h : cK F (proj g) w)
 (hF : ∀ (X : T -> anU -> Prop) g' w', iR (L6 (bI c)) g g' -> F X (proj g') w' -> bA P ann (bI c) (xZ (fun g'' w'' => X (proj g'') w'') Q) g' w') (hl : Y3 c = true := by kernel_rfl) : bA P ann c Q g w := Yp proj F c hl h hF
theorem jB {l : List Nat} {g g' : Env} (s : Nat) (h : iR l g g') (hs : lM s l = false := by kernel_rfl) : g' s = g s := ZW h hs
theorem uS {ann : FA} (fn : Func) (c : Code) (args : List anV) (rs : List ResultVar) (N : Nat) {f : FuncId} {w : anU} {R : anV -> anU -> Prop} (hm : P.follows .mixedOrders = true)
 (hf : P.funcs[f]? = some fn) (h : bA P ann c (afJ P rs R) (QB args) w) (hAf : ann.f = f := by kernel_rfl) (hb : fn.body = some c := by kernel_rfl) (hrs : fn.results = rs.toArray := by kernel_rfl) (hN : fn.ntmps = N := by kernel_rfl) (hle : Nat.ble args.length N = true := by kernel_rfl)
 (hok : codeOk P N ann c = true := by kernel_rfl) (hro : rs.all Ts = true := by kernel_rfl) (hND : Nat.ble N DS = true := by kernel_rfl) (hfl : oB c = true := by kernel_rfl) : aP P f args.toArray w R :=
 UO hm hAf hf hb hrs hN (alO hle) hok hro hND hfl h
def Ta : Code -> Option (Operand × Array Tmp × Code × Code)
 | .rangeFunc g ps ahY bd => some (g, ps, ahY, bd)
 | .seq a b => (match Ta a with | some r => some r | none => Ta b)
 | .cond _ a b => (match Ta a with | some r => some r | none => Ta b)
 | .block _ c => Ta c
 | .loop c => Ta c
 | .scope c => Ta c
 | _ => none
def Y4 (c : Code) : Array Tmp := match Ta c with | some (_, ps, _) => ps | none => #[]
def X1 (c : Code) : Code := match Ta c with | some (_, _, ahY, _) => ahY | none => .skip
def Xe (c : Code) : Code := match Ta c with | some (_, _, _, bd) => bd | none => .skip
def Rdy (l : Nat) (w : anU) (K : anU -> Prop) : Prop := ∃ r : Loop, w.heap[l]? = some (.loop r) /\ r.state = .ready /\ K (w.putObj l (.loop { r with state := .busy }))
def jSt : Option Code -> LoopState
 | none => .ready
 | some _ => .done
def U5 (l : Nat) (j : Option Code) (R : anV -> anU -> Prop) (w : anU) : Prop :=
 ∃ r : Loop, w.heap[l]? = some (.loop r) /\ R (.bool j.isNone) (w.putObj l (.loop { r with state := jSt j, pending := j }))
def aeG : List ResultVar := []
theorem dsF {ann : FA} (fn : Func) (c : Code) (args : List anV) (rs : List ResultVar) (N : Nat) {f : FuncId} {w : anU} {R : anV -> anU -> Prop} (hm : P.follows .mixedOrders = true)
 (hf : P.funcs[f]? = some fn) (h : bA P ann c (adS P rs R) (QB args) w) (hAf : ann.f = f := by kernel_rfl) (hb : fn.body = some c := by kernel_rfl) (hrs : fn.results = rs.toArray := by kernel_rfl) (hN : fn.ntmps = N := by kernel_rfl) (hle : Nat.ble args.length N = true := by kernel_rfl)
 (hok : codeOk P N ann c = true := by kernel_rfl) (hro : rs.all Ts = true := by kernel_rfl) (hND : Nat.ble N DS = true := by kernel_rfl) : aP P f args.toArray w R :=
 Ov hm hAf hf hb hrs hN (alO hle) hok hro hND h
theorem dsR {ann : FA} (N : Nat) {f : FuncId} {l : Nat} {tmps : Array anV} {ahY bd : Code} {w : anU} {R : anV -> anU -> Prop} (hm : P.follows .mixedOrders = true) (hsz : tmps.size = N)
 (h : bA P ann ahY (asQ P ann l bd R) (I1 tmps) w) (hN : PR P f = N) (hok1 : codeOk P N ann ahY = true) (hok2 : codeOk P N ann bd = true) (hAf : ann.f = f := by kernel_rfl) (hND : Nat.ble N DS = true := by kernel_rfl)
 (hf1 : oB ahY = true := by kernel_rfl) (hf2 : oB bd = true := by kernel_rfl) : TK P l f tmps ahY bd w R :=
 Ur hm hAf hN hND hsz hok1 hf1 hok2 hf2 h
end
end Go.En
namespace Go.Proofs.Ytgpimhlgaokobaa
open Go Go.En
noncomputable abbrev pg : Program := Try.prog
theorem TryM.mixed : pg.follows .mixedOrders = true := Try.checked.mixed
abbrev K0 := anU -> Prop
abbrev K1 := anV -> K0
abbrev K2 := anV -> K1
abbrev K3 := anV -> K2
abbrev K4 := anV -> K3
abbrev K5 := anV -> K4
abbrev K6 := anV -> K5
abbrev K7 := anV -> K6
abbrev K8 := anV -> K7
abbrev K9 := anV -> K8
abbrev Ro := anV -> K9
abbrev HR (rs : List ResultVar) (R : K1) (Q : Exit -> Env -> anU -> Prop) : Prop := ∀ g w, (lS pg rs g w fun vs => R (SQ vs) w) -> Q .ret g w
abbrev HRF (rs : List ResultVar) (R : K1) (Q : Exit -> Env -> anU -> Prop) : Prop := ∀ g w, (AE (g DS) w fun w => lS pg rs g w fun vs => R (SQ vs) w) -> Q .ret g w
abbrev no : Env -> anU -> Prop := fun _ _ => False
theorem eZ {Q : Env -> anU -> Prop} : ∀ g w, no g w -> Q g w := fun _ _ h => h.elim
abbrev pE : FuncId := 3
abbrev BN : FuncId := 4
abbrev sK : FuncId := 5
abbrev lP : FuncId := 6
abbrev vL : FuncId := 7
abbrev rT : FuncId := 8
abbrev nS : FuncId := 9
abbrev rN : FuncId := 10
abbrev cI : FuncId := 11
abbrev lZ : FuncId := 12
abbrev sX : FuncId := 13
abbrev pF : FuncId := 14
abbrev pW : FuncId := 15
abbrev mW : FuncId := 16
abbrev jE : FuncId := 17
abbrev dJ : FuncId := 18
abbrev jA : FuncId := 19
abbrev iP : FuncId := 20
abbrev kV : FuncId := 21
abbrev iH : FuncId := 22
abbrev iO : FuncId := 23
abbrev vJ : FuncId := 24
abbrev tX : FuncId := 25
abbrev tF : FuncId := 26
abbrev vK : FuncId := 27
abbrev BX : FuncId := 28
abbrev zK : FuncId := 29
abbrev pR : FuncId := 30
abbrev BR : FuncId := 31
abbrev Ad : FuncId := 32
abbrev jU : FuncId := 33
abbrev Og : FuncId := 34
abbrev rA : FuncId := 35
abbrev BT : FuncId := 36
abbrev jH : FuncId := 37
abbrev B9 : FuncId := 38
abbrev Fs : FuncId := 39
abbrev iB : FuncId := 40
abbrev Ik : FuncId := 41
abbrev pX : FuncId := 42
abbrev iT : FuncId := 43
abbrev qF : FuncId := 44
abbrev kG : FuncId := 45
abbrev yO : FuncId := 46
abbrev mG : FuncId := 47
abbrev lD : FuncId := 48
abbrev rL : FuncId := 49
abbrev kD : FuncId := 50
abbrev eT : FuncId := 51
abbrev qU : FuncId := 52
abbrev gO : FuncId := 53
abbrev yJ : FuncId := 54
abbrev oC : FuncId := 55
abbrev tP : FuncId := 56
abbrev mZ : FuncId := 57
abbrev tW : FuncId := 58
abbrev Am : FuncId := 59
abbrev yX : FuncId := 60
abbrev hZ : FuncId := 61
abbrev Pp : FuncId := 62
abbrev rV : FuncId := 63
abbrev tR : FuncId := 64
abbrev pI : FuncId := 65
abbrev iN : FuncId := 66
abbrev lW : FuncId := 67
abbrev Cd : FuncId := 68
abbrev Di : FuncId := 69
abbrev gJ : FuncId := 70
abbrev N0 (Q : Exit -> Env -> anU -> Prop) (k : K0) : Prop := ∀ g w, k w -> Q .normal g w
abbrev E0 (Q : Exit -> Env -> anU -> Prop) (k : K0) (x0 : Nat) : Prop := ∀ g w, k w -> Q (.exit x0) g w
abbrev N1 (Q : Exit -> Env -> anU -> Prop) (k : K1) (a_ : Nat) : Prop := ∀ g w, k (g a_) w -> Q .normal g w
abbrev E1 (Q : Exit -> Env -> anU -> Prop) (k : K1) (x0 : Nat) (a_ : Nat) : Prop := ∀ g w, k (g a_) w -> Q (.exit x0) g w
abbrev N2 (Q : Exit -> Env -> anU -> Prop) (k : K2) (a_ b_ : Nat) : Prop := ∀ g w, k (g a_) (g b_) w -> Q .normal g w
abbrev E2 (Q : Exit -> Env -> anU -> Prop) (k : K2) (x0 : Nat) (a_ b_ : Nat) : Prop := ∀ g w, k (g a_) (g b_) w -> Q (.exit x0) g w
abbrev N3 (Q : Exit -> Env -> anU -> Prop) (k : K3) (a_ b_ c_ : Nat) : Prop := ∀ g w, k (g a_) (g b_) (g c_) w -> Q .normal g w
abbrev E3 (Q : Exit -> Env -> anU -> Prop) (k : K3) (x0 : Nat) (a_ b_ c_ : Nat) : Prop := ∀ g w, k (g a_) (g b_) (g c_) w -> Q (.exit x0) g w
abbrev N4 (Q : Exit -> Env -> anU -> Prop) (k : K4) (a_ b_ c_ d_ : Nat) : Prop := ∀ g w, k (g a_) (g b_) (g c_) (g d_) w -> Q .normal g w
abbrev E4 (Q : Exit -> Env -> anU -> Prop) (k : K4) (x0 : Nat) (a_ b_ c_ d_ : Nat) : Prop := ∀ g w, k (g a_) (g b_) (g c_) (g d_) w -> Q (.exit x0) g w
abbrev N5 (Q : Exit -> Env -> anU -> Prop) (k : K5) (a_ b_ c_ d_ e_ : Nat) : Prop := ∀ g w, k (g a_) (g b_) (g c_) (g d_) (g e_) w -> Q .normal g w
abbrev E5 (Q : Exit -> Env -> anU -> Prop) (k : K5) (x0 : Nat) (a_ b_ c_ d_ e_ : Nat) : Prop := ∀ g w, k (g a_) (g b_) (g c_) (g d_) (g e_) w -> Q (.exit x0) g w
abbrev N6 (Q : Exit -> Env -> anU -> Prop) (k : K6) (a_ b_ c_ d_ e_ f_ : Nat) : Prop := ∀ g w, k (g a_) (g b_) (g c_) (g d_) (g e_) (g f_) w -> Q .normal g w
abbrev N7 (Q : Exit -> Env -> anU -> Prop) (k : K7) (a_ b_ c_ d_ e_ f_ g_ : Nat) : Prop := ∀ g w, k (g a_) (g b_) (g c_) (g d_) (g e_) (g f_) (g g_) w -> Q .normal g w
abbrev E7 (Q : Exit -> Env -> anU -> Prop) (k : K7) (x0 : Nat) (a_ b_ c_ d_ e_ f_ g_ : Nat) : Prop := ∀ g w, k (g a_) (g b_) (g c_) (g d_) (g e_) (g f_) (g g_) w -> Q (.exit x0) g w
abbrev N8 (Q : Exit -> Env -> anU -> Prop) (k : K8) (a_ b_ c_ d_ e_ f_ g_ h_ : Nat) : Prop := ∀ g w, k (g a_) (g b_) (g c_) (g d_) (g e_) (g f_) (g g_) (g h_) w -> Q .normal g w
abbrev N9 (Q : Exit -> Env -> anU -> Prop) (k : K9) (a_ b_ c_ d_ e_ f_ g_ h_ i_ : Nat) : Prop := ∀ g w, k (g a_) (g b_) (g c_) (g d_) (g e_) (g f_) (g g_) (g h_) (g i_) w -> Q .normal g w
abbrev N10 (Q : Exit -> Env -> anU -> Prop) (k : Ro) (a_ b_ c_ d_ e_ f_ g_ h_ i_ j_ : Nat) : Prop := ∀ g w, k (g a_) (g b_) (g c_) (g d_) (g e_) (g f_) (g g_) (g h_) (g i_) (g j_) w -> Q .normal g w
abbrev E10 (Q : Exit -> Env -> anU -> Prop) (k : Ro) (x0 : Nat) (a_ b_ c_ d_ e_ f_ g_ h_ i_ j_ : Nat) : Prop := ∀ g w, k (g a_) (g b_) (g c_) (g d_) (g e_) (g f_) (g g_) (g h_) (g i_) (g j_) w -> Q (.exit x0) g w
abbrev anW (n_ : Int) : anV := .int .i64 n_
end Go.Proofs.Ytgpimhlgaokobaa
namespace Go.Proofs.Ytgpimhlgaokobaa
open Go Go.En
set_option maxRecDepth 20000
attribute [local irreducible] Go.En.bA
variable (Q : Exit -> Env -> anU -> Prop) (g : Env) (w : anU)
def uX : FA := ⟨pE, fun i => .leaf ([], []) []⟩
def xS : List ResultVar := [.tmp 6]
noncomputable def uI : Code := bT Try.f3
def nT (R : K1) (cP ZC agU : anV) (w : anU) : Prop :=
 aP pg BN #[] w fun c8 w =>
 aD pg (X0 .not c8) w fun d0 w =>
 eY d0
  (R (.bool false) w)
  (aD pg (gD .len #[22] 3 [cP]) w fun d2 w =>
  aD pg (aG .gtr 3 aK aK d2 (anW 2000)) w fun d3 w =>
  Gd (eS d3 false) (fun K => K ZC w) w fun d5 w =>
  Gd (eS d3 false) (fun K => aD pg (gD .len #[22] 3 [d5]) w K) w fun d6 w =>
  Gd (eS d3 false) (fun K => aD pg (aG .gtr 3 aK aK d6 (anW 100)) w K) w fun d7 w =>
  aD pg (fH d3 (.bool true) d7) w fun d8 w =>
  eY d8
   (R (.bool true) w)
   (aP pg sK #[cP] w fun e1 w =>
   aD pg (bF e1 0) w fun e2 w =>
   aD pg (bF e1 1) w fun e3 w =>
   aD pg (gD .append #[22, 22] 22 [e2, ZC]) w fun e7 w =>
   aP pg lP #[e7, (.slice none 0 0)] w fun e8 w =>
   aD pg (bF e8 0) w fun e9 w =>
   aD pg (bF e8 1) w fun f0 w =>
   aD pg (bF e8 2) w fun f1 w =>
   aD pg (bF e8 3) w fun f2 w =>
   aD pg (fB 23 3 agU) w fun f6 w =>
   aD pg (gD .len #[22] 3 [e2]) w fun f8 w =>
   aD pg (aG .rem 3 aK aK f6 f8) w fun f9 w =>
   aD pg (lO 22 e2 none (some f9) none) w fun i0 w =>
   aP pg lP #[i0, (.slice none 0 0)] w fun i1 w =>
   aD pg (bF i1 0) w fun i2 w =>
   aD pg (bF i1 1) w fun i3 w =>
   aD pg (bF i1 2) w fun i4 w =>
   aD pg (bF i1 3) w fun i5 w =>
   aD pg (aG .eql 25 (.tmp 56) (.const (anW 0)) e3 (anW 0)) w fun i7 w =>
   Gd (eS i7 true) (fun K => K f2 w) w fun i9 w =>
   Gd (eS i7 true) (fun K => aD pg (aG .eql 25 (.tmp 59) (.const (anW 0)) i9 (anW 0)) w K) w fun j0 w =>
   aD pg (fH i7 j0 (.bool false)) w fun j1 w =>
   Gd (eS j1 true) (fun K => K e9 w) w fun j3 w =>
   Gd (eS j1 true) (fun K => aD pg (fB 22 9 j3) w K) w fun j4 w =>
   Gd (eS j1 true) (fun K => K cP w) w fun j5 w =>
   Gd (eS j1 true) (fun K => aD pg (fB 22 9 j5) w K) w fun j6 w =>
   Gd (eS j1 true) (fun K => aD pg (aG .eql 9 (.tmp 64) (.tmp 66) j4 j6) w K) w fun j7 w =>
   aD pg (fH j1 j7 (.bool false)) w fun j8 w =>
   Gd (eS j8 true) (fun K => K f1 w) w fun l0 w =>
   Gd (eS j8 true) (fun K => K e2 w) w fun l1 w =>
   Gd (eS j8 true) (fun K => aD pg (gD .len #[22] 3 [l1]) w K) w fun l2 w =>
   Gd (eS j8 true) (fun K => aD pg (aG .eql 3 (.tmp 70) (.tmp 72) l0 l2) w K) w fun l3 w =>
   aD pg (fH j8 l3 (.bool false)) w fun l4 w =>
   Gd (eS l4 true) (fun K => K i5 w) w fun l6 w =>
   Gd (eS l4 true) (fun K => aD pg (aG .eql 25 (.tmp 76) (.const (anW 10)) l6 (anW 10)) w K) w fun l7 w =>
   aD pg (fH l4 l7 (.bool false)) w fun l8 w =>
   Gd (eS l8 true) (fun K => K i2 w) w fun m0 w =>
   Gd (eS l8 true) (fun K => aD pg (gD .len #[22] 3 [m0]) w K) w fun m1 w =>
   Gd (eS l8 true) (fun K => aD pg (aG .eql 3 (.tmp 81) (.const (anW 0)) m1 (anW 0)) w K) w fun m2 w =>
   aD pg (fH l8 m2 (.bool false)) w fun m3 w =>
   R m3 w))
theorem EB (R : K1) (hr : HR xS R Q) (h : nT R (g 0) (g 1) (g 2) w) : bA pg uX uI Q g w :=
 dQ (kn := no) (l := []) h eZ hr trivial
def Ca (a0 a1 a2 : anV) (w : anU) (R : K1) : Prop :=
 nT R a0 a1 a2 w
theorem Fa {a0 a1 a2 : anV} {w : anU} {R : K1} (h : Ca a0 a1 a2 w R) : aP pg pE #[a0, a1, a2] w R := by
 refine uS (ann := uX) Try.f3 uI [a0, a1, a2] xS 84 TryM.mixed Try.func3 ?_
 exact (EB _ _ _ R (fun _ _ h => h) h)
def It : FA := ⟨BN, fun i => .leaf ([], []) []⟩
def JI : List ResultVar := [.tmp 0]
noncomputable def GS : Code := bT Try.f4
def D6 (R : K1)  (w : anU) : Prop :=
 aD pg (cD 22 2 [(0, (.int .u8 1)), (1, (.int .u8 2))]) w fun c2 w =>
 aP pg sK #[c2] w fun c3 w =>
 aD pg (bF c3 0) w fun c4 w =>
 aD pg (bF c3 1) w fun c5 w =>
 aP pg vL #[(.int .u8 7), (anW 3)] w fun c7 w =>
 aD pg (bF c7 0) w fun c8 w =>
 aD pg (bF c7 1) w fun c9 w =>
 aD pg (cD 22 4 [(0, (.int .u8 0)), (1, (.int .u8 1)), (2, (.int .u8 2)), (3, (.int .u8 0))]) w fun d1 w =>
 aD pg (cD 22 3 [(0, (.int .u8 2)), (1, (.int .u8 1)), (2, (.int .u8 1))]) w fun d2 w =>
 aP pg rT #[d1, d2, (.bool true)] w fun d3 w =>
 aD pg (bF d3 0) w fun d4 w =>
 aD pg (bF d3 1) w fun d5 w =>
 aP pg lP #[d4, (.slice none 0 0)] w fun d8 w =>
 aD pg (bF d8 0) w fun d9 w =>
 aD pg (bF d8 1) w fun e0 w =>
 aD pg (bF d8 2) w fun e1 w =>
 aD pg (bF d8 3) w fun e2 w =>
 aD pg (fB 22 9 c4) w fun e4 w =>
 aD pg (aG .eql 9 (.tmp 34) (.const (.string ⟨#[16, 1, 2]⟩)) e4 (.string ⟨#[16, 1, 2]⟩)) w fun e5 w =>
 Gd (eS e5 true) (fun K => K c5 w) w fun e7 w =>
 Gd (eS e5 true) (fun K => aD pg (aG .eql 25 (.tmp 37) (.const (anW 0)) e7 (anW 0)) w K) w fun e8 w =>
 aD pg (fH e5 e8 (.bool false)) w fun e9 w =>
 Gd (eS e9 true) (fun K => K c8 w) w fun f1 w =>
 Gd (eS e9 true) (fun K => aD pg (fB 22 9 f1) w K) w fun f2 w =>
 Gd (eS e9 true) (fun K => aD pg (aG .eql 9 (.tmp 42) (.const (.string ⟨#[25, 7]⟩)) f2 (.string ⟨#[25, 7]⟩)) w K) w fun f3 w =>
 aD pg (fH e9 f3 (.bool false)) w fun f4 w =>
 Gd (eS f4 true) (fun K => K c9 w) w fun f6 w =>
 Gd (eS f4 true) (fun K => aD pg (aG .eql 25 (.tmp 46) (.const (anW 0)) f6 (anW 0)) w K) w fun f7 w =>
 aD pg (fH f4 f7 (.bool false)) w fun f8 w =>
 Gd (eS f8 true) (fun K => K d5 w) w fun i0 w =>
 Gd (eS f8 true) (fun K => aD pg (aG .eql 25 (.tmp 50) (.const (anW 0)) i0 (anW 0)) w K) w fun i1 w =>
 aD pg (fH f8 i1 (.bool false)) w fun i2 w =>
 Gd (eS i2 true) (fun K => K e2 w) w fun i4 w =>
 Gd (eS i2 true) (fun K => aD pg (aG .eql 25 (.tmp 54) (.const (anW 0)) i4 (anW 0)) w K) w fun i5 w =>
 aD pg (fH i2 i5 (.bool false)) w fun i6 w =>
 Gd (eS i6 true) (fun K => K d9 w) w fun i8 w =>
 Gd (eS i6 true) (fun K => aD pg (fB 22 9 i8) w K) w fun i9 w =>
 Gd (eS i6 true) (fun K => aD pg (aG .eql 9 (.tmp 59) (.const (.string ⟨#[0, 1, 2, 0]⟩)) i9 (.string ⟨#[0, 1, 2, 0]⟩)) w K) w fun j0 w =>
 aD pg (fH i6 j0 (.bool false)) w fun j1 w =>
 Gd (eS j1 true) (fun K => K e0 w) w fun j3 w =>
 Gd (eS j1 true) (fun K => aD pg (fB 22 9 j3) w K) w fun j4 w =>
 Gd (eS j1 true) (fun K => aD pg (aG .eql 9 (.tmp 64) (.const (.string ⟨#[2, 1, 1]⟩)) j4 (.string ⟨#[2, 1, 1]⟩)) w K) w fun j5 w =>
 aD pg (fH j1 j5 (.bool false)) w fun j6 w =>
 Gd (eS j6 true) (fun K => K e1 w) w fun j8 w =>
 Gd (eS j6 true) (fun K => K d4 w) w fun j9 w =>
 Gd (eS j6 true) (fun K => aD pg (gD .len #[22] 3 [j9]) w K) w fun l0 w =>
 Gd (eS j6 true) (fun K => aD pg (aG .eql 3 (.tmp 68) (.tmp 70) j8 l0) w K) w fun l1 w =>
 aD pg (fH j6 l1 (.bool false)) w fun l2 w =>
 R l2 w
theorem Oz (R : K1) (hr : HR JI R Q) (h : D6 R w) : bA pg It GS Q g w :=
 dQ (kn := no) (l := []) h eZ hr trivial
def Q0 (w : anU) (R : K1) : Prop :=
 D6 R w
theorem Qi {w : anU} {R : K1} (h : Q0 w R) : aP pg BN #[] w R := by
 refine uS (ann := It) Try.f4 GS [] JI 73 TryM.mixed Try.func4 ?_
 exact (Oz _ _ _ R (fun _ _ h => h) h)
def Ho : FA := ⟨sK, fun i => .leaf ([], []) []⟩
def IL : List ResultVar := [.tmp 2, .tmp 3]
noncomputable def FF : Code := bT Try.f5
def CB (R : K1) (eK : anV) (w : anU) : Prop :=
 aD pg (gD .len #[22] 3 [eK]) w fun b5 w =>
 aD pg (aG .gtr 3 aK aK b5 (anW 131072)) w fun b6 w =>
 eY b6
  (R (.tuple #[(.slice none 0 0), (anW 1)]) w)
  (aD pg (gD .len #[22] 3 [eK]) w fun b8 w =>
  aP pg nS #[(anW 0), b8] w fun b9 w =>
  aD pg (gD .append #[22, 22] 22 [b9, eK]) w fun c1 w =>
  R (.tuple #[c1, (anW 0)]) w)
theorem Nd (R : K1) (hr : HR IL R Q) (h : CB R (g 0) w) : bA pg Ho FF Q g w :=
 dQ (kn := no) (l := []) h eZ hr trivial
def Pw (a0 : anV) (w : anU) (R : K1) : Prop :=
 CB R a0 w
theorem OQ {a0 : anV} {w : anU} {R : K1} (h : Pw a0 w R) : aP pg sK #[a0] w R := by
 refine uS (ann := Ho) Try.f5 FF [a0] IL 12 TryM.mixed Try.func5 ?_
 exact (Nd _ _ _ R (fun _ _ h => h) h)
def fP : FA := ⟨lP, fun i => match Nat.beq i 24 with | true => .leaf ([], []) [(false, []), (false, []), (false, []), (false, []), (false, []), (false, [])] | false => .leaf ([], []) []⟩
def iD : List ResultVar := [.tmp 4, .tmp 5, .tmp 6, .tmp 7]
noncomputable def fF : Code := bT Try.f6
def nV (R : K1) (cP AB dT rY : anV) (w : anU) : Prop :=
 aD pg (aL 35 AB) w fun n0 w =>
 aP pg pF #[n0, rY, cP] w fun n3 w =>
 aD pg (bF n3 0) w fun n4 w =>
 aD pg (bF n3 1) w fun n5 w =>
 aD pg (aG .neq 25 (.tmp 96) (.const (anW 0)) n5 (anW 0)) w fun n7 w =>
 eY n7
  (R (.tuple #[(.slice none 0 0), (.slice none 0 0), (anW 0), n5]) w)
  (aP pg cI #[rY] w fun o1 w =>
  R (.tuple #[n4, o1, dT, (anW 0)]) w)
theorem L8 (R : K1) (hr : HR iD R Q) (h : nV R (g 0) (g 8) (g 10) (g 11) w) : bA pg fP (aB 1 (aB 4 (aB 5 fF))) Q g w :=
 dQ (kn := no) (l := []) h eZ hr trivial
def nY (k1 : K4) (R : K1) (cP AB dT rY : anV) (w : anU) : Prop :=
 aD pg (gD .len #[22] 3 [rY]) w fun m7 w =>
 aD pg (aG .eql 3 (.tmp 87) (.const (anW 0)) m7 (anW 0)) w fun m8 w =>
 eY m8
  (R (.tuple #[(.slice none 0 0), (.slice none 0 0), (anW 0), (anW 11)]) w)
  (k1 cP AB dT rY w)
theorem LY (k1 : K4) (R : K1) (h1 : E4 Q k1 1 0 8 10 11) (hr : HR iD R Q) (h : nY k1 R (g 0) (g 8) (g 10) (g 11) w) : bA pg fP (aB 1 (bI (aB 1 (aI 1 (aB 4 (aB 5 fF)))))) Q g w :=
 dQ (kn := no) (l := [(1, fun g w => k1 (g 0) (g 8) (g 10) (g 11) w)]) h eZ hr ⟨h1, trivial⟩
def BA (kn : K4) (R : K1) (cP jR AB dT rY i4 : anV) (w : anU) : Prop :=
 aD pg (aG .eql 3 (.tmp 54) (.const (anW 0)) i4 (anW 0)) w fun i6 w =>
 eY i6
  (aP pg cI #[cP] w fun j2 w =>
  aP pg cI #[jR] w fun j4 w =>
  R (.tuple #[j2, j4, dT, (anW 0)]) w)
  (aD pg (aG .eql 3 (.tmp 54) (.const (anW 1)) i4 (anW 1)) w fun i8 w =>
  eY i8
   (aD pg (aJ 35 AB 3) w fun j7 w =>
   aD pg (aL 3 j7) w fun j8 w =>
   aP pg lZ #[cP, j8] w fun j9 w =>
   aP pg cI #[jR] w fun l1 w =>
   R (.tuple #[j9, l1, dT, (anW 0)]) w)
   (aD pg (aG .eql 3 (.tmp 54) (.const (anW 2)) i4 (anW 2)) w fun j0 w =>
   eY j0
    (aP pg sX #[cP] w fun l5 w =>
    aD pg (bF l5 0) w fun l6 w =>
    aD pg (bF l5 1) w fun l7 w =>
    aD pg (bF l5 2) w fun l8 w =>
    aD pg (aG .neq 25 (.tmp 79) (.const (anW 0)) l8 (anW 0)) w fun m0 w =>
    eY m0
     (R (.tuple #[(.slice none 0 0), (.slice none 0 0), (anW 0), l8]) w)
     ((dr w) = (dr w) /\
     (dr w) = (dr w) /\
     (dr w) = (dr w) /\
     aD pg (lO 22 cP (some l7) none none) (dr w) fun m5 w_ => w_ = (dr w) /\
     (dr w) = (dr w) /\
     (dr w) = (dr w) /\
     kn m5 AB dT l6 (dr w)))
    (kn cP AB dT rY w)))
theorem L2 (kn : K4) (R : K1) (hn : N4 Q kn 0 8 10 11) (hr : HR iD R Q) (h : BA kn R (g 0) (g 1) (g 8) (g 10) (g 11) (g 54) w) : bA pg fP (aI 1 (bI (aB 1 (aI 1 (aB 4 (aB 5 fF)))))) Q g w :=
 dQ (l := []) h hn hr trivial
def GI (k1 : K4) (R : K1) (cP jR AB dT rY i4 : anV) (w : anU) : Prop :=
 BA (fun cP AB dT rY w => nY k1 R cP AB dT rY w) R cP jR AB dT rY i4 w
def Bo (kn : K4) (R : K1) (cP jR AB dT rY i4 : anV) (w : anU) : Prop :=
 GI kn R cP jR AB dT rY i4 w
def Bn (kn : K6) (cP jR AB dT rY : anV) (w : anU) : Prop :=
 aD pg (aJ 35 AB 0) w fun i3 w =>
 aD pg (aL 3 i3) w fun i4 w =>
 kn cP jR AB dT rY i4 w
theorem Mk (kn : K6) (hn : N6 Q kn 0 1 8 10 11 54) (h : Bn kn (g 0) (g 1) (g 8) (g 10) (g 11) w) : bA pg fP (aI 1 (aI 1 (aB 4 (aB 5 fF)))) Q g w :=
 dQ (kr := no) (l := []) h hn eZ trivial
def Bc (kn : K4) (R : K1) (cP jR AB dT rY : anV) (w : anU) : Prop :=
 Bn (fun cP jR AB dT rY i4 w => Bo kn R cP jR AB dT rY i4 w) cP jR AB dT rY w
def tT (R : K1) (cP jR AB dT rY : anV) (w : anU) : Prop :=
 Bc (fun cP AB dT rY w => nV R cP AB dT rY w) R cP jR AB dT rY w
theorem LP (kn : K4) (R : K1) (hn : N4 Q kn 0 8 10 11) (hr : HR iD R Q) (h : Bc kn R (g 0) (g 1) (g 8) (g 10) (g 11) w) : bA pg fP (aI 1 (aB 4 (aB 5 fF))) Q g w :=
 gY 1 (Mk _ g w (Bo kn R) (fun g w h => aM (FP 1 (gY 1 (L2 _ g w (nY kn R) R (fun g w h => aM (LY _ g w kn R hn hr h)) hr h)))) h)
def Bm (kn : K5) (R : K1) (cP jR AB : anV) (w : anU) : Prop :=
 aD pg (gD .len #[22] 3 [cP]) w fun e9 w =>
 aD pg (aJ 35 AB 4) w fun f0 w =>
 aD pg (aL 3 f0) w fun f1 w =>
 aD pg (aG .lss 3 aK aK e9 f1) w fun f2 w =>
 eY f2
  (R (.tuple #[(.slice none 0 0), (.slice none 0 0), (anW 0), (anW 10)]) w)
  (aD pg (aJ 35 AB 4) w fun f4 w =>
  aD pg (aL 3 f4) w fun f5 w =>
  aD pg (lO 22 cP none (some f5) none) w fun f6 w =>
  aD pg (aJ 35 AB 2) w fun f7 w =>
  aD pg (aL 3 f7) w fun f8 w =>
  aD pg (aJ 35 AB 4) w fun f9 w =>
  aD pg (aL 3 f9) w fun i0 w =>
  aD pg (aG .add 3 aK aK f8 i0) w fun i1 w =>
  kn f6 jR AB i1 jR w)
theorem Lx (kn : K5) (R : K1) (hn : N5 Q kn 0 1 8 10 11) (hr : HR iD R Q) (h : Bm kn R (g 0) (g 1) (g 8) w) : bA pg fP (aI 4 (aB 5 fF)) Q g w :=
 dQ (l := []) h hn hr trivial
def rB (R : K1) (cP jR AB : anV) (w : anU) : Prop :=
 Bm (fun cP jR AB dT rY w => tT R cP jR AB dT rY w) R cP jR AB w
def Aw (kn : K3) (R : K1) (cP jR : anV) (w : anU) : Prop :=
 aP pg rN #[cP] w fun c8 w =>
 aD pg (bF c8 0) w fun c9 w =>
 aD pg (bF c8 1) w fun d0 w =>
 aD pg (eM 35) w fun AB w =>
 aD pg (bB 35 AB c9) w fun _u w =>
 aD pg (aG .neq 25 (.tmp 21) (.const (anW 0)) d0 (anW 0)) w fun d2 w =>
 eY d2
  (R (.tuple #[(.slice none 0 0), (.slice none 0 0), (anW 0), d0]) w)
  (aD pg (aJ 35 AB 2) w fun d5 w =>
  aD pg (aL 3 d5) w fun d6 w =>
  aD pg (lO 22 cP (some d6) none none) w fun d7 w =>
  aD pg (aJ 35 AB 0) w fun d8 w =>
  aD pg (aL 3 d8) w fun d9 w =>
  aD pg (aG .eql 3 (.tmp 29) (.const (anW 0)) d9 (anW 0)) w fun e1 w =>
  eY e1
   (aD pg (aJ 35 AB 3) w fun e2 w =>
   aD pg (aL 3 e2) w fun e3 w =>
   aD pg (aJ 35 AB 4) w fun e4 w =>
   aD pg (bB 3 e4 e3) w fun _u w =>
   kn d7 jR AB w)
   (aD pg (aG .eql 3 (.tmp 29) (.const (anW 1)) d9 (anW 1)) w fun e6 w =>
   eY e6
    (aD pg (aJ 35 AB 4) w fun e7 w =>
    aD pg (bB 3 e7 (anW 1)) w fun _u w =>
    kn d7 jR AB w)
    (kn d7 jR AB w)))
theorem Kg (kn : K3) (R : K1) (hn : N3 Q kn 0 1 8) (hr : HR iD R Q) (h : Aw kn R (g 0) (g 1) w) : bA pg fP (aI 5 fF) Q g w :=
 dQ (l := []) h hn hr trivial
def Av (R : K1) (cP jR : anV) (w : anU) : Prop :=
 Aw (fun cP jR AB w => rB R cP jR AB w) R cP jR w
theorem J1 (R : K1) (hr : HR iD R Q) (h : Av R (g 0) (g 1) w) : bA pg fP fF Q g w :=
 gY 5 (Kg _ g w (rB R) R (fun g w h => aM (gY 4 (Lx _ g w (tT R) R (fun g w h => aM (gY 1 (LP _ g w (nV R) R (fun g w h => aM (L8 _ g w R hr h)) hr h))) hr h))) hr h)
def MJ (a0 a1 : anV) (w : anU) (R : K1) : Prop :=
 Av R a0 a1 w
theorem Ny {a0 a1 : anV} {w : anU} {R : K1} (h : MJ a0 a1 w R) : aP pg lP #[a0, a1] w R := by
 refine uS (ann := fP) Try.f6 fF [a0, a1] iD 103 TryM.mixed Try.func6 ?_
 exact (J1 _ _ _ R (fun _ _ h => h) h)
def Fe : FA := ⟨vL, fun i => .leaf ([], []) []⟩
def GY : List ResultVar := [.tmp 4, .tmp 5]
noncomputable def DR : Code := bT Try.f7
def A4 (R : K1) (WO wD : anV) (w : anU) : Prop :=
 aD pg (aG .lss 3 aK aK wD (anW 0)) w fun b7 w =>
 Gd (eS b7 false) (fun K => K wD w) w fun b9 w =>
 Gd (eS b7 false) (fun K => aD pg (aG .gtr 3 aK aK b9 (anW 131072)) w K) w fun c0 w =>
 aD pg (fH b7 (.bool true) c0) w fun c1 w =>
 eY c1
  (R (.tuple #[(.slice none 0 0), (anW 1)]) w)
  (aP pg nS #[(anW 1), wD] w fun c3 w =>
  aD pg (cD 22 1 [(0, WO)]) w fun c5 w =>
  aD pg (gD .append #[22, 22] 22 [c3, c5]) w fun c6 w =>
  R (.tuple #[c6, (anW 0)]) w)
theorem Lv (R : K1) (hr : HR GY R Q) (h : A4 R (g 0) (g 1) w) : bA pg Fe DR Q g w :=
 dQ (kn := no) (l := []) h eZ hr trivial
def MK (a0 a1 : anV) (w : anU) (R : K1) : Prop :=
 A4 R a0 a1 w
theorem M5 {a0 a1 : anV} {w : anU} {R : K1} (h : MK a0 a1 w R) : aP pg vL #[a0, a1] w R := by
 refine uS (ann := Fe) Try.f7 DR [a0, a1] GY 17 TryM.mixed Try.func7 ?_
 exact (Lv _ _ _ R (fun _ _ h => h) h)
def kF : FA := ⟨rT, fun i => .leaf ([], []) []⟩
def kQ : List ResultVar := [.tmp 6, .tmp 7]
noncomputable def jN : Code := bT Try.f8
def jJ (R : K1) (dO uN Xn OA Ol O3 : anV) (w : anU) : Prop :=
 aP pg jE #[] w fun l5 w =>
 aD pg (aG .shl 3 aK aK OA (.int .u64 2)) w fun l9 w =>
 aD pg (aG .or 3 aK aK uN l9) w fun m0 w =>
 aD pg (gD .len #[22] 3 [dO]) w fun m2 w =>
 aD pg (aG .shl 3 aK aK m2 (.int .u64 4)) w fun m3 w =>
 aD pg (aG .or 3 aK aK m0 m3) w fun m4 w =>
 aD pg (fB 3 47 m4) w fun m5 w =>
 aD pg (gD .len #[22] 3 [Xn]) w fun m7 w =>
 aD pg (fB 3 47 m7) w fun m8 w =>
 aD pg (aG .add 3 aK aK (anW 4) Ol) w fun n0 w =>
 aD pg (aG .shl 47 aK aK m8 n0) w fun n1 w =>
 aD pg (aG .or 47 aK aK m5 n1) w fun n2 w =>
 aP pg dJ #[l5, n2, O3] w fun n4 w =>
 aP pg jA #[l5, Xn] w fun n7 w =>
 aP pg iP #[l5] w fun n9 w =>
 R (.tuple #[n9, (anW 0)]) w
theorem IN (R : K1) (hr : HR kQ R Q) (h : jJ R (g 0) (g 8) (g 9) (g 14) (g 15) (g 16) w) : bA pg kF (aB 6 (aB 5 jN)) Q g w :=
 dQ (kn := no) (l := []) h eZ hr trivial
def wS (kn : K6) (R : K1) (dO NM uN Xn : anV) (w : anU) : Prop :=
 aP pg mW #[NM, dO] w fun f0 w =>
 aD pg (bF f0 0) w fun f1 w =>
 aD pg (bF f0 1) w fun f2 w =>
 aD pg (aG .neq 25 (.tmp 43) (.const (anW 0)) f2 (anW 0)) w fun f4 w =>
 eY f4
  (R (.tuple #[(.slice none 0 0), f2]) w)
  (aD pg (gD .append #[22, 22] 22 [Xn, f1]) w fun f8 w =>
  aD pg (gD .len #[22] 3 [f8]) w fun i0 w =>
  aD pg (aG .geq 3 aK aK i0 (anW 262144)) w fun i1 w =>
  eY i1
   (R (.tuple #[(.slice none 0 0), (anW 1)]) w)
   (aD pg (gD .len #[22] 3 [dO]) w fun i3 w =>
   aD pg (gD .len #[22] 3 [f8]) w fun i5 w =>
   aD pg (gD .max #[3, 3] 3 [i3, i5]) w fun i6 w =>
   aD pg (gD .len #[22] 3 [dO]) w fun i9 w =>
   aD pg (aG .lss 3 aK aK i9 (anW 256)) w fun j0 w =>
   Gd (eS j0 true) (fun K => K i6 w) w fun j2 w =>
   Gd (eS j0 true) (fun K => aD pg (aG .lss 3 aK aK j2 (anW 1024)) w K) w fun j3 w =>
   aD pg (fH j0 j3 (.bool false)) w fun j4 w =>
   eY j4
    (kn dO uN f8 (anW 0) (anW 10) (anW 3) w)
    (aD pg (gD .len #[22] 3 [dO]) w fun j7 w =>
    aD pg (aG .lss 3 aK aK j7 (anW 256)) w fun j8 w =>
    eY j8
     (R (.tuple #[(.slice none 0 0), (anW 1)]) w)
     (aD pg (aG .lss 3 aK aK i6 (anW 1024)) w fun l1 w =>
     eY l1
      (kn dO uN f8 (anW 1) (anW 10) (anW 3) w)
      (aD pg (aG .lss 3 aK aK i6 (anW 16384)) w fun l4 w =>
      eY l4
       (kn dO uN f8 (anW 2) (anW 14) (anW 4) w)
       (kn dO uN f8 (anW 3) (anW 18) (anW 5) w))))))
theorem I2 (kn : K6) (R : K1) (hn : N6 Q kn 0 8 9 14 15 16) (hr : HR kQ R Q) (h : wS kn R (g 0) (g 1) (g 8) (g 9) w) : bA pg kF (aI 6 (aB 5 jN)) Q g w :=
 dQ (l := []) h hn hr trivial
def oZ (R : K1) (dO NM uN Xn : anV) (w : anU) : Prop :=
 wS (fun dO uN Xn OA Ol O3 w => jJ R dO uN Xn OA Ol O3 w) R dO NM uN Xn w
def xJ (kn : K4) (R : K1) (dO NM T9 : anV) (w : anU) : Prop :=
 aD pg (gD .len #[22] 3 [dO]) w fun d0 w =>
 aD pg (aG .eql 3 (.tmp 20) (.const (anW 0)) d0 (anW 0)) w fun d1 w =>
 Gd (eS d1 false) (fun K => K dO w) w fun d3 w =>
 Gd (eS d1 false) (fun K => aD pg (gD .len #[22] 3 [d3]) w K) w fun d4 w =>
 Gd (eS d1 false) (fun K => aD pg (aG .gtr 3 aK aK d4 (anW 131072)) w K) w fun d5 w =>
 aD pg (fH d1 (.bool true) d5) w fun d6 w =>
 eY d6
  (R (.tuple #[(.slice none 0 0), (anW 1)]) w)
  (eY T9
   (aP pg pW #[NM] w fun e0 w =>
   aD pg (bF e0 0) w fun e1 w =>
   aD pg (bF e0 1) w fun e2 w =>
   aD pg (aG .neq 25 (.tmp 33) (.const (anW 0)) e2 (anW 0)) w fun e4 w =>
   eY e4
    (R (.tuple #[(.slice none 0 0), e2]) w)
    (kn dO NM (anW 2) e1 w))
   (kn dO NM (anW 3) (.slice none 0 0) w))
theorem Jt (kn : K4) (R : K1) (hn : N4 Q kn 0 1 8 9) (hr : HR kQ R Q) (h : xJ kn R (g 0) (g 1) (g 2) w) : bA pg kF (aI 5 jN) Q g w :=
 dQ (l := []) h hn hr trivial
def wZ (R : K1) (dO NM T9 : anV) (w : anU) : Prop :=
 xJ (fun dO NM uN Xn w => oZ R dO NM uN Xn w) R dO NM T9 w
theorem Jg (R : K1) (hr : HR kQ R Q) (h : wZ R (g 0) (g 1) (g 2) w) : bA pg kF jN Q g w :=
 gY 5 (Jt _ g w (oZ R) R (fun g w h => aM (gY 6 (I2 _ g w (jJ R) R (fun g w h => aM (IN _ g w R hr h)) hr h))) hr h)
def Iu (a0 a1 a2 : anV) (w : anU) (R : K1) : Prop :=
 wZ R a0 a1 a2 w
theorem J7 {a0 a1 a2 : anV} {w : anU} {R : K1} (h : Iu a0 a1 a2 w R) : aP pg rT #[a0, a1, a2] w R := by
 refine uS (ann := kF) Try.f8 jN [a0, a1, a2] kQ 100 TryM.mixed Try.func8 ?_
 exact (Jg _ _ _ R (fun _ _ h => h) h)
def pB : FA := ⟨nS, fun i => .leaf ([], []) []⟩
def Ak : List ResultVar := [.tmp 4]
noncomputable def mY : Code := bT Try.f9
def mE (R : K1) (w_5 : anV) (w : anU) : Prop :=
 aP pg iP #[w_5] w fun e7 w =>
 R e7 w
theorem KH (R : K1) (hr : HR Ak R Q) (h : mE R (g 5) w) : bA pg pB (aB 3 mY) Q g w :=
 dQ (kn := no) (l := []) h eZ hr trivial
def zA (kn : K1) (SK wD : anV) (w : anU) : Prop :=
 aP pg jE #[] w fun b6 w =>
 aD pg (aG .lss 3 aK aK wD (anW 32)) w fun c7 w =>
 eY c7
  (aD pg (aG .shl 3 aK aK wD (.int .u64 3)) w fun d0 w =>
  aD pg (aG .or 3 aK aK d0 SK) w fun d2 w =>
  aD pg (fB 3 47 d2) w fun d3 w =>
  aP pg dJ #[b6, d3, (anW 1)] w fun d4 w =>
  kn b6 w)
  (aD pg (aG .lss 3 aK aK wD (anW 4096)) w fun d7 w =>
  eY d7
   (aD pg (aG .shl 3 aK aK wD (.int .u64 4)) w fun e0 w =>
   aD pg (aG .or 3 aK aK e0 (anW 4)) w fun e1 w =>
   aD pg (aG .or 3 aK aK e1 SK) w fun e3 w =>
   aD pg (fB 3 47 e3) w fun e4 w =>
   aP pg dJ #[b6, e4, (anW 2)] w fun e5 w =>
   kn b6 w)
   (aD pg (aG .shl 3 aK aK wD (.int .u64 4)) w fun b9 w =>
   aD pg (aG .or 3 aK aK b9 (anW 12)) w fun c0 w =>
   aD pg (aG .or 3 aK aK c0 SK) w fun c2 w =>
   aD pg (fB 3 47 c2) w fun c3 w =>
   aP pg dJ #[b6, c3, (anW 3)] w fun c4 w =>
   kn b6 w))
theorem JD (kn : K1) (hn : N1 Q kn 5) (h : zA kn (g 0) (g 1) w) : bA pg pB (aI 3 mY) Q g w :=
 dQ (kr := no) (l := []) h hn eZ trivial
def yI (R : K1) (SK wD : anV) (w : anU) : Prop :=
 zA (fun w_5 w => mE R w_5 w) SK wD w
theorem Kn (R : K1) (hr : HR Ak R Q) (h : yI R (g 0) (g 1) w) : bA pg pB mY Q g w :=
 gY 3 (JD _ g w (mE R) (fun g w h => aM (KH _ g w R hr h)) h)
def J0 (a0 a1 : anV) (w : anU) (R : K1) : Prop :=
 yI R a0 a1 w
theorem LU {a0 a1 : anV} {w : anU} {R : K1} (h : J0 a0 a1 w R) : aP pg nS #[a0, a1] w R := by
 refine uS (ann := pB) Try.f9 mY [a0, a1] Ak 38 TryM.mixed Try.func9 ?_
 exact (Kn _ _ _ R (fun _ _ h => h) h)
def fM : FA := ⟨rN, fun i => match Nat.beq i 3 with | true => .leaf ([12, 13], [(1, 12), (2, 12), (3, 12), (4, 12), (6, 12), (7, 12), (8, 12), (9, 12), (10, 12), (11, 12)]) [(false, []), (false, []), (false, []), (false, []), (false, []), (false, []), (false, []), (false, []), (false, []), (false, []), (false, []), (false, []), (true, [0, 1, 2, 3, 4, 5, 7, 8, 9, 10]), (true, [])] | false => .leaf ([], []) []⟩
def pL : List ResultVar := [.cell 2 35, .tmp 3]
noncomputable def fE : Code := bT Try.f10
def gZ (R : K1) (cP b2 C5 gA fR : anV) (w : anU) : Prop :=
 aP pg kV #[cP] w fun f8 w =>
 aD pg (aJ 35 C5 2) w fun i0 w =>
 aD pg (aL 3 i0) w fun i1 w =>
 aP pg iH #[f8, i1] w fun i2 w =>
 aD pg (aG .shr 47 aK aK i2 gA) w fun i4 w =>
 aP pg iO #[f8] w fun i6 w =>
 aD pg (aG .neq 25 (.tmp 56) (.const (anW 0)) i6 (anW 0)) w fun i7 w =>
 eY i7
  (aD pg (dG 35 []) w fun i8 w =>
  aP pg iO #[f8] w fun j0 w =>
  aD pg (bB 35 b2 i8) w fun _u w =>
  Mz pg 35 b2 w fun r0 => R (.tuple #[r0, j0]) w)
  (aD pg (aG .shl 47 aK aK (.int .u64 1) fR) w fun j3 w =>
  aD pg (aG .sub 47 aK aK j3 (.int .u64 1)) w fun j4 w =>
  aD pg (aG .and 47 aK aK i4 j4) w fun j5 w =>
  aD pg (fB 47 3 j5) w fun j6 w =>
  aD pg (aJ 35 C5 3) w fun j7 w =>
  aD pg (bB 3 j7 j6) w fun _u w =>
  aD pg (aG .shr 47 aK aK i4 fR) w fun l0 w =>
  aD pg (fB 47 3 l0) w fun l1 w =>
  aD pg (aJ 35 C5 4) w fun l2 w =>
  aD pg (bB 3 l2 l1) w fun _u w =>
  aD pg (aJ 35 C5 3) w fun l3 w =>
  aD pg (aL 3 l3) w fun l4 w =>
  aD pg (aG .gtr 3 aK aK l4 (anW 131072)) w fun l5 w =>
  eY l5
   (aD pg (dG 35 []) w fun l6 w =>
   aD pg (bB 35 b2 l6) w fun _u w =>
   Mz pg 35 b2 w fun r0 => R (.tuple #[r0, (anW 12)]) w)
   (aD pg (aL 35 C5) w fun l7 w =>
   aD pg (bB 35 b2 l7) w fun _u w =>
   Mz pg 35 b2 w fun r0 => R (.tuple #[r0, (anW 0)]) w))
theorem Js (R : K1) (hr : HR pL R Q) (h : gZ R (g 0) (g 2) (g 4) (g 5) (g 6) w) : bA pg fM (aB 1 (aB 4 fE)) Q g w :=
 dQ (kn := no) (l := []) h eZ hr trivial
def dC (kn : K5) (cP b2 C5 gA fR e6 : anV) (w : anU) : Prop :=
 eY e6
  (aD pg (dG 51 [(0, (anW 1)), (1, (anW 2)), (2, (anW 1)), (3, (anW 3))]) w fun e9 w =>
  aD pg (aJ 35 C5 1) w fun f0 w =>
  aD pg (aL 3 f0) w fun f1 w =>
  aD pg (L1 51 e9 f1) w fun f2 w =>
  aD pg (aJ 35 C5 2) w fun f3 w =>
  aD pg (bB 3 f3 f2) w fun _u w =>
  aD pg (aJ 35 C5 2) w fun f4 w =>
  aD pg (aL 3 f4) w fun f5 w =>
  aD pg (aG .eql 3 (.tmp 45) (.const (anW 1)) f5 (anW 1)) w fun f6 w =>
  eY f6
   (kn cP b2 C5 (anW 3) fR w)
   (kn cP b2 C5 gA fR w))
  (aD pg (dG 51 [(0, (anW 3)), (1, (anW 3)), (2, (anW 4)), (3, (anW 5))]) w fun d7 w =>
  aD pg (aJ 35 C5 1) w fun d8 w =>
  aD pg (aL 3 d8) w fun d9 w =>
  aD pg (L1 51 d7 d9) w fun e0 w =>
  aD pg (aJ 35 C5 2) w fun e1 w =>
  aD pg (bB 3 e1 e0) w fun _u w =>
  aD pg (dG 51 [(0, (anW 10)), (1, (anW 10)), (2, (anW 14)), (3, (anW 18))]) w fun e2 w =>
  aD pg (aJ 35 C5 1) w fun e3 w =>
  aD pg (aL 3 e3) w fun e4 w =>
  aD pg (L1 51 e2 e4) w fun e5 w =>
  kn cP b2 C5 gA e5 w)
theorem Jr (kn : K5) (hn : N5 Q kn 0 2 4 5 6) (h : dC kn (g 0) (g 2) (g 4) (g 5) (g 6) (g 36) w) : bA pg fM (aB 1 (bI (aB 1 (aI 1 (aB 4 fE))))) Q g w :=
 dQ (kr := no) (l := []) h hn eZ trivial
def wO (kn : K6) (cP b2 C5 gA fR d6 : anV) (w : anU) : Prop :=
 aD pg (aG .eql 3 (.tmp 26) (.const (anW 0)) d6 (anW 0)) w fun e7 w =>
 eY e7
  (kn cP b2 C5 gA fR e7 w)
  (aD pg (aG .eql 3 (.tmp 26) (.const (anW 1)) d6 (anW 1)) w fun e8 w =>
  kn cP b2 C5 gA fR e8 w)
theorem I6 (kn : K6) (hn : N6 Q kn 0 2 4 5 6 36) (h : wO kn (g 0) (g 2) (g 4) (g 5) (g 6) (g 26) w) : bA pg fM (aI 1 (bI (aB 1 (aI 1 (aB 4 fE))))) Q g w :=
 dQ (kr := no) (l := []) h hn eZ trivial
def D4 (kn : K5) (cP b2 C5 gA fR d6 : anV) (w : anU) : Prop :=
 wO (fun cP b2 C5 gA fR e6 w => dC kn cP b2 C5 gA fR e6 w) cP b2 C5 gA fR d6 w
def xH (kn : K5) (cP b2 C5 gA fR d6 : anV) (w : anU) : Prop :=
 D4 kn cP b2 C5 gA fR d6 w
def wB (kn : K6) (cP b2 C5 gA fR : anV) (w : anU) : Prop :=
 aD pg (aJ 35 C5 0) w fun d5 w =>
 aD pg (aL 3 d5) w fun d6 w =>
 kn cP b2 C5 gA fR d6 w
theorem Jb (kn : K6) (hn : N6 Q kn 0 2 4 5 6 26) (h : wB kn (g 0) (g 2) (g 4) (g 5) (g 6) w) : bA pg fM (aI 1 (aI 1 (aB 4 fE))) Q g w :=
 dQ (kr := no) (l := []) h hn eZ trivial
def xG (kn : K5) (cP b2 C5 gA fR : anV) (w : anU) : Prop :=
 wB (fun cP b2 C5 gA fR d6 w => xH kn cP b2 C5 gA fR d6 w) cP b2 C5 gA fR w
def wL (R : K1) (cP b2 C5 gA fR : anV) (w : anU) : Prop :=
 xG (fun cP b2 C5 gA fR w => gZ R cP b2 C5 gA fR w) cP b2 C5 gA fR w
theorem Jq (kn : K5) (hn : N5 Q kn 0 2 4 5 6) (h : xG kn (g 0) (g 2) (g 4) (g 5) (g 6) w) : bA pg fM (aI 1 (aB 4 fE)) Q g w :=
 gY 1 (Jb _ g w (xH kn) (fun g w h => aM (FP 0 (gY 1 (I6 _ g w (dC kn) (fun g w h => aM (Jr _ g w kn hn h)) h)))) h)
def wW (kn : K5) (R : K1) (cP : anV) (w : anU) : Prop :=
 aD pg (eM 35) w fun b2 w =>
 aD pg (gD .len #[22] 3 [cP]) w fun c0 w =>
 aD pg (aG .eql 3 (.tmp 10) (.const (anW 0)) c0 (anW 0)) w fun c1 w =>
 eY c1
  (aD pg (dG 35 []) w fun c2 w =>
  aD pg (bB 35 b2 c2) w fun _u w =>
  Mz pg 35 b2 w fun r0 => R (.tuple #[r0, (anW 10)]) w)
  ((dr w) = (dr w) /\
  aD pg (bK 22 cP (anW 0)) (dr w) fun c4 w_ => w_ = (dr w) /\
  aD pg (aL 5 c4) (dr w) fun c5 w_ => w_ = (dr w) /\
  aD pg (aG .and 5 aK aK c5 (.int .u8 3)) (dr w) fun c6 w_ => w_ = (dr w) /\
  aD pg (fB 5 3 c6) (dr w) fun c7 w_ => w_ = (dr w) /\
  (dr w) = (dr w) /\
  aD pg (bK 22 cP (anW 0)) (dr w) fun c9 w_ => w_ = (dr w) /\
  aD pg (aL 5 c9) (dr w) fun d0 w_ => w_ = (dr w) /\
  aD pg (aG .shr 5 aK aK d0 (.int .u64 2)) (dr w) fun d1 w_ => w_ = (dr w) /\
  aD pg (aG .and 5 aK aK d1 (.int .u8 3)) (dr w) fun d2 w_ => w_ = (dr w) /\
  aD pg (fB 5 3 d2) (dr w) fun d3 w_ => w_ = (dr w) /\
  aD pg (dG 35 [(0, c7), (1, d3)]) (dr w) fun d4 w_ => w_ = (dr w) /\
  aD pg (eM 35) (dr w) fun C5 uE =>
  (eL pg (dG 35 [(0, c7), (1, d3)]) d4 uE /\ eL pg (fB 5 3 d2) d3 uE /\ eL pg (aG .and 5 aK aK d1 (.int .u8 3)) d2 uE /\ eL pg (aG .shr 5 aK aK d0 (.int .u64 2)) d1 uE /\ eL pg (aL 5 c9) d0 uE /\ eL pg (bK 22 cP (anW 0)) c9 uE /\ eL pg (fB 5 3 c6) c7 uE /\ eL pg (aG .and 5 aK aK c5 (.int .u8 3)) c6 uE /\ eL pg (aL 5 c4) c5 uE /\ eL pg (bK 22 cP (anW 0)) c4 uE /\ True) /\
  aD pg (bB 35 C5 d4) uE fun _u13 afR =>
  kn cP b2 C5 (anW 4) (anW 20) afR)
theorem Jk (kn : K5) (R : K1) (hn : N5 Q kn 0 2 4 5 6) (hr : HR pL R Q) (h : wW kn R (g 0) w) : bA pg fM (aI 4 fE) Q g w :=
 dQ (l := []) h hn hr trivial
def uK (R : K1) (cP : anV) (w : anU) : Prop :=
 wW (fun cP b2 C5 gA fR w => wL R cP b2 C5 gA fR w) R cP w
theorem H7 (R : K1) (hr : HR pL R Q) (h : uK R (g 0) w) : bA pg fM fE Q g w :=
 gY 4 (Jk _ g w (wL R) R (fun g w h => aM (gY 1 (Jq _ g w (gZ R) (fun g w h => aM (Js _ g w R hr h)) h))) hr h)
def Iv (a0 : anV) (w : anU) (R : K1) : Prop :=
 uK R a0 w
theorem La {a0 : anV} {w : anU} {R : K1} (h : Iv a0 w R) : aP pg rN #[a0] w R := by
 refine uS (ann := fM) Try.f10 fE [a0] pL 78 TryM.mixed Try.func10 ?_
 exact (H7 _ _ _ R (fun _ _ h => h) h)
def AS : FA := ⟨cI, fun i => .leaf ([], []) []⟩
def Cg : List ResultVar := [.tmp 2]
noncomputable def yK : Code := bT Try.f11
def sF (R : K1) (s_0 : anV) (w : anU) : Prop :=
 aD pg (aG .eql 22 (.tmp 3) (.const (.slice none 0 0)) s_0 (.slice none 0 0)) w fun b4 w =>
 eY b4
  (R (.slice none 0 0) w)
  (aD pg (cD 22 0 []) w fun b5 w =>
  aD pg (gD .append #[22, 22] 22 [b5, s_0]) w fun b7 w =>
  R b7 w)
theorem GX (R : K1) (hr : HR Cg R Q) (h : sF R (g 0) w) : bA pg AS yK Q g w :=
 dQ (kn := no) (l := []) h eZ hr trivial
def FD (a0 : anV) (w : anU) (R : K1) : Prop :=
 sF R a0 w
theorem Ij {a0 : anV} {w : anU} {R : K1} (h : FD a0 w R) : aP pg cI #[a0] w R := by
 refine uS (ann := AS) Try.f11 yK [a0] Cg 8 TryM.mixed Try.func11 ?_
 exact (GX _ _ _ R (fun _ _ h => h) h)
def dI : FA := ⟨lZ, fun i => match Nat.beq i 9 with | true => .leaf ([7], []) [(false, []), (false, []), (false, []), (false, []), (false, []), (false, []), (false, []), (true, []), (false, []), (false, [])] | false => .leaf ([], []) []⟩
def qO : List ResultVar := [.tmp 4]
noncomputable def cZ : Code := bT Try.f12
def lE (R : K1) (eJ : anV) (w : anU) : Prop :=
 R eJ w
theorem Gl (R : K1) (hr : HR qO R Q) (h : lE R (g 7) w) : bA pg dI (aB 1 (aB 2 (aB 2 (aB 2 cZ)))) Q g w :=
 dQ (kn := no) (l := []) h eZ hr trivial
def lJ (kn : K2) (k0 : K1) (eJ Tu : anV) (w : anU) : Prop :=
 aD pg (gD .len #[22] 3 [eJ]) w fun e6 w =>
 aD pg (aG .lss 3 aK aK Tu e6) w fun e7 w =>
 eY e7
  ((dr w) = (dr w) /\
  (dr w) = (dr w) /\
  (dr w) = (dr w) /\
  aD pg (lO 22 eJ (some Tu) none none) (dr w) fun f1 w_ => w_ = (dr w) /\
  (dr w) = (dr w) /\
  (dr w) = (dr w) /\
  aD pg (lO 22 eJ none (some Tu) none) (dr w) fun f4 w_ => w_ = (dr w) /\
  aD pg (gD .copy #[22, 22] 3 [f1, f4]) (dr w) fun f5 Y8 =>
  aD pg (aG .add 3 aK aK Tu f5) Y8 fun f6 w_ => w_ = Y8 /\
  Y8 = Y8 /\
  kn eJ f6 Y8)
  (k0 eJ w)
theorem F2 (kn : K2) (k0 : K1) (hn : N2 Q kn 7 8) (h0 : E1 Q k0 0 7) (h : lJ kn k0 (g 7) (g 8) w) : bA pg dI (bI (bI (aI 1 (aB 2 (aB 2 (aB 2 cZ)))))) Q g w :=
 dQ (kr := no) (l := [(0, fun g w => k0 (g 7) w)]) h hn eZ ⟨h0, trivial⟩
def qT (k0 : K1) (eJ Tu : anV) (w : anU) : Prop :=
 cK (fun (X : anV -> K0) (t : anV) (w : anU) => lJ (fun _ Tu w => X Tu w) k0 eJ t w) Tu w
theorem FT (k0 : K1) (h0 : E1 Q k0 0 7) (h : qT k0 (g 7) (g 8) w) : bA pg dI (bI (aI 1 (aB 2 (aB 2 (aB 2 cZ))))) Q g w := by
 refine NN (fun g : Env => g 8) (fun X t w => lJ (fun _ Tu w => X Tu w) k0 (g 7) t w) h (fun X g1 w1 ha hL => ?_)
 rw [<- jB 7 ha] at hL
 exact (F2 _ g1 w1 (fun _ Tu w => X Tu w) k0 (fun _ _ h => h) h0 hL)
def qJ (kn : K1) (eJ Tu : anV) (w : anU) : Prop :=
 qT kn eJ Tu w
def lC (R : K1) (eJ Tu : anV) (w : anU) : Prop :=
 qJ (fun eJ w => lE R eJ w) eJ Tu w
theorem FL (kn : K1) (hn : N1 Q kn 7) (h : qJ kn (g 7) (g 8) w) : bA pg dI (aI 1 (aB 2 (aB 2 (aB 2 cZ)))) Q g w :=
 FP 0 (FT _ g w kn hn h)
def qL (kn : K2) (kE Wm : anV) (w : anU) : Prop :=
 aD pg (fB 48 3 Wm) w fun d9 w =>
 aD pg (iA 22 d9 d9) w fun e0 w =>
 aD pg (gD .copy #[22, 22] 3 [e0, kE]) w fun e3 w =>
 kn e0 e3 w
theorem F1 (kn : K2) (hn : N2 Q kn 7 8) (h : qL kn (g 0) (g 6) w) : bA pg dI (aI 2 (aB 2 (aB 2 cZ))) Q g w :=
 dQ (kr := no) (l := []) h hn eZ trivial
def qM (R : K1) (kE Wm : anV) (w : anU) : Prop :=
 qL (fun eJ Tu w => lC R eJ Tu w) kE Wm w
def qS (kn : K2) (kE tY : anV) (w : anU) : Prop :=
 aD pg (gD .len #[22] 3 [kE]) w fun c4 w =>
 aD pg (fB 3 48 c4) w fun c5 w =>
 aD pg (fB 3 48 tY) w fun c7 w =>
 aP pg vJ #[c5, c7] w fun c8 w =>
 aD pg (bF c8 0) w fun c9 w =>
 aD pg (bF c8 1) w fun d0 w =>
 aD pg (aG .gtr 48 aK aK c9 (.int .u64 0)) w fun d2 w =>
 Gd (eS d2 false) (fun K => K d0 w) w fun d4 w =>
 Gd (eS d2 false) (fun K => aD pg (aG .gtr 48 aK aK d4 (.int .u64 9223372036854775807)) w K) w fun d5 w =>
 aD pg (fH d2 (.bool true) d5) w fun d6 w =>
 eY d6
  (aD pg (Wp 9 (.string ⟨#[116, 104, 101, 32, 114, 101, 115, 117, 108, 116, 32, 111, 102, 32, 40, 108, 101, 110, 40, 120, 41, 32, 42, 32, 99, 111, 117, 110, 116, 41, 32, 111, 118, 101, 114, 102, 108, 111, 119, 115]⟩)) w fun d7 w =>
  aD pg (V (Instr.panic d7)) w fun _u w =>
  kn kE d0 w)
  (kn kE d0 w)
theorem F4 (kn : K2) (hn : N2 Q kn 0 6) (h : qS kn (g 0) (g 1) w) : bA pg dI (aI 2 (aB 2 cZ)) Q g w :=
 dQ (kr := no) (l := []) h hn eZ trivial
def qQ (R : K1) (kE tY : anV) (w : anU) : Prop :=
 qS (fun kE Wm w => qM R kE Wm w) kE tY w
def pH (kn : K2) (kE tY : anV) (w : anU) : Prop :=
 aD pg (aG .lss 3 aK aK tY (anW 0)) w fun c0 w =>
 eY c0
  (aD pg (Wp 9 (.string ⟨#[99, 97, 110, 110, 111, 116, 32, 98, 101, 32, 110, 101, 103, 97, 116, 105, 118, 101]⟩)) w fun c1 w =>
  aD pg (V (Instr.panic c1)) w fun _u w =>
  kn kE tY w)
  (kn kE tY w)
theorem ER (kn : K2) (hn : N2 Q kn 0 1) (h : pH kn (g 0) (g 1) w) : bA pg dI (aI 2 cZ) Q g w :=
 dQ (kr := no) (l := []) h hn eZ trivial
def oQ (R : K1) (kE tY : anV) (w : anU) : Prop :=
 pH (fun kE tY w => qQ R kE tY w) kE tY w
theorem EU (R : K1) (hr : HR qO R Q) (h : oQ R (g 0) (g 1) w) : bA pg dI cZ Q g w :=
 gY 2 (ER _ g w (qQ R) (fun g w h => aM (gY 2 (F4 _ g w (qM R) (fun g w h => aM (gY 2 (F1 _ g w (lC R) (fun g w h => aM (gY 1 (FL _ g w (lE R) (fun g w h => aM (Gl _ g w R hr h)) h))) h))) h))) h)
def EC (a0 a1 : anV) (w : anU) (R : K1) : Prop :=
 oQ R a0 a1 w
theorem G5 {a0 a1 : anV} {w : anU} {R : K1} (h : EC a0 a1 w R) : aP pg lZ #[a0, a1] w R := by
 refine uS (ann := dI) Try.f12 cZ [a0, a1] qO 48 TryM.mixed Try.func12 ?_
 exact (EU _ _ _ R (fun _ _ h => h) h)
def uD : FA := ⟨sX, fun i => .leaf ([], []) []⟩
def vH : List ResultVar := [.tmp 2, .tmp 3, .tmp 4]
noncomputable def qZ : Code := bT Try.f13
def gW (R : K1) (l_6 n_7 e_8 : anV) (w : anU) : Prop :=
 aD pg (aG .neq 25 (.tmp 47) (.const (anW 0)) e_8 (anW 0)) w fun f8 w =>
 eY f8
  (R (.tuple #[(.slice none 0 0), (anW 0), e_8]) w)
  (aP pg vK #[l_6] w fun i2 w =>
  aD pg (bF i2 0) w fun i3 w =>
  aD pg (bF i2 1) w fun i4 w =>
  aD pg (aG .neq 25 (.tmp 55) (.const (anW 0)) i4 (anW 0)) w fun i6 w =>
  eY i6
   (R (.tuple #[(.slice none 0 0), (anW 0), i4]) w)
   (aD pg (aG .add 3 aK aK (anW 1) n_7) w fun j0 w =>
   R (.tuple #[i3, j0, (anW 0)]) w))
theorem M3 (R : K1) (hr : HR vH R Q) (h : gW R (g 6) (g 7) (g 8) w) : bA pg uD (aB 8 qZ) Q g w :=
 dQ (kn := no) (l := []) h eZ hr trivial
def pT (kn : K3) (R : K1) (cP : anV) (w : anU) : Prop :=
 aD pg (gD .len #[22] 3 [cP]) w fun c1 w =>
 aD pg (aG .eql 3 (.tmp 11) (.const (anW 0)) c1 (anW 0)) w fun c2 w =>
 eY c2
  (R (.tuple #[(.slice none 0 0), (anW 0), (anW 10)]) w)
  (aD pg (bK 22 cP (anW 0)) w fun c4 w =>
  aD pg (aL 5 c4) w fun c5 w =>
  aD pg (fB 5 3 c5) w fun c6 w =>
  aD pg (lO 22 cP (some (anW 1)) none none) w fun c8 w =>
  aD pg (aG .geq 3 aK aK c6 (anW 128)) w fun d9 w =>
  eY d9
   (aD pg (aG .sub 3 aK aK c6 (anW 128)) w fun e1 w =>
   aD pg (aG .add 3 aK aK e1 (anW 2)) w fun e2 w =>
   aD pg (aG .quo 3 aK aK e2 (anW 2)) w fun e3 w =>
   aD pg (aG .sub 3 aK aK c6 (anW 128)) w fun e7 w =>
   aD pg (aG .add 3 aK aK e7 (anW 1)) w fun e8 w =>
   aP pg tX #[c8, e8] w fun e9 w =>
   aD pg (bF e9 0) w fun f0 w =>
   aD pg (bF e9 1) w fun f1 w =>
   kn f0 e3 f1 w)
   (aD pg (gD .len #[22] 3 [c8]) w fun f4 w =>
   aD pg (aG .lss 3 aK aK f4 c6) w fun f6 w =>
   eY f6
    (kn (.slice none 0 0) (anW 0) (anW 10) w)
    (aD pg (lO 22 c8 none (some c6) none) w fun d3 w =>
    aP pg tF #[d3] w fun d4 w =>
    aD pg (bF d4 0) w fun d5 w =>
    aD pg (bF d4 1) w fun d6 w =>
    kn d5 c6 d6 w)))
theorem M6 (kn : K3) (R : K1) (hn : N3 Q kn 6 7 8) (hr : HR vH R Q) (h : pT kn R (g 0) w) : bA pg uD (aI 8 qZ) Q g w :=
 dQ (l := []) h hn hr trivial
def pS (R : K1) (cP : anV) (w : anU) : Prop :=
 pT (fun l_6 n_7 e_8 w => gW R l_6 n_7 e_8 w) R cP w
theorem MU (R : K1) (hr : HR vH R Q) (h : pS R (g 0) w) : bA pg uD qZ Q g w :=
 gY 8 (M6 _ g w (gW R) R (fun g w h => aM (M3 _ g w R hr h)) hr h)
def Da (a0 : anV) (w : anU) (R : K1) : Prop :=
 pS R a0 w
theorem yP {a0 : anV} {w : anU} {R : K1} (h : Da a0 w R) : aP pg sX #[a0] w R := by
 refine uS (ann := uD) Try.f13 qZ [a0] vH 61 TryM.mixed Try.func13 ?_
 exact (MU _ _ _ R (fun _ _ h => h) h)
def Cb : FA := ⟨pF, fun i => .leaf ([], []) []⟩
def C6 : List ResultVar := [.tmp 6, .tmp 7]
noncomputable def AI : Code := bT Try.f14
def uQ (R : K1) (h_0 NM b_2 : anV) (w : anU) : Prop :=
 aD pg (Ic 35 h_0) w fun h_3 w =>
 aD pg (aJ 35 h_3 1) w fun b8 w =>
 aD pg (aL 3 b8) w fun b9 w =>
 aD pg (aG .eql 3 (.tmp 9) (.const (anW 0)) b9 (anW 0)) w fun c0 w =>
 eY c0
  (aD pg (aJ 35 h_3 3) w fun c3 w =>
  aD pg (aL 3 c3) w fun c4 w =>
  aP pg BX #[NM, b_2, c4] w fun c5 w =>
  aD pg (bF c5 0) w fun c6 w =>
  aD pg (bF c5 1) w fun c7 w =>
  R (.tuple #[c6, c7]) w)
  (aD pg (aJ 35 h_3 3) w fun d0 w =>
  aD pg (aL 3 d0) w fun d1 w =>
  aP pg zK #[NM, b_2, d1] w fun d2 w =>
  aD pg (bF d2 0) w fun d3 w =>
  aD pg (bF d2 1) w fun d4 w =>
  R (.tuple #[d3, d4]) w)
theorem HG (R : K1) (hr : HR C6 R Q) (h : uQ R (g 0) (g 1) (g 2) w) : bA pg Cb AI Q g w :=
 dQ (kn := no) (l := []) h eZ hr trivial
def Hl (a0 a1 a2 : anV) (w : anU) (R : K1) : Prop :=
 uQ R a0 a1 a2 w
theorem Jf {a0 a1 a2 : anV} {w : anU} {R : K1} (h : Hl a0 a1 a2 w R) : aP pg pF #[a0, a1, a2] w R := by
 refine uS (ann := Cb) Try.f14 AI [a0, a1, a2] C6 25 TryM.mixed Try.func14 ?_
 exact (HG _ _ _ R (fun _ _ h => h) h)
def cW : FA := ⟨pW, fun i => .leaf ([], []) []⟩
def uC : List ResultVar := [.tmp 2, .tmp 3]
noncomputable def cN : Code := bT Try.f15
def uA (R : K1) (aX : anV) (w : anU) : Prop :=
 R (.tuple #[aX, (anW 0)]) w
theorem L7 (R : K1) (hr : HR uC R Q) (h : uA R (g 5) w) : bA pg cW (aB 1 (aB 4 cN)) Q g w :=
 dQ (kn := no) (l := []) h eZ hr trivial
def nI (kn : K4) (eK rW aX Cp : anV) (w : anU) : Prop :=
 aD pg (aG .add 3 aK aK Cp (anW 2)) w fun d7 w =>
 kn eK rW aX d7 w
theorem LZ (kn : K4) (hn : N4 Q kn 0 4 5 6) (h : nI kn (g 0) (g 4) (g 5) (g 6) w) : bA pg cW (aB 1 (aB 1 (bI (bI (aB 1 (aI 1 (aB 4 cN))))))) Q g w :=
 dQ (kr := no) (l := []) h hn eZ trivial
def nL (kn : K4) (eK rW aX Cp c_7 : anV) (w : anU) : Prop :=
 aD pg (cD 22 1 [(0, c_7)]) w fun f6 w =>
 aD pg (gD .append #[22, 22] 22 [aX, f6]) w fun f7 w =>
 kn eK rW f7 Cp w
theorem LQ (kn : K4) (hn : N4 Q kn 0 4 5 6) (h : nL kn (g 0) (g 4) (g 5) (g 6) (g 7) w) : bA pg cW (aB 2 (bI (aI 1 (aB 1 (bI (bI (aB 1 (aI 1 (aB 4 cN))))))))) Q g w :=
 dQ (kr := no) (l := []) h hn eZ trivial
def BE (kn : K5) (eK rW aX Cp : anV) (w : anU) : Prop :=
 aD pg (bK 22 eK Cp) w fun e0 w =>
 aD pg (aL 5 e0) w fun e1 w =>
 aD pg (aG .shl 5 aK aK e1 (.int .u64 4)) w fun e2 w =>
 aD pg (aG .add 3 aK aK Cp (anW 1)) w fun e4 w =>
 aD pg (aG .lss 3 aK aK e4 rW) w fun e6 w =>
 eY e6
  (aD pg (aG .add 3 aK aK Cp (anW 1)) w fun f0 w =>
  aD pg (bK 22 eK f0) w fun f1 w =>
  aD pg (aL 5 f1) w fun f2 w =>
  aD pg (aG .or 5 aK aK e2 f2) w fun f3 w =>
  kn eK rW aX Cp f3 w)
  (kn eK rW aX Cp e2 w)
theorem Mh (kn : K5) (hn : N5 Q kn 0 4 5 6 7) (h : BE kn (g 0) (g 4) (g 5) (g 6) w) : bA pg cW (aI 2 (bI (aI 1 (aB 1 (bI (bI (aB 1 (aI 1 (aB 4 cN))))))))) Q g w :=
 dQ (kr := no) (l := []) h hn eZ trivial
def GL (kn : K4) (eK rW aX Cp : anV) (w : anU) : Prop :=
 BE (fun eK rW aX Cp c_7 w => nL kn eK rW aX Cp c_7 w) eK rW aX Cp w
def BH (kn : K4) (eK rW aX Cp : anV) (w : anU) : Prop :=
 GL kn eK rW aX Cp w
def Bp (kn : K4) (eK rW aX Cp : anV) (w : anU) : Prop :=
 BH (fun eK rW aX Cp w => nI kn eK rW aX Cp w) eK rW aX Cp w
theorem LW (kn : K4) (hn : N4 Q kn 0 4 5 6) (h : BH kn (g 0) (g 4) (g 5) (g 6) w) : bA pg cW (aI 1 (aB 1 (bI (bI (aB 1 (aI 1 (aB 4 cN))))))) Q g w :=
 FP 2 (gY 2 (Mh _ g w (nL kn) (fun g w h => aM (LQ _ g w kn hn h)) h))
def BI (kn : K4) (k1 : K1) (eK rW aX Cp : anV) (w : anU) : Prop :=
 aD pg (aG .lss 3 aK aK Cp rW) w fun d5 w =>
 eY d5
  (kn eK rW aX Cp w)
  (k1 aX w)
theorem LD (kn : K4) (k1 : K1) (hn : N4 Q kn 0 4 5 6) (h1 : E1 Q k1 1 5) (h : BI kn k1 (g 0) (g 4) (g 5) (g 6) w) : bA pg cW (aI 1 (bI (bI (aB 1 (aI 1 (aB 4 cN)))))) Q g w :=
 dQ (kr := no) (l := [(1, fun g w => k1 (g 5) w)]) h hn eZ ⟨h1, trivial⟩
def tB (kn : K4) (k1 : K1) (eK rW aX Cp : anV) (w : anU) : Prop :=
 BI (fun eK rW aX Cp w => Bp kn eK rW aX Cp w) k1 eK rW aX Cp w
def zC (k1 : K1) (eK rW aX Cp : anV) (w : anU) : Prop :=
 cK (fun (X : (anV × anV) -> K0) (t : anV × anV) (w : anU) => tB (fun _ _ aX Cp w => X (aX, Cp) w) k1 eK rW t.1 t.2 w) (aX, Cp) w
theorem LM (kn : K4) (k1 : K1) (hn : N4 Q kn 0 4 5 6) (h1 : E1 Q k1 1 5) (h : tB kn k1 (g 0) (g 4) (g 5) (g 6) w) : bA pg cW (bI (bI (aB 1 (aI 1 (aB 4 cN))))) Q g w :=
 gY 1 (LD _ g w (Bp kn) k1 (fun g w h => aM (gY 1 (LW _ g w (nI kn) (fun g w h => aM (LZ _ g w kn hn h)) h))) h1 h)
theorem KX (k1 : K1) (h1 : E1 Q k1 1 5) (h : zC k1 (g 0) (g 4) (g 5) (g 6) w) : bA pg cW (bI (aB 1 (aI 1 (aB 4 cN)))) Q g w := by
 refine NN (fun g : Env => (g 5, g 6)) (fun X t w => tB (fun _ _ aX Cp w => X (aX, Cp) w) k1 (g 0) (g 4) t.1 t.2 w) h (fun X g1 w1 ha hL => ?_)
 rw [<- jB 0 ha, <- jB 4 ha] at hL
 exact (LM _ g1 w1 (fun _ _ aX Cp w => X (aX, Cp) w) k1 (fun _ _ h => h) h1 hL)
def Ac (kn : K1) (eK rW aX Cp : anV) (w : anU) : Prop :=
 zC kn eK rW aX Cp w
def yH (kn : K4) (eK rW aX : anV) (w : anU) : Prop :=
 kn eK rW aX (anW 0) w
theorem JU (kn : K4) (hn : N4 Q kn 0 4 5 6) (h : yH kn (g 0) (g 4) (g 5) w) : bA pg cW (aI 1 (aI 1 (aB 4 cN))) Q g w :=
 dQ (kr := no) (l := []) h hn eZ trivial
def Ap (kn : K1) (eK rW aX : anV) (w : anU) : Prop :=
 yH (fun eK rW aX Cp w => Ac kn eK rW aX Cp w) eK rW aX w
def yM (R : K1) (eK rW aX : anV) (w : anU) : Prop :=
 Ap (fun aX w => uA R aX w) eK rW aX w
theorem JK (kn : K1) (hn : N1 Q kn 5) (h : Ap kn (g 0) (g 4) (g 5) w) : bA pg cW (aI 1 (aB 4 cN)) Q g w :=
 gY 1 (JU _ g w (Ac kn) (fun g w h => aM (FP 1 (KX _ g w kn hn h))) h)
def rO (kn : K3) (R : K1) (eK : anV) (w : anU) : Prop :=
 aP pg pR #[eK] w fun c0 w =>
 aD pg (aG .eql 3 (.tmp 10) (.const (anW 0)) c0 (anW 0)) w fun c1 w =>
 eY c1
  (R (.tuple #[(.slice none 0 0), (anW 1)]) w)
  (aD pg (gD .len #[22] 3 [eK]) w fun c4 w =>
  aD pg (aG .gtr 3 aK aK c4 (anW 129)) w fun c5 w =>
  eY c5
   (R (.tuple #[(.slice none 0 0), (anW 12)]) w)
   (aD pg (gD .len #[22] 3 [eK]) w fun c7 w =>
   aD pg (aG .sub 3 aK aK c7 (anW 1)) w fun c8 w =>
   aD pg (aG .add 3 aK aK (anW 127) c8) w fun d0 w =>
   aD pg (fB 3 5 d0) w fun d1 w =>
   aD pg (cD 22 1 [(0, d1)]) w fun d2 w =>
   kn eK c8 d2 w))
theorem J4 (kn : K3) (R : K1) (hn : N3 Q kn 0 4 5) (hr : HR uC R Q) (h : rO kn R (g 0) w) : bA pg cW (aI 4 cN) Q g w :=
 dQ (l := []) h hn hr trivial
def rM (R : K1) (eK : anV) (w : anU) : Prop :=
 rO (fun eK rW aX w => yM R eK rW aX w) R eK w
theorem JM (R : K1) (hr : HR uC R Q) (h : rM R (g 0) w) : bA pg cW cN Q g w :=
 gY 4 (J4 _ g w (yM R) R (fun g w h => aM (gY 1 (JK _ g w (uA R) (fun g w h => aM (L7 _ g w R hr h)) h))) hr h)
def Gu (a0 : anV) (w : anU) (R : K1) : Prop :=
 rM R a0 w
theorem Ej {a0 : anV} {w : anU} {R : K1} (h : Gu a0 w R) : aP pg pW #[a0] w R := by
 refine uS (ann := cW) Try.f15 cN [a0] uC 49 TryM.mixed Try.func15 ?_
 exact (JM _ _ _ R (fun _ _ h => h) h)
def AR : FA := ⟨mW, fun i => .leaf ([], []) []⟩
def Cj : List ResultVar := [.tmp 4, .tmp 5]
noncomputable def zV : Code := bT Try.f16
def sU (R : K1) (eK aS : anV) (w : anU) : Prop :=
 aD pg (gD .len #[22] 3 [aS]) w fun b7 w =>
 aD pg (aG .lss 3 aK aK b7 (anW 256)) w fun b8 w =>
 eY b8
  (aP pg BR #[eK, aS] w fun c1 w =>
  aD pg (bF c1 0) w fun c2 w =>
  aD pg (bF c1 1) w fun c3 w =>
  R (.tuple #[c2, c3]) w)
  (aP pg Ad #[eK, aS] w fun c6 w =>
  aD pg (bF c6 0) w fun c7 w =>
  aD pg (bF c6 1) w fun c8 w =>
  R (.tuple #[c7, c8]) w)
theorem Hp (R : K1) (hr : HR Cj R Q) (h : sU R (g 0) (g 1) w) : bA pg AR zV Q g w :=
 dQ (kn := no) (l := []) h eZ hr trivial
def Fy (a0 a1 : anV) (w : anU) (R : K1) : Prop :=
 sU R a0 a1 w
theorem Ih {a0 a1 : anV} {w : anU} {R : K1} (h : Fy a0 a1 w R) : aP pg mW #[a0, a1] w R := by
 refine uS (ann := AR) Try.f16 zV [a0, a1] Cj 19 TryM.mixed Try.func16 ?_
 exact (Hp _ _ _ R (fun _ _ h => h) h)
def Cn : FA := ⟨jE, fun i => .leaf ([], []) []⟩
def C0 : List ResultVar := [.tmp 0]
noncomputable def AH : Code := bT Try.f17
def uO (R : K1)  (w : anU) : Prop :=
 aD pg (dG 62 []) w fun b1 w =>
 aD pg (Ic 62 b1) w fun b2 w =>
 R b2 w
theorem Ii (R : K1) (hr : HR C0 R Q) (h : uO R w) : bA pg Cn AH Q g w :=
 dQ (kn := no) (l := []) h eZ hr trivial
def G9 (w : anU) (R : K1) : Prop :=
 uO R w
theorem IS {w : anU} {R : K1} (h : G9 w R) : aP pg jE #[] w R := by
 refine uS (ann := Cn) Try.f17 AH [] C0 3 TryM.mixed Try.func17 ?_
 exact (Ii _ _ _ R (fun _ _ h => h) h)
def gV : FA := ⟨dJ, fun i => .leaf ([], []) []⟩
def nU : List ResultVar := []
noncomputable def gK : Code := bT Try.f18
def kA (kn : K4) (k0 : K0) (pO AP c7 c8 : anV) (w : anU) : Prop :=
 aD pg (aG .lss 3 aK aK c8 c7) w fun c9 w =>
 eY c9
  (aD pg (lN pO) w fun d3 w =>
  aD pg (aJ 62 d3 0) w fun d4 w =>
  aD pg (aL 22 d4) w fun d5 w =>
  aD pg (aG .mul 3 aK aK (anW 8) c8) w fun d8 w =>
  aD pg (fB 3 48 d8) w fun d9 w =>
  aD pg (aG .shr 47 aK aK AP d9) w fun e0 w =>
  aD pg (fB 47 5 e0) w fun e1 w =>
  aD pg (cD 22 1 [(0, e1)]) w fun e2 w =>
  aD pg (gD .append #[22, 22] 22 [d5, e2]) w fun e3 w =>
  aD pg (lN pO) w fun e4 w =>
  aD pg (aJ 62 e4 0) w fun e5 w =>
  aD pg (bB 22 e5 e3) w fun _u w =>
  aD pg (aG .add 3 aK aK c8 (anW 1)) w fun e6 w =>
  kn pO AP c7 e6 w)
  (k0 w)
theorem DO (kn : K4) (k0 : K0) (hn : N4 Q kn 0 1 17 18) (h0 : E0 Q k0 0) (h : kA kn k0 (g 0) (g 1) (g 17) (g 18) w) : bA pg gV (bI (bI (aB 2 gK))) Q g w :=
 dQ (kr := no) (l := [(0, fun g w => k0 w)]) h hn eZ ⟨h0, trivial⟩
def nK (k0 : K0) (pO AP c7 c8 : anV) (w : anU) : Prop :=
 cK (fun (X : anV -> K0) (t : anV) (w : anU) => kA (fun _ _ _ c8 w => X c8 w) k0 pO AP c7 t w) c8 w
theorem Ey (k0 : K0) (h0 : E0 Q k0 0) (h : nK k0 (g 0) (g 1) (g 17) (g 18) w) : bA pg gV (bI (aB 2 gK)) Q g w := by
 refine NN (fun g : Env => g 18) (fun X t w => kA (fun _ _ _ c8 w => X c8 w) k0 (g 0) (g 1) (g 17) t w) h (fun X g1 w1 ha hL => ?_)
 rw [<- jB 0 ha, <- jB 1 ha, <- jB 17 ha] at hL
 exact (DO _ g1 w1 (fun _ _ _ c8 w => X c8 w) k0 (fun _ _ h => h) h0 hL)
def nF (kn : K0) (pO AP c7 c8 : anV) (w : anU) : Prop :=
 nK kn pO AP c7 c8 w
def nG (kn : K4) (R : K1) (pO AP qY : anV) (w : anU) : Prop :=
 aD pg (aG .eql 44 (.tmp 7) (.const (.pointer none)) pO (.pointer none)) w fun b8 w =>
 Gd (eS b8 false) (fun K => K qY w) w fun c0 w =>
 Gd (eS b8 false) (fun K => aD pg (aG .lss 3 aK aK c0 (anW 1)) w K) w fun c1 w =>
 aD pg (fH b8 (.bool true) c1) w fun c2 w =>
 Gd (eS c2 false) (fun K => K qY w) w fun c4 w =>
 Gd (eS c2 false) (fun K => aD pg (aG .gtr 3 aK aK c4 (anW 8)) w K) w fun c5 w =>
 aD pg (fH c2 (.bool true) c5) w fun c6 w =>
 eY c6
  (R (.tuple #[]) w)
  (kn pO AP qY (anW 0) w)
theorem Ei (kn : K4) (R : K1) (hn : N4 Q kn 0 1 17 18) (hr : HR nU R Q) (h : nG kn R (g 0) (g 1) (g 2) w) : bA pg gV (aI 2 gK) Q g w :=
 dQ (l := []) h hn hr trivial
def nE (kn : K0) (R : K1) (pO AP qY : anV) (w : anU) : Prop :=
 nG (fun pO AP c7 c8 w => nF kn pO AP c7 c8 w) R pO AP qY w
theorem Dw (kn : K0) (R : K1) (hn : N0 Q kn) (hr : HR nU R Q) (h : nE kn R (g 0) (g 1) (g 2) w) : bA pg gV gK Q g w :=
 gY 2 (Ei _ g w (nF kn) R (fun g w h => aM (FP 0 (Ey _ g w kn hn h))) hr h)
def B5 (a0 a1 a2 : anV) (w : anU) (R : K1) : Prop :=
 nE (fun  w => R (.tuple #[]) w) R a0 a1 a2 w
theorem Fb {a0 a1 a2 : anV} {w : anU} {R : K1} (h : B5 a0 a1 a2 w R) : aP pg dJ #[a0, a1, a2] w R := by
 refine uS (ann := gV) Try.f18 gK [a0, a1, a2] nU 37 TryM.mixed Try.func18 ?_
 exact (Dw _ _ _ (fun  w => R (.tuple #[]) w) R (fun _ _ h => h) (fun _ _ h => h) h)
def xN : FA := ⟨jA, fun i => .leaf ([], []) []⟩
def H0 : List ResultVar := []
noncomputable def uV : Code := bT Try.f19
def pA (kn : K0) (pO ZN : anV) (w : anU) : Prop :=
 aD pg (aG .neq 44 (.tmp 4) (.const (.pointer none)) pO (.pointer none)) w fun b5 w =>
 eY b5
  (aD pg (lN pO) w fun b8 w =>
  aD pg (aJ 62 b8 0) w fun b9 w =>
  aD pg (aL 22 b9) w fun c0 w =>
  aD pg (gD .append #[22, 22] 22 [c0, ZN]) w fun c2 w =>
  aD pg (lN pO) w fun c3 w =>
  aD pg (aJ 62 c3 0) w fun c4 w =>
  aD pg (bB 22 c4 c2) w fun _u w =>
  kn w)
  (kn w)
theorem EY (kn : K0) (hn : N0 Q kn) (h : pA kn (g 0) (g 1) w) : bA pg xN uV Q g w :=
 dQ (kr := no) (l := []) h hn eZ trivial
def C4 (a0 a1 : anV) (w : anU) (R : K1) : Prop :=
 pA (fun  w => R (.tuple #[]) w) a0 a1 w
theorem Gy {a0 a1 : anV} {w : anU} {R : K1} (h : C4 a0 a1 w R) : aP pg jA #[a0, a1] w R := by
 refine uS (ann := xN) Try.f19 uV [a0, a1] H0 15 TryM.mixed Try.func19 ?_
 exact (EY _ _ _ (fun  w => R (.tuple #[]) w) (fun _ _ h => h) h)
def AG : FA := ⟨iP, fun i => .leaf ([], []) []⟩
def Ck : List ResultVar := [.tmp 2]
noncomputable def zM : Code := bT Try.f20
def sE (R : K1) (pO : anV) (w : anU) : Prop :=
 aD pg (aG .eql 44 (.tmp 3) (.const (.pointer none)) pO (.pointer none)) w fun b4 w =>
 eY b4
  (R (.slice none 0 0) w)
  (aD pg (lN pO) w fun b6 w =>
  aD pg (aJ 62 b6 0) w fun b7 w =>
  aD pg (aL 22 b7) w fun b8 w =>
  aP pg cI #[b8] w fun b9 w =>
  R b9 w)
theorem Ha (R : K1) (hr : HR Ck R Q) (h : sE R (g 0) w) : bA pg AG zM Q g w :=
 dQ (kn := no) (l := []) h eZ hr trivial
def Ft (a0 : anV) (w : anU) (R : K1) : Prop :=
 sE R a0 w
theorem HU {a0 : anV} {w : anU} {R : K1} (h : Ft a0 w R) : aP pg iP #[a0] w R := by
 refine uS (ann := AG) Try.f20 zM [a0] Ck 10 TryM.mixed Try.func20 ?_
 exact (Ha _ _ _ R (fun _ _ h => h) h)
def Cc : FA := ⟨kV, fun i => .leaf ([], []) []⟩
def C1 : List ResultVar := [.tmp 2]
noncomputable def AQ : Code := bT Try.f21
def uR (R : K1) (cP : anV) (w : anU) : Prop :=
 aP pg cI #[cP] w fun b4 w =>
 aD pg (dG 64 [(0, b4)]) w fun b5 w =>
 aD pg (Ic 64 b5) w fun b6 w =>
 R b6 w
theorem H3 (R : K1) (hr : HR C1 R Q) (h : uR R (g 0) w) : bA pg Cc AQ Q g w :=
 dQ (kn := no) (l := []) h eZ hr trivial
def GZ (a0 : anV) (w : anU) (R : K1) : Prop :=
 uR R a0 w
theorem Jc {a0 : anV} {w : anU} {R : K1} (h : GZ a0 w R) : aP pg kV #[a0] w R := by
 refine uS (ann := Cc) Try.f21 AQ [a0] C1 7 TryM.mixed Try.func21 ?_
 exact (H3 _ _ _ R (fun _ _ h => h) h)
def dL : FA := ⟨iH, fun i => .leaf ([], []) []⟩
def jZ : List ResultVar := [.tmp 4]
noncomputable def dE : Code := bT Try.f22
def kB (R : K1) (Mt : anV) (w : anU) : Prop :=
 R Mt w
theorem Ex (R : K1) (hr : HR jZ R Q) (h : kB R (g 5) w) : bA pg dL (aB 1 (aB 3 dE)) Q g w :=
 dQ (kn := no) (l := []) h eZ hr trivial
def jY (kn : K4) (k0 : K1) (Mt c8 c9 d0 : anV) (w : anU) : Prop :=
 aD pg (aG .lss 3 aK aK d0 c9) w fun d1 w =>
 eY d1
  (aD pg (bK 22 c8 d0) w fun d3 w =>
  aD pg (aL 5 d3) w fun d4 w =>
  aD pg (fB 5 47 d4) w fun d7 w =>
  aD pg (aG .mul 3 aK aK (anW 8) d0) w fun d9 w =>
  aD pg (fB 3 48 d9) w fun e0 w =>
  aD pg (aG .shl 47 aK aK d7 e0) w fun e1 w =>
  aD pg (aG .or 47 aK aK Mt e1) w fun e2 w =>
  aD pg (aG .add 3 aK aK d0 (anW 1)) w fun e3 w =>
  kn e2 c8 c9 e3 w)
  (k0 Mt w)
theorem DY (kn : K4) (k0 : K1) (hn : N4 Q kn 5 18 19 20) (h0 : E1 Q k0 0 5) (h : jY kn k0 (g 5) (g 18) (g 19) (g 20) w) : bA pg dL (bI (bI (aB 1 (aI 1 (aB 3 dE))))) Q g w :=
 dQ (kr := no) (l := [(0, fun g w => k0 (g 5) w)]) h hn eZ ⟨h0, trivial⟩
def nM (k0 : K1) (Mt c8 c9 d0 : anV) (w : anU) : Prop :=
 cK (fun (X : (anV × anV) -> K0) (t : anV × anV) (w : anU) => jY (fun Mt _ _ d0 w => X (Mt, d0) w) k0 t.1 c8 c9 t.2 w) (Mt, d0) w
theorem DF (k0 : K1) (h0 : E1 Q k0 0 5) (h : nM k0 (g 5) (g 18) (g 19) (g 20) w) : bA pg dL (bI (aB 1 (aI 1 (aB 3 dE)))) Q g w := by
 refine NN (fun g : Env => (g 5, g 20)) (fun X t w => jY (fun Mt _ _ d0 w => X (Mt, d0) w) k0 t.1 (g 18) (g 19) t.2 w) h (fun X g1 w1 ha hL => ?_)
 rw [<- jB 18 ha, <- jB 19 ha] at hL
 exact (DY _ g1 w1 (fun Mt _ _ d0 w => X (Mt, d0) w) k0 (fun _ _ h => h) h0 hL)
def nZ (kn : K1) (Mt c8 c9 d0 : anV) (w : anU) : Prop :=
 nM kn Mt c8 c9 d0 w
def nH (kn : K4) (G0 wD Mt : anV) (w : anU) : Prop :=
 aD pg (aG .geq 3 aK aK wD (anW 1)) w fun c3 w =>
 Gd (eS c3 true) (fun K => K wD w) w fun c5 w =>
 Gd (eS c3 true) (fun K => aD pg (aG .leq 3 aK aK c5 (anW 8)) w K) w fun c6 w =>
 aD pg (fH c3 c6 (.bool false)) w fun c7 w =>
 aP pg jU #[G0, wD, c7] w fun c8 w =>
 aD pg (gD .len #[22] 3 [c8]) w fun c9 w =>
 kn Mt c8 c9 (anW 0) w
theorem DI (kn : K4) (hn : N4 Q kn 5 18 19 20) (h : nH kn (g 0) (g 1) (g 5) w) : bA pg dL (aI 1 (aI 1 (aB 3 dE))) Q g w :=
 dQ (kr := no) (l := []) h hn eZ trivial
def nJ (kn : K1) (G0 wD Mt : anV) (w : anU) : Prop :=
 nH (fun Mt c8 c9 d0 w => nZ kn Mt c8 c9 d0 w) G0 wD Mt w
def oE (R : K1) (G0 wD Mt : anV) (w : anU) : Prop :=
 nJ (fun Mt w => kB R Mt w) G0 wD Mt w
theorem DG (kn : K1) (hn : N1 Q kn 5) (h : nJ kn (g 0) (g 1) (g 5) w) : bA pg dL (aI 1 (aB 3 dE)) Q g w :=
 gY 1 (DI _ g w (nZ kn) (fun g w h => aM (FP 0 (DF _ g w kn hn h))) h)
def oA (kn : K3) (R : K1) (G0 wD : anV) (w : anU) : Prop :=
 aD pg (aG .eql 52 (.tmp 8) (.const (.pointer none)) G0 (.pointer none)) w fun b9 w =>
 eY b9
  (R (.int .u64 0) w)
  (kn G0 wD (.int .u64 0) w)
theorem DX (kn : K3) (R : K1) (hn : N3 Q kn 0 1 5) (hr : HR jZ R Q) (h : oA kn R (g 0) (g 1) w) : bA pg dL (aI 3 dE) Q g w :=
 dQ (l := []) h hn hr trivial
def nW (R : K1) (G0 wD : anV) (w : anU) : Prop :=
 oA (fun G0 wD Mt w => oE R G0 wD Mt w) R G0 wD w
theorem Ef (R : K1) (hr : HR jZ R Q) (h : nW R (g 0) (g 1) w) : bA pg dL dE Q g w :=
 gY 3 (DX _ g w (oE R) R (fun g w h => aM (gY 1 (DG _ g w (kB R) (fun g w h => aM (Ex _ g w R hr h)) h))) hr h)
def B2 (a0 a1 : anV) (w : anU) (R : K1) : Prop :=
 nW R a0 a1 w
theorem EZ {a0 a1 : anV} {w : anU} {R : K1} (h : B2 a0 a1 w R) : aP pg iH #[a0, a1] w R := by
 refine uS (ann := dL) Try.f22 dE [a0, a1] jZ 35 TryM.mixed Try.func22 ?_
 exact (Ef _ _ _ R (fun _ _ h => h) h)
def AK : FA := ⟨iO, fun i => .leaf ([], []) []⟩
def B8 : List ResultVar := [.tmp 2]
noncomputable def yT : Code := bT Try.f23
def sB (R : K1) (G0 : anV) (w : anU) : Prop :=
 aD pg (aG .eql 52 (.tmp 3) (.const (.pointer none)) G0 (.pointer none)) w fun b4 w =>
 eY b4
  (R (anW 1) w)
  (aD pg (lN G0) w fun b6 w =>
  aD pg (aJ 64 b6 1) w fun b7 w =>
  aD pg (aL 25 b7) w fun b8 w =>
  R b8 w)
theorem Hy (R : K1) (hr : HR B8 R Q) (h : sB R (g 0) w) : bA pg AK yT Q g w :=
 dQ (kn := no) (l := []) h eZ hr trivial
def Fp (a0 : anV) (w : anU) (R : K1) : Prop :=
 sB R a0 w
theorem Ia {a0 : anV} {w : anU} {R : K1} (h : Fp a0 w R) : aP pg iO #[a0] w R := by
 refine uS (ann := AK) Try.f23 yT [a0] B8 9 TryM.mixed Try.func23 ?_
 exact (Hy _ _ _ R (fun _ _ h => h) h)
def FC : FA := ⟨vJ, fun i => .leaf ([], []) []⟩
def GJ : List ResultVar := [.tmp 4, .tmp 5]
noncomputable def EI : Code := bT Try.f24
def By (R : K1) (kE y_1 : anV) (w : anU) : Prop :=
 eY (.bool false)
  (aD pg (fB 48 66 kE) w fun c2 w =>
  aD pg (fB 48 66 y_1) w fun c4 w =>
  aP pg Og #[c2, c4] w fun c5 w =>
  aD pg (bF c5 0) w fun c6 w =>
  aD pg (bF c5 1) w fun c7 w =>
  aD pg (fB 66 48 c6) w fun c9 w =>
  aD pg (fB 66 48 c7) w fun d1 w =>
  R (.tuple #[c9, d1]) w)
  (aP pg rA #[kE, y_1] w fun d5 w =>
  aD pg (bF d5 0) w fun d6 w =>
  aD pg (bF d5 1) w fun d7 w =>
  R (.tuple #[d6, d7]) w)
theorem Mi (R : K1) (hr : HR GJ R Q) (h : By R (g 0) (g 1) w) : bA pg FC EI Q g w :=
 dQ (kn := no) (l := []) h eZ hr trivial
def MC (a0 a1 : anV) (w : anU) (R : K1) : Prop :=
 By R a0 a1 w
theorem M7 {a0 a1 : anV} {w : anU} {R : K1} (h : MC a0 a1 w R) : aP pg vJ #[a0, a1] w R := by
 refine uS (ann := FC) Try.f24 EI [a0, a1] GJ 30 TryM.mixed Try.func24 ?_
 exact (Mi _ _ _ R (fun _ _ h => h) h)
def cM : FA := ⟨tX, fun i => .leaf ([], []) []⟩
def rG : List ResultVar := [.tmp 4, .tmp 5]
noncomputable def cH : Code := bT Try.f25
def rP (R : K1) (dX : anV) (w : anU) : Prop :=
 R (.tuple #[dX, (anW 0)]) w
theorem JV (R : K1) (hr : HR rG R Q) (h : rP R (g 6) w) : bA pg cM (aB 1 (aB 3 cH)) Q g w :=
 dQ (kn := no) (l := []) h eZ hr trivial
def mD (kn : K4) (cP dX c5 c6 : anV) (w : anU) : Prop :=
 aD pg (aG .add 3 aK aK c6 (anW 1)) w fun e4 w =>
 kn cP dX c5 e4 w
theorem JW (kn : K4) (hn : N4 Q kn 0 6 15 16) (h : mD kn (g 0) (g 6) (g 15) (g 16) w) : bA pg cM (aB 1 (aB 2 (bI (bI (aB 1 (aI 1 (aB 3 cH))))))) Q g w :=
 dQ (kr := no) (l := []) h hn eZ trivial
def mJ (kn : K4) (cP dX c_8 c5 c6 : anV) (w : anU) : Prop :=
 aD pg (aG .and 5 aK aK c_8 (.int .u8 15)) w fun e1 w =>
 aD pg (cD 22 1 [(0, e1)]) w fun e2 w =>
 aD pg (gD .append #[22, 22] 22 [dX, e2]) w fun e3 w =>
 kn cP e3 c5 c6 w
theorem Kt (kn : K4) (hn : N4 Q kn 0 6 15 16) (h : mJ kn (g 0) (g 6) (g 8) (g 15) (g 16) w) : bA pg cM (aB 3 (bI (aI 1 (aB 2 (bI (bI (aB 1 (aI 1 (aB 3 cH))))))))) Q g w :=
 dQ (kr := no) (l := []) h hn eZ trivial
def yR (kn : K5) (cP dX c5 c6 : anV) (w : anU) : Prop :=
 aD pg (aG .quo 3 aK aK c6 (anW 2)) w fun d1 w =>
 aD pg (bK 22 cP d1) w fun d2 w =>
 aD pg (aL 5 d2) w fun d3 w =>
 aD pg (aG .rem 3 aK aK c6 (anW 2)) w fun d5 w =>
 aD pg (aG .eql 3 (.tmp 25) (.const (anW 0)) d5 (anW 0)) w fun d6 w =>
 eY d6
  (aD pg (aG .shr 5 aK aK d3 (.int .u64 4)) w fun d8 w =>
  kn cP dX d8 c5 c6 w)
  (kn cP dX d3 c5 c6 w)
theorem JH (kn : K5) (hn : N5 Q kn 0 6 8 15 16) (h : yR kn (g 0) (g 6) (g 15) (g 16) w) : bA pg cM (aI 3 (bI (aI 1 (aB 2 (bI (bI (aB 1 (aI 1 (aB 3 cH))))))))) Q g w :=
 dQ (kr := no) (l := []) h hn eZ trivial
def FJ (kn : K4) (cP dX c5 c6 : anV) (w : anU) : Prop :=
 yR (fun cP dX c_8 c5 c6 w => mJ kn cP dX c_8 c5 c6 w) cP dX c5 c6 w
def An (kn : K4) (cP dX c5 c6 : anV) (w : anU) : Prop :=
 FJ kn cP dX c5 c6 w
def yW (kn : K4) (cP dX c5 c6 : anV) (w : anU) : Prop :=
 An (fun cP dX c5 c6 w => mD kn cP dX c5 c6 w) cP dX c5 c6 w
theorem Lg (kn : K4) (hn : N4 Q kn 0 6 15 16) (h : An kn (g 0) (g 6) (g 15) (g 16) w) : bA pg cM (aI 1 (aB 2 (bI (bI (aB 1 (aI 1 (aB 3 cH))))))) Q g w :=
 FP 1 (gY 3 (JH _ g w (mJ kn) (fun g w h => aM (Kt _ g w kn hn h)) h))
def zT (kn : K4) (k0 : K1) (cP dX c5 c6 : anV) (w : anU) : Prop :=
 aD pg (aG .lss 3 aK aK c6 c5) w fun c7 w =>
 eY c7
  (kn cP dX c5 c6 w)
  (k0 dX w)
theorem KZ (kn : K4) (k0 : K1) (hn : N4 Q kn 0 6 15 16) (h0 : E1 Q k0 0 6) (h : zT kn k0 (g 0) (g 6) (g 15) (g 16) w) : bA pg cM (aI 2 (bI (bI (aB 1 (aI 1 (aB 3 cH)))))) Q g w :=
 dQ (kr := no) (l := [(0, fun g w => k0 (g 6) w)]) h hn eZ ⟨h0, trivial⟩
def qW (kn : K4) (k0 : K1) (cP dX c5 c6 : anV) (w : anU) : Prop :=
 zT (fun cP dX c5 c6 w => yW kn cP dX c5 c6 w) k0 cP dX c5 c6 w
def xI (k0 : K1) (cP dX c5 c6 : anV) (w : anU) : Prop :=
 cK (fun (X : (anV × anV) -> K0) (t : anV × anV) (w : anU) => qW (fun _ dX _ c6 w => X (dX, c6) w) k0 cP t.1 c5 t.2 w) (dX, c6) w
theorem Km (kn : K4) (k0 : K1) (hn : N4 Q kn 0 6 15 16) (h0 : E1 Q k0 0 6) (h : qW kn k0 (g 0) (g 6) (g 15) (g 16) w) : bA pg cM (bI (bI (aB 1 (aI 1 (aB 3 cH))))) Q g w :=
 gY 2 (KZ _ g w (yW kn) k0 (fun g w h => aM (gY 1 (Lg _ g w (mD kn) (fun g w h => aM (JW _ g w kn hn h)) h))) h0 h)
theorem Jp (k0 : K1) (h0 : E1 Q k0 0 6) (h : xI k0 (g 0) (g 6) (g 15) (g 16) w) : bA pg cM (bI (aB 1 (aI 1 (aB 3 cH)))) Q g w := by
 refine NN (fun g : Env => (g 6, g 16)) (fun X t w => qW (fun _ dX _ c6 w => X (dX, c6) w) k0 (g 0) t.1 (g 15) t.2 w) h (fun X g1 w1 ha hL => ?_)
 rw [<- jB 0 ha, <- jB 15 ha] at hL
 exact (Km _ g1 w1 (fun _ dX _ c6 w => X (dX, c6) w) k0 (fun _ _ h => h) h0 hL)
def wP (kn : K1) (cP dX c5 c6 : anV) (w : anU) : Prop :=
 xI kn cP dX c5 c6 w
def vX (kn : K4) (cP wD dX : anV) (w : anU) : Prop :=
 kn cP dX wD (anW 0) w
theorem IP (kn : K4) (hn : N4 Q kn 0 6 15 16) (h : vX kn (g 0) (g 1) (g 6) w) : bA pg cM (aI 1 (aI 1 (aB 3 cH))) Q g w :=
 dQ (kr := no) (l := []) h hn eZ trivial
def vY (kn : K1) (cP wD dX : anV) (w : anU) : Prop :=
 vX (fun cP dX c5 c6 w => wP kn cP dX c5 c6 w) cP wD dX w
def wT (R : K1) (cP wD dX : anV) (w : anU) : Prop :=
 vY (fun dX w => rP R dX w) cP wD dX w
theorem Jv (kn : K1) (hn : N1 Q kn 6) (h : vY kn (g 0) (g 1) (g 6) w) : bA pg cM (aI 1 (aB 3 cH)) Q g w :=
 gY 1 (IP _ g w (wP kn) (fun g w h => aM (FP 0 (Jp _ g w kn hn h))) h)
def vZ (kn : K3) (R : K1) (cP wD : anV) (w : anU) : Prop :=
 aD pg (gD .len #[22] 3 [cP]) w fun c0 w =>
 aD pg (aG .add 3 aK aK wD (anW 1)) w fun c2 w =>
 aD pg (aG .quo 3 aK aK c2 (anW 2)) w fun c3 w =>
 aD pg (aG .lss 3 aK aK c0 c3) w fun c4 w =>
 eY c4
  (R (.tuple #[(.slice none 0 0), (anW 10)]) w)
  (kn cP wD (.slice none 0 0) w)
theorem Ji (kn : K3) (R : K1) (hn : N3 Q kn 0 1 6) (hr : HR rG R Q) (h : vZ kn R (g 0) (g 1) w) : bA pg cM (aI 3 cH) Q g w :=
 dQ (l := []) h hn hr trivial
def xF (R : K1) (cP wD : anV) (w : anU) : Prop :=
 vZ (fun cP wD dX w => wT R cP wD dX w) R cP wD w
theorem Jo (R : K1) (hr : HR rG R Q) (h : xF R (g 0) (g 1) w) : bA pg cM cH Q g w :=
 gY 3 (Ji _ g w (wT R) R (fun g w h => aM (gY 1 (Jv _ g w (rP R) (fun g w h => aM (JV _ g w R hr h)) h))) hr h)
def KF (a0 a1 : anV) (w : anU) (R : K1) : Prop :=
 xF R a0 a1 w
theorem LS {a0 a1 : anV} {w : anU} {R : K1} (h : KF a0 a1 w R) : aP pg tX #[a0, a1] w R := by
 refine uS (ann := cM) Try.f25 cH [a0, a1] rG 36 TryM.mixed Try.func25 ?_
 exact (Jo _ _ _ R (fun _ _ h => h) h)
def cF : FA := ⟨tF, fun i => match Nat.beq i 22 with | true => .leaf ([8, 9], [(0, 8), (1, 8), (3, 8), (4, 8), (5, 8), (6, 8), (7, 8)]) [(false, []), (false, []), (false, []), (false, []), (false, []), (false, []), (false, []), (false, []), (true, [0, 1, 2, 3, 4, 6, 7]), (true, [])] | false => match Nat.beq i 24 with | true => .leaf ([1], [(1, 2), (1, 3)]) [(false, []), (true, []), (false, [0]), (false, [1]), (false, [])] | false => match Nat.beq i 25 with | true => .leaf ([11, 12], []) [(false, []), (false, []), (false, []), (false, []), (false, []), (false, []), (false, []), (false, []), (false, []), (false, []), (false, []), (true, []), (true, []), (false, [])] | false => match Nat.beq i 26 with | true => .leaf ([8, 10], [(1, 8)]) [(false, []), (false, []), (false, []), (false, []), (false, []), (false, []), (false, []), (false, []), (true, [6]), (false, []), (true, [])] | false => .leaf ([], []) []⟩
def lU : List ResultVar := [.tmp 2, .tmp 3]
noncomputable def bY : Code := bT Try.f26
def mB (R : K1) (gN : anV) (w : anU) : Prop :=
 aD pg (gD .len #[22] 3 [gN]) w fun o0 w =>
 aD pg (aG .geq 3 aK aK o0 (anW 256)) w fun o1 w =>
 eY o1
  (R (.tuple #[(.slice none 0 0), (anW 11)]) w)
  (R (.tuple #[gN, (anW 0)]) w)
theorem Le (R : K1) (hr : HR lU R Q) (h : mB R (g 11) w) : bA pg cF (aB 1 (aB 3 (aB 1 (aB 7 (bI (aB 1 bY)))))) Q g w :=
 dQ (kn := no) (l := []) h eZ hr trivial
def rR (kn : K5) (k2 : K1) (Cq b8 b9 gN i4 : anV) (w : anU) : Prop :=
 aD pg (aG .lss 3 aK aK i4 (anW 256)) w fun i5 w =>
 eY i5
  (aD pg (aJ 81 b8 1) (dr w) fun i7 w_ => w_ = (dr w) /\
  aD pg (aL 79 i7) (dr w) fun i8 w_ => w_ = (dr w) /\
  (dr w) = (dr w) /\
  aD pg (aG .rem 3 aK aK i4 (anW 2)) (dr w) fun j0 w_ => w_ = (dr w) /\
  aD pg (bK 84 b9 j0) (dr w) fun j1 w_ => w_ = (dr w) /\
  aD pg (aL 3 j1) (dr w) fun j2 w_ => w_ = (dr w) /\
  aD pg (bK 79 i8 j2) (dr w) fun j3 w_ => w_ = (dr w) /\
  aD pg (aL 88 j3) (dr w) fun j4 w_ => w_ = (dr w) /\
  aD pg (eM 88) (dr w) fun abV QX =>
  (eL pg (aL 88 j3) j4 QX /\ eL pg (bK 79 i8 j2) j3 QX /\ eL pg (aL 3 j1) j2 QX /\ eL pg (bK 84 b9 j0) j1 QX /\ eL pg (aG .rem 3 aK aK i4 (anW 2)) j0 QX /\ eL pg (aL 79 i7) i8 QX /\ eL pg (aJ 81 b8 1) i7 QX /\ True) /\
  aD pg (bB 88 abV j4) QX fun _u9 agH =>
  aD pg (aJ 88 abV 0) agH fun j6 w =>
  aD pg (aL 5 j6) w fun j7 w =>
  aD pg (cD 22 1 [(0, j7)]) w fun j8 w =>
  aD pg (gD .append #[22, 22] 22 [gN, j8]) w fun j9 w =>
  (dr w) = (dr w) /\
  aP pg iB #[Cq] (dr w) fun l1 gE =>
  aD pg (aJ 88 abV 1) gE fun l2 w_ => w_ = gE /\
  (eL pg (aJ 88 abV 1) l2 (dr w) /\ True) /\
  aD pg (aL 3 l2) gE fun l3 w_ => w_ = gE /\
  (eL pg (aL 3 l2) l3 (dr w) /\ True) /\
  aD pg (aG .lss 3 aK aK l1 l3) gE fun l4 w_ => w_ = gE /\
  eY l4
   ((dr gE) = (dr gE) /\
   aD pg (aJ 81 b8 1) (dr gE) fun l6 w_ => w_ = (dr gE) /\
   aD pg (aL 79 l6) (dr gE) fun l7 w_ => w_ = (dr gE) /\
   (dr gE) = (dr gE) /\
   aD pg (aG .add 3 aK aK i4 (anW 1)) (dr gE) fun l9 w_ => w_ = (dr gE) /\
   aD pg (aG .rem 3 aK aK l9 (anW 2)) (dr gE) fun m0 w_ => w_ = (dr gE) /\
   aD pg (bK 84 b9 m0) (dr gE) fun m1 w_ => w_ = (dr gE) /\
   aD pg (aL 3 m1) (dr gE) fun m2 w_ => w_ = (dr gE) /\
   aD pg (bK 79 l7 m2) (dr gE) fun m3 w_ => w_ = (dr gE) /\
   aD pg (aJ 88 m3 0) (dr gE) fun m4 w_ => w_ = (dr gE) /\
   aD pg (aL 5 m4) (dr gE) fun m5 w_ => w_ = (dr gE) /\
   aD pg (cD 22 1 [(0, m5)]) (dr gE) fun m6 aeR =>
   aD pg (gD .append #[22, 22] 22 [j9, m6]) aeR fun m7 Wv =>
   Wv = Wv /\
   k2 m7 Wv)
   ((dr gE) = (dr gE) /\
   aD pg (aG .rem 3 aK aK i4 (anW 2)) (dr gE) fun m9 w_ => w_ = (dr gE) /\
   aD pg (aL 81 b8) (dr gE) fun n0 w_ => w_ = (dr gE) /\
   (dr gE) = (dr gE) /\
   aD pg (aG .rem 3 aK aK i4 (anW 2)) (dr gE) fun n2 w_ => w_ = (dr gE) /\
   aD pg (bK 84 b9 n2) (dr gE) fun n3 w_ => w_ = (dr gE) /\
   aD pg (aL 3 n3) (dr gE) fun n4 w_ => w_ = (dr gE) /\
   (dr gE) = (dr gE) /\
   aP pg Ik #[n0, n4, Cq] (dr gE) fun n6 Xu =>
   (eL pg (aG .rem 3 aK aK i4 (anW 2)) m9 Xu /\ True) /\
   aD pg (bK 84 b9 m9) Xu fun n7 w_ => w_ = Xu /\
   aD pg (bB 3 n7 n6) Xu fun _u10 aeW =>
   aD pg (aG .add 3 aK aK i4 (anW 1)) aeW fun n8 w =>
   kn Cq b8 b9 j9 n8 w))
  (k2 gN w)
theorem JL (kn : K5) (k2 : K1) (hn : N5 Q kn 7 8 9 11 54) (h2 : E1 Q k2 2 11) (h : rR kn k2 (g 7) (g 8) (g 9) (g 11) (g 54) w) : bA pg cF (bI (bI (aB 1 (aI 1 (aB 3 (aB 1 (aB 7 (bI (aB 1 bY))))))))) Q g w :=
 dQ (kr := no) (l := [(2, fun g w => k2 (g 11) w)]) h hn eZ ⟨h2, trivial⟩
def yY (k2 : K1) (Cq b8 b9 gN i4 : anV) (w : anU) : Prop :=
 cK (fun (X : (anV × anV) -> K0) (t : anV × anV) (w : anU) => rR (fun _ _ _ gN i4 w => X (gN, i4) w) k2 Cq b8 b9 t.1 t.2 w) (gN, i4) w
theorem Kq (k2 : K1) (h2 : E1 Q k2 2 11) (h : yY k2 (g 7) (g 8) (g 9) (g 11) (g 54) w) : bA pg cF (bI (aB 1 (aI 1 (aB 3 (aB 1 (aB 7 (bI (aB 1 bY)))))))) Q g w := by
 refine NN (fun g : Env => (g 11, g 54)) (fun X t w => rR (fun _ _ _ gN i4 w => X (gN, i4) w) k2 (g 7) (g 8) (g 9) t.1 t.2 w) h (fun X g1 w1 ha hL => ?_)
 rw [<- jB 7 ha, <- jB 8 ha, <- jB 9 ha] at hL
 exact (JL _ g1 w1 (fun _ _ _ gN i4 w => X (gN, i4) w) k2 (fun _ _ h => h) h2 hL)
def yZ (kn : K1) (Cq b8 b9 gN i4 : anV) (w : anU) : Prop :=
 yY kn Cq b8 b9 gN i4 w
def As (kn : K5) (Cq b8 b9 gN : anV) (w : anU) : Prop :=
 kn Cq b8 b9 gN (anW 0) w
theorem KD (kn : K5) (hn : N5 Q kn 7 8 9 11 54) (h : As kn (g 7) (g 8) (g 9) (g 11) w) : bA pg cF (aI 1 (aI 1 (aB 3 (aB 1 (aB 7 (bI (aB 1 bY))))))) Q g w :=
 dQ (kr := no) (l := []) h hn eZ trivial
def zB (kn : K1) (Cq b8 b9 gN : anV) (w : anU) : Prop :=
 As (fun Cq b8 b9 gN i4 w => yZ kn Cq b8 b9 gN i4 w) Cq b8 b9 gN w
def rI (R : K1) (Cq b8 b9 gN : anV) (w : anU) : Prop :=
 zB (fun gN w => mB R gN w) Cq b8 b9 gN w
theorem JY (kn : K1) (hn : N1 Q kn 11) (h : zB kn (g 7) (g 8) (g 9) (g 11) w) : bA pg cF (aI 1 (aB 3 (aB 1 (aB 7 (bI (aB 1 bY)))))) Q g w :=
 gY 1 (KD _ g w (yZ kn) (fun g w h => aM (FP 2 (Kq _ g w kn hn h))) h)
def zU (kn : K4) (R : K1) (Cq b8 b9 : anV) (w : anU) : Prop :=
 aP pg iB #[Cq] w fun i2 w =>
 aD pg (aG .lss 3 aK aK i2 (anW 0)) w fun i3 w =>
 eY i3
  (R (.tuple #[(.slice none 0 0), (anW 11)]) w)
  (kn Cq b8 b9 (.slice none 0 0) w)
theorem JX (kn : K4) (R : K1) (hn : N4 Q kn 7 8 9 11) (hr : HR lU R Q) (h : zU kn R (g 7) (g 8) (g 9) w) : bA pg cF (aI 3 (aB 1 (aB 7 (bI (aB 1 bY))))) Q g w :=
 dQ (l := []) h hn hr trivial
def rE (R : K1) (Cq b8 b9 : anV) (w : anU) : Prop :=
 zU (fun Cq b8 b9 gN w => rI R Cq b8 b9 gN w) R Cq b8 b9 w
def oU (kn : K4) (k0 : K3) (Cq b8 b9 f2 : anV) (w : anU) : Prop :=
 aD pg (aG .lss 3 aK aK f2 (anW 2)) w fun f3 w =>
 eY f3
  (aD pg (aL 81 b8) w fun f6 w =>
  aP pg Fs #[f6, Cq] w fun f8 w =>
  aD pg (bK 84 b9 f2) w fun f9 w =>
  aD pg (bB 3 f9 f8) w fun _u w =>
  aD pg (aG .add 3 aK aK f2 (anW 1)) w fun i0 w =>
  kn Cq b8 b9 i0 w)
  (k0 Cq b8 b9 w)
theorem IZ (kn : K4) (k0 : K3) (hn : N4 Q kn 7 8 9 42) (h0 : E3 Q k0 0 7 8 9) (h : oU kn k0 (g 7) (g 8) (g 9) (g 42) w) : bA pg cF (bI (bI (aB 1 (aI 1 (aB 7 (bI (aB 1 bY))))))) Q g w :=
 dQ (kr := no) (l := [(0, fun g w => k0 (g 7) (g 8) (g 9) w)]) h hn eZ ⟨h0, trivial⟩
def xE (k0 : K3) (Cq b8 b9 f2 : anV) (w : anU) : Prop :=
 cK (fun (X : anV -> K0) (t : anV) (w : anU) => oU (fun _ _ _ f2 w => X f2 w) k0 Cq b8 b9 t w) f2 w
theorem Je (k0 : K3) (h0 : E3 Q k0 0 7 8 9) (h : xE k0 (g 7) (g 8) (g 9) (g 42) w) : bA pg cF (bI (aB 1 (aI 1 (aB 7 (bI (aB 1 bY)))))) Q g w := by
 refine NN (fun g : Env => g 42) (fun X t w => oU (fun _ _ _ f2 w => X f2 w) k0 (g 7) (g 8) (g 9) t w) h (fun X g1 w1 ha hL => ?_)
 rw [<- jB 7 ha, <- jB 8 ha, <- jB 9 ha] at hL
 exact (IZ _ g1 w1 (fun _ _ _ f2 w => X f2 w) k0 (fun _ _ h => h) h0 hL)
def vV (kn : K3) (Cq b8 b9 f2 : anV) (w : anU) : Prop :=
 xE kn Cq b8 b9 f2 w
def wQ (kn : K4) (Cq b8 b9 : anV) (w : anU) : Prop :=
 kn Cq b8 b9 (anW 0) w
theorem IQ (kn : K4) (hn : N4 Q kn 7 8 9 42) (h : wQ kn (g 7) (g 8) (g 9) w) : bA pg cF (aI 1 (aI 1 (aB 7 (bI (aB 1 bY))))) Q g w :=
 dQ (kr := no) (l := []) h hn eZ trivial
def xC (kn : K3) (Cq b8 b9 : anV) (w : anU) : Prop :=
 wQ (fun Cq b8 b9 f2 w => vV kn Cq b8 b9 f2 w) Cq b8 b9 w
def oR (R : K1) (Cq b8 b9 : anV) (w : anU) : Prop :=
 xC (fun Cq b8 b9 w => rE R Cq b8 b9 w) Cq b8 b9 w
theorem IX (kn : K3) (hn : N3 Q kn 7 8 9) (h : xC kn (g 7) (g 8) (g 9) w) : bA pg cF (aI 1 (aB 7 (bI (aB 1 bY)))) Q g w :=
 gY 1 (IQ _ g w (vV kn) (fun g w h => aM (FP 0 (Je _ g w kn hn h))) h)
def wH (kn : K3) (R : K1) (cP : anV) (w : anU) : Prop :=
 aP pg BT #[cP, (anW 6), (anW 12)] w fun c6 w =>
 aD pg (bF c6 0) w fun c7 w =>
 aD pg (bF c6 1) w fun c8 w =>
 aD pg (bF c6 2) w fun c9 w =>
 aD pg (eM 73) w fun c_4 w =>
 aD pg (bB 73 c_4 c7) w fun _u w =>
 aD pg (aG .neq 25 (.tmp 20) (.const (anW 0)) c9 (anW 0)) w fun d1 w =>
 eY d1
  (R (.tuple #[(.slice none 0 0), c9]) w)
  (aD pg (lO 22 cP (some c8) none none) w fun d6 w =>
  aP pg jH #[d6] w fun d7 w =>
  aD pg (bF d7 0) w fun d8 w =>
  aD pg (bF d7 1) w fun d9 w =>
  aD pg (aG .neq 25 (.tmp 30) (.const (anW 0)) d9 (anW 0)) w fun e1 w =>
  eY e1
   (R (.tuple #[(.slice none 0 0), d9]) w)
   (aD pg (aL 73 c_4) w fun e4 w =>
   aP pg B9 #[e4] w fun e5 w =>
   aD pg (bF e5 0) w fun e6 w =>
   aD pg (bF e5 1) w fun e7 w =>
   aD pg (eM 81) w fun b8 w =>
   aD pg (bB 81 b8 e6) w fun _u w =>
   aD pg (aG .neq 25 (.tmp 38) (.const (anW 0)) e7 (anW 0)) w fun e9 w =>
   eY e9
    (R (.tuple #[(.slice none 0 0), e7]) w)
    (aD pg (dG 84 []) w fun f1 w =>
    aD pg (eM 84) w fun b9 w =>
    aD pg (bB 84 b9 f1) w fun _u w =>
    kn d8 b8 b9 w)))
theorem Jd (kn : K3) (R : K1) (hn : N3 Q kn 7 8 9) (hr : HR lU R Q) (h : wH kn R (g 0) w) : bA pg cF (aI 7 (bI (aB 1 bY))) Q g w :=
 dQ (l := []) h hn hr trivial
def Eb (R : K1) (cP : anV) (w : anU) : Prop :=
 wH (fun Cq b8 b9 w => oR R Cq b8 b9 w) R cP w
def xK (R : K1) (cP : anV) (w : anU) : Prop :=
 Eb R cP w
def wR (kn : K1) (cP : anV) (w : anU) : Prop :=
 kn cP w
theorem Jj (kn : K1) (hn : N1 Q kn 0) (h : wR kn (g 0) w) : bA pg cF (aI 1 bY) Q g w :=
 dQ (kr := no) (l := []) h hn eZ trivial
def wI (R : K1) (cP : anV) (w : anU) : Prop :=
 wR (fun cP w => xK R cP w) cP w
theorem IY (R : K1) (hr : HR lU R Q) (h : wI R (g 0) w) : bA pg cF bY Q g w :=
 gY 1 (Jj _ g w (xK R) (fun g w h => aM (scD (gY 7 (Jd _ g w (oR R) R (fun g w h => aM (gY 1 (IX _ g w (rE R) (fun g w h => aM (gY 3 (JX _ g w (rI R) R (fun g w h => aM (gY 1 (JY _ g w (mB R) (fun g w h => aM (Le _ g w R hr h)) h))) hr h))) h))) hr h)))) h)
def KN (a0 : anV) (w : anU) (R : K1) : Prop :=
 wI R a0 w
theorem LB {a0 : anV} {w : anU} {R : K1} (h : KN a0 w R) : aP pg tF #[a0] w R := by
 refine uS (ann := cF) Try.f26 bY [a0] lU 103 TryM.mixed Try.func26 ?_
 exact (IY _ _ _ R (fun _ _ h => h) h)
def FE : FA := ⟨vK, fun i => .leaf ([], []) []⟩
def Hw : List ResultVar := [.tmp 2, .tmp 3]
noncomputable def EE : Code := bT Try.f27
def Bz (R : K1) (eK : anV) (w : anU) : Prop :=
 aP pg pX #[eK] w fun c0 w =>
 aD pg (bF c0 0) w fun c1 w =>
 aD pg (bF c0 1) w fun c2 w =>
 aD pg (X0 .not c2) w fun c4 w =>
 Gd (eS c4 false) (fun K => K eK w) w fun c6 w =>
 Gd (eS c4 false) (fun K => aD pg (gD .len #[22] 3 [c6]) w K) w fun c7 w =>
 Gd (eS c4 false) (fun K => aD pg (aG .eql 3 (.tmp 17) (.const (anW 0)) c7 (anW 0)) w K) w fun c8 w =>
 aD pg (fH c4 (.bool true) c8) w fun c9 w =>
 Gd (eS c9 false) (fun K => K eK w) w fun d1 w =>
 Gd (eS c9 false) (fun K => aD pg (gD .len #[22] 3 [d1]) w K) w fun d2 w =>
 Gd (eS c9 false) (fun K => aD pg (aG .geq 3 aK aK d2 (anW 256)) w K) w fun d3 w =>
 aD pg (fH c9 (.bool true) d3) w fun d4 w =>
 Gd (eS d4 false) (fun K => K c1 w) w fun d6 w =>
 Gd (eS d4 false) (fun K => aD pg (aG .eql 3 (.tmp 26) (.const (anW 0)) d6 (anW 0)) w K) w fun d7 w =>
 aD pg (fH d4 (.bool true) d7) w fun d8 w =>
 eY d8
  (R (.tuple #[(.slice none 0 0), (anW 11)]) w)
  (aD pg (fB 3 48 c1) w fun e0 w =>
  aP pg iT #[e0] w fun e1 w =>
  aD pg (aG .shl 3 aK aK (anW 1) e1) w fun e3 w =>
  aD pg (aG .sub 3 aK aK e3 c1) w fun e5 w =>
  aD pg (aG .gtr 3 aK aK e1 (anW 11)) w fun e7 w =>
  Gd (eS e7 false) (fun K => K e5 w) w fun e9 w =>
  Gd (eS e7 false) (fun K => K e5 w) w fun f0 w =>
  Gd (eS e7 false) (fun K => aD pg (aG .sub 3 aK aK f0 (anW 1)) w K) w fun f1 w =>
  Gd (eS e7 false) (fun K => aD pg (aG .and 3 aK aK e9 f1) w K) w fun f2 w =>
  Gd (eS e7 false) (fun K => aD pg (aG .neq 3 (.tmp 42) (.const (anW 0)) f2 (anW 0)) w K) w fun f3 w =>
  aD pg (fH e7 (.bool true) f3) w fun f4 w =>
  eY f4
   (R (.tuple #[(.slice none 0 0), (anW 11)]) w)
   (aP pg cI #[eK] w fun f6 w =>
   aD pg (fB 3 48 e5) w fun f8 w =>
   aP pg iT #[f8] w fun f9 w =>
   aD pg (fB 3 5 f9) w fun i0 w =>
   aD pg (cD 22 1 [(0, i0)]) w fun i1 w =>
   aD pg (gD .append #[22, 22] 22 [f6, i1]) w fun i2 w =>
   R (.tuple #[i2, (anW 0)]) w))
theorem Mg (R : K1) (hr : HR Hw R Q) (h : Bz R (g 0) w) : bA pg FE EE Q g w :=
 dQ (kn := no) (l := []) h eZ hr trivial
def Mu (a0 : anV) (w : anU) (R : K1) : Prop :=
 Bz R a0 w
theorem NA {a0 : anV} {w : anU} {R : K1} (h : Mu a0 w R) : aP pg vK #[a0] w R := by
 refine uS (ann := FE) Try.f27 EE [a0] Hw 53 TryM.mixed Try.func27 ?_
 exact (Mg _ _ _ R (fun _ _ h => h) h)
def IJ : FA := ⟨BX, fun i => .leaf ([], []) []⟩
def JT : List ResultVar := [.tmp 6, .tmp 7]
noncomputable def G7 : Code := bT Try.f28
def Ek (R : K1) (eK ZN qY : anV) (w : anU) : Prop :=
 aP pg qF #[eK] w fun c2 w =>
 aD pg (bF c2 0) w fun c3 w =>
 aD pg (bF c2 1) w fun c4 w =>
 aD pg (eM 95) w fun b8 w =>
 aD pg (bB 95 b8 c3) w fun _u w =>
 aD pg (aG .neq 25 (.tmp 16) (.const (anW 0)) c4 (anW 0)) w fun c7 w =>
 eY c7
  (R (.tuple #[(.slice none 0 0), c4]) w)
  (aD pg (aG .lss 3 aK aK qY (anW 0)) w fun d1 w =>
  Gd (eS d1 false) (fun K => K qY w) w fun d3 w =>
  Gd (eS d1 false) (fun K => aD pg (aG .gtr 3 aK aK d3 (anW 131072)) w K) w fun d4 w =>
  aD pg (fH d1 (.bool true) d4) w fun d5 w =>
  eY d5
   (R (.tuple #[(.slice none 0 0), (anW 1)]) w)
   (aD pg (aL 95 b8) w fun d6 w =>
   aP pg kG #[d6, ZN, qY] w fun d9 w =>
   aD pg (bF d9 0) w fun e0 w =>
   aD pg (bF d9 1) w fun e1 w =>
   R (.tuple #[e0, e1]) w))
theorem OC (R : K1) (hr : HR JT R Q) (h : Ek R (g 0) (g 1) (g 2) w) : bA pg IJ G7 Q g w :=
 dQ (kn := no) (l := []) h eZ hr trivial
def QV (a0 a1 a2 : anV) (w : anU) (R : K1) : Prop :=
 Ek R a0 a1 a2 w
theorem Qt {a0 a1 a2 : anV} {w : anU} {R : K1} (h : QV a0 a1 a2 w R) : aP pg BX #[a0, a1, a2] w R := by
 refine uS (ann := IJ) Try.f28 G7 [a0, a1, a2] JT 32 TryM.mixed Try.func28 ?_
 exact (OC _ _ _ R (fun _ _ h => h) h)
def dN : FA := ⟨zK, fun i => match Nat.beq i 16 with | true => .leaf ([1, 12], [(1, 2), (1, 3), (1, 5), (1, 6), (1, 8), (1, 9)]) [(false, []), (true, []), (false, [0]), (false, [1]), (false, []), (false, [3]), (false, [4]), (false, []), (false, [6]), (false, [7]), (false, []), (false, []), (true, [])] | false => match Nat.beq i 23 with | true => .leaf ([5, 9], [(0, 5), (5, 7), (5, 8)]) [(false, []), (false, []), (false, []), (false, []), (false, []), (true, [4]), (false, []), (false, [1]), (false, [2]), (true, []), (false, []), (false, []), (false, []), (false, []), (false, [])] | false => .leaf ([], []) []⟩
def iV : List ResultVar := [.tmp 6, .tmp 7]
noncomputable def cY : Code := bT Try.f29
def vO (R : K1) (gR : anV) (w : anU) : Prop :=
 R (.tuple #[gR, (anW 0)]) w
theorem MY (R : K1) (hr : HR iV R Q) (h : vO R (g 15) w) : bA pg dN (aB 1 (aB 3 (aB 1 (aB 8 cY)))) Q g w :=
 dQ (kn := no) (l := []) h eZ hr trivial
def vQ (kn : K6) (k2 : K1) (R : K1) (b8 bS jX bL gR l1 : anV) (w : anU) : Prop :=
 aD pg (aG .lss 3 aK aK l1 (anW 4)) w fun l2 w =>
 eY l2
  (aD pg (aL 95 b8) (dr w) fun l5 w_ => w_ = (dr w) /\
  (dr w) = (dr w) /\
  (dr w) = (dr w) /\
  aD pg (bK 51 bL l1) (dr w) fun l8 w_ => w_ = (dr w) /\
  aD pg (aL 3 l8) (dr w) fun l9 w_ => w_ = (dr w) /\
  aP pg lD #[jX, l9] (dr w) fun m0 QE =>
  (eL pg (aL 95 b8) l5 QE /\ True) /\
  QE = QE /\
  aD pg (bK 51 bS l1) QE fun m2 w_ => w_ = QE /\
  (eL pg (bK 51 bS l1) m2 (dr w) /\ True) /\
  aD pg (aL 3 m2) QE fun m3 w_ => w_ = QE /\
  (eL pg (aL 3 m2) m3 (dr w) /\ True) /\
  aP pg kG #[l5, m0, m3] QE fun m4 JZ =>
  JZ = JZ /\
  aD pg (bF m4 0) JZ fun m5 w_ => w_ = JZ /\
  aD pg (bF m4 1) JZ fun m6 w_ => w_ = JZ /\
  JZ = JZ /\
  JZ = JZ /\
  aD pg (aG .neq 25 (.tmp 87) (.const (anW 0)) m6 (anW 0)) JZ fun m8 w =>
  eY m8
   (R (.tuple #[(.slice none 0 0), m6]) w)
   (aD pg (gD .append #[22, 22] 22 [gR, m5]) w fun n2 w =>
   aD pg (aG .add 3 aK aK l1 (anW 1)) w fun n3 w =>
   kn b8 bS jX bL n2 n3 w))
  (k2 gR w)
theorem NF (kn : K6) (k2 : K1) (R : K1) (hn : N6 Q kn 8 10 12 13 15 71) (h2 : E1 Q k2 2 15) (hr : HR iV R Q) (h : vQ kn k2 R (g 8) (g 10) (g 12) (g 13) (g 15) (g 71) w) : bA pg dN (bI (bI (aB 1 (aI 1 (aB 3 (aB 1 (aB 8 cY))))))) Q g w :=
 dQ (l := [(2, fun g w => k2 (g 15) w)]) h hn hr ⟨h2, trivial⟩
def CL (k2 : K1) (R : K1) (b8 bS jX bL gR l1 : anV) (w : anU) : Prop :=
 cK (fun (X : (anV × anV) -> K0) (t : anV × anV) (w : anU) => vQ (fun _ _ _ _ gR l1 w => X (gR, l1) w) k2 R b8 bS jX bL t.1 t.2 w) (gR, l1) w
theorem Ng (k2 : K1) (R : K1) (h2 : E1 Q k2 2 15) (hr : HR iV R Q) (h : CL k2 R (g 8) (g 10) (g 12) (g 13) (g 15) (g 71) w) : bA pg dN (bI (aB 1 (aI 1 (aB 3 (aB 1 (aB 8 cY)))))) Q g w := by
 refine NN (fun g : Env => (g 15, g 71)) (fun X t w => vQ (fun _ _ _ _ gR l1 w => X (gR, l1) w) k2 R (g 8) (g 10) (g 12) (g 13) t.1 t.2 w) h (fun X g1 w1 ha hL => ?_)
 rw [<- jB 8 ha, <- jB 10 ha, <- jB 12 ha, <- jB 13 ha] at hL
 exact (NF _ g1 w1 (fun _ _ _ _ gR l1 w => X (gR, l1) w) k2 R (fun _ _ h => h) h2 hr hL)
def Cx (kn : K1) (R : K1) (b8 bS jX bL gR l1 : anV) (w : anU) : Prop :=
 CL kn R b8 bS jX bL gR l1 w
def CY (kn : K6) (b8 bS jX bL gR : anV) (w : anU) : Prop :=
 kn b8 bS jX bL gR (anW 0) w
theorem Nv (kn : K6) (hn : N6 Q kn 8 10 12 13 15 71) (h : CY kn (g 8) (g 10) (g 12) (g 13) (g 15) w) : bA pg dN (aI 1 (aI 1 (aB 3 (aB 1 (aB 8 cY))))) Q g w :=
 dQ (kr := no) (l := []) h hn eZ trivial
def CN (kn : K1) (R : K1) (b8 bS jX bL gR : anV) (w : anU) : Prop :=
 CY (fun b8 bS jX bL gR l1 w => Cx kn R b8 bS jX bL gR l1 w) b8 bS jX bL gR w
def CA (R : K1) (b8 bS jX bL gR : anV) (w : anU) : Prop :=
 CN (fun gR w => vO R gR w) R b8 bS jX bL gR w
theorem MQ (kn : K1) (R : K1) (hn : N1 Q kn 15) (hr : HR iV R Q) (h : CN kn R (g 8) (g 10) (g 12) (g 13) (g 15) w) : bA pg dN (aI 1 (aB 3 (aB 1 (aB 8 cY)))) Q g w :=
 gY 1 (Nv _ g w (Cx kn R) (fun g w h => aM (FP 2 (Ng _ g w kn R hn hr h))) h)
def CQ (kn : K5) (R : K1) (b8 bS jX bL : anV) (w : anU) : Prop :=
 (dr w) = (dr w) /\
 aP pg mG #[jX] (dr w) fun i2 uZ =>
 aD pg (bK 51 bL (anW 0)) uZ fun i3 w_ => w_ = uZ /\
 (eL pg (bK 51 bL (anW 0)) i3 (dr w) /\ True) /\
 aD pg (aL 3 i3) uZ fun i4 w_ => w_ = uZ /\
 (eL pg (aL 3 i3) i4 (dr w) /\ True) /\
 aD pg (aG .sub 3 aK aK i2 i4) uZ fun i5 w_ => w_ = uZ /\
 aD pg (bK 51 bL (anW 1)) uZ fun i6 w_ => w_ = uZ /\
 (eL pg (bK 51 bL (anW 1)) i6 (dr w) /\ True) /\
 aD pg (aL 3 i6) uZ fun i7 w_ => w_ = uZ /\
 (eL pg (aL 3 i6) i7 (dr w) /\ True) /\
 aD pg (aG .sub 3 aK aK i5 i7) uZ fun i8 w_ => w_ = uZ /\
 aD pg (bK 51 bL (anW 2)) uZ fun i9 w_ => w_ = uZ /\
 (eL pg (bK 51 bL (anW 2)) i9 (dr w) /\ True) /\
 aD pg (aL 3 i9) uZ fun j0 w_ => w_ = uZ /\
 (eL pg (aL 3 i9) j0 (dr w) /\ True) /\
 aD pg (aG .sub 3 aK aK i8 j0) uZ fun j1 w_ => w_ = uZ /\
 aD pg (bK 51 bL (anW 3)) uZ fun j2 w_ => w_ = uZ /\
 aD pg (bB 3 j2 j1) uZ fun _u12 aeF =>
 aP pg iO #[jX] aeF fun j4 w =>
 aD pg (aG .neq 25 (.tmp 64) (.const (anW 0)) j4 (anW 0)) w fun j5 w =>
 Gd (eS j5 false) (fun K => aD pg (bK 51 bL (anW 3)) w K) w fun j7 w =>
 Gd (eS j5 false) (fun K => aD pg (aL 3 j7) w K) w fun j8 w =>
 Gd (eS j5 false) (fun K => aD pg (aG .lss 3 aK aK j8 (anW 0)) w K) w fun j9 w =>
 aD pg (fH j5 (.bool true) j9) w fun l0 w =>
 eY l0
  (R (.tuple #[(.slice none 0 0), (anW 10)]) w)
  (kn b8 bS jX bL (.slice none 0 0) w)
theorem NL (kn : K5) (R : K1) (hn : N5 Q kn 8 10 12 13 15) (hr : HR iV R Q) (h : CQ kn R (g 8) (g 10) (g 12) (g 13) w) : bA pg dN (aI 3 (aB 1 (aB 8 cY))) Q g w :=
 dQ (l := []) h hn hr trivial
def CM (R : K1) (b8 bS jX bL : anV) (w : anU) : Prop :=
 CQ (fun b8 bS jX bL gR w => CA R b8 bS jX bL gR w) R b8 bS jX bL w
def tG (kn : K5) (k0 : K4) (b8 bS jX bL f2 : anV) (w : anU) : Prop :=
 aD pg (aG .lss 3 aK aK f2 (anW 3)) w fun f3 w =>
 eY f3
  (aP pg iH #[jX, (anW 2)] w fun f7 w =>
  aD pg (fB 47 3 f7) w fun f8 w =>
  aD pg (bK 51 bL f2) w fun f9 w =>
  aD pg (bB 3 f9 f8) w fun _u w =>
  aD pg (aG .add 3 aK aK f2 (anW 1)) w fun i0 w =>
  kn b8 bS jX bL i0 w)
  (k0 b8 bS jX bL w)
theorem LX (kn : K5) (k0 : K4) (hn : N5 Q kn 8 10 12 13 42) (h0 : E4 Q k0 0 8 10 12 13) (h : tG kn k0 (g 8) (g 10) (g 12) (g 13) (g 42) w) : bA pg dN (bI (bI (aB 1 (aI 1 (aB 8 cY))))) Q g w :=
 dQ (kr := no) (l := [(0, fun g w => k0 (g 8) (g 10) (g 12) (g 13) w)]) h hn eZ ⟨h0, trivial⟩
def A3 (k0 : K4) (b8 bS jX bL f2 : anV) (w : anU) : Prop :=
 cK (fun (X : anV -> K0) (t : anV) (w : anU) => tG (fun _ _ _ _ f2 w => X f2 w) k0 b8 bS jX bL t w) f2 w
theorem LV (k0 : K4) (h0 : E4 Q k0 0 8 10 12 13) (h : A3 k0 (g 8) (g 10) (g 12) (g 13) (g 42) w) : bA pg dN (bI (aB 1 (aI 1 (aB 8 cY)))) Q g w := by
 refine NN (fun g : Env => g 42) (fun X t w => tG (fun _ _ _ _ f2 w => X f2 w) k0 (g 8) (g 10) (g 12) (g 13) t w) h (fun X g1 w1 ha hL => ?_)
 rw [<- jB 8 ha, <- jB 10 ha, <- jB 12 ha, <- jB 13 ha] at hL
 exact (LX _ g1 w1 (fun _ _ _ _ f2 w => X f2 w) k0 (fun _ _ h => h) h0 hL)
def Ba (kn : K4) (b8 bS jX bL f2 : anV) (w : anU) : Prop :=
 A3 kn b8 bS jX bL f2 w
def Bu (kn : K5) (b8 bS jX bL : anV) (w : anU) : Prop :=
 kn b8 bS jX bL (anW 0) w
theorem Mn (kn : K5) (hn : N5 Q kn 8 10 12 13 42) (h : Bu kn (g 8) (g 10) (g 12) (g 13) w) : bA pg dN (aI 1 (aI 1 (aB 8 cY))) Q g w :=
 dQ (kr := no) (l := []) h hn eZ trivial
def Bb (kn : K4) (b8 bS jX bL : anV) (w : anU) : Prop :=
 Bu (fun b8 bS jX bL f2 w => Ba kn b8 bS jX bL f2 w) b8 bS jX bL w
def A8 (R : K1) (b8 bS jX bL : anV) (w : anU) : Prop :=
 Bb (fun b8 bS jX bL w => CM R b8 bS jX bL w) b8 bS jX bL w
theorem Ml (kn : K4) (hn : N4 Q kn 8 10 12 13) (h : Bb kn (g 8) (g 10) (g 12) (g 13) w) : bA pg dN (aI 1 (aB 8 cY)) Q g w :=
 gY 1 (Mn _ g w (Ba kn) (fun g w h => aM (FP 0 (LV _ g w kn hn h))) h)
def Bv (kn : K4) (R : K1) (eK ZN qY : anV) (w : anU) : Prop :=
 aP pg qF #[eK] w fun d1 w =>
 aD pg (bF d1 0) w fun d2 w =>
 aD pg (bF d1 1) w fun d3 w =>
 aD pg (eM 95) w fun b8 w =>
 aD pg (bB 95 b8 d2) w fun _u w =>
 aD pg (aG .neq 25 (.tmp 24) (.const (anW 0)) d3 (anW 0)) w fun d5 w =>
 eY d5
  (R (.tuple #[(.slice none 0 0), d3]) w)
  (aD pg (aG .lss 3 aK aK qY (anW 0)) w fun d8 w =>
  Gd (eS d8 false) (fun K => K qY w) w fun e0 w =>
  Gd (eS d8 false) (fun K => aD pg (aG .gtr 3 aK aK e0 (anW 131072)) w K) w fun e1 w =>
  aD pg (fH d8 (.bool true) e1) w fun e2 w =>
  eY e2
   (R (.tuple #[(.slice none 0 0), (anW 1)]) w)
   (aP pg yO #[qY] w fun e5 w =>
   aD pg (bF e5 0) w fun e6 w =>
   aD pg (bF e5 1) w fun e7 w =>
   aD pg (eM 51) w fun bS w =>
   aD pg (bB 51 bS e6) w fun _u w =>
   aD pg (X0 .not e7) w fun e9 w =>
   eY e9
    (R (.tuple #[(.slice none 0 0), (anW 11)]) w)
    (aP pg kV #[ZN] w fun f1 w =>
    aD pg (eM 51) w fun bL w =>
    kn b8 bS f1 bL w)))
theorem LK (kn : K4) (R : K1) (hn : N4 Q kn 8 10 12 13) (hr : HR iV R Q) (h : Bv kn R (g 0) (g 1) (g 2) w) : bA pg dN (aI 8 cY) Q g w :=
 dQ (l := []) h hn hr trivial
def Bf (R : K1) (eK ZN qY : anV) (w : anU) : Prop :=
 Bv (fun b8 bS jX bL w => A8 R b8 bS jX bL w) R eK ZN qY w
theorem Lz (R : K1) (hr : HR iV R Q) (h : Bf R (g 0) (g 1) (g 2) w) : bA pg dN cY Q g w :=
 gY 8 (LK _ g w (A8 R) R (fun g w h => aM (gY 1 (Ml _ g w (CM R) (fun g w h => aM (gY 3 (NL _ g w (CA R) R (fun g w h => aM (gY 1 (MQ _ g w (vO R) R (fun g w h => aM (MY _ g w R hr h)) hr h))) hr h))) h))) hr h)
def Pa (a0 a1 a2 : anV) (w : anU) (R : K1) : Prop :=
 Bf R a0 a1 a2 w
theorem Ob {a0 a1 a2 : anV} {w : anU} {R : K1} (h : Pa a0 a1 a2 w R) : aP pg zK #[a0, a1, a2] w R := by
 refine uS (ann := dN) Try.f29 cY [a0, a1, a2] iV 95 TryM.mixed Try.func29 ?_
 exact (Lz _ _ _ R (fun _ _ h => h) h)
def Fw : FA := ⟨pR, fun i => .leaf ([], []) []⟩
def Hn : List ResultVar := [.tmp 2]
noncomputable def Ew : Code := bT Try.f30
def Bd (R : K1) (eK : anV) (w : anU) : Prop :=
 aP pg pX #[eK] w fun b8 w =>
 aD pg (bF b8 0) w fun b9 w =>
 aD pg (bF b8 1) w fun c0 w =>
 aD pg (X0 .not c0) w fun c2 w =>
 Gd (eS c2 false) (fun K => K eK w) w fun c4 w =>
 Gd (eS c2 false) (fun K => aD pg (gD .len #[22] 3 [c4]) w K) w fun c5 w =>
 Gd (eS c2 false) (fun K => aD pg (aG .lss 3 aK aK c5 (anW 2)) w K) w fun c6 w =>
 aD pg (fH c2 (.bool true) c6) w fun c7 w =>
 Gd (eS c7 false) (fun K => K eK w) w fun c9 w =>
 Gd (eS c7 false) (fun K => aD pg (gD .len #[22] 3 [c9]) w K) w fun d0 w =>
 Gd (eS c7 false) (fun K => aD pg (aG .gtr 3 aK aK d0 (anW 256)) w K) w fun d1 w =>
 aD pg (fH c7 (.bool true) d1) w fun d2 w =>
 Gd (eS d2 false) (fun K => K eK w) w fun d4 w =>
 Gd (eS d2 false) (fun K => K eK w) w fun d5 w =>
 Gd (eS d2 false) (fun K => aD pg (gD .len #[22] 3 [d5]) w K) w fun d6 w =>
 Gd (eS d2 false) (fun K => aD pg (aG .sub 3 aK aK d6 (anW 1)) w K) w fun d7 w =>
 Gd (eS d2 false) (fun K => aD pg (bK 22 d4 d7) w K) w fun d8 w =>
 Gd (eS d2 false) (fun K => aD pg (aL 5 d8) w K) w fun d9 w =>
 Gd (eS d2 false) (fun K => aD pg (aG .eql 5 (.tmp 29) (.const (.int .u8 0)) d9 (.int .u8 0)) w K) w fun e0 w =>
 aD pg (fH d2 (.bool true) e0) w fun e1 w =>
 Gd (eS e1 false) (fun K => K b9 w) w fun e3 w =>
 Gd (eS e1 false) (fun K => K b9 w) w fun e4 w =>
 Gd (eS e1 false) (fun K => aD pg (aG .sub 3 aK aK e4 (anW 1)) w K) w fun e5 w =>
 Gd (eS e1 false) (fun K => aD pg (aG .and 3 aK aK e3 e5) w K) w fun e6 w =>
 Gd (eS e1 false) (fun K => aD pg (aG .neq 3 (.tmp 36) (.const (anW 0)) e6 (anW 0)) w K) w fun e7 w =>
 aD pg (fH e1 (.bool true) e7) w fun e8 w =>
 eY e8
  (R (anW 0) w)
  (aD pg (fB 3 48 b9) w fun f0 w =>
  aP pg iT #[f0] w fun f1 w =>
  aD pg (aG .sub 3 aK aK f1 (anW 1)) w fun f2 w =>
  aD pg (aG .gtr 3 aK aK f2 (anW 11)) w fun f4 w =>
  Gd (eS f4 false) (fun K => K eK w) w fun f6 w =>
  Gd (eS f4 false) (fun K => aP pg rL #[f6] w K) w fun f7 w =>
  Gd (eS f4 false) (fun K => aD pg (fB 5 3 f7) w K) w fun f8 w =>
  Gd (eS f4 false) (fun K => K f2 w) w fun f9 w =>
  Gd (eS f4 false) (fun K => aD pg (aG .gtr 3 aK aK f8 f9) w K) w fun i0 w =>
  aD pg (fH f4 (.bool true) i0) w fun i1 w =>
  eY i1
   (R (anW 0) w)
   (R f2 w))
theorem LC (R : K1) (hr : HR Hn R Q) (h : Bd R (g 0) w) : bA pg Fw Ew Q g w :=
 dQ (kn := no) (l := []) h eZ hr trivial
def MH (a0 : anV) (w : anU) (R : K1) : Prop :=
 Bd R a0 w
theorem NI {a0 : anV} {w : anU} {R : K1} (h : MH a0 w R) : aP pg pR #[a0] w R := by
 refine uS (ann := Fw) Try.f30 Ew [a0] Hn 53 TryM.mixed Try.func30 ?_
 exact (LC _ _ _ R (fun _ _ h => h) h)
def Ir : FA := ⟨BR, fun i => .leaf ([], []) []⟩
def Kz : List ResultVar := [.tmp 4, .tmp 5]
noncomputable def Hc : Code := bT Try.f31
def EL (R : K1) (eK aS : anV) (w : anU) : Prop :=
 aP pg kD #[eK] w fun c0 w =>
 aD pg (bF c0 0) w fun c1 w =>
 aD pg (bF c0 1) w fun c2 w =>
 aD pg (aG .neq 25 (.tmp 14) (.const (anW 0)) c2 (anW 0)) w fun c5 w =>
 eY c5
  (R (.tuple #[(.slice none 0 0), c2]) w)
  (aD pg (gD .len #[22] 3 [aS]) w fun c9 w =>
  aD pg (aG .gtr 3 aK aK c9 (anW 131072)) w fun d0 w =>
  eY d0
   (R (.tuple #[(.slice none 0 0), (anW 1)]) w)
   (aP pg eT #[c1, aS] w fun d3 w =>
   aD pg (bF d3 0) w fun d4 w =>
   aD pg (bF d3 1) w fun d5 w =>
   R (.tuple #[d4, d5]) w))
theorem Ou (R : K1) (hr : HR Kz R Q) (h : EL R (g 0) (g 1) w) : bA pg Ir Hc Q g w :=
 dQ (kn := no) (l := []) h eZ hr trivial
def QT (a0 a1 : anV) (w : anU) (R : K1) : Prop :=
 EL R a0 a1 w
theorem PZ {a0 a1 : anV} {w : anU} {R : K1} (h : QT a0 a1 w R) : aP pg BR #[a0, a1] w R := by
 refine uS (ann := Ir) Try.f31 Hc [a0, a1] Kz 26 TryM.mixed Try.func31 ?_
 exact (Ou _ _ _ R (fun _ _ h => h) h)
def dP : FA := ⟨Ad, fun i => .leaf ([], []) []⟩
def gX : List ResultVar := [.tmp 4, .tmp 5]
noncomputable def cX : Code := bT Try.f32
def pV (R : K1) (iY cC : anV) (w : anU) : Prop :=
 aP pg jA #[iY, cC] w fun l3 w =>
 aP pg iP #[iY] w fun l5 w =>
 R (.tuple #[l5, (anW 0)]) w
theorem M4 (R : K1) (hr : HR gX R Q) (h : pV R (g 10) (g 11) w) : bA pg dP (aB 1 (aB 7 cX)) Q g w :=
 dQ (kn := no) (l := []) h eZ hr trivial
def pU (kn : K6) (aS cE iY cC e8 e9 : anV) (w : anU) : Prop :=
 aD pg (aG .add 3 aK aK e9 (anW 1)) w fun l0 w =>
 kn aS cE iY cC e8 l0 w
theorem NC (kn : K6) (hn : N6 Q kn 1 6 10 11 38 39) (h : pU kn (g 1) (g 6) (g 10) (g 11) (g 38) (g 39) w) : bA pg dP (aB 1 (aB 2 (bI (bI (aB 1 (aI 1 (aB 7 cX))))))) Q g w :=
 dQ (kr := no) (l := []) h hn eZ trivial
def pQ (kn : K6) (aS cE iY cC ZT e8 e9 : anV) (w : anU) : Prop :=
 aD pg (gD .append #[22, 22] 22 [cC, ZT]) w fun j9 w =>
 kn aS cE iY j9 e8 e9 w
theorem Nr (kn : K6) (hn : N6 Q kn 1 6 10 11 38 39) (h : pQ kn (g 1) (g 6) (g 10) (g 11) (g 14) (g 38) (g 39) w) : bA pg dP (aB 5 (bI (aI 1 (aB 2 (bI (bI (aB 1 (aI 1 (aB 7 cX))))))))) Q g w :=
 dQ (kr := no) (l := []) h hn eZ trivial
def CX (kn : K7) (R : K1) (aS cE iY cC e8 e9 : anV) (w : anU) : Prop :=
 aD pg (L1 51 e8 e9) w fun f2 w =>
 aD pg (lO 22 aS none (some f2) none) w fun f7 w =>
 aP pg eT #[cE, f7] w fun f8 w =>
 aD pg (bF f8 0) w fun f9 w =>
 aD pg (bF f8 1) w fun i0 w =>
 aD pg (aG .neq 25 (.tmp 51) (.const (anW 0)) i0 (anW 0)) w fun i2 w =>
 eY i2
  (R (.tuple #[(.slice none 0 0), i0]) w)
  (aD pg (lO 22 aS (some f2) none none) w fun i6 w =>
  aD pg (aG .lss 3 aK aK e9 (anW 3)) w fun i8 w =>
  eY i8
   (aD pg (gD .len #[22] 3 [f9]) w fun j0 w =>
   aD pg (aG .geq 3 aK aK j0 (anW 65536)) w fun j1 w =>
   eY j1
    (R (.tuple #[(.slice none 0 0), (anW 1)]) w)
    (aD pg (gD .len #[22] 3 [f9]) w fun j4 w =>
    aD pg (fB 3 47 j4) w fun j5 w =>
    aP pg dJ #[iY, j5, (anW 2)] w fun j6 w =>
    kn i6 cE iY cC f9 e8 e9 w))
   (kn i6 cE iY cC f9 e8 e9 w))
theorem NJ (kn : K7) (R : K1) (hn : N7 Q kn 1 6 10 11 14 38 39) (hr : HR gX R Q) (h : CX kn R (g 1) (g 6) (g 10) (g 11) (g 38) (g 39) w) : bA pg dP (aI 5 (bI (aI 1 (aB 2 (bI (bI (aB 1 (aI 1 (aB 7 cX))))))))) Q g w :=
 dQ (l := []) h hn hr trivial
def IG (kn : K6) (R : K1) (aS cE iY cC e8 e9 : anV) (w : anU) : Prop :=
 CX (fun aS cE iY cC ZT e8 e9 w => pQ kn aS cE iY cC ZT e8 e9 w) R aS cE iY cC e8 e9 w
def Ct (kn : K6) (R : K1) (aS cE iY cC e8 e9 : anV) (w : anU) : Prop :=
 IG kn R aS cE iY cC e8 e9 w
def CR (kn : K6) (R : K1) (aS cE iY cC e8 e9 : anV) (w : anU) : Prop :=
 Ct (fun aS cE iY cC e8 e9 w => pU kn aS cE iY cC e8 e9 w) R aS cE iY cC e8 e9 w
theorem MR (kn : K6) (R : K1) (hn : N6 Q kn 1 6 10 11 38 39) (hr : HR gX R Q) (h : Ct kn R (g 1) (g 6) (g 10) (g 11) (g 38) (g 39) w) : bA pg dP (aI 1 (aB 2 (bI (bI (aB 1 (aI 1 (aB 7 cX))))))) Q g w :=
 FP 1 (gY 5 (NJ _ g w (pQ kn) R (fun g w h => aM (Nr _ g w kn hn h)) hr h))
def CG (kn : K6) (k0 : K2) (aS cE iY cC e8 e9 : anV) (w : anU) : Prop :=
 aD pg (aG .lss 3 aK aK e9 (anW 4)) w fun f0 w =>
 eY f0
  (kn aS cE iY cC e8 e9 w)
  (k0 iY cC w)
theorem Nf (kn : K6) (k0 : K2) (hn : N6 Q kn 1 6 10 11 38 39) (h0 : E2 Q k0 0 10 11) (h : CG kn k0 (g 1) (g 6) (g 10) (g 11) (g 38) (g 39) w) : bA pg dP (aI 2 (bI (bI (aB 1 (aI 1 (aB 7 cX)))))) Q g w :=
 dQ (kr := no) (l := [(0, fun g w => k0 (g 10) (g 11) w)]) h hn eZ ⟨h0, trivial⟩
def vI (kn : K6) (k0 : K2) (R : K1) (aS cE iY cC e8 e9 : anV) (w : anU) : Prop :=
 CG (fun aS cE iY cC e8 e9 w => CR kn R aS cE iY cC e8 e9 w) k0 aS cE iY cC e8 e9 w
def BB (k0 : K2) (R : K1) (aS cE iY cC e8 e9 : anV) (w : anU) : Prop :=
 cK (fun (X : (anV × anV × anV) -> K0) (t : anV × anV × anV) (w : anU) => vI (fun aS _ _ cC _ e9 w => X (aS, cC, e9) w) k0 R t.1 cE iY t.2.1 e8 t.2.2 w) (aS, cC, e9) w
theorem M8 (kn : K6) (k0 : K2) (R : K1) (hn : N6 Q kn 1 6 10 11 38 39) (h0 : E2 Q k0 0 10 11) (hr : HR gX R Q) (h : vI kn k0 R (g 1) (g 6) (g 10) (g 11) (g 38) (g 39) w) : bA pg dP (bI (bI (aB 1 (aI 1 (aB 7 cX))))) Q g w :=
 gY 2 (Nf _ g w (CR kn R) k0 (fun g w h => aM (gY 1 (MR _ g w (pU kn) R (fun g w h => aM (NC _ g w kn hn h)) hr h))) h0 h)
theorem Md (k0 : K2) (R : K1) (h0 : E2 Q k0 0 10 11) (hr : HR gX R Q) (h : BB k0 R (g 1) (g 6) (g 10) (g 11) (g 38) (g 39) w) : bA pg dP (bI (aB 1 (aI 1 (aB 7 cX)))) Q g w := by
 refine NN (fun g : Env => (g 1, g 11, g 39)) (fun X t w => vI (fun aS _ _ cC _ e9 w => X (aS, cC, e9) w) k0 R t.1 (g 6) (g 10) t.2.1 (g 38) t.2.2 w) h (fun X g1 w1 ha hL => ?_)
 rw [<- jB 6 ha, <- jB 10 ha, <- jB 38 ha] at hL
 exact (M8 _ g1 w1 (fun aS _ _ cC _ e9 w => X (aS, cC, e9) w) k0 R (fun _ _ h => h) h0 hr hL)
def tD (kn : K2) (R : K1) (aS cE iY cC e8 e9 : anV) (w : anU) : Prop :=
 BB kn R aS cE iY cC e8 e9 w
def Bh (kn : K6) (aS cE Cv iY cC : anV) (w : anU) : Prop :=
 aD pg (aL 51 Cv) w fun e8 w =>
 kn aS cE iY cC e8 (anW 0) w
theorem LI (kn : K6) (hn : N6 Q kn 1 6 10 11 38 39) (h : Bh kn (g 1) (g 6) (g 8) (g 10) (g 11) w) : bA pg dP (aI 1 (aI 1 (aB 7 cX))) Q g w :=
 dQ (kr := no) (l := []) h hn eZ trivial
def Br (kn : K2) (R : K1) (aS cE Cv iY cC : anV) (w : anU) : Prop :=
 Bh (fun aS cE iY cC e8 e9 w => tD kn R aS cE iY cC e8 e9 w) aS cE Cv iY cC w
def Bq (R : K1) (aS cE Cv iY cC : anV) (w : anU) : Prop :=
 Br (fun iY cC w => pV R iY cC w) R aS cE Cv iY cC w
theorem Ly (kn : K2) (R : K1) (hn : N2 Q kn 10 11) (hr : HR gX R Q) (h : Br kn R (g 1) (g 6) (g 8) (g 10) (g 11) w) : bA pg dP (aI 1 (aB 7 cX)) Q g w :=
 gY 1 (LI _ g w (tD kn R) (fun g w h => aM (FP 0 (Md _ g w kn R hn hr h))) h)
def Bj (kn : K5) (R : K1) (eK aS : anV) (w : anU) : Prop :=
 aP pg kD #[eK] w fun c8 w =>
 aD pg (bF c8 0) w fun c9 w =>
 aD pg (bF c8 1) w fun d0 w =>
 aD pg (aG .neq 25 (.tmp 21) (.const (anW 0)) d0 (anW 0)) w fun d2 w =>
 eY d2
  (R (.tuple #[(.slice none 0 0), d0]) w)
  (aD pg (gD .len #[22] 3 [aS]) w fun d6 w =>
  aP pg yO #[d6] w fun d7 w =>
  aD pg (bF d7 0) w fun d8 w =>
  aD pg (bF d7 1) w fun d9 w =>
  aD pg (eM 51) w fun Cv w =>
  aD pg (bB 51 Cv d8) w fun _u w =>
  aD pg (X0 .not d9) w fun e1 w =>
  Gd (eS e1 false) (fun K => K aS w) w fun e3 w =>
  Gd (eS e1 false) (fun K => aD pg (gD .len #[22] 3 [e3]) w K) w fun e4 w =>
  Gd (eS e1 false) (fun K => aD pg (aG .gtr 3 aK aK e4 (anW 131072)) w K) w fun e5 w =>
  aD pg (fH e1 (.bool true) e5) w fun e6 w =>
  eY e6
   (R (.tuple #[(.slice none 0 0), (anW 1)]) w)
   (aP pg jE #[] w fun e7 w =>
   kn aS c9 Cv e7 (.slice none 0 0) w))
theorem Me (kn : K5) (R : K1) (hn : N5 Q kn 1 6 8 10 11) (hr : HR gX R Q) (h : Bj kn R (g 0) (g 1) w) : bA pg dP (aI 7 cX) Q g w :=
 dQ (l := []) h hn hr trivial
def Bk (R : K1) (eK aS : anV) (w : anU) : Prop :=
 Bj (fun aS cE Cv iY cC w => Bq R aS cE Cv iY cC w) R eK aS w
theorem LA (R : K1) (hr : HR gX R Q) (h : Bk R (g 0) (g 1) w) : bA pg dP cX Q g w :=
 gY 7 (Me _ g w (Bq R) R (fun g w h => aM (gY 1 (Ly _ g w (pV R) R (fun g w h => aM (M4 _ g w R hr h)) hr h))) hr h)
def Oo (a0 a1 : anV) (w : anU) (R : K1) : Prop :=
 Bk R a0 a1 w
theorem OM {a0 a1 : anV} {w : anU} {R : K1} (h : Oo a0 a1 w R) : aP pg Ad #[a0, a1] w R := by
 refine uS (ann := dP) Try.f32 cX [a0, a1] gX 76 TryM.mixed Try.func32 ?_
 exact (LA _ _ _ R (fun _ _ h => h) h)
def zL : FA := ⟨jU, fun i => .leaf ([], []) []⟩
def AV : List ResultVar := [.tmp 6]
noncomputable def xO : Code := bT Try.f33
def qN (R : K1) (G0 wD afE : anV) (w : anU) : Prop :=
 aD pg (lN G0) w fun c0 w =>
 aD pg (aJ 64 c0 1) w fun c1 w =>
 aD pg (aL 25 c1) w fun c2 w =>
 aD pg (aG .neq 25 (.tmp 12) (.const (anW 0)) c2 (anW 0)) w fun c3 w =>
 eY c3
  (R (.slice none 0 0) w)
  (aD pg (X0 .not afE) w fun c6 w =>
  eY c6
   (aD pg (lN G0) w fun c8 w =>
   aD pg (aJ 64 c8 1) w fun c9 w =>
   aD pg (bB 25 c9 (anW 1)) w fun _u w =>
   R (.slice none 0 0) w)
   (aD pg (lN G0) w fun d3 w =>
   aD pg (aJ 64 d3 0) w fun d4 w =>
   aD pg (aL 22 d4) w fun d5 w =>
   aD pg (gD .len #[22] 3 [d5]) w fun d6 w =>
   aD pg (aG .gtr 3 aK aK wD d6) w fun d7 w =>
   eY d7
    (aD pg (lN G0) w fun d9 w =>
    aD pg (aJ 64 d9 1) w fun e0 w =>
    aD pg (bB 25 e0 (anW 10)) w fun _u w =>
    R (.slice none 0 0) w)
    (aD pg (lN G0) w fun e2 w =>
    aD pg (aJ 64 e2 0) w fun e3 w =>
    aD pg (aL 22 e3) w fun e4 w =>
    aD pg (lO 22 e4 none (some wD) (some wD)) w fun e7 w =>
    aD pg (lN G0) w fun f0 w =>
    aD pg (aJ 64 f0 0) w fun f1 w =>
    aD pg (aL 22 f1) w fun f2 w =>
    aD pg (lO 22 f2 (some wD) none none) w fun f4 w =>
    aD pg (lN G0) w fun f5 w =>
    aD pg (aJ 64 f5 0) w fun f6 w =>
    aD pg (bB 22 f6 f4) w fun _u w =>
    R e7 w)))
theorem Gj (R : K1) (hr : HR AV R Q) (h : qN R (g 0) (g 1) (g 2) w) : bA pg zL xO Q g w :=
 dQ (kn := no) (l := []) h eZ hr trivial
def Et (a0 a1 a2 : anV) (w : anU) (R : K1) : Prop :=
 qN R a0 a1 a2 w
theorem GC {a0 a1 a2 : anV} {w : anU} {R : K1} (h : Et a0 a1 a2 w R) : aP pg jU #[a0, a1, a2] w R := by
 refine uS (ann := zL) Try.f33 xO [a0, a1, a2] AV 48 TryM.mixed Try.func33 ?_
 exact (Gj _ _ _ R (fun _ _ h => h) h)
def CZ : FA := ⟨rA, fun i => .leaf ([], []) []⟩
def DK : List ResultVar := [.tmp 4, .tmp 5]
noncomputable def BZ : Code := bT Try.f35
def wA (R : K1) (kE y_1 : anV) (w : anU) : Prop :=
 aD pg (aG .and 47 aK aK kE (.int .u64 4294967295)) w fun c5 w =>
 aD pg (aG .shr 47 aK aK kE (.int .u64 32)) w fun c7 w =>
 aD pg (aG .and 47 aK aK y_1 (.int .u64 4294967295)) w fun c9 w =>
 aD pg (aG .shr 47 aK aK y_1 (.int .u64 32)) w fun d1 w =>
 aD pg (aG .mul 47 aK aK c5 c9) w fun d4 w =>
 aD pg (aG .mul 47 aK aK c7 c9) w fun d7 w =>
 aD pg (aG .shr 47 aK aK d4 (.int .u64 32)) w fun d9 w =>
 aD pg (aG .add 47 aK aK d7 d9) w fun e0 w =>
 aD pg (aG .and 47 aK aK e0 (.int .u64 4294967295)) w fun e2 w =>
 aD pg (aG .shr 47 aK aK e0 (.int .u64 32)) w fun e4 w =>
 aD pg (aG .mul 47 aK aK c5 d1) w fun e8 w =>
 aD pg (aG .add 47 aK aK e2 e8) w fun e9 w =>
 aD pg (aG .mul 47 aK aK c7 d1) w fun f2 w =>
 aD pg (aG .add 47 aK aK f2 e4) w fun f4 w =>
 aD pg (aG .shr 47 aK aK e9 (.int .u64 32)) w fun f6 w =>
 aD pg (aG .add 47 aK aK f4 f6) w fun f7 w =>
 aD pg (aG .mul 47 aK aK kE y_1) w fun i0 w =>
 R (.tuple #[f7, i0]) w
theorem I7 (R : K1) (hr : HR DK R Q) (h : wA R (g 0) (g 1) w) : bA pg CZ BZ Q g w :=
 dQ (kn := no) (l := []) h eZ hr trivial
def IF (a0 a1 : anV) (w : anU) (R : K1) : Prop :=
 wA R a0 a1 w
theorem KS {a0 a1 : anV} {w : anU} {R : K1} (h : IF a0 a1 w R) : aP pg rA #[a0, a1] w R := by
 refine uS (ann := CZ) Try.f35 BZ [a0, a1] DK 51 TryM.mixed Try.func35 ?_
 exact (I7 _ _ _ R (fun _ _ h => h) h)
def gC : FA := ⟨BT, fun i => match Nat.beq i 25 with | true => .leaf ([2, 3], [(0, 2)]) [(false, []), (false, []), (true, [1]), (true, []), (false, []), (false, [])] | false => .leaf ([], []) []⟩
def iM : List ResultVar := [.cell 6 73, .tmp 7, .tmp 8]
noncomputable def fL : Code := bT Try.f36
def zS (R : K1) (b6 HN kL : anV) (w : anU) : Prop :=
 aD pg (aL 73 kL) (dr w) fun o1 w_ => w_ = (dr w) /\
 (dr w) = (dr w) /\
 aP pg mZ #[HN] (dr w) fun o3 adA =>
 (eL pg (aL 73 kL) o1 adA /\ True) /\
 aD pg (bB 73 b6 o1) adA fun _u3 TM =>
 TM = TM /\
 TM = TM /\
 Mz pg 73 b6 TM fun r0 => R (.tuple #[r0, o3, (anW 0)]) TM
theorem Oe (R : K1) (hr : HR iM R Q) (h : zS R (g 6) (g 9) (g 12) w) : bA pg gC (aB 1 (aB 7 fL)) Q g w :=
 dQ (kn := no) (l := []) h eZ hr trivial
def sI (kn : K5) (R : K1) (bX b6 HN kL dF : anV) (w : anU) : Prop :=
 aD pg (aJ 73 kL 1) w fun n1 w =>
 aD pg (aL 71 n1) w fun n2 w =>
 aD pg (gD .len #[71] 3 [n2]) w fun n3 w =>
 aD pg (aG .gtr 3 aK aK n3 bX) w fun n5 w =>
 Gd (eS n5 false) (fun K => K dF w) w fun n7 w =>
 Gd (eS n5 false) (fun K => aD pg (aG .lss 3 aK aK n7 (anW 0)) w K) w fun n8 w =>
 aD pg (fH n5 (.bool true) n8) w fun n9 w =>
 eY n9
  (aD pg (dG 73 []) w fun o0 w =>
  aD pg (bB 73 b6 o0) w fun _u w =>
  Mz pg 73 b6 w fun r0 => R (.tuple #[r0, (anW 0), (anW 11)]) w)
  (kn bX b6 HN kL dF w)
theorem O4 (kn : K5) (R : K1) (hn : N5 Q kn 2 6 9 12 13) (hr : HR iM R Q) (h : sI kn R (g 2) (g 6) (g 9) (g 12) (g 13) w) : bA pg gC (aB 6 (bI (aB 1 (bI (bI (aI 1 (aB 7 fL))))))) Q g w :=
 dQ (l := []) h hn hr trivial
def Ed (kn : K5) (R : K1) (bX b6 HN kL dF : anV) (w : anU) : Prop :=
 aP pg yJ #[HN, dF] w fun i2 w =>
 aD pg (bF i2 0) w fun i3 w =>
 aD pg (bF i2 1) w fun i4 w =>
 aD pg (aG .neq 25 (.tmp 55) (.const (anW 0)) i4 (anW 0)) w fun i6 w =>
 eY i6
  (aD pg (dG 73 []) w fun i7 w =>
  aD pg (bB 73 b6 i7) w fun _u w =>
  Mz pg 73 b6 w fun r0 => R (.tuple #[r0, (anW 0), i4]) w)
  (aD pg (aG .sub 3 aK aK i3 (anW 1)) w fun j0 w =>
  aP pg oC #[j0] w fun j3 w =>
  aD pg (aG .sub 3 aK aK dF j3) w fun j4 w =>
  aD pg (aJ 73 kL 1) w fun j5 w =>
  aD pg (aL 71 j5) w fun j6 w =>
  aD pg (cD 71 1 [(0, j0)]) w fun j8 w =>
  aD pg (gD .append #[71, 71] 71 [j6, j8]) w fun j9 w =>
  aD pg (aJ 73 kL 1) w fun l0 w =>
  aD pg (bB 71 l0 j9) w fun _u w =>
  aD pg (aG .eql 3 (.tmp 71) (.const (anW 0)) j0 (anW 0)) w fun l2 w =>
  eY l2
   (aP pg tP #[HN] w fun l5 w =>
   aD pg (bF l5 0) w fun l6 w =>
   aD pg (bF l5 1) w fun l7 w =>
   aD pg (aG .neq 25 (.tmp 78) (.const (anW 0)) l7 (anW 0)) w fun l9 w =>
   eY l9
    (aD pg (dG 73 []) w fun m0 w =>
    aD pg (bB 73 b6 m0) w fun _u w =>
    Mz pg 73 b6 w fun r0 => R (.tuple #[r0, (anW 0), l7]) w)
    (aD pg (aG .gtr 3 aK aK l6 bX) w fun m4 w =>
    eY m4
     (aD pg (dG 73 []) w fun m5 w =>
     aD pg (bB 73 b6 m5) w fun _u w =>
     Mz pg 73 b6 w fun r0 => R (.tuple #[r0, (anW 0), (anW 11)]) w)
     (aD pg (aJ 73 kL 1) w fun m6 w =>
     aD pg (aL 71 m6) w fun m7 w =>
     aD pg (gD .append #[71, 3] 71 [m7, l6]) w fun m9 w =>
     aD pg (aJ 73 kL 1) w fun n0 w =>
     aD pg (bB 71 n0 m9) w fun _u w =>
     kn bX b6 HN kL j4 w)))
   (kn bX b6 HN kL j4 w))
theorem OK (kn : K5) (R : K1) (hn : N5 Q kn 2 6 9 12 13) (hr : HR iM R Q) (h : Ed kn R (g 2) (g 6) (g 9) (g 12) (g 13) w) : bA pg gC (aI 6 (bI (aB 1 (bI (bI (aI 1 (aB 7 fL))))))) Q g w :=
 dQ (l := []) h hn hr trivial
def Kl (kn : K5) (R : K1) (bX b6 HN kL dF : anV) (w : anU) : Prop :=
 Ed (fun bX b6 HN kL dF w => sI kn R bX b6 HN kL dF w) R bX b6 HN kL dF w
def DA (kn : K5) (R : K1) (bX b6 HN kL dF : anV) (w : anU) : Prop :=
 Kl kn R bX b6 HN kL dF w
def DD (kn : K5) (k0 : K3) (bX b6 HN kL dF : anV) (w : anU) : Prop :=
 aD pg (aG .gtr 3 aK aK dF (anW 0)) w fun f8 w =>
 eY f8
  (kn bX b6 HN kL dF w)
  (k0 b6 HN kL w)
theorem O6 (kn : K5) (k0 : K3) (hn : N5 Q kn 2 6 9 12 13) (h0 : E3 Q k0 0 6 9 12) (h : DD kn k0 (g 2) (g 6) (g 9) (g 12) (g 13) w) : bA pg gC (aI 1 (bI (bI (aI 1 (aB 7 fL))))) Q g w :=
 dQ (kr := no) (l := [(0, fun g w => k0 (g 6) (g 9) (g 12) w)]) h hn eZ ⟨h0, trivial⟩
def zO (kn : K5) (k0 : K3) (R : K1) (bX b6 HN kL dF : anV) (w : anU) : Prop :=
 DD (fun bX b6 HN kL dF w => DA kn R bX b6 HN kL dF w) k0 bX b6 HN kL dF w
def Eo (k0 : K3) (R : K1) (bX b6 HN kL dF : anV) (w : anU) : Prop :=
 cK (fun (X : anV -> K0) (t : anV) (w : anU) => zO (fun _ _ _ _ dF w => X dF w) k0 R bX b6 HN kL t w) dF w
theorem Pe (kn : K5) (k0 : K3) (R : K1) (hn : N5 Q kn 2 6 9 12 13) (h0 : E3 Q k0 0 6 9 12) (hr : HR iM R Q) (h : zO kn k0 R (g 2) (g 6) (g 9) (g 12) (g 13) w) : bA pg gC (bI (bI (aI 1 (aB 7 fL)))) Q g w :=
 gY 1 (O6 _ g w (DA kn R) k0 (fun g w h => aM (FP 1 (gY 6 (OK _ g w (sI kn R) R (fun g w h => aM (O4 _ g w kn R hn hr h)) hr h)))) h0 h)
theorem Pv (k0 : K3) (R : K1) (h0 : E3 Q k0 0 6 9 12) (hr : HR iM R Q) (h : Eo k0 R (g 2) (g 6) (g 9) (g 12) (g 13) w) : bA pg gC (bI (aI 1 (aB 7 fL))) Q g w := by
 refine NN (fun g : Env => g 13) (fun X t w => zO (fun _ _ _ _ dF w => X dF w) k0 R (g 2) (g 6) (g 9) (g 12) t w) h (fun X g1 w1 ha hL => ?_)
 rw [<- jB 2 ha, <- jB 6 ha, <- jB 9 ha, <- jB 12 ha] at hL
 exact (Pe _ g1 w1 (fun _ _ _ _ dF w => X dF w) k0 R (fun _ _ h => h) h0 hr hL)
def DC (kn : K3) (R : K1) (bX b6 HN kL dF : anV) (w : anU) : Prop :=
 Eo kn R bX b6 HN kL dF w
def vF (R : K1) (bX b6 HN kL dF : anV) (w : anU) : Prop :=
 DC (fun b6 HN kL w => zS R b6 HN kL w) R bX b6 HN kL dF w
theorem OE (kn : K3) (R : K1) (hn : N3 Q kn 6 9 12) (hr : HR iM R Q) (h : DC kn R (g 2) (g 6) (g 9) (g 12) (g 13) w) : bA pg gC (aI 1 (aB 7 fL)) Q g w :=
 FP 0 (Pv _ g w kn R hn hr h)
def Cs (kn : K5) (R : K1) (cP R3 bX : anV) (w : anU) : Prop :=
 aD pg (eM 73) w fun b6 w =>
 aP pg qU #[cP] w fun d0 w =>
 aP pg gO #[d0, (anW 4)] w fun d3 w =>
 aD pg (bF d3 0) w fun d4 w =>
 aD pg (bF d3 1) w fun d5 w =>
 aD pg (aG .neq 25 (.tmp 26) (.const (anW 0)) d5 (anW 0)) w fun d7 w =>
 eY d7
  (aD pg (dG 73 []) w fun d8 w =>
  aD pg (bB 73 b6 d8) w fun _u w =>
  Mz pg 73 b6 w fun r0 => R (.tuple #[r0, (anW 0), d5]) w)
  (aD pg (fB 47 3 d4) w fun e1 w =>
  aD pg (aG .add 3 aK aK e1 (anW 5)) w fun e2 w =>
  aD pg (dG 73 [(0, e2)]) w fun e3 w =>
  aD pg (eM 73) w fun kL w =>
  aD pg (bB 73 kL e3) w fun _u w =>
  aD pg (aJ 73 kL 0) w fun e4 w =>
  aD pg (aL 3 e4) w fun e5 w =>
  aD pg (aG .gtr 3 aK aK e5 R3) w fun e7 w =>
  Gd (eS e7 false) (fun K => aD pg (aJ 73 kL 0) w K) w fun e9 w =>
  Gd (eS e7 false) (fun K => aD pg (aL 3 e9) w K) w fun f0 w =>
  Gd (eS e7 false) (fun K => aD pg (aG .gtr 3 aK aK f0 (anW 15)) w K) w fun f1 w =>
  aD pg (fH e7 (.bool true) f1) w fun f2 w =>
  eY f2
   (aD pg (dG 73 []) w fun f3 w =>
   aD pg (bB 73 b6 f3) w fun _u w =>
   Mz pg 73 b6 w fun r0 => R (.tuple #[r0, (anW 0), (anW 12)]) w)
   (aD pg (aJ 73 kL 0) w fun f4 w =>
   aD pg (aL 3 f4) w fun f5 w =>
   aD pg (aG .shl 3 aK aK (anW 1) f5) w fun f6 w =>
   kn bX b6 d0 kL f6 w))
theorem Nu (kn : K5) (R : K1) (hn : N5 Q kn 2 6 9 12 13) (hr : HR iM R Q) (h : Cs kn R (g 0) (g 1) (g 2) w) : bA pg gC (aI 7 fL) Q g w :=
 dQ (l := []) h hn hr trivial
def CH (R : K1) (cP R3 bX : anV) (w : anU) : Prop :=
 Cs (fun bX b6 HN kL dF w => vF R bX b6 HN kL dF w) R cP R3 bX w
theorem NB (R : K1) (hr : HR iM R Q) (h : CH R (g 0) (g 1) (g 2) w) : bA pg gC fL Q g w :=
 gY 7 (Nu _ g w (vF R) R (fun g w h => aM (gY 1 (OE _ g w (zS R) R (fun g w h => aM (Oe _ g w R hr h)) hr h))) hr h)
def QQ (a0 a1 a2 : anV) (w : anU) (R : K1) : Prop :=
 CH R a0 a1 a2 w
theorem PM {a0 a1 a2 : anV} {w : anU} {R : K1} (h : QQ a0 a1 a2 w R) : aP pg BT #[a0, a1, a2] w R := by
 refine uS (ann := gC) Try.f36 fL [a0, a1, a2] iM 104 TryM.mixed Try.func36 ?_
 exact (NB _ _ _ R (fun _ _ h => h) h)
def B0 : FA := ⟨jH, fun i => match Nat.beq i 3 with | true => .leaf ([1, 12, 16], [(1, 3), (1, 4), (1, 5), (1, 8), (1, 9), (1, 10), (1, 11), (3, 12), (4, 12), (5, 12)]) [(false, []), (true, []), (false, []), (false, [1]), (false, [2]), (false, [3]), (false, []), (false, []), (false, [6]), (false, [7]), (false, [8]), (false, [9]), (true, [6, 7, 8]), (false, []), (false, []), (false, []), (true, []), (false, []), (false, [])] | false => .leaf ([], []) []⟩
def C8 : List ResultVar := [.tmp 2, .tmp 3]
noncomputable def AW : Code := bT Try.f37
def nD (R : K1) (cP : anV) (w : anU) : Prop :=
 aD pg (gD .len #[22] 3 [cP]) w fun b5 w =>
 aD pg (aG .eql 3 (.tmp 5) (.const (anW 0)) b5 (anW 0)) w fun b6 w =>
 Gd (eS b6 false) (fun K => K cP w) w fun b8 w =>
 Gd (eS b6 false) (fun K => K cP w) w fun b9 w =>
 Gd (eS b6 false) (fun K => aD pg (gD .len #[22] 3 [b9]) w K) w fun c0 w =>
 Gd (eS b6 false) (fun K => aD pg (aG .sub 3 aK aK c0 (anW 1)) w K) w fun c1 w =>
 Gd (eS b6 false) (fun K => aD pg (bK 22 b8 c1) w K) w fun c2 w =>
 Gd (eS b6 false) (fun K => aD pg (aL 5 c2) w K) w fun c3 w =>
 Gd (eS b6 false) (fun K => aD pg (aG .eql 5 (.tmp 13) (.const (.int .u8 0)) c3 (.int .u8 0)) w K) w fun c4 w =>
 aD pg (fH b6 (.bool true) c4) w fun c5 w =>
 eY c5
  (R (.tuple #[(.pointer none), (anW 11)]) w)
  ((dr w) = (dr w) /\
  aP pg cI #[cP] (dr w) fun c7 F9 =>
  F9 = F9 /\
  aD pg (gD .len #[22] 3 [cP]) F9 fun c9 w_ => w_ = F9 /\
  (eL pg (gD .len #[22] 3 [cP]) c9 (dr w) /\ True) /\
  aD pg (aG .sub 3 aK aK c9 (anW 1)) F9 fun d0 w_ => w_ = F9 /\
  (eL pg (aG .sub 3 aK aK c9 (anW 1)) d0 (dr w) /\ True) /\
  aD pg (aG .mul 3 aK aK (anW 8) d0) F9 fun d1 w_ => w_ = F9 /\
  (eL pg (aG .mul 3 aK aK (anW 8) d0) d1 (dr w) /\ True) /\
  F9 = F9 /\
  F9 = F9 /\
  aD pg (gD .len #[22] 3 [cP]) F9 fun d4 w_ => w_ = F9 /\
  (eL pg (gD .len #[22] 3 [cP]) d4 (dr w) /\ True) /\
  aD pg (aG .sub 3 aK aK d4 (anW 1)) F9 fun d5 w_ => w_ = F9 /\
  (eL pg (aG .sub 3 aK aK d4 (anW 1)) d5 (dr w) /\ True) /\
  aD pg (bK 22 cP d5) F9 fun d6 w_ => w_ = F9 /\
  (eL pg (bK 22 cP d5) d6 (dr w) /\ True) /\
  aD pg (aL 5 d6) F9 fun d7 w_ => w_ = F9 /\
  (eL pg (aL 5 d6) d7 (dr w) /\ True) /\
  aP pg tW #[d7] F9 fun d8 uE =>
  (eL pg (aG .mul 3 aK aK (anW 8) d0) d1 uE /\ eL pg (aG .sub 3 aK aK c9 (anW 1)) d0 uE /\ eL pg (gD .len #[22] 3 [cP]) c9 uE /\ True) /\
  aD pg (aG .add 3 aK aK d1 d8) uE fun d9 w_ => w_ = uE /\
  aD pg (aG .sub 3 aK aK d9 (anW 1)) uE fun e0 w_ => w_ = uE /\
  aD pg (dG 116 [(0, c7), (1, e0)]) uE fun e1 w_ => w_ = uE /\
  aD pg (Ic 116 e1) uE fun e2 UT =>
  UT = UT /\
  UT = UT /\
  R (.tuple #[e2, (anW 0)]) UT)
theorem HM (R : K1) (hr : HR C8 R Q) (h : nD R (g 0) w) : bA pg B0 AW Q g w :=
 dQ (kn := no) (l := []) h eZ hr trivial
def Bg (a0 : anV) (w : anU) (R : K1) : Prop :=
 nD R a0 w
theorem AO {a0 : anV} {w : anU} {R : K1} (h : Bg a0 w R) : aP pg jH #[a0] w R := by
 refine uS (ann := B0) Try.f37 AW [a0] C8 33 TryM.mixed Try.func37 ?_
 exact (HM _ _ _ R (fun _ _ h => h) h)
def cQ : FA := ⟨B9, fun i => match Nat.beq i 3 with | true => .split 3 5 (.perm [0, 1, 2, 3, 4, 5, 6] [(3, 5)] ([3, 5, 6], [(0, 3), (0, 5), (1, 3), (1, 5), (4, 5)]) [(false, []), (false, []), (false, []), (true, [1, 2]), (false, []), (true, [0, 3, 4]), (true, [])]) (.perm [0, 1, 2, 5, 3, 4, 6] [(5, 3)] ([3, 4, 6], [(0, 3), (0, 4), (1, 3), (1, 4), (2, 3)]) [(false, []), (false, []), (false, []), (true, [0, 1, 2]), (true, [2, 3]), (false, []), (true, [])]) | false => match Nat.beq i 16 with | true => .leaf ([5, 10], [(1, 5), (2, 5)]) [(false, []), (false, []), (false, []), (false, []), (false, []), (true, [2, 3]), (false, []), (false, []), (false, []), (false, []), (true, [])] | false => match Nat.beq i 17 with | true => .leaf ([13], []) [(false, []), (false, []), (false, []), (false, []), (false, []), (false, []), (false, []), (false, []), (false, []), (false, []), (false, []), (false, []), (false, []), (true, [])] | false => .leaf ([], []) []⟩
def Dg : List ResultVar := [.cell 2 81, .tmp 3]
noncomputable def cA : Code := bT Try.f38
def Db (R : K1) (b2 b4 : anV) (w : anU) : Prop :=
 aD pg (aL 81 b4) w fun n0 w =>
 aD pg (bB 81 b2 n0) w fun _u w =>
 Mz pg 81 b2 w fun r0 => R (.tuple #[r0, (anW 0)]) w
theorem Rb (R : K1) (hr : HR Dg R Q) (h : Db R (g 2) (g 4) w) : bA pg cQ (aB 1 (aB 1 (aB 1 (aB 3 cA)))) Q g w :=
 dQ (kn := no) (l := []) h eZ hr trivial
def Dc (kn : K6) (eN b2 b4 bJ f2 f3 : anV) (w : anU) : Prop :=
 aD pg (aG .add 3 aK aK f3 (anW 1)) w fun m9 w =>
 kn eN b2 b4 bJ f2 m9 w
theorem Q9 (kn : K6) (hn : N6 Q kn 1 2 4 5 42 43) (h : Dc kn (g 1) (g 2) (g 4) (g 5) (g 42) (g 43) w) : bA pg cQ (aB 1 (aB 2 (bI (bI (aB 1 (aI 1 (aB 1 (aB 1 (aB 3 cA))))))))) Q g w :=
 dQ (kr := no) (l := []) h hn eZ trivial
def Dk (kn : K6) (eN b2 b4 bJ Wy O7 f2 f3 : anV) (w : anU) : Prop :=
 (dr w) = (dr w) /\
 (dr w) = (dr w) /\
 (dr w) = (dr w) /\
 aD pg (lN Wy) (dr w) fun l9 w_ => w_ = (dr w) /\
 aD pg (aJ 88 l9 1) (dr w) fun m0 w_ => w_ = (dr w) /\
 aD pg (aL 3 m0) (dr w) fun m1 w_ => w_ = (dr w) /\
 aD pg (aG .shl 3 aK aK O7 m1) (dr w) fun m2 w_ => w_ = (dr w) /\
 aD pg (aJ 81 b4 1) (dr w) fun m3 w_ => w_ = (dr w) /\
 aD pg (aL 79 m3) (dr w) fun m4 w_ => w_ = (dr w) /\
 aD pg (gD .len #[79] 3 [m4]) (dr w) fun m5 w_ => w_ = (dr w) /\
 aD pg (aG .sub 3 aK aK m2 m5) (dr w) fun m6 w_ => w_ = (dr w) /\
 aD pg (lN Wy) (dr w) fun m7 w_ => w_ = (dr w) /\
 aD pg (aJ 88 m7 2) (dr w) fun m8 w_ => w_ = (dr w) /\
 aD pg (bB 3 m8 m6) (dr w) fun _u13 aeL =>
 kn eN b2 b4 bJ f2 f3 aeL
theorem Rl (kn : K6) (hn : N6 Q kn 1 2 4 5 42 43) (h : Dk kn (g 1) (g 2) (g 4) (g 5) (g 9) (g 10) (g 42) (g 43) w) : bA pg cQ (aB 1 (aB 4 (bI (aI 1 (aB 2 (bI (bI (aB 1 (aI 1 (aB 1 (aB 1 (aB 3 cA)))))))))))) Q g w :=
 dQ (kr := no) (l := []) h hn eZ trivial
def HJ (kn : K8) (eN b2 b4 bJ Wy O7 f2 f3 : anV) (w : anU) : Prop :=
 (dr w) = (dr w) /\
 aD pg (aJ 73 eN 0) (dr w) fun j7 w_ => w_ = (dr w) /\
 aD pg (aL 3 j7) (dr w) fun j8 w_ => w_ = (dr w) /\
 (dr w) = (dr w) /\
 aD pg (fB 3 48 O7) (dr w) fun l0 w_ => w_ = (dr w) /\
 aP pg iT #[l0] (dr w) fun l1 KA =>
 (eL pg (aL 3 j7) j8 KA /\ eL pg (aJ 73 eN 0) j7 KA /\ True) /\
 aD pg (aG .sub 3 aK aK j8 l1) KA fun l2 w_ => w_ = KA /\
 aD pg (aG .add 3 aK aK l2 (anW 1)) KA fun l3 w_ => w_ = KA /\
 aD pg (lN Wy) KA fun l4 w_ => w_ = KA /\
 aD pg (aJ 88 l4 1) KA fun l5 w_ => w_ = KA /\
 aD pg (bB 3 l5 l3) KA fun _u10 aeI =>
 kn eN b2 b4 bJ Wy O7 f2 f3 aeI
theorem Re (kn : K8) (hn : N8 Q kn 1 2 4 5 9 10 42 43) (h : HJ kn (g 1) (g 2) (g 4) (g 5) (g 9) (g 10) (g 42) (g 43) w) : bA pg cQ (aI 1 (aB 4 (bI (aI 1 (aB 2 (bI (bI (aB 1 (aI 1 (aB 1 (aB 1 (aB 3 cA)))))))))))) Q g w :=
 dQ (kr := no) (l := []) h hn eZ trivial
def H4 (kn : K6) (eN b2 b4 bJ Wy O7 f2 f3 : anV) (w : anU) : Prop :=
 HJ (fun eN b2 b4 bJ Wy O7 f2 f3 w => Dk kn eN b2 b4 bJ Wy O7 f2 f3 w) eN b2 b4 bJ Wy O7 f2 f3 w
def HZ (kn : K8) (eN b2 b4 bJ f2 f3 : anV) (w : anU) : Prop :=
 aD pg (aJ 81 b4 1) w fun f6 w =>
 aD pg (aL 79 f6) w fun f7 w =>
 aD pg (bK 79 f7 f3) w fun f9 w =>
 aD pg (lN f9) w fun i2 w =>
 aD pg (aJ 88 i2 0) w fun i3 w =>
 aD pg (aL 5 i3) w fun i4 w =>
 aD pg (bK 71 bJ i4) w fun i5 w =>
 aD pg (aL 3 i5) w fun i6 w =>
 aD pg (lN f9) w fun i9 w =>
 aD pg (aJ 88 i9 0) w fun j0 w =>
 aD pg (aL 5 j0) w fun j1 w =>
 aD pg (bK 71 bJ j1) w fun j2 w =>
 aD pg (aL 3 j2) w fun j3 w =>
 aD pg (aG .add 3 aK aK j3 (anW 1)) w fun j4 w =>
 aD pg (bK 71 bJ j1) w fun j5 w =>
 aD pg (bB 3 j5 j4) w fun _u w =>
 kn eN b2 b4 bJ f9 i6 f2 f3 w
theorem Rg (kn : K8) (hn : N8 Q kn 1 2 4 5 9 10 42 43) (h : HZ kn (g 1) (g 2) (g 4) (g 5) (g 42) (g 43) w) : bA pg cQ (aI 4 (bI (aI 1 (aB 2 (bI (bI (aB 1 (aI 1 (aB 1 (aB 1 (aB 3 cA))))))))))) Q g w :=
 dQ (kr := no) (l := []) h hn eZ trivial
def Pk (kn : K6) (eN b2 b4 bJ f2 f3 : anV) (w : anU) : Prop :=
 HZ (fun eN b2 b4 bJ Wy O7 f2 f3 w => H4 kn eN b2 b4 bJ Wy O7 f2 f3 w) eN b2 b4 bJ f2 f3 w
def Ib (kn : K6) (eN b2 b4 bJ f2 f3 : anV) (w : anU) : Prop :=
 Pk kn eN b2 b4 bJ f2 f3 w
def Dd (kn : K6) (eN b2 b4 bJ f2 f3 : anV) (w : anU) : Prop :=
 Ib (fun eN b2 b4 bJ f2 f3 w => Dc kn eN b2 b4 bJ f2 f3 w) eN b2 b4 bJ f2 f3 w
theorem Rd (kn : K6) (hn : N6 Q kn 1 2 4 5 42 43) (h : Ib kn (g 1) (g 2) (g 4) (g 5) (g 42) (g 43) w) : bA pg cQ (aI 1 (aB 2 (bI (bI (aB 1 (aI 1 (aB 1 (aB 1 (aB 3 cA))))))))) Q g w :=
 FP 3 (gY 4 (Rg _ g w (H4 kn) (fun g w h => aM (gY 1 (Re _ g w (Dk kn) (fun g w h => aM (Rl _ g w kn hn h)) h))) h))
def F5 (kn : K6) (k2 : K2) (eN b2 b4 bJ f2 f3 : anV) (w : anU) : Prop :=
 aD pg (aG .lss 3 aK aK f3 f2) w fun f4 w =>
 eY f4
  (kn eN b2 b4 bJ f2 f3 w)
  (k2 b2 b4 w)
theorem Qf (kn : K6) (k2 : K2) (hn : N6 Q kn 1 2 4 5 42 43) (h2 : E2 Q k2 2 2 4) (h : F5 kn k2 (g 1) (g 2) (g 4) (g 5) (g 42) (g 43) w) : bA pg cQ (aI 2 (bI (bI (aB 1 (aI 1 (aB 1 (aB 1 (aB 3 cA)))))))) Q g w :=
 dQ (kr := no) (l := [(2, fun g w => k2 (g 2) (g 4) w)]) h hn eZ ⟨h2, trivial⟩
def BJ (kn : K6) (k2 : K2) (eN b2 b4 bJ f2 f3 : anV) (w : anU) : Prop :=
 F5 (fun eN b2 b4 bJ f2 f3 w => Dd kn eN b2 b4 bJ f2 f3 w) k2 eN b2 b4 bJ f2 f3 w
def Gb (k2 : K2) (eN b2 b4 bJ f2 f3 : anV) (w : anU) : Prop :=
 cK (fun (X : anV -> K0) (t : anV) (w : anU) => BJ (fun _ _ _ _ _ f3 w => X f3 w) k2 eN b2 b4 bJ f2 t w) f3 w
theorem Qj (kn : K6) (k2 : K2) (hn : N6 Q kn 1 2 4 5 42 43) (h2 : E2 Q k2 2 2 4) (h : BJ kn k2 (g 1) (g 2) (g 4) (g 5) (g 42) (g 43) w) : bA pg cQ (bI (bI (aB 1 (aI 1 (aB 1 (aB 1 (aB 3 cA))))))) Q g w :=
 gY 2 (Qf _ g w (Dd kn) k2 (fun g w h => aM (gY 1 (Rd _ g w (Dc kn) (fun g w h => aM (Q9 _ g w kn hn h)) h))) h2 h)
theorem Qp (k2 : K2) (h2 : E2 Q k2 2 2 4) (h : Gb k2 (g 1) (g 2) (g 4) (g 5) (g 42) (g 43) w) : bA pg cQ (bI (aB 1 (aI 1 (aB 1 (aB 1 (aB 3 cA)))))) Q g w := by
 refine NN (fun g : Env => g 43) (fun X t w => BJ (fun _ _ _ _ _ f3 w => X f3 w) k2 (g 1) (g 2) (g 4) (g 5) (g 42) t w) h (fun X g1 w1 ha hL => ?_)
 rw [<- jB 1 ha, <- jB 2 ha, <- jB 4 ha, <- jB 5 ha, <- jB 42 ha] at hL
 exact (Qj _ g1 w1 (fun _ _ _ _ _ f3 w => X f3 w) k2 (fun _ _ h => h) h2 hL)
def FY (kn : K2) (eN b2 b4 bJ f2 f3 : anV) (w : anU) : Prop :=
 Gb kn eN b2 b4 bJ f2 f3 w
def Gp (kn : K6) (eN b2 b4 bJ : anV) (w : anU) : Prop :=
 aD pg (aJ 81 b4 1) w fun f0 w =>
 aD pg (aL 79 f0) w fun f1 w =>
 aD pg (gD .len #[79] 3 [f1]) w fun f2 w =>
 kn eN b2 b4 bJ f2 (anW 0) w
theorem Qy (kn : K6) (hn : N6 Q kn 1 2 4 5 42 43) (h : Gp kn (g 1) (g 2) (g 4) (g 5) w) : bA pg cQ (aI 1 (aI 1 (aB 1 (aB 1 (aB 3 cA))))) Q g w :=
 dQ (kr := no) (l := []) h hn eZ trivial
def FZ (kn : K2) (eN b2 b4 bJ : anV) (w : anU) : Prop :=
 Gp (fun eN b2 b4 bJ f2 f3 w => FY kn eN b2 b4 bJ f2 f3 w) eN b2 b4 bJ w
def BL (R : K1) (eN b2 b4 bJ : anV) (w : anU) : Prop :=
 FZ (fun b2 b4 w => Db R b2 b4 w) eN b2 b4 bJ w
theorem PJ (kn : K2) (hn : N2 Q kn 2 4) (h : FZ kn (g 1) (g 2) (g 4) (g 5) w) : bA pg cQ (aI 1 (aB 1 (aB 1 (aB 3 cA)))) Q g w :=
 gY 1 (Qy _ g w (FY kn) (fun g w h => aM (FP 2 (Qp _ g w kn hn h))) h)
def vC (kn : K7) (k0 : K4) (eN b2 b4 bJ d5 d6 d7 : anV) (w : anU) : Prop :=
 aD pg (aG .lss 3 aK aK d7 d6) w fun d8 w =>
 eY d8
  (aD pg (bK 71 d5 d7) w fun e0 w =>
  aD pg (aL 3 e0) w fun e1 w =>
  aD pg (X0 .neg e1) w fun e6 w =>
  aD pg (gD .max #[3, 3] 3 [e1, e6]) w fun e7 w =>
  aD pg (bK 71 bJ d7) w fun e8 w =>
  aD pg (bB 3 e8 e7) w fun _u w =>
  aD pg (aG .add 3 aK aK d7 (anW 1)) w fun e9 w =>
  kn eN b2 b4 bJ d5 d6 e9 w)
  (k0 eN b2 b4 bJ w)
theorem P8 (kn : K7) (k0 : K4) (hn : N7 Q kn 1 2 4 5 25 26 27) (h0 : E4 Q k0 0 1 2 4 5) (h : vC kn k0 (g 1) (g 2) (g 4) (g 5) (g 25) (g 26) (g 27) w) : bA pg cQ (bI (bI (aB 1 (aI 1 (aB 1 (aB 3 cA)))))) Q g w :=
 dQ (kr := no) (l := [(0, fun g w => k0 (g 1) (g 2) (g 4) (g 5) w)]) h hn eZ ⟨h0, trivial⟩
def F7 (k0 : K4) (eN b2 b4 bJ d5 d6 d7 : anV) (w : anU) : Prop :=
 cK (fun (X : anV -> K0) (t : anV) (w : anU) => vC (fun _ _ _ _ _ _ d7 w => X d7 w) k0 eN b2 b4 bJ d5 d6 t w) d7 w
theorem PY (k0 : K4) (h0 : E4 Q k0 0 1 2 4 5) (h : F7 k0 (g 1) (g 2) (g 4) (g 5) (g 25) (g 26) (g 27) w) : bA pg cQ (bI (aB 1 (aI 1 (aB 1 (aB 3 cA))))) Q g w := by
 refine NN (fun g : Env => g 27) (fun X t w => vC (fun _ _ _ _ _ _ d7 w => X d7 w) k0 (g 1) (g 2) (g 4) (g 5) (g 25) (g 26) t w) h (fun X g1 w1 ha hL => ?_)
 rw [<- jB 1 ha, <- jB 2 ha, <- jB 4 ha, <- jB 5 ha, <- jB 25 ha, <- jB 26 ha] at hL
 exact (P8 _ g1 w1 (fun _ _ _ _ _ _ d7 w => X d7 w) k0 (fun _ _ h => h) h0 hL)
def F3 (kn : K4) (eN b2 b4 bJ d5 d6 d7 : anV) (w : anU) : Prop :=
 F7 kn eN b2 b4 bJ d5 d6 d7 w
def Gt (kn : K7) (eN b2 b4 bJ : anV) (w : anU) : Prop :=
 aD pg (aJ 73 eN 1) w fun d4 w =>
 aD pg (aL 71 d4) w fun d5 w =>
 aD pg (gD .len #[71] 3 [d5]) w fun d6 w =>
 kn eN b2 b4 bJ d5 d6 (anW 0) w
theorem PI (kn : K7) (hn : N7 Q kn 1 2 4 5 25 26 27) (h : Gt kn (g 1) (g 2) (g 4) (g 5) w) : bA pg cQ (aI 1 (aI 1 (aB 1 (aB 3 cA)))) Q g w :=
 dQ (kr := no) (l := []) h hn eZ trivial
def GB (kn : K4) (eN b2 b4 bJ : anV) (w : anU) : Prop :=
 Gt (fun eN b2 b4 bJ d5 d6 d7 w => F3 kn eN b2 b4 bJ d5 d6 d7 w) eN b2 b4 bJ w
def FX (R : K1) (eN b2 b4 bJ : anV) (w : anU) : Prop :=
 GB (fun eN b2 b4 bJ w => BL R eN b2 b4 bJ w) eN b2 b4 bJ w
theorem PB (kn : K4) (hn : N4 Q kn 1 2 4 5) (h : GB kn (g 1) (g 2) (g 4) (g 5) w) : bA pg cQ (aI 1 (aB 1 (aB 3 cA))) Q g w :=
 gY 1 (PI _ g w (F3 kn) (fun g w h => aM (FP 0 (PY _ g w kn hn h))) h)
def Gw (kn : K4) (eN b2 b4 : anV) (w : anU) : Prop :=
 aD pg (aJ 73 eN 1) w fun d0 w =>
 aD pg (aL 71 d0) w fun d1 w =>
 aD pg (gD .len #[71] 3 [d1]) w fun d2 w =>
 aD pg (iA 71 d2 d2) w fun d3 w =>
 kn eN b2 b4 d3 w
theorem PG (kn : K4) (hn : N4 Q kn 1 2 4 5) (h : Gw kn (g 1) (g 2) (g 4) w) : bA pg cQ (aI 1 (aB 3 cA)) Q g w :=
 dQ (kr := no) (l := []) h hn eZ trivial
def uY (R : K1) (eN b2 b4 : anV) (w : anU) : Prop :=
 Gw (fun eN b2 b4 bJ w => FX R eN b2 b4 bJ w) eN b2 b4 w
def FV (kn : K3) (R : K1) (WO : anV) (w : anU) : Prop :=
 aD pg (Ic 73 WO) w fun eN w =>
 aD pg (eM 81) w fun b2 w =>
 aD pg (aL 73 eN) w fun c1 w =>
 aP pg Am #[c1, (anW 15)] w fun c2 w =>
 aD pg (aG .neq 25 (.tmp 12) (.const (anW 0)) c2 (anW 0)) w fun c3 w =>
 eY c3
  (aD pg (dG 81 []) w fun c4 w =>
  aD pg (bB 81 b2 c4) w fun _u w =>
  Mz pg 81 b2 w fun r0 => R (.tuple #[r0, (anW 1)]) w)
  (Ord (abQ B9 3 (Mv 3 cA) 3 5 w)
   (aD pg (aJ 73 eN 0) (dr w) fun c5 w_ => w_ = (dr w) /\
   aD pg (aL 3 c5) (dr w) fun c6 w_ => w_ = (dr w) /\
   aD pg (aL 73 eN) (dr w) fun c7 w_ => w_ = (dr w) /\
   aP pg yX #[c7] (dr w) fun c8 S0 =>
   (eL pg (aL 3 c5) c6 S0 /\ eL pg (aJ 73 eN 0) c5 S0 /\ True) /\
   aD pg (dG 81 [(0, c6), (1, c8)]) S0 fun c9 w_ => w_ = S0 /\
   aD pg (eM 81) S0 fun b4 aaW =>
   (eL pg (dG 81 [(0, c6), (1, c8)]) c9 aaW /\ eL pg (aL 3 c5) c6 aaW /\ eL pg (aJ 73 eN 0) c5 aaW /\ True) /\
   aD pg (bB 81 b4 c9) aaW fun _u6 aeT =>
   kn eN b2 b4 aeT)
   (aD pg (aJ 73 eN 0) (dr w) fun c5 w_ => w_ = (dr w) /\
   aD pg (aL 3 c5) (dr w) fun c6 w_ => w_ = (dr w) /\
   aD pg (aL 73 eN) (dr w) fun c7 w_ => w_ = (dr w) /\
   aD pg (eM 81) (dr w) fun b4 S0 =>
   (eL pg (aL 73 eN) c7 S0 /\ eL pg (aL 3 c5) c6 S0 /\ eL pg (aJ 73 eN 0) c5 S0 /\ True) /\
   aP pg yX #[c7] S0 fun c8 Kr =>
   (eL pg (aL 3 c5) c6 Kr /\ eL pg (aJ 73 eN 0) c5 Kr /\ True) /\
   aD pg (dG 81 [(0, c6), (1, c8)]) Kr fun c9 w_ => w_ = Kr /\
   aD pg (bB 81 b4 c9) Kr fun _u6 aeT =>
   kn eN b2 b4 aeT))
theorem PN (kn : K3) (R : K1) (hn : N3 Q kn 1 2 4) (hr : HR Dg R Q) (h : FV kn R (g 0) w) : bA pg cQ (aI 3 cA) Q g w :=
 dQ (l := []) h hn hr trivial
def Gq (R : K1) (WO : anV) (w : anU) : Prop :=
 FV (fun eN b2 b4 w => uY R eN b2 b4 w) R WO w
theorem PE (R : K1) (hr : HR Dg R Q) (h : Gq R (g 0) w) : bA pg cQ cA Q g w :=
 gY 3 (PN _ g w (uY R) R (fun g w h => aM (gY 1 (PG _ g w (FX R) (fun g w h => aM (gY 1 (PB _ g w (BL R) (fun g w h => aM (gY 1 (PJ _ g w (Db R) (fun g w h => aM (Rb _ g w R hr h)) h))) h))) h))) hr h)
def Tt (a0 : anV) (w : anU) (R : K1) : Prop :=
 Gq R a0 w
theorem R4 {a0 : anV} {w : anU} {R : K1} (h : Tt a0 w R) : aP pg B9 #[a0] w R := by
 refine uS (ann := cQ) Try.f38 cA [a0] Dg 91 TryM.mixed Try.func38 ?_
 exact (PE _ _ _ R (fun _ _ h => h) h)
def MO : FA := ⟨Fs, fun i => .leaf ([], []) []⟩
def Oc : List ResultVar := [.tmp 4]
noncomputable def KI : Code := bT Try.f39
def HP (R : K1) (b0 r_1 : anV) (w : anU) : Prop :=
 aD pg (Ic 81 b0) w fun b2 w =>
 aD pg (aJ 81 b2 0) w fun b6 w =>
 aD pg (aL 3 b6) w fun b7 w =>
 aP pg hZ #[r_1, b7] w fun b8 w =>
 aD pg (fB 47 3 b8) w fun b9 w =>
 R b9 w
theorem Q6 (R : K1) (hr : HR Oc R Q) (h : HP R (g 0) (g 1) w) : bA pg MO KI Q g w :=
 dQ (kn := no) (l := []) h eZ hr trivial
def Tb (a0 a1 : anV) (w : anU) (R : K1) : Prop :=
 HP R a0 a1 w
theorem Sz {a0 a1 : anV} {w : anU} {R : K1} (h : Tb a0 a1 w R) : aP pg Fs #[a0, a1] w R := by
 refine uS (ann := MO) Try.f39 KI [a0, a1] Oc 10 TryM.mixed Try.func39 ?_
 exact (Q6 _ _ _ R (fun _ _ h => h) h)
def yF : FA := ⟨iB, fun i => .leaf ([], []) []⟩
def AN : List ResultVar := [.tmp 2]
noncomputable def xV : Code := bT Try.f40
def qH (R : K1) (G0 : anV) (w : anU) : Prop :=
 aD pg (aG .eql 76 (.tmp 3) (.const (.pointer none)) G0 (.pointer none)) w fun b4 w =>
 eY b4
  (R (anW 0) w)
  (aD pg (lN G0) w fun b6 w =>
  aD pg (aJ 116 b6 1) w fun b7 w =>
  aD pg (aL 3 b7) w fun b8 w =>
  R b8 w)
theorem GA (R : K1) (hr : HR AN R Q) (h : qH R (g 0) w) : bA pg yF xV Q g w :=
 dQ (kn := no) (l := []) h eZ hr trivial
def Ec (a0 : anV) (w : anU) (R : K1) : Prop :=
 qH R a0 w
theorem G4 {a0 : anV} {w : anU} {R : K1} (h : Ec a0 w R) : aP pg iB #[a0] w R := by
 refine uS (ann := yF) Try.f40 xV [a0] AN 9 TryM.mixed Try.func40 ?_
 exact (GA _ _ _ R (fun _ _ h => h) h)
def OO : FA := ⟨Ik, fun i => match Nat.beq i 4 with | true => .leaf ([5], [(0, 5), (1, 5)]) [(false, []), (false, []), (false, []), (false, []), (false, []), (true, [3, 4]), (false, []), (false, []), (false, [])] | false => .leaf ([], []) []⟩
def QM : List ResultVar := [.tmp 6]
noncomputable def MG : Code := bT Try.f41
def Kc (R : K1) (b0 UC r_2 : anV) (w : anU) : Prop :=
 aD pg (Ic 81 b0) w fun b3 w =>
 aD pg (aG .lss 3 aK aK UC (anW 0)) w fun b9 w =>
 Gd (eS b9 false) (fun K => K UC w) w fun c1 w =>
 Gd (eS b9 false) (fun K => aD pg (aJ 81 b3 1) w K) w fun c2 w =>
 Gd (eS b9 false) (fun K => aD pg (aL 79 c2) w K) w fun c3 w =>
 Gd (eS b9 false) (fun K => aD pg (gD .len #[79] 3 [c3]) w K) w fun c4 w =>
 Gd (eS b9 false) (fun K => aD pg (aG .geq 3 aK aK c1 c4) w K) w fun c5 w =>
 aD pg (fH b9 (.bool true) c5) w fun c6 w =>
 eY c6
  (R (anW 0) w)
  (aD pg (aJ 81 b3 1) w fun c7 w =>
  aD pg (aL 79 c7) w fun c8 w =>
  aD pg (bK 79 c8 UC) w fun d0 w =>
  aD pg (aL 88 d0) w fun d1 w =>
  aD pg (eM 88) w fun Jh w =>
  aD pg (bB 88 Jh d1) w fun _u w =>
  aD pg (aJ 88 Jh 2) (dr w) fun d2 w_ => w_ = (dr w) /\
  aD pg (aL 3 d2) (dr w) fun d3 w_ => w_ = (dr w) /\
  (dr w) = (dr w) /\
  aD pg (aJ 88 Jh 1) (dr w) fun d5 w_ => w_ = (dr w) /\
  aD pg (aL 3 d5) (dr w) fun d6 w_ => w_ = (dr w) /\
  aP pg hZ #[r_2, d6] (dr w) fun d7 T0 =>
  (eL pg (aL 3 d2) d3 T0 /\ eL pg (aJ 88 Jh 2) d2 T0 /\ True) /\
  aD pg (fB 47 3 d7) T0 fun d8 w_ => w_ = T0 /\
  aD pg (aG .add 3 aK aK d3 d8) T0 fun d9 w_ => w_ = T0 /\
  T0 = T0 /\
  R d9 T0)
theorem SN (R : K1) (hr : HR QM R Q) (h : Kc R (g 0) (g 1) (g 2) w) : bA pg OO MG Q g w :=
 dQ (kn := no) (l := []) h eZ hr trivial
def UY (a0 a1 a2 : anV) (w : anU) (R : K1) : Prop :=
 Kc R a0 a1 a2 w
theorem SY {a0 a1 a2 : anV} {w : anU} {R : K1} (h : UY a0 a1 a2 w R) : aP pg Ik #[a0, a1, a2] w R := by
 refine uS (ann := OO) Try.f41 MG [a0, a1, a2] QM 30 TryM.mixed Try.func41 ?_
 exact (SN _ _ _ R (fun _ _ h => h) h)
def eU : FA := ⟨pX, fun i => .leaf ([], []) []⟩
def jI : List ResultVar := [.tmp 2, .tmp 3]
noncomputable def eI : Code := bT Try.f42
def uB (R : K1) (iF : anV) (w : anU) : Prop :=
 R (.tuple #[iF, (.bool true)]) w
theorem LJ (R : K1) (hr : HR jI R Q) (h : uB R (g 4) w) : bA pg eU (aB 1 (aB 2 eI)) Q g w :=
 dQ (kn := no) (l := []) h eZ hr trivial
def tO (kn : K4) (iF b7 b8 b9 : anV) (w : anU) : Prop :=
 aD pg (aG .add 3 aK aK b9 (anW 1)) w fun d2 w =>
 kn iF b7 b8 d2 w
theorem LO (kn : K4) (hn : N4 Q kn 4 7 8 9) (h : tO kn (g 4) (g 7) (g 8) (g 9) w) : bA pg eU (aB 3 (bI (bI (aB 1 (aI 1 (aB 2 eI)))))) Q g w :=
 dQ (kr := no) (l := []) h hn eZ trivial
def Bi (kn : K4) (k0 : K1) (R : K1) (iF b7 b8 b9 : anV) (w : anU) : Prop :=
 aD pg (aG .lss 3 aK aK b9 b8) w fun c0 w =>
 eY c0
  (aD pg (bK 22 b7 b9) w fun c1 w =>
  aD pg (aL 5 c1) w fun c2 w =>
  aD pg (aG .gtr 5 aK aK c2 (.int .u8 11)) w fun c4 w =>
  eY c4
   (R (.tuple #[(anW 0), (.bool false)]) w)
   (aD pg (aG .gtr 5 aK aK c2 (.int .u8 0)) w fun c6 w =>
   eY c6
    (aD pg (aG .sub 5 aK aK c2 (.int .u8 1)) w fun c9 w =>
    aD pg (aG .shl 3 aK aK (anW 1) c9) w fun d0 w =>
    aD pg (aG .add 3 aK aK iF d0) w fun d1 w =>
    kn d1 b7 b8 b9 w)
    (kn iF b7 b8 b9 w)))
  (k0 iF w)
theorem L9 (kn : K4) (k0 : K1) (R : K1) (hn : N4 Q kn 4 7 8 9) (h0 : E1 Q k0 0 4) (hr : HR jI R Q) (h : Bi kn k0 R (g 4) (g 7) (g 8) (g 9) w) : bA pg eU (aI 3 (bI (bI (aB 1 (aI 1 (aB 2 eI)))))) Q g w :=
 dQ (l := [(0, fun g w => k0 (g 4) w)]) h hn hr ⟨h0, trivial⟩
def tC (kn : K4) (k0 : K1) (R : K1) (iF b7 b8 b9 : anV) (w : anU) : Prop :=
 Bi (fun iF b7 b8 b9 w => tO kn iF b7 b8 b9 w) k0 R iF b7 b8 b9 w
def AZ (k0 : K1) (R : K1) (iF b7 b8 b9 : anV) (w : anU) : Prop :=
 cK (fun (X : (anV × anV) -> K0) (t : anV × anV) (w : anU) => tC (fun iF _ _ b9 w => X (iF, b9) w) k0 R t.1 b7 b8 t.2 w) (iF, b9) w
theorem Mq (kn : K4) (k0 : K1) (R : K1) (hn : N4 Q kn 4 7 8 9) (h0 : E1 Q k0 0 4) (hr : HR jI R Q) (h : tC kn k0 R (g 4) (g 7) (g 8) (g 9) w) : bA pg eU (bI (bI (aB 1 (aI 1 (aB 2 eI))))) Q g w :=
 gY 3 (L9 _ g w (tO kn) k0 R (fun g w h => aM (LO _ g w kn hn h)) h0 hr h)
theorem LG (k0 : K1) (R : K1) (h0 : E1 Q k0 0 4) (hr : HR jI R Q) (h : AZ k0 R (g 4) (g 7) (g 8) (g 9) w) : bA pg eU (bI (aB 1 (aI 1 (aB 2 eI)))) Q g w := by
 refine NN (fun g : Env => (g 4, g 9)) (fun X t w => tC (fun iF _ _ b9 w => X (iF, b9) w) k0 R t.1 (g 7) (g 8) t.2 w) h (fun X g1 w1 ha hL => ?_)
 rw [<- jB 7 ha, <- jB 8 ha] at hL
 exact (Mq _ g1 w1 (fun iF _ _ b9 w => X (iF, b9) w) k0 R (fun _ _ h => h) h0 hr hL)
def AX (kn : K1) (R : K1) (iF b7 b8 b9 : anV) (w : anU) : Prop :=
 AZ kn R iF b7 b8 b9 w
def A2 (kn : K4) (eK iF : anV) (w : anU) : Prop :=
 aD pg (gD .len #[22] 3 [eK]) w fun b8 w =>
 kn iF eK b8 (anW 0) w
theorem Mr (kn : K4) (hn : N4 Q kn 4 7 8 9) (h : A2 kn (g 0) (g 4) w) : bA pg eU (aI 1 (aI 1 (aB 2 eI))) Q g w :=
 dQ (kr := no) (l := []) h hn eZ trivial
def Bx (kn : K1) (R : K1) (eK iF : anV) (w : anU) : Prop :=
 A2 (fun iF b7 b8 b9 w => AX kn R iF b7 b8 b9 w) eK iF w
def Bw (R : K1) (eK iF : anV) (w : anU) : Prop :=
 Bx (fun iF w => uB R iF w) R eK iF w
theorem L3 (kn : K1) (R : K1) (hn : N1 Q kn 4) (hr : HR jI R Q) (h : Bx kn R (g 0) (g 4) w) : bA pg eU (aI 1 (aB 2 eI)) Q g w :=
 gY 1 (Mr _ g w (AX kn R) (fun g w h => aM (FP 0 (LG _ g w kn R hn hr h))) h)
def Ag (kn : K2) (eK : anV) (w : anU) : Prop :=
 kn eK (anW 0) w
theorem JO (kn : K2) (hn : N2 Q kn 0 4) (h : Ag kn (g 0) w) : bA pg eU (aI 2 eI) Q g w :=
 dQ (kr := no) (l := []) h hn eZ trivial
def Ae (R : K1) (eK : anV) (w : anU) : Prop :=
 Ag (fun eK iF w => Bw R eK iF w) eK w
theorem J9 (R : K1) (hr : HR jI R Q) (h : Ae R (g 0) w) : bA pg eU eI Q g w :=
 gY 2 (JO _ g w (Bw R) (fun g w h => aM (gY 1 (L3 _ g w (uB R) R (fun g w h => aM (LJ _ g w R hr h)) hr h))) h)
def Mw (a0 : anV) (w : anU) (R : K1) : Prop :=
 Ae R a0 w
theorem Np {a0 : anV} {w : anU} {R : K1} (h : Mw a0 w R) : aP pg pX #[a0] w R := by
 refine uS (ann := eU) Try.f42 eI [a0] jI 24 TryM.mixed Try.func42 ?_
 exact (J9 _ _ _ R (fun _ _ h => h) h)
def FH : FA := ⟨iT, fun i => .leaf ([], []) []⟩
def Hd : List ResultVar := [.tmp 2]
noncomputable def Eg : Code := bT Try.f43
def BG (R : K1) (kE : anV) (w : anU) : Prop :=
 eY (.bool false)
  (aD pg (fB 48 66 kE) w fun b4 w =>
  aP pg Pp #[b4] w fun b5 w =>
  R b5 w)
  (aP pg rV #[kE] w fun b7 w =>
  R b7 w)
theorem Mj (R : K1) (hr : HR Hd R Q) (h : BG R (g 0) w) : bA pg FH Eg Q g w :=
 dQ (kn := no) (l := []) h eZ hr trivial
def MM (a0 : anV) (w : anU) (R : K1) : Prop :=
 BG R a0 w
theorem MZ {a0 : anV} {w : anU} {R : K1} (h : MM a0 w R) : aP pg iT #[a0] w R := by
 refine uS (ann := FH) Try.f43 Eg [a0] Hd 8 TryM.mixed Try.func43 ?_
 exact (Mj _ _ _ R (fun _ _ h => h) h)
end Go.Proofs.Ytgpimhlgaokobaa

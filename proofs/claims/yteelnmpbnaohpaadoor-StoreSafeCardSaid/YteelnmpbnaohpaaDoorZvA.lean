/- Parts of the proof of StoreSafe: merged and given short names by a program of ours. -/
import Derived.Orders
import Derived.Below
import Derived.KernelRfl
import Derived.Eval
import Derived.RangeFuncRecord
import Derived.Laws.Sem
import Derived.Scope
import Derived.Test.YteelnmpbnaohpaaDoorRows
set_option linter.unusedVariables false
set_option linter.unusedSimpArgs false
open Array renaming getD_eq_getD_getElem? → acW, getElem?_eq_getElem → adD, getElem?_setIfInBounds_self_of_lt → adF, getElem?_setIfInBounds_ne → adG, getElem?_eq_none → adR, all_eq_true' → aeP, getElem?_toList → afL, mem_of_getElem? → agQ
open Bool renaming false_eq_true → acK, not_true → acP, and_eq_true → acV, or_eq_true → aeH, not_eq_true' → afA, or_eq_false_iff → afW, false_or → agN
open List renaming getElem?_cons_succ → acJ, getElem?_eq_getElem → acS, getD_eq_getElem?_getD → acU, map_cons → acZ, mem_cons_of_mem → adC, length_eq_zero_iff → adK, length_cons → adP, mem_append → adV, mem_cons → adX, mem_range → adY, getElem?_eq_none → adZ, toList_toArray → aeC, all_eq_true → aeD, mem_map → aeE, map_congr_left → aeL, mem_cons_self → aeO, mem_append_left → afF, size_toArray → afI, mem_append_right → afU, getElem_of_mem → agF, drop_eq_getElem_cons → agG, mem_of_getElem? → agT
open Nat renaming zero_add → acQ, le_refl → acY, eq_of_beq_eq_true → adO, lt_or_ge → aeG, le_trans → aeV, le_of_ble_eq_true → afC, lt_of_lt_of_le → afK, add_assoc → afN, blt_eq → afP, ne_of_lt → afT, mod_lt → afX
open Option renaming getD_some → adH, map_some → aeA
open Option.some renaming injEq → adT, inj → aeM
namespace Go.En
open Go
abbrev ahA := World
abbrev ahB := Value
abbrev Env := Nat -> ahB
def put (g : Env) (d : Option Tmp) (v : ahB) : Env :=
 match d with
 | some d => fun i => match Nat.beq i d with | true => v | false => g i
 | none => g
def ev (g : Env) : Operand -> ahB
 | .tmp t => g t
 | .const v => v
 | .global b => .pointer (some ⟨b, 0, none⟩)
 | .func f => .func (.func f) #[] #[]
def Ret (P : Program) (f : FuncId) (args : Array ahB) (w : ahA) (v : ahB) (w' : ahA) : Prop :=
 Calls P f args w fun e w'' => e = .returned v /\ w'' = w'
def gT (P : Program) (f : FuncId) (args : Array ahB) (w : ahA) (R : ahB -> ahA -> Prop) : Prop :=
 ∃ v w', Ret P f args w v w' /\ R v w'
theorem gT.mono {P : Program} {f : FuncId} {args : Array ahB} {w : ahA} {R R' : ahB -> ahA -> Prop} (h : gT P f args w R)
 (hr : ∀ v w', R v w' -> R' v w') : gT P f args w R' :=
 let ⟨v, w', a, b⟩ := h; ⟨v, w', a, hr _ _ b⟩
def aaL (P : Program) (l : Nat) (f : FuncId) (tmps : Array ahB) (acH bd : Code) (w : ahA) (v : ahB) (w' : ahA) : Prop :=
 RoundIn Fence.wide 0 P l f tmps acH bd w fun e w'' => e = .returned v /\ w'' = w'
def QH (P : Program) (l : Nat) (f : FuncId) (tmps : Array ahB) (acH bd : Code) (w : ahA) (R : ahB -> ahA -> Prop) : Prop :=
 ∃ v w', aaL P l f tmps acH bd w v w' /\ R v w'
def Of (P : Program) (r : Result Next) (K : ahB -> ahA -> Prop) : Prop :=
 match r with
 | .ok (.value v) w => K v w
 | .ok .skip w => K undef w
 | .ok (.enter f args) w => gT P f args w K
 | .ok (.round l f tmps acH bd) w => QH P l f tmps acH bd w K
 | _ => False
theorem dX (P : Program) (v : ahB) (w : ahA) (K : ahB -> ahA -> Prop) : Of P (.ok (.value v) w) K = K v w := Eq.trans rfl rfl
theorem stepR_skip (P : Program) (w : ahA) (K : ahB -> ahA -> Prop) : Of P (.ok .skip w) K = K undef w := Eq.trans rfl rfl
theorem SU (P : Program) (l : Nat) (f : FuncId) (tmps : Array ahB) (acH bd : Code) (w : ahA) (K : ahB -> ahA -> Prop) :
 Of P (.ok (.round l f tmps acH bd) w) K = QH P l f tmps acH bd w K := Eq.trans rfl rfl
def eY (P : Program) (s : Sem Next) (w : ahA) (K : ahB -> ahA -> Prop) : Prop := Of P (s.run P w) K
def gN (P : Program) (s : Sem Next) (v : ahB) (w : ahA) : Prop := s.run P w = .ok (.value v) w
def Gd (b : Bool) (s : (ahB -> ahA -> Prop) -> Prop) (w : ahA) (K : ahB -> ahA -> Prop) : Prop :=
 match b with
 | true => s K
 | false => K undef w
def asB (v : ahB) : Option Bool := match v with | .bool b => some b | _ => none
def kE (v : ahB) (want : Bool) : Bool := asB v == some want
def mC (v : ahB) (A B : Prop) : Prop :=
 match v with
 | .bool b => (match b with | true => A | false => B)
 | _ => False
def Bw (ops : Array Oper) (j : Nat) : Option Tmp := (ops[j]?).bind (·.dst)
def xO (g : Env) (t : Option Tmp) (want : Bool) : Bool := match t with | some t => kE (g t) want | none => false
def V (s : Sem ahB) : Sem Next := do pure (.value (<- s))
def U (s : Sem Unit) : Sem Next := do s; pure .skip
def Cn (op : BinOp) : Bool := match op with | .eql | .neq => true | _ => false
def gO (op : BinOp) (t : TypeId) (ox oy : Operand) (x y : ahB) : Sem Next :=
 match Cn op with
 | true => V (do eqGuard op t ox oy x y; binOp op t x y)
 | false => V (binOp op t x y)
def mV (b : Builtin) (ats : Array TypeId) (ty : TypeId) (args : List ahB) : Sem Next := builtin b ats ty #[] args.toArray
def zL (f : ahB) (args : List ahB) : Sem Next := do let d <- Deferred.ofValue f args.toArray; invoke d.target d.args
def JM (fn : Fn) (first captured : List ahB) : Sem Next := V (Instr.makeFunc fn first.toArray captured.toArray)
def lZ (t : TypeId) (ps : List (Nat × ahB)) : Sem Next := V (Instr.build t ps.toArray)
def iL (t : TypeId) (n : Nat) (ps : List (Nat × ahB)) : Sem Next := V (Instr.buildSlice t n ps.toArray)
def Gv (g : Env) (o : Oper) : Sem Next :=
 match o.op with
 | .binOp op t x y _ => gO op t x y (ev g x) (ev g y)
 | .makeFunc fn first captured => JM fn (first.toList.map (ev g)) (captured.toList.map (ev g))
 | .build t ps => lZ t (ps.toList.map fun p => (p.1, ev g p.2))
 | .buildSlice t n ps => iL t n (ps.toList.map fun p => (p.1, ev g p.2))
 | .call c => (match c.callee with
   | .builtin b => mV b c.argTypes o.type (c.args.toList.map (ev g))
   | .value f => zL (ev g f) (c.args.toList.map (ev g))
   | _ => execOp (ev g) o)
 | _ => execOp (ev g) o
def EP (P : Program) (g : Env) (o : Oper) (w : ahA) (K : ahB -> ahA -> Prop) : Prop :=
 match o.op with
 | .move x => K (ev g x) w
 | .assign x => K (ev g x) w
 | .call c => (match c.callee with
   | .value (.func f) => gT P f (c.args.toList.map (ev g)).toArray w K
   | _ => eY P (Gv g o) w K)
 | _ => eY P (Gv g o) w K
def DQ (P : Program) (ops : Array Oper) (g : Env) (o : Oper) (w : ahA) (K : ahB -> ahA -> Prop) : Prop :=
 match o.guard with
 | none => EP P g o w K
 | some (j, want) => Gd (xO g (Bw ops j) want) (EP P g o w) w K
def PT (P : Program) (ops : Array Oper) : List Oper -> Env -> ahA -> (Env -> ahA -> Prop) -> Prop
 | [], g, w, K => K g w
 | o :: rest, g, w, K => DQ P ops g o w fun v w' => PT P ops rest (put g o.dst v) w' K
structure Rec where
 heavy : Bool
 o : Oper
 g : Env
 w : ahA
 v : ahB
def gOf (ops : Array Oper) (o : Oper) (g : Env) : Bool := match o.guard with | none => true | some (j, want) => xO g (Bw ops j) want
def Gs (b : Bool) (p : Prop) : Prop := match b with | true => p | false => True
def Lf (P : Program) (ops : Array Oper) (q : Rec) (o : Oper) (g : Env) (w' : ahA) (v : ahB) : Prop :=
 match q.heavy with
 | true => Gs (gOf ops o g) (gN P (Gv g o) v q.w)
 | false => Gs (gOf ops q.o q.g) (gN P (Gv q.g q.o) q.v w')
def O2 (i j : Nat) : List (Nat × Nat) -> Bool
 | [] => false
 | (a, b) :: r => match Nat.beq a i with
   | true => (match Nat.beq b j with | true => true | false => O2 i j r)
   | false => O2 i j r
def pP (i : Nat) : List Nat -> Bool
 | [] => false
 | a :: r => match Nat.beq a i with | true => true | false => pP i r
def S0 : List Rec -> Nat -> Option Rec
 | [], _ => none
 | q :: _, 0 => some q
 | _ :: r, n + 1 => S0 r n
def X4 (P : Program) (ops : Array Oper) (o : Oper) (g : Env) (w' : ahA) (v : ahB) (hist : List Rec) : List Nat -> Prop
 | [] => True
 | k :: ks => (match S0 hist k with
   | some q => Lf P ops q o g w' v
   | none => False) /\ X4 P ops o g w' v hist ks
abbrev Um := List Nat × List (Nat × Nat)
abbrev RM := List (Bool × List Nat)
def qM (P : Program) (ops : Array Oper) : List Oper -> RM -> List Rec -> Env -> ahA -> (Env -> ahA -> Prop) -> Prop
 | [], _, _, g, w, K => K g w
 | _ :: _, [], _, _, _, _ => False
 | o :: rest, (hv, ks) :: pl, hist, g, w, K =>
   DQ P ops g o w fun v w' =>
    match hv, ks with
    | true, [] => qM P ops rest pl (⟨true, o, g, w, v⟩ :: hist) (put g o.dst v) w' K
    | true, k :: ks => X4 P ops o g w' v hist (k :: ks) /\ qM P ops rest pl (⟨true, o, g, w, v⟩ :: hist) (put g o.dst v) w' K
    | false, [] => w' = w /\ qM P ops rest pl (⟨false, o, g, w, v⟩ :: hist) (put g o.dst v) w K
    | false, k :: ks => w' = w /\ X4 P ops o g w v hist (k :: ks) /\ qM P ops rest pl (⟨false, o, g, w, v⟩ :: hist) (put g o.dst v) w K
def kJ {α : Type} (F : (α -> ahA -> Prop) -> α -> ahA -> Prop) (g : α) (w : ahA) : Prop :=
 ∃ I : Nat -> α -> ahA -> Prop, (∃ n, I n g w) /\ ∀ n g w, I n g w -> F (fun g' w' => ∃ m, m < n /\ I m g' w') g w
def zX (K : Env -> ahA -> Prop) (Q : Exit -> Env -> ahA -> Prop) : Exit -> Env -> ahA -> Prop :=
 fun e g w => (fun (_ : Program -> Sem Next -> ahA -> (ahB -> ahA -> Prop) -> Prop) => match e with | .normal => K g w | e => Q e g w) eY
def X0 (id : Nat) (Q : Exit -> Env -> ahA -> Prop) : Exit -> Env -> ahA -> Prop :=
 fun e g w => (fun (_ : Program -> Sem Next -> ahA -> (ahB -> ahA -> Prop) -> Prop) => match e with | .exit i => (match Nat.beq i id with | true => Q .normal g w | false => Q (.exit i) g w) | e => Q e g w) eY
inductive HT where
 | leaf (an : Um) (pl : RM)
 | perm (π : List Nat) (es : List (Nat × Nat)) (an : Um) (pl : RM)
 | split (a b : Nat) (x y : HT)
structure FA where
 f : FuncId
 t : Nat -> HT
def uW : List Nat -> Nat -> Nat
 | [], _ => 0
 | a :: r, i => match Nat.beq a i with | true => 0 | false => uW r i + 1
def Dj (π : List Nat) (i : Nat) : List (Nat × Nat) -> List Edge
 | [] => []
 | (a, b) :: r => match Nat.beq b i with | true => ⟨uW π a, .data⟩ :: Dj π i r | false => Dj π i r
def Ft (π : List Nat) (es : List (Nat × Nat)) (i : Nat) (o : Oper) : Oper :=
 { dst := o.dst, op := o.op, type := o.type, pos := o.pos, after := (o.after.toList.map (fun e => (⟨uW π e.on, e.ground⟩ : Edge)) ++ Dj π i es).toArray,
   guard := match o.guard with | none => none | some (j, b) => some (uW π j, b) }
def MM (π : List Nat) (es : List (Nat × Nat)) (l : List Oper) : List Nat -> List Oper
 | [] => []
 | i :: r => match l[i]? with | some o => Ft π es i o :: MM π es l r | none => MM π es l r
def pM (π : List Nat) (es : List (Nat × Nat)) (ops : Array Oper) : Array Oper := (MM π es ops.toList π).toArray
def XL (f : FuncId) (id : Nat) (ops : Array Oper) (a b : Nat) (w : ahA) : Bool :=
 Nat.ble ((Region.schedule true ops (w.tape w.drawn (.order f id))).idxOf a) ((Region.schedule true ops (w.tape w.drawn (.order f id))).idxOf b)
def Ord (b : Bool) (A B : Prop) : Prop := match b with | true => A | false => B
def R5 (P : Program) (f : FuncId) (id : Nat) (ops : Array Oper) : HT -> Env -> ahA -> ahA -> (Env -> ahA -> Prop) -> Prop
 | .leaf _ pl, g, _, w, K => qM P ops ops.toList pl [] g w K
 | .perm π es _ pl, g, _, w, K => qM P (pM π es ops) (pM π es ops).toList pl [] g w K
 | .split a b x y, g, w0, w, K => Ord (XL f id ops a b w0) (R5 P f id ops x g w0 w K) (R5 P f id ops y g w0 w K)
def DS : Nat := 1000003
def Sw : ahB -> List Deferred
 | .pointer (some a) => [{ target := .collected a.block, args := #[] }]
 | _ => []
def noMark : ahB -> Bool
 | .pointer _ => false
 | _ => true
def tmpsOf (N : Nat) (g : Env) : Array ahB := Array.ofFn (n := N) fun i => g i.val
def MZ (P : Program) (f : FuncId) : Nat := match P.funcs[f]? with | some fn => fn.ntmps | none => 0
def Zq (Q : Exit -> Env -> ahA -> Prop) (g : Env) : Option Code -> ahA -> Prop
 | none, w => Q .normal g w
 | some .ret, w => Q .ret g w
 | some (.exit i), w => Q (.exit i) g w
 | _, _ => False
def XD (l : Nat) (Q : Exit -> Env -> ahA -> Prop) (g : Env) (w : ahA) : Prop :=
 ∃ r : Loop, w.heap[l]? = some (.loop r) /\ r.state ≠ .busy /\ Zq Q g r.pending (w.putObj l (.loop { r with state := .exhausted }))
def VT (f : FuncId) (N : Nat) (ps : Array Tmp) (acH bd : Code) (g : Env) (w : ahA) : ahA :=
 (w.alloc (.deferred (some []))).alloc (.loop { state := .ready, pending := none, fn := f, tmps := tmpsOf N g, params := ps, assign := acH, body := bd, defers := w.heap.size })
def aaH (P : Program) (r : Result Next) (K : ahB -> ahA -> Prop) : Prop :=
 match r with
 | .ok (.enter f args) w => gT P f args w K
 | _ => False
def Du (l : Nat) : ahB := .func (.yield l) #[] #[]
def RF (P : Program) (f : FuncId) (gf : Operand) (ps : Array Tmp) (acH bd : Code) (Q : Exit -> Env -> ahA -> Prop) (g : Env) (w : ahA) : Prop :=
 match noMark (g DS) with
 | true => aaH P ((zL (ev g gf) [Du (w.heap.size + 1)]).run P (VT f (MZ P f) ps acH bd g w)) fun _ w3 =>
  XD (w.heap.size + 1) Q (put g (some DS) (.pointer (some ⟨w.heap.size, 0, none⟩))) w3
 | false => False
def iY (P : Program) (ann : FA) : Code -> (Exit -> Env -> ahA -> Prop) -> Env -> ahA -> Prop
 | .skip, Q, g, w => Q .normal g w
 | .region id ops draw, Q, g, w => match draw with
   | false => PT P ops ops.toList g w (Q .normal)
   | true => R5 P ann.f id ops (ann.t id) g w { w with drawn := w.drawn + 1 } (Q .normal)
 | .seq x y, Q, g, w => iY P ann x (zX (fun g w => iY P ann y Q g w) Q) g w
 | .cond c x y, Q, g, w => mC (ev g c) (iY P ann x Q g w) (iY P ann y Q g w)
 | .block id c, Q, g, w => iY P ann c (X0 id Q) g w
 | .loop c, Q, g, w => kJ (fun X g w => iY P ann c (zX X Q) g w) g w
 | .scope c, Q, g, w => iY P ann c Q g w
 | .label _, Q, g, w => Q .normal g w
 | .exit id, Q, g, w => Q (.exit id) g w
 | .ret, Q, g, w => Q .ret g w
 | .rangeFunc gf ps acH bd, Q, g, w => RF P ann.f gf ps acH bd Q g w
 | _, _, _, _ => False
def UA (N : Nat) (o : Oper) : Bool := match o.dst with | some d => Nat.blt d N | none => true
def VU (b : Array Nat) (i j : Nat) : Bool := (b.getD j 0).testBit i
def looks (ops : Array Oper) (o : Oper) : List Tmp :=
 (o.op.operands.toList.filterMap fun | .tmp t => some t | _ => none) ++ (match o.guard with | some (j, _) => (Bw ops j).toList | none => [])
def Xv (ops : Array Oper) (x y : Oper) : Bool :=
 (match x.dst with | some d => (looks ops y).contains d || y.dst == some d | none => false) ||
 (match y.dst with | some d => (looks ops x).contains d | none => false)
def NS (o : Oper) : Bool := match o.op with | .select .. => true | _ => false
def Wu (o : Oper) : Bool := match o.op with | .call { callee := .value (.func _), .. } => true | _ => false
def QN (o : Oper) : Bool := match o.op with | .defer .. => true | _ => false
def Q2 : Operand -> Bool | .tmp t => Nat.blt t DS | _ => true
def OK (P : Program) (o : Oper) : Bool :=
 match o.op with
 | .call c => (match c.callee with
   | .value (.func f) => (match P.funcs[f]? with | some fn => fn.body.isSome && !(fn.name == "runtime.NumGoroutine") | none => false)
   | .builtin b => (match b with | .print | .println => false | _ => true)
   | _ => true)
 | _ => true
def AG (P : Program) (o : Oper) : Bool := OK P o && (o.op.operands.toList.all Q2 && (!NS o && !QN o))
def G5 (o : Oper) : Bool := match o.op with | .move _ | .assign _ => true | _ => false
def Jq (ops : Array Oper) (b : Array Nat) (an : Um) (i j : Nat) (x y : Oper) : Bool :=
 VU b i j ||
 (!Xv ops x y &&
   match pP i an.1, pP j an.1 with
   | true, true => false
   | false, false => true
   | true, false => G5 y || O2 i j an.2
   | false, true => G5 x || O2 i j an.2)
def SN (ops : Array Oper) (b : Array Nat) (an : Um) : Bool :=
 (List.range ops.size).all fun j => (List.range j).all fun i =>
  match ops[i]?, ops[j]? with
  | some x, some y => Jq ops b an i j x y
  | _, _ => false
def Qw (ops : Array Oper) : Bool :=
 (List.range ops.size).all fun i => match ops[i]? with
  | some o => o.after.all fun e => !Region.binds .any e || Nat.blt e.on i
  | none => false
def QO (ops : Array Oper) (b : Array Nat) : Bool :=
 (List.range ops.size).all fun j => (List.range ops.size).all fun i =>
  !VU b i j || (match ops[j]? with
   | some o => o.after.any fun e => Region.binds .any e && (Nat.beq e.on i || VU b i e.on)
   | none => false)
def Pe (ops : Array Oper) (an : Um) : Bool :=
 Qw ops && QO ops (Region.before ops) && SN ops (Region.before ops) an && (ops.all fun o => !NS o) &&
  (List.range ops.size).all fun i => match ops[i]? with | some o => !Wu o || pP i an.1 | none => false
def PQ (n : Nat) (an : Um) (pl : RM) : Bool :=
 (List.range n).all fun i => match pl[i]? with
  | some (h, ks) => h == pP i an.1 && an.2.all fun p => !Nat.beq p.2 i || (Nat.blt p.1 i && ks.contains (i - 1 - p.1))
  | none => false
def TM (π : List Nat) (ops : Array Oper) : Bool :=
 Nat.beq π.length ops.size && ((List.range ops.size).all fun k => match π[k]? with | some i => Nat.beq (uW π i) k && Nat.blt i ops.size | none => false) &&
  ((List.range ops.size).all fun i => match π[uW π i]? with | some j => Nat.beq j i | none => false) &&
  ((List.range ops.size).all fun i => match ops[i]? with
    | some o => (o.after.all fun e => Nat.blt e.on ops.size) && (match o.guard with | some (j, _) => Nat.blt j ops.size | none => true)
    | none => false)
def Lv (P : Program) (N : Nat) (ops : Array Oper) : List (Nat × Nat) -> HT -> Bool
 | _, .leaf an pl => Pe ops an && PQ ops.size an pl
 | path, .perm π es an pl => (es.all fun p => O2 p.1 p.2 path && Nat.blt p.1 ops.size) && TM π ops && (pM π es ops).all (UA N) && (pM π es ops).all (AG P) &&
  Pe (pM π es ops) an && PQ (pM π es ops).size an pl
 | path, .split a b x y => !Nat.beq a b && Lv P N ops ((a, b) :: path) x && Lv P N ops ((b, a) :: path) y
def codeOk (P : Program) (N : Nat) (ann : FA) : Code -> Bool
 | .skip | .exit _ | .ret | .label _ => true
 | .scope c => codeOk P N ann c
 | .region id ops draw => ops.all (UA N) && ops.all (AG P) && (!draw || Lv P N ops [] (ann.t id))
 | .seq x y => codeOk P N ann x && codeOk P N ann y
 | .cond c x y => Q2 c && (codeOk P N ann x && codeOk P N ann y)
 | .block _ c => codeOk P N ann c
 | .loop c => codeOk P N ann c
 | .rangeFunc gf _ _ _ => Q2 gf
 | _ => false
def rL : Code -> Bool
 | .seq x y => rL x && rL y
 | .cond _ x y => rL x && rL y
 | .block _ c => rL c
 | .loop c => rL c
 | .scope c => rL c
 | .rangeFunc .. => false
 | _ => true
def QM : ResultVar -> Bool
 | .tmp t => Nat.blt t DS
 | .cell a _ => Nat.blt a DS
theorem FY (g : Env) (d i : Nat) (v : ahB) : put g (some d) v i = if i = d then v else g i := by
 unfold put
 by_cases h : i = d
 .subst h; simp
 .have : Nat.beq i d = false := by
   cases hb : Nat.beq i d
   .rfl
   .exact absurd (adO hb) h
  simp [this, h]
theorem Sf {P : Program} {o : Oper} (h : AG P o = true) : OK P o = true := by
 unfold AG at h; simp only [acV] at h; exact h.1
theorem TU {P : Program} {o : Oper} (h : AG P o = true) : ∀ x ∈ o.op.operands, Q2 x = true := by
 unfold AG at h; simp only [acV] at h
 intro x hx
 exact aeD.1 h.2.1 x (by simpa using hx)
theorem Te {P : Program} {o : Oper} (h : AG P o = true) : NS o = false := by
 unfold AG at h; simp only [acV, afA] at h; exact h.2.2.1
theorem Tn {P : Program} {o : Oper} (h : AG P o = true) : QN o = false := by
 unfold AG at h; simp only [acV, afA] at h; exact h.2.2.2
def LG (N : Nat) (ops : Array Oper) : Prop := ∀ (i : Nat) (o : Oper), ops[i]? = some o -> ∀ t, o.dst = some t -> t < N
structure JL (N : Nat) (g : Env) (a : Act) : Prop where
 le : N <= DS
 defers : a.defers = Sw (g DS)
 size : a.tmps.size = N
 at_ : ∀ i, i ≠ DS -> a.tmps.getD i undef = g i
theorem JL.ev {N : Nat} {g : Env} {a : Act} (h : JL N g a) (x : Operand) (hx : Q2 x = true) : a.eval x = ev g x := by
 cases x with
 | tmp t =>
   have : t < DS := (afP (x := t) (y := DS)) ▸ hx
   have e := h.at_ t (afT this)
   simp [Act.eval, En.ev, <- e]
 | _ => simp [Act.eval, En.ev]
theorem JL.put {N : Nat} {g : Env} {a : Act} (h : JL N g a) (d : Option Tmp) (v : ahB) (hd : ∀ t, d = some t -> t < N) :
 JL N (put g d v) (a.put d v) := by
 cases d with
 | none => exact h
 | some t =>
   obtain ⟨h0, h1, h2, h3⟩ := h
   have ht := hd t rfl
   refine ⟨h0, ?_, by simp [Act.put, h2], fun i hne => ?_⟩
   .rw [FY, if_neg (Nat.ne_of_gt (afK ht h0))]; exact h1
   .rw [FY, <- h3 i hne]
    by_cases hi : i = t
    .subst hi; simp [Act.put, h2, ht]
    .have hi' : t ≠ i := fun e => hi e.symm
     simp [Act.put, hi, adG hi']
theorem JL.wanted {N : Nat} {g : Env} {a : Act} (h : JL N g a) (ops : Array Oper) (hd : LG N ops) (o : Oper) :
 Region.wanted o (yielded ops a.tmps) = match o.guard with | none => true | some (j, want) => xO g (Bw ops j) want := by
 unfold Region.wanted
 cases o.guard with
 | none => rfl
 | some p =>
   obtain ⟨j, want⟩ := p
   simp only [yielded, xO, Bw]
   cases ho : ops[j]? with
   | none => simp
   | some o' =>
     cases hdd : o'.dst with
     | none => simp [hdd]
     | some t =>
       have hlt := hd j o' ho t hdd
       have hle := h.le
       have h3 := h.at_ t (afT (afK hlt hle))
       simp only [hdd, Option.bind_some, kE, asB, <- h3]
       simp only [acW]
       cases ht : a.tmps[t]? with
       | none => simp [undef]
       | some v => cases v <;> simp
def upX (P : Program) (o : Oper) (a : Act) (next : Act -> ahA -> Prop) : Result Next -> Prop
 | .ok (.value v) w' => next (a.put o.dst v) w'
 | .ok .skip w' => next (a.put o.dst undef) w'
 | .ok (.enter f args) w' => ∃ v w'', Ret P f args w' v w'' /\ next (a.put o.dst v) w''
 | .ok (.round l f tmps acH bd) w' => ∃ v w'', aaL P l f tmps acH bd w' v w'' /\ next (a.put o.dst v) w''
 | _ => False
def TA (P : Program) (o : Oper) (a : Act) (w : ahA) (next : Act -> ahA -> Prop) : Prop := QN o = false /\ upX P o a next ((execOp a.eval o).run P w)
def Jz (P : Program) (ops : Array Oper) (i : Nat) (K : Act -> ahA -> Prop) (a : Act) (w : ahA) : Prop :=
 match ops[i]? with
 | none => K a w
 | some o => if Region.wanted o (yielded ops a.tmps) then TA P o a w K else K (a.put o.dst undef) w
def BB (P : Program) (ops : Array Oper) (Q : Act -> ahA -> Prop) : List Nat -> Act -> ahA -> Prop
 | [], a, w => Q a w
 | i :: rest, a, w => Jz P ops i (BB P ops Q rest) a w
def Pc (P : Program) (ops : Array Oper) (Q : Act -> ahA -> Prop) : Nat -> Array Bool -> Act -> ahA -> Prop
 | 0, listed, a, w => Region.ready .any ops listed = [] /\ Q a w
 | fuel + 1, listed, a, w =>
   (Region.ready .any ops listed = [] -> Q a w) /\ ∀ i ∈ Region.ready .any ops listed, Jz P ops i (Pc P ops Q fuel (listed.setIfInBounds i true)) a w
theorem Qo {P : Program} {o : Oper} {a : Act} {w : ahA} {K K' : Act -> ahA -> Prop} (h : ∀ a w, K a w -> K' a w) (hh : TA P o a w K) : TA P o a w K' := by
 refine ⟨hh.1, ?_⟩
 have hh := hh.2
 generalize (execOp a.eval o).run P w = r at *
 cases r with
 | ok x w' =>
   cases x <;> simp only [upX] at hh ⊢ <;> first | exact h _ _ hh | (obtain ⟨v, w'', h1, h2⟩ := hh; exact ⟨v, w'', h1, h _ _ h2⟩) | exact hh
 | halt x w' => exact hh.elim
theorem Tf {P : Program} {ops : Array Oper} {i : Nat} {a : Act} {w : ahA} {K K' : Act -> ahA -> Prop} (h : ∀ a w, K a w -> K' a w) (hh : Jz P ops i K a w) : Jz P ops i K' a w := by
 unfold Jz at *
 split
 .exact h _ _ (by simpa [*] using hh)
 .rename_i o ho
  simp only [ho] at hh
  split
  .rename_i hw; simp only [hw, if_true] at hh; exact Qo h hh
  .rename_i hw; simp only [hw] at hh; exact h _ _ hh
def OX (ro : Option Nat) : Fence := { Fence.wide with round := ro }
theorem VA {P : Program} {ops : Array Oper} {Q : Act -> ahA -> Prop} (ro : Option Nat) : ∀ (L : List Nat) (a : Act) (w : ahA), BB P ops Q L a w →
 wpOpsIn (OX ro) 0 P ops (fun e a w => e = .normal /\ Q a w) L a w := by
 intro L
 induction L with
 | nil => intro a w h; exact ⟨rfl, h⟩
 | cons i L ih =>
   intro a w h
   simp only [BB, Jz] at h
   simp only [wpOpsIn]
   cases ho : ops[i]? with
   | none => rw [ho] at h; exact ih _ _ h
   | some o =>
     rw [ho] at h
     simp only at h ⊢
     by_cases hw : Region.wanted o (yielded ops a.tmps) = true
     .rw [if_pos hw] at h ⊢
      obtain ⟨hd, h⟩ := h
      refine ⟨fun _ _ => trivial, ?_⟩
      rw [Oper.semAt_eq _ _ _ (fun c hc => by simp [QN, hc] at hd)]
      generalize (execOp a.eval o).run P w = r at *
      cases r with
      | halt x w' => exact h.elim
      | ok x w' =>
        cases x <;> simp only [upX] at h <;> simp only [Oper.uponIn] <;> try (exact h.elim)
        .exact ih _ _ h
        .exact ih _ _ h
        .obtain ⟨v, w'', h1, h2⟩ := h
         refine ⟨fun hn => by simp [OX, Fence.wide] at hn, ?_⟩
         have := callsIn_wide (n := 0).2 h1
         refine CallsIn.mono (F := OX ro) (n := 0) this ?_
         rintro e w3 ⟨rfl, rfl⟩
         exact ih _ _ h2
        .obtain ⟨v, w'', h1, h2⟩ := h
         refine ⟨fun hn => by simp [OX, Fence.wide] at hn, ?_⟩
         refine RoundIn.mono (F := OX ro) (n := 0) h1 ?_
         rintro e w3 ⟨rfl, rfl⟩
         exact ih _ _ h2
     .rw [if_neg hw] at h ⊢
      exact ⟨fun _ _ => trivial, ih _ _ h⟩
section
variable {P : Program} {ops : Array Oper}
def NM (P : Program) (ops : Array Oper) (g : Env) (o : Oper) (w : ahA) (v : ahB) (w' : ahA) : Prop :=
 ∀ K : ahB -> ahA -> Prop, K v w' -> DQ P ops g o w K
theorem UI {s : Sem Next} {w : ahA} {K : ahB -> ahA -> Prop} (h : eY P s w K) :
 ∃ v w', (∀ K' : ahB -> ahA -> Prop, K' v w' -> eY P s w K') /\ K v w' := by
 unfold eY at *
 generalize s.run P w = r at *
 match r, h with
 | .ok (.value v) w1, h => exact ⟨v, w1, fun _ h' => h', h⟩
 | .ok .skip w1, h => exact ⟨undef, w1, fun _ h' => h', h⟩
 | .ok (.enter f args) w1, h =>
   obtain ⟨v, w', hr, hk⟩ := h
   exact ⟨v, w', fun _ h' => ⟨v, w', hr, h'⟩, hk⟩
 | .ok (.round l f tmps acH bd) w1, h =>
   obtain ⟨v, w', hr, hk⟩ := h
   exact ⟨v, w', fun _ h' => ⟨v, w', hr, h'⟩, hk⟩
theorem QU {g : Env} {o : Oper} {w : ahA} {K : ahB -> ahA -> Prop} (h : EP P g o w K) :
 ∃ v w', (∀ K' : ahB -> ahA -> Prop, K' v w' -> EP P g o w K') /\ K v w' := by
 unfold EP at *
 split at h
 .exact ⟨_, _, fun _ h' => h', h⟩
 .exact ⟨_, _, fun _ h' => h', h⟩
 .split at h
  .obtain ⟨v, w', a, b⟩ := h
   exact ⟨v, w', fun _ h' => ⟨v, w', a, h'⟩, b⟩
  .exact UI h
 .exact UI h
theorem Ya (op : BinOp) (t : TypeId) (ox oy : Operand) (x y : ahB) : gO op t ox oy x y = V (do eqGuard op t ox oy x y; binOp op t x y) := by
 cases op <;> simp [gO, Cn, eqGuard]
theorem Ws {g : Env} {o : Oper} (ho : AG P o = true) : Gv g o = execOp (ev g) o := by
 have ho := Sf ho
 unfold Gv
 split
 .rename_i op t x y yt hx
  simp only [execOp, hx, Ya, V]
 .rename_i fn first captured hx
  have e1 : (List.map (ev g) first.toList).toArray = first.map (ev g) := by obtain ⟨l⟩ := first; simp
  have e2 : (List.map (ev g) captured.toList).toArray = captured.map (ev g) := by obtain ⟨l⟩ := captured; simp
  simp only [execOp, hx, JM, V, e1, e2]
 .rename_i t ps hx
  have e : (List.map (fun p : Nat × Operand => (p.1, ev g p.2)) ps.toList).toArray = ps.map (fun p => (p.1, ev g p.2)) := by obtain ⟨l⟩ := ps; simp
  simp only [execOp, hx, lZ, V, e]
 .rename_i t n ps hx
  have e : (List.map (fun p : Nat × Operand => (p.1, ev g p.2)) ps.toList).toArray = ps.map (fun p => (p.1, ev g p.2)) := by obtain ⟨l⟩ := ps; simp
  simp only [execOp, hx, iL, V, e]
 .rename_i c hx
  split
  .rename_i b hb
   simp only [execOp, hx, resolve, hb, pure_bind, invoke, mV]
   unfold OK at ho
   simp only [hx, hb] at ho
   have e : (List.map (ev g) c.args.toList).toArray = c.args.map (ev g) := by obtain ⟨l⟩ := c.args; simp
   rw [e]
   cases b <;> first | rfl | (cases ho)
  .rename_i f hb
   have e : (List.map (ev g) c.args.toList).toArray = c.args.map (ev g) := by obtain ⟨l⟩ := c.args; simp
   simp only [execOp, hx, resolve, hb, zL, e]
  .rfl
 .rfl
theorem Hu {f : FuncId} {fn : Func} (hf : P.funcs[f]? = some fn) (hb : fn.body.isSome = true) (hn : (fn.name == "runtime.NumGoroutine") = false)
 (args : Array ahB) (w : ahA) : (callFunc f args).run P w = .ok (.enter f args) w := by
 unfold callFunc
 have hb' : fn.body.isNone = false := by cases h : fn.body <;> simp_all
 show Sem.run P (Sem.program fun p => _) w = _
 simp only [Sem.run]
 simp only [bind, Sem.bind, hf, hn, hb', acK, if_false]
 rfl
theorem GZ {g : Env} {o : Oper} {w : ahA} {K : ahB -> ahA -> Prop} (h : DQ P ops g o w K) :
 ∃ v w', NM P ops g o w v w' /\ K v w' := by
 unfold NM
 unfold DQ at *
 split at h
 .obtain ⟨v, w', h1, h2⟩ := QU h
  exact ⟨v, w', h1, h2⟩
 .rename_i j want hg
  unfold Gd at *
  cases hb : xO g (Bw ops j) want with
  | true =>
    simp only [hb] at h
    obtain ⟨v, w', h1, h2⟩ := QU h
    exact ⟨v, w', fun K hk => h1 K hk, h2⟩
  | false =>
    simp only [hb] at h
    exact ⟨_, _, fun K hk => hk, h⟩
theorem NZ {N i : Nat} {g : Env} {a : Act} {o : Oper} {w w' : ahA} {v : ahB} {next : Act -> ahA -> Prop}
 (hi : ops[i]? = some o) (hc : AG P o = true) (hd : LG N ops) (hr : JL N g a) (hy : NM P ops g o w v w') (hn : next (a.put o.dst v) w') : Jz P ops i next a w := by
 have h := hy (fun v2 w2 => v2 = v /\ w2 = w') ⟨rfl, rfl⟩
 unfold Jz
 rw [hi]
 simp only [hr.wanted ops hd]
 have run : EP P g o w (fun v2 w2 => v2 = v /\ w2 = w') -> TA P o a w next := by
  intro h
  refine ⟨Tn hc, ?_⟩
  have hevs : execOp a.eval o = execOp (ev g) o := execOp_congr o (fun cs b he => by have := Te hc; simp [NS, he] at this) (fun x hx => hr.ev x (TU hc x hx))
  have stp : eY P (Gv g o) w (fun v2 w2 => v2 = v /\ w2 = w') -> upX P o a next ((execOp (ev g) o).run P w) := by
   intro h
   rw [Ws hc] at h
   unfold eY at h
   generalize (execOp (ev g) o).run P w = r at *
   match r, h with
   | .ok (.value v) w1, h => obtain ⟨rfl, rfl⟩ := h; exact hn
   | .ok .skip w1, h => obtain ⟨rfl, rfl⟩ := h; exact hn
   | .ok (.enter f args) w1, h =>
     obtain ⟨v2, w2, hret, rfl, rfl⟩ := h
     exact ⟨_, _, hret, hn⟩
   | .ok (.round l f tmps acH bd) w1, h =>
     obtain ⟨v2, w2, hret, rfl, rfl⟩ := h
     exact ⟨_, _, hret, hn⟩
  rw [hevs]
  unfold EP at h
  split at h
  .rename_i x hx
   obtain ⟨rfl, rfl⟩ := h
   simp only [execOp, hx]; exact hn
  .rename_i x hx
   obtain ⟨rfl, rfl⟩ := h
   simp only [execOp, hx]; exact hn
  .rename_i c hx
   split at h
   .rename_i f hcal
    obtain ⟨v2, w2, hret, rfl, rfl⟩ := h
    have e : (execOp (ev g) o).run P w = .ok (.enter f (List.map (ev g) c.args.toList).toArray) w := by
     have hc := Sf hc
     unfold OK at hc
     simp only [hx, hcal] at hc
     cases hfn : P.funcs[f]? with
     | none => rw [hfn] at hc; cases hc
     | some fn =>
       rw [hfn] at hc
       simp only [acV, afA] at hc
       have ea : (List.map (ev g) c.args.toList).toArray = c.args.map (ev g) := by obtain ⟨l⟩ := c.args; simp
       rw [ea]
       simp only [execOp, hx, resolve, hcal, ev, Deferred.ofValue, pure_bind, invoke]
       simp only [Array.empty_append, Array.append_empty]
       exact Hu hfn hc.1 hc.2 _ w
    rw [e]
    exact ⟨_, _, hret, hn⟩
   .exact stp h
  .exact stp h
 unfold DQ at h
 cases hg : o.guard with
 | none =>
   rw [hg] at h
   simp only [if_true]
   exact run h
 | some p =>
   obtain ⟨j, want⟩ := p
   simp only [hg] at h
   simp only
   by_cases hb : xO g (Bw ops j) want = true
   .rw [if_pos hb]
    simp only [hb, Gd] at h
    exact run h
   .rw [if_neg hb]
    have hb' : xO g (Bw ops j) want = false := by simpa using hb
    simp only [hb', Gd] at h
    obtain ⟨rfl, rfl⟩ := h
    exact hn
def L3 (P : Program) (ops : Array Oper) : Prop := ∀ (i : Nat) (o : Oper), ops[i]? = some o -> AG P o = true
theorem Vw {N : Nat} (hd : LG N ops) (hca : L3 P ops) {Q : Act -> ahA -> Prop} {K : Env -> ahA -> Prop}
 (hQ : ∀ g a w, JL N g a -> K g w -> Q a w) :
 ∀ (l : List Oper) (k : Nat) (g : Env) (a : Act) (w : ahA), (∀ j, l[j]? = ops[k + j]?) -> JL N g a -> PT P ops l g w K →
   BB P ops Q (List.range' k l.length) a w := by
 intro l
 induction l with
 | nil => intro k g a w _ hr h; exact hQ _ _ _ hr h
 | cons o l ih =>
   intro k g a w hl hr h
   have h0 : ops[k]? = some o := by have := hl 0; simpa using this.symm
   obtain ⟨v, w', hy, hk⟩ := GZ h
   rw [adP, List.range'_succ]
   show Jz P ops k (BB P ops Q _) a w
   refine NZ h0 (hca k o h0) hd hr hy ?_
   refine ih (k + 1) _ _ _ (fun j => ?_) (hr.put _ _ (hd k o h0)) hk
   have := hl (j + 1)
   simp only [acJ] at this
   rw [this]; congr 1; omega
def NO (an : Um) (O : Nat -> Oper) (G : Nat -> Env) (W : Nat -> ahA) (V : Nat -> ahB) (i : Nat) : Rec :=
 ⟨pP i an.1, O i, G i, W i, V i⟩
def Ui (P : Program) (ops : Array Oper) (an : Um) (O : Nat -> Oper) (G : Nat -> Env) (W : Nat -> ahA) (V : Nat -> ahB) (i j : Nat) : Prop :=
 Lf P ops (NO an O G W V i) (O j) (G j) (W (j + 1)) (V j)
structure VS (P : Program) (ops : Array Oper) (an : Um) (g0 : Env) (w0 : ahA) (n : Nat) (O : Nat -> Oper) (G : Nat -> Env) (W : Nat -> ahA) (V : Nat -> ahB) : Prop where
 g0 : G 0 = g0
 w0 : W 0 = w0
 op : ∀ i, i < n -> ops[i]? = some (O i)
 yld : ∀ i, i < n -> NM P ops (G i) (O i) (W i) (V i) (W (i + 1))
 light : ∀ i, i < n -> pP i an.1 = false -> W (i + 1) = W i
 env : ∀ i, i < n -> G (i + 1) = put (G i) (O i).dst (V i)
 chk : ∀ i j, i < j -> j < n -> O2 i j an.2 = true -> Ui P ops an O G W V i j
theorem RW {o : Oper} {g : Env} {w' : ahA} {v : ahB} {hist : List Rec} : ∀ {ks : List Nat}, X4 P ops o g w' v hist ks -> ∀ k ∈ ks, ∃ q, S0 hist k = some q /\ Lf P ops q o g w' v := by
 intro ks
 induction ks with
 | nil => intro _ k hk; cases hk
 | cons a ks ih =>
   rintro ⟨h1, h2⟩ k hk
   rcases adX.1 hk with rfl | hk
   .cases hn : S0 hist k with
    | none => rw [hn] at h1; exact h1.elim
    | some q => rw [hn] at h1; exact ⟨q, rfl, h1⟩
   .exact ih h2 k hk
theorem Vk {n : Nat} {an : Um} {pl : RM} (h : PQ n an pl = true) {i : Nat} (hi : i < n) :
 ∃ ks, pl[i]? = some (pP i an.1, ks) /\ ∀ j, O2 j i an.2 = true -> j < i /\ (i - 1 - j) ∈ ks := by
 have := aeD.1 h i (adY.2 hi)
 cases hp : pl[i]? with
 | none => rw [hp] at this; cases this
 | some p =>
   obtain ⟨hv, ks⟩ := p
   rw [hp] at this
   simp only [acV] at this
   obtain ⟨h1, h2⟩ := this
   have h1 : hv = pP i an.1 := by simpa using h1
   refine ⟨ks, by rw [h1], fun j hj => ?_⟩
   have mm : ∀ (l : List (Nat × Nat)), O2 j i l = true -> (j, i) ∈ l := by
    intro l
    induction l with
    | nil => intro h; cases h
    | cons q r ih =>
      obtain ⟨a, b⟩ := q
      intro h
      unfold O2 at h
      cases ha : Nat.beq a j with
      | true =>
        simp only [ha] at h
        cases hb : Nat.beq b i with
        | true =>
          obtain rfl := adO ha
          obtain rfl := adO hb
          exact aeO
        | false => simp only [hb] at h; exact adC _ (ih h)
      | false => simp only [ha] at h; exact adC _ (ih h)
   have := aeD.1 h2 (j, i) (mm _ hj)
   simp only [Nat.beq_refl, acP, agN, acV] at this
   refine ⟨?_, by simpa using this.2⟩
   have hlt := this.1
   exact (afP (x := j) (y := i)) ▸ hlt
theorem RL {an : Um} {pl : RM} {g0 : Env} {w0 : ahA} {K : Env -> ahA -> Prop} (hpl : PQ ops.size an pl = true) :
 ∀ (l : List Oper) (m : Nat) (hist : List Rec) (O : Nat -> Oper) (G : Nat -> Env) (W : Nat -> ahA) (V : Nat -> ahB),
   (∀ j, l[j]? = ops[m + j]?) -> m + l.length = ops.size -> VS P ops an g0 w0 m O G W V -> (∀ i, i < m -> S0 hist (m - 1 - i) = some (NO an O G W V i)) →
   qM P ops l (pl.drop m) hist (G m) (W m) K →
   ∃ (O : Nat -> Oper) (G : Nat -> Env) (W : Nat -> ahA) (V : Nat -> ahB), VS P ops an g0 w0 (m + l.length) O G W V /\ K (G (m + l.length)) (W (m + l.length)) := by
 intro l
 induction l with
 | nil => intro m hist O G W V _ _ hr _ h; exact ⟨O, G, W, V, hr, by unfold qM at h; exact h⟩
 | cons o l ih =>
   intro m hist O G W V hl hlen hr hh h
   have h0 : ops[m]? = some o := by have := hl 0; simpa using this.symm
   have hmn : m < ops.size := by rw [adP] at hlen; omega
   obtain ⟨ks, hk1, hk2⟩ := Vk hpl hmn
   have hdrop : pl.drop m = (pP m an.1, ks) :: pl.drop (m + 1) := by
    have hlt : m < pl.length := by
     rcases aeG m pl.length with h | h
     .exact h
     .rw [adZ h] at hk1; cases hk1
    rw [agG hlt]
    rw [acS hlt] at hk1
    rw [aeM hk1]
   rw [hdrop] at h
   obtain ⟨v, w', hy, hk⟩ := GZ h
   have key : (pP m an.1 = false -> w' = W m) /\ (∀ k ∈ ks, ∃ q, S0 hist k = some q /\ Lf P ops q o (G m) w' v) /\
       (qM P ops l (pl.drop (m + 1)) (⟨pP m an.1, o, G m, W m, v⟩ :: hist) (put (G m) o.dst v) w' K) := by
    have nil : ∀ w', ∀ k ∈ ([] : List Nat), ∃ q, S0 hist k = some q /\ Lf P ops q o (G m) w' v := fun _ k hk => (by cases hk)
    cases hm : pP m an.1 with
    | true =>
      rw [hm] at hk
      cases ks with
      | nil => exact ⟨fun e => (by cases e), nil _, hk⟩
      | cons k ks => exact ⟨fun e => (by cases e), RW hk.1, hk.2⟩
    | false =>
      rw [hm] at hk
      cases ks with
      | nil => obtain ⟨rfl, hk⟩ := hk; exact ⟨fun _ => rfl, nil _, hk⟩
      | cons k ks => obtain ⟨rfl, hc, hk⟩ := hk; exact ⟨fun _ => rfl, RW hc, hk⟩
   obtain ⟨kl, c1, c2⟩ := key
   let O' : Nat -> Oper := fun i => if i = m then o else O i
   let V' : Nat -> ahB := fun i => if i = m then v else V i
   let G' : Nat -> Env := fun i => if i = m + 1 then put (G m) o.dst v else G i
   let W' : Nat -> ahA := fun i => if i = m + 1 then w' else W i
   have eO : ∀ i, i < m -> O' i = O i := fun i hi => if_neg (by omega)
   have eV : ∀ i, i < m -> V' i = V i := fun i hi => if_neg (by omega)
   have eG : ∀ i, i <= m -> G' i = G i := fun i hi => if_neg (by omega)
   have eW : ∀ i, i <= m -> W' i = W i := fun i hi => if_neg (by omega)
   have oO : O' m = o := if_pos rfl
   have oV : V' m = v := if_pos rfl
   have oG : G' (m + 1) = put (G m) o.dst v := if_pos rfl
   have oW : W' (m + 1) = w' := if_pos rfl
   have eR : ∀ i, i < m -> NO an O' G' W' V' i = NO an O G W V i := fun i hi => by
    simp only [NO, eO i hi, eV i hi, eG i (by omega), eW i (by omega)]
   have hr' : VS P ops an g0 w0 (m + 1) O' G' W' V' := by
    refine ⟨by rw [eG 0 (by omega)]; exact hr.g0, by rw [eW 0 (by omega)]; exact hr.w0, fun i hi => ?_, fun i hi => ?_, fun i hi hm => ?_, fun i hi => ?_, fun i j hij hj hm => ?_⟩
    .by_cases hi' : i = m
     .subst hi'; rw [oO]; exact h0
     .rw [eO i (by omega)]; exact hr.op i (by omega)
    .by_cases hi' : i = m
     .subst hi'; rw [oO, oV, oW, eG i (by omega), eW i (by omega)]; exact hy
     .rw [eO i (by omega), eV i (by omega), eG i (by omega), eW i (by omega), eW (i + 1) (by omega)]; exact hr.yld i (by omega)
    .by_cases hi' : i = m
     .subst hi'; rw [oW, eW i (by omega)]; exact kl hm
     .rw [eW i (by omega), eW (i + 1) (by omega)]; exact hr.light i (by omega) hm
    .by_cases hi' : i = m
     .subst hi'; rw [oO, oV, oG, eG i (by omega)]
     .rw [eO i (by omega), eV i (by omega), eG i (by omega), eG (i + 1) (by omega)]; exact hr.env i (by omega)
    .unfold Ui
     by_cases hj' : j = m
     .subst hj'
      rw [eR i (by omega), oO, oV, oW, eG j (by omega)]
      obtain ⟨q, hq, hc⟩ := c1 _ (hk2 i hm).2
      rw [hh i hij] at hq
      obtain rfl := aeM hq
      exact hc
     .rw [eR i (by omega), eO j (by omega), eV j (by omega), eG j (by omega), eW (j + 1) (by omega)]
      exact hr.chk i j hij (by omega) hm
   have := ih (m + 1) (⟨pP m an.1, o, G m, W m, v⟩ :: hist) O' G' W' V' (fun j => by
       have := hl (j + 1)
       simp only [acJ] at this
       rw [this]; congr 1; omega) (by rw [adP] at hlen; omega) hr' (fun i hi => by
       by_cases hi' : i = m
       .subst hi'
        rw [show i + 1 - 1 - i = 0 from by omega]
        simp only [S0, NO, oO, oV, eG i (by omega), eW i (by omega)]
       .rw [eR i (by omega), show m + 1 - 1 - i = (m - 1 - i) + 1 from by omega]
        exact hh i (by omega)) (by rw [oG, oW]; exact c2)
   rw [adP, show m + (l.length + 1) = m + 1 + l.length from by omega]
   exact this
end
section
variable {P : Program} {ops : Array Oper} {an : Um} {g0 : Env} {w0 : ahA} {O : Nat -> Oper} {G : Nat -> Env} {W : Nat -> ahA} {V : Nat -> ahB}
def Hi (n : Nat) (O : Nat -> Oper) (V : Nat -> ahB) (g0 : Env) (S : Nat -> Prop) (g : Env) : Prop :=
 ∀ s, (∃ j, j < n /\ S j /\ (O j).dst = some s /\ (∀ k, k < n -> S k -> (O k).dst = some s -> k <= j) /\ g s = V j) ∨
   ((∀ j, j < n -> S j -> (O j).dst ≠ some s) /\ g s = g0 s)
theorem Hi.agree {n : Nat} {S T : Nat -> Prop} {g g' : Env} (h : Hi n O V g0 S g) (h' : Hi n O V g0 T g') (s : Nat)
 (hs : ∀ j, j < n -> (O j).dst = some s -> (S j ↔ T j)) : g s = g' s := by
 rcases h s with ⟨j, h1, h2, h3, h4, h5⟩ | ⟨h1, h2⟩ <;> rcases h' s with ⟨k, k1, k2, k3, k4, k5⟩ | ⟨k1, k2⟩
 .have a := h4 k k1 ((hs k k1 k3).2 k2) k3
  have b := k4 j h1 ((hs j h1 h3).1 h2) h3
  have : j = k := by omega
  subst this; rw [h5, k5]
 .exact absurd h3 (k1 j h1 ((hs j h1 h3).1 h2))
 .exact absurd k3 (h1 k k1 ((hs k k1 k3).2 k2))
 .rw [h2, k2]
theorem Hi.step {n : Nat} {S : Nat -> Prop} {g : Env} (h : Hi n O V g0 S g) (i : Nat) (hi : i < n)
 (hw : ∀ s, (O i).dst = some s -> ∀ j, j < n -> j ≠ i -> (O j).dst = some s -> S j -> j < i) :
 Hi n O V g0 (fun j => S j ∨ j = i) (put g (O i).dst (V i)) := by
 intro s
 cases hd : (O i).dst with
 | none =>
   rcases h s with ⟨j, h1, h2, h3, h4, h5⟩ | ⟨h1, h2⟩
   .refine .inl ⟨j, h1, .inl h2, h3, fun k k1 k2 k3 => ?_, h5⟩
    rcases k2 with k2 | rfl
    .exact h4 k k1 k2 k3
    .rw [hd] at k3; cases k3
   .refine .inr ⟨fun j h3 h4 h5 => ?_, h2⟩
    rcases h4 with h4 | rfl
    .exact h1 j h3 h4 h5
    .rw [hd] at h5; cases h5
 | some t =>
   rw [FY]
   by_cases hst : s = t
   .subst hst
    rw [if_pos rfl]
    refine .inl ⟨i, hi, .inr rfl, hd, fun k k1 k2 k3 => ?_, rfl⟩
    rcases k2 with k2 | rfl
    .by_cases hk : k = i
     .omega
     .have := hw s hd k k1 hk k3 k2; omega
    .omega
   .rw [if_neg hst]
    rcases h s with ⟨j, h1, h2, h3, h4, h5⟩ | ⟨h1, h2⟩
    .refine .inl ⟨j, h1, .inl h2, h3, fun k k1 k2 k3 => ?_, h5⟩
     rcases k2 with k2 | rfl
     .exact h4 k k1 k2 k3
     .rw [hd] at k3; exact absurd (aeM k3).symm hst
    .refine .inr ⟨fun j h3 h4 h5 => ?_, h2⟩
     rcases h4 with h4 | rfl
     .exact h1 j h3 h4 h5
     .rw [hd] at h5; exact absurd (aeM h5).symm hst
theorem VS.envFor {n : Nat} (r : VS P ops an g0 w0 n O G W V) : ∀ i, i <= n -> Hi n O V g0 (fun j => j < i) (G i) := by
 intro i
 induction i with
 | zero => intro _ s; exact .inr ⟨fun j _ h => absurd h (by omega), by rw [r.g0]⟩
 | succ i ih =>
   intro hi
   have h := ih (by omega)
   have := h.step (V := V) i (by omega) (fun s _ j _ _ _ hj => hj)
   rw [<- r.env i (by omega)] at this
   intro s
   rcases this s with ⟨j, h1, h2, h3, h4, h5⟩ | ⟨h1, h2⟩
   .exact .inl ⟨j, h1, by omega, h3, fun k k1 k2 k3 => h4 k k1 (by omega) k3, h5⟩
   .exact .inr ⟨fun j a b => h1 j a (by omega), h2⟩
theorem VS.still {n : Nat} (r : VS P ops an g0 w0 n O G W V) (i : Nat) : ∀ d, i + d <= n -> (∀ h, i <= h -> h < i + d -> pP h an.1 = false) -> W (i + d) = W i := by
 intro d
 induction d with
 | zero => intro _ _; rfl
 | succ d ih =>
   intro h1 h2
   rw [<- afN, r.light (i + d) (by omega) (h2 _ (by omega) (by omega))]
   exact ih (by omega) (fun h a b => h2 h a (by omega))
theorem VS.still' {n : Nat} (r : VS P ops an g0 w0 n O G W V) {i k : Nat} (hik : i <= k) (hk : k <= n) (hh : ∀ h, i <= h -> h < k -> pP h an.1 = false) : W k = W i := by
 have := r.still i (k - i) (by omega) (fun h a b => hh h a (by omega))
 rwa [show i + (k - i) = k from by omega] at this
theorem RK {i k : Nat} : (∃ h, i <= h /\ h < k /\ pP h an.1 = true) -> ∃ h, i <= h /\ h < k /\ pP h an.1 = true /\ ∀ h', i <= h' -> h' < h -> pP h' an.1 = false := by
 rintro ⟨h, h1, h2, h3⟩
 induction h using Nat.strongRecOn with
 | _ h ih =>
   by_cases hx : ∃ h', i <= h' /\ h' < h /\ pP h' an.1 = true
   .obtain ⟨h', a, b, c⟩ := hx
    exact ih h' b a (by omega) c
   .refine ⟨h, h1, h2, h3, fun h' a b => ?_⟩
    cases hm : pP h' an.1
    .rfl
    .exact absurd ⟨h', a, b, hm⟩ hx
theorem PS {i k : Nat} : (∃ h, i <= h /\ h < k /\ pP h an.1 = true) -> ∃ h, i <= h /\ h < k /\ pP h an.1 = true /\ ∀ h', h < h' -> h' < k -> pP h' an.1 = false := by
 rintro ⟨h, h1, h2, h3⟩
 induction hd : k - h using Nat.strongRecOn generalizing h with
 | _ d ih =>
   by_cases hx : ∃ h', h < h' /\ h' < k /\ pP h' an.1 = true
   .obtain ⟨h', a, b, c⟩ := hx
    exact ih (k - h') (by omega) h' (by omega) b c rfl
   .refine ⟨h, h1, h2, h3, fun h' a b => ?_⟩
    cases hm : pP h' an.1
    .rfl
    .exact absurd ⟨h', a, b, hm⟩ hx
structure OZ (ops : Array Oper) (an : Um) (O : Nat -> Oper) (b : Array Nat) : Prop where
 back : ∀ i, i < ops.size -> ∀ e ∈ (O i).after, Region.binds .any e = true -> e.on < i
 closed : ∀ i j, i < ops.size -> j < ops.size -> VU b i j = true -> ∃ e ∈ (O j).after, Region.binds .any e = true /\ (e.on = i ∨ VU b i e.on = true)
 pair : ∀ i j, i < j -> j < ops.size -> Jq ops b an i j (O i) (O j) = true
 sel : ∀ i, i < ops.size -> NS (O i) = false
 fn : ∀ i, i < ops.size -> Wu (O i) = true -> pP i an.1 = true
theorem UP (h : Pe ops an = true) (ho : ∀ i, i < ops.size -> ops[i]? = some (O i)) : OZ ops an O (Region.before ops) := by
 unfold Pe at h
 simp only [acV] at h
 obtain ⟨⟨⟨⟨h1, h2⟩, h3⟩, h5⟩, h6⟩ := h
 refine ⟨fun i hi e he hb => ?_, fun i j hi hj hb => ?_, fun i j hij hj => ?_, fun i hi => ?_, fun i hi hf => ?_⟩
 .unfold Qw at h1
  have := aeD.1 h1 i (adY.2 hi)
  rw [ho i hi] at this
  have := aeP.1 this e he
  simp only [hb, acP, agN] at this
  exact (afP (x := e.on) (y := i)) ▸ this
 .unfold QO at h2
  have := aeD.1 (aeD.1 h2 j (adY.2 hj)) i (adY.2 hi)
  rw [ho j hj] at this
  simp only [hb, acP, agN] at this
  obtain ⟨e, he, h⟩ := Array.any_eq_true'.1 this
  simp only [acV, aeH] at h
  refine ⟨e, he, h.1, h.2.imp (fun h => adO h) id⟩
 .unfold SN at h3
  have := aeD.1 (aeD.1 h3 j (adY.2 hj)) i (adY.2 hij)
  rw [ho i (by omega), ho j hj] at this
  exact this
 .have := aeP.1 h5 (O i) (agQ (ho i hi))
  simpa using this
 .have := aeD.1 h6 i (adY.2 hi)
  rw [ho i hi] at this
  simpa [hf] using this
theorem Xd {i j : Nat} : ∀ {l : List (Nat × Nat)}, O2 i j l = true -> (i, j) ∈ l := by
 intro l
 induction l with
 | nil => intro h; cases h
 | cons p r ih =>
   obtain ⟨a, b⟩ := p
   intro h
   unfold O2 at h
   cases ha : Nat.beq a i with
   | true =>
     simp only [ha] at h
     cases hb : Nat.beq b j with
     | true =>
       obtain rfl := adO ha
       obtain rfl := adO hb
       exact aeO
     | false => simp only [hb] at h; exact adC _ (ih h)
   | false => simp only [ha] at h; exact adC _ (ih h)
theorem OZ.order {b : Array Nat} (st : OZ ops an O b) {S : Nat -> Prop} {i : Nat} (hi : i < ops.size)
 (hdown : ∀ j k, j < ops.size -> k < ops.size -> S k -> VU b j k = true -> S j) (hbi : ∀ j, j < ops.size -> VU b j i = true -> S j) (hni : ¬ S i)
 {s : Nat} (hs : s ∈ looks ops (O i) ∨ (O i).dst = some s) {j : Nat} (hj : j < ops.size) (hji : j ≠ i) (hd : (O j).dst = some s) : S j ↔ j < i := by
 rcases aeG j i with h | h
 .refine ⟨fun _ => h, fun _ => ?_⟩
  have p := st.pair j i h hi
  unfold Jq at p
  simp only [aeH, acV, afA] at p
  rcases p with p | p
  .exact hbi j hj p
  .exfalso
   have p1 := p.1
   unfold Xv at p1
   simp only [hd, afW] at p1
   rcases hs with hs | hs
   .have := p1.1.1; simp [hs] at this
   .have := p1.1.2; simp [hs] at this
 .have h' : i < j := by omega
  refine ⟨fun hS => ?_, fun hh => by omega⟩
  exfalso
  have p := st.pair i j h' hj
  unfold Jq at p
  simp only [aeH, acV, afA] at p
  rcases p with p | p
  .exact hni (hdown i j hi hj hS p)
  .have p1 := p.1
   unfold Xv at p1
   simp only [hd, afW] at p1
   rcases hs with hs | hs
   .have := p1.2; simp [hs] at this
   .have := p1.1; rw [hs] at this; simp at this
theorem GL {g g' : Env} {o : Oper} (h : ∀ s ∈ looks ops o, g s = g' s) : ∀ x ∈ o.op.operands, ev g x = ev g' x := by
 intro x hx
 cases x with
 | tmp t => exact h t (afF _ (List.mem_filterMap.2 ⟨.tmp t, by simpa using hx, rfl⟩))
 | _ => rfl
theorem Si {g g' : Env} {o : Oper} (hs : NS o = false) (h : ∀ s ∈ looks ops o, g s = g' s) : Gv g o = Gv g' o := by
 have e := execOp_congr o (fun cs b he => by simp [NS, he] at hs) (GL h)
 have k := GL h
 unfold Gv
 split
 .rename_i op t x y yt hx
  rw [k x (by simp [hx, Op.operands]), k y (by simp [hx, Op.operands])]
 .rename_i fn first captured hx
  have e1 : List.map (ev g) first.toList = List.map (ev g') first.toList := aeL fun p hp => k p (by simp [hx, Op.operands]; exact .inl (by simpa using hp))
  have e2 : List.map (ev g) captured.toList = List.map (ev g') captured.toList := aeL fun p hp => k p (by simp [hx, Op.operands]; exact .inr (by simpa using hp))
  rw [e1, e2]
 .rename_i t ps hx
  congr 1
  refine aeL fun p hp => ?_
  rw [k p.2 (by simp [hx, Op.operands]; exact ⟨p.1, by simpa using hp⟩)]
 .rename_i t n ps hx
  congr 1
  refine aeL fun p hp => ?_
  rw [k p.2 (by simp [hx, Op.operands]; exact ⟨p.1, by simpa using hp⟩)]
 .rename_i c hx
  split
  .rename_i b hb
   congr 1
   refine aeL fun p hp => ?_
   exact k p (by simp [hx, Op.operands, Call.operands, hb]; simpa using hp)
  .rename_i f hb
   have : List.map (ev g) c.args.toList = List.map (ev g') c.args.toList := aeL fun p hp => k p (by simp [hx, Op.operands, Call.operands, hb]; exact .inr (by simpa using hp))
   rw [this, k f (by simp [hx, Op.operands, Call.operands, hb])]
  .exact e
 .exact e
theorem Ql {g g' : Env} {o : Oper} {j : Nat} {want : Bool} (hg : o.guard = some (j, want)) (h : ∀ s ∈ looks ops o, g s = g' s) :
 xO g (Bw ops j) want = xO g' (Bw ops j) want := by
 cases hs : Bw ops j with
 | none => rfl
 | some t =>
   have := h t (afU _ (by simp [hg, hs]))
   simp [xO, this]
theorem Mz {g g' : Env} {o : Oper} {w : ahA} {K : ahB -> ahA -> Prop} (hs : NS o = false) (h : ∀ s ∈ looks ops o, g s = g' s)
 (hk : DQ P ops g o w K) : DQ P ops g' o w K := by
 have e := Si (ops := ops) hs h
 have run : EP P g o w = EP P g' o w := by
  funext K
  unfold EP
  split
  .rename_i x hx
   have := GL (ops := ops) h x (by simp [hx, Op.operands])
   rw [this]
  .rename_i x hx
   have := GL (ops := ops) h x (by simp [hx, Op.operands])
   rw [this]
  .rename_i c hx
   have k := GL h
   have : List.map (ev g) c.args.toList = List.map (ev g') c.args.toList := aeL fun p hp => k p (by simp [hx, Op.operands, Call.operands]; exact .inr (by simpa using hp))
   rw [this, e]
  .rw [e]
 unfold DQ at *
 cases hg : o.guard with
 | none => rw [hg] at hk; simp only at hk ⊢; rwa [<- run]
 | some p =>
   obtain ⟨j, want⟩ := p
   simp only [hg] at hk ⊢
   rw [<- run, <- Ql hg h]
   exact hk
theorem SO {n : Nat} (hn : n = ops.size) {b : Array Nat} (r : VS P ops an g0 w0 n O G W V) (st : OZ ops an O b) {S : Nat -> Prop} {i k : Nat} (hi : i < n) (hk : k <= n)
 (hdown : ∀ j k, j < ops.size -> k < ops.size -> S k -> VU b j k = true -> S j) (hbi : ∀ j, j < ops.size -> VU b j i = true -> S j) (hni : ¬ S i)
 (hS : ∀ h, h < n -> pP h an.1 = true -> (S h ↔ h < k)) (hl : pP i an.1 = false) :
 NM P ops (G i) (O i) (W k) (V i) (W k) := by
 subst hn
 have same : Gs (gOf ops (O i) (G i)) (gN P (Gv (G i) (O i)) (V i) (W k)) -> G5 (O i) = false -> NM P ops (G i) (O i) (W k) (V i) (W k) := by
  intro hs hm K hK
  have run : gN P (Gv (G i) (O i)) (V i) (W k) -> EP P (G i) (O i) (W k) K := by
   intro hs
   unfold gN at hs
   have stp : eY P (Gv (G i) (O i)) (W k) K := by unfold eY; rw [hs]; exact hK
   unfold EP
   split
   .rename_i x hx; simp [G5, hx] at hm
   .rename_i x hx; simp [G5, hx] at hm
   .rename_i c hx
    have hf : Wu (O i) = false := by
     cases hh : Wu (O i)
     .rfl
     .rw [st.fn i hi hh] at hl; cases hl
    obtain ⟨cal, cargs, cats⟩ := c
    cases cal with
    | value f =>
      cases f with
      | func f => simp [Wu, hx] at hf
      | _ => exact stp
    | _ => exact stp
   .exact stp
  have hy := r.yld i hi (fun v _ => v = V i) rfl
  unfold DQ at hy ⊢
  unfold gOf at hs
  cases hg : (O i).guard with
  | none => rw [hg] at hs; exact run hs
  | some p =>
    obtain ⟨j, want⟩ := p
    rw [hg] at hs
    simp only [hg] at hs hy ⊢
    cases hb : xO (G i) (Bw ops j) want with
    | true => rw [hb] at hs; exact run hs
    | false =>
      rw [hb] at hy
      have : undef = V i := hy
      show K undef (W k)
      rw [this]; exact hK
 have moved : G5 (O i) = true -> NM P ops (G i) (O i) (W k) (V i) (W k) := by
  intro hm K hK
  have hy := r.yld i hi (fun v _ => v = V i) rfl
  unfold DQ at hy ⊢
  have mv : ∀ (K' : ahB -> ahA -> Prop) w, EP P (G i) (O i) w K' ↔ ∃ x, ((O i).op = .move x ∨ (O i).op = .assign x) /\ K' (ev (G i) x) w := by
   intro K' w
   unfold EP
   unfold G5 at hm
   split
   .rename_i x hx; constructor
    .intro h; exact ⟨x, .inl hx, h⟩
    .rintro ⟨y, h | h, h'⟩
     .rw [hx] at h; cases h; exact h'
     .rw [hx] at h; cases h
   .rename_i x hx; constructor
    .intro h; exact ⟨x, .inr hx, h⟩
    .rintro ⟨y, h | h, h'⟩
     .rw [hx] at h; cases h
     .rw [hx] at h; cases h; exact h'
   .rename_i c hx; simp [hx] at hm
   .rename_i h1 h2 _; split at hm
    .rename_i x hx; exact absurd hx (h1 x)
    .rename_i x hx; exact absurd hx (h2 x)
    .cases hm
  cases hg : (O i).guard with
  | none =>
    rw [hg] at hy
    simp only at hy ⊢
    rw [mv] at hy ⊢
    obtain ⟨x, hx, h⟩ := hy
    exact ⟨x, hx, h ▸ hK⟩
  | some p =>
    obtain ⟨j, want⟩ := p
    simp only [hg] at hy ⊢
    unfold Gd at *
    cases hb : xO (G i) (Bw ops j) want with
    | true =>
      simp only [hb] at hy ⊢
      rw [mv] at hy ⊢
      obtain ⟨x, hx, h⟩ := hy
      exact ⟨x, hx, h ▸ hK⟩
    | false =>
      simp only [hb] at hy ⊢
      rwa [hy]
 rcases Nat.le_total k i with hki | hki
 .by_cases hx : ∃ h, k <= h /\ h < i /\ pP h an.1 = true
  .obtain ⟨h, h1, h2, h3, h4⟩ := RK hx
   have e : W h = W k := r.still' h1 (by omega) h4
   have p := st.pair h i h2 hi
   unfold Jq at p
   simp only [aeH, acV, afA] at p
   rcases p with p | p
   .have := hbi h (by omega) p
    have := (hS h (by omega) h3).1 this
    omega
   .have p2 := p.2
    rw [h3, hl] at p2
    simp only [aeH] at p2
    cases hmv : G5 (O i) with
    | true => exact moved hmv
    | false =>
      rcases p2 with p2 | p2
      .rw [hmv] at p2; cases p2
      .refine same ?_ hmv
       have c := r.chk h i h2 hi p2
       unfold Ui Lf NO at c
       simp only [h3] at c
       rw [<- e]; exact c
  .have e : W i = W k := r.still' hki (by omega) (fun h a b => by
    cases hm : pP h an.1
    .rfl
    .exact absurd ⟨h, a, b, hm⟩ hx)
   have hy := r.yld i hi
   rw [r.light i hi hl, e] at hy
   exact hy
 .by_cases hx : ∃ h, i <= h /\ h < k /\ pP h an.1 = true
  .obtain ⟨h, h1, h2, h3, h4⟩ := PS hx
   have hne : h ≠ i := fun e => by rw [e, hl] at h3; cases h3
   have e : W k = W (h + 1) := r.still' (by omega) hk (fun h' a b => h4 h' (by omega) b)
   have p := st.pair i h (by omega) (by omega)
   unfold Jq at p
   simp only [aeH, acV, afA] at p
   rcases p with p | p
   .exact absurd (hdown i h (by omega) (by omega) ((hS h (by omega) h3).2 h2) p) hni
   .have p2 := p.2
    rw [h3, hl] at p2
    simp only [aeH] at p2
    cases hmv : G5 (O i) with
    | true => exact moved hmv
    | false =>
      rcases p2 with p2 | p2
      .rw [hmv] at p2; cases p2
      .refine same ?_ hmv
       have c := r.chk i h (by omega) (by omega) p2
       unfold Ui Lf NO at c
       simp only [hl] at c
       rw [e]; exact c
  .have e : W k = W i := r.still' hki hk (fun h a b => by
    cases hm : pP h an.1
    .rfl
    .exact absurd ⟨h, a, b, hm⟩ hx)
   have hy := r.yld i hi
   rw [r.light i hi hl, <- e] at hy
   exact hy
def mW (listed : Array Bool) (i : Nat) : Prop := listed.getD i false = true
theorem XH {N n : Nat} (hn : n = ops.size) (hd : LG N ops) (hca : L3 P ops) {b : Array Nat} (r : VS P ops an g0 w0 n O G W V) (st : OZ ops an O b)
 {Q : Act -> ahA -> Prop} (hQ : ∀ a, JL N (G n) a -> Q a (W n)) :
 ∀ (fuel : Nat) (listed : Array Bool) (g : Env) (a : Act) (k : Nat), listed.size = n -> JL N g a -> k <= n →
   (∀ j, j < n -> mW listed j -> ∀ e ∈ (O j).after, Region.binds .any e = true -> mW listed e.on) →
   Hi n O V g0 (mW listed) g -> (∀ h, h < n -> pP h an.1 = true -> (mW listed h ↔ h < k)) →
   ((List.range n).filter fun i => !listed.getD i false).length <= fuel →
   Pc P ops Q fuel listed a (W k) := by
 subst hn
 have ready_iff : ∀ (listed : Array Bool), listed.size = ops.size -> ∀ i, i ∈ Region.ready .any ops listed ↔ (i < ops.size /\ ¬ mW listed i /\ ∀ e ∈ (O i).after, Region.binds .any e = true -> mW listed e.on) := by
  intro listed hsz i
  unfold Region.ready mW
  rw [List.mem_filter, adY]
  constructor
  .rintro ⟨h1, h2⟩
   rw [r.op i h1] at h2
   simp only [acV, aeA, adH] at h2
   refine ⟨h1, ?_, fun e he hb => ?_⟩
   .have := h2.1
    rw [acW] at this ⊢
    rw [adD (by omega)] at this ⊢
    simpa using this
   .have := aeP.1 h2.2 e he
    simpa [hb] using this
  .rintro ⟨h1, h2, h3⟩
   refine ⟨h1, ?_⟩
   rw [r.op i h1]
   simp only [acV, aeA, adH]
   refine ⟨?_, aeP.2 fun e he => ?_⟩
   .rw [acW] at h2 ⊢
    rw [adD (by omega)] at h2 ⊢
    simpa using h2
   .by_cases hb : Region.binds .any e = true
    .simp [hb, h3 e he hb]
    .simp [hb]
 have none_ready : ∀ (listed : Array Bool), listed.size = ops.size -> Region.ready .any ops listed = [] -> ∀ i, i < ops.size -> mW listed i := by
  intro listed hsz hr i
  induction i using Nat.strongRecOn with
  | _ i ih =>
    intro hi
    refine Classical.byContradiction fun hl => ?_
    have : i ∈ Region.ready .any ops listed := (ready_iff listed hsz i).2 ⟨hi, hl, fun e he hb => by
     have := st.back i hi e he hb
     exact ih e.on this (by omega)⟩
    rw [hr] at this; cases this
 have all_done : ∀ (listed : Array Bool) (g : Env) (a : Act) (k : Nat), JL N g a -> k <= ops.size -> Hi ops.size O V g0 (mW listed) g →
     (∀ h, h < ops.size -> pP h an.1 = true -> (mW listed h ↔ h < k)) -> (∀ i, i < ops.size -> mW listed i) -> Q a (W k) := by
  intro listed g a k hr hk he hh hall
  have e : W ops.size = W k := r.still' hk (acY _) (fun h h1 h2 => by
   cases hm : pP h an.1
   .rfl
   .have := (hh h h2 hm).1 (hall h h2); omega)
  have eg : g = G ops.size := funext fun s => he.agree (r.envFor ops.size (acY _)) s (fun j hj _ => ⟨fun _ => hj, fun _ => hall j hj⟩)
  rw [<- e]; exact hQ a (eg ▸ hr)
 intro fuel
 induction fuel with
 | zero =>
   intro listed g a k hsz hr hk hdep henv hh hc
   have hall : ∀ i, i < ops.size -> mW listed i := by
    intro i hi
    have hnil : ((List.range ops.size).filter fun i => !listed.getD i false) = [] := adK.1 (by omega)
    have := List.filter_eq_nil_iff.1 hnil i (adY.2 hi)
    unfold mW; simpa using this
   refine ⟨?_, all_done listed g a k hr hk henv hh hall⟩
   rw [List.eq_nil_iff_forall_not_mem]
   intro i hi
   have := (ready_iff listed hsz i).1 hi
   exact this.2.1 (hall i this.1)
 | succ fuel ih =>
   intro listed g a k hsz hr hk hdep henv hh hc
   refine ⟨fun hn => all_done listed g a k hr hk henv hh (none_ready listed hsz hn), fun i hi => ?_⟩
   obtain ⟨h1, h2, h3⟩ := (ready_iff listed hsz i).1 hi
   have hdown : ∀ k j, j < ops.size -> k < ops.size -> mW listed k -> VU b j k = true -> mW listed j := by
    intro k
    induction k using Nat.strongRecOn with
    | _ k ihk =>
      intro j hj hk hl hb
      obtain ⟨e, he, hbi, h⟩ := st.closed j k hj hk hb
      have hle := hdep k hk hl e he hbi
      rcases h with h | h
      .exact h ▸ hle
      .have hlt := st.back k hk e he hbi
       exact ihk e.on hlt j hj (by omega) hle h
   have hbi : ∀ j, j < ops.size -> VU b j i = true -> mW listed j := by
    intro j hj hb
    obtain ⟨e, he, hbi, h⟩ := st.closed j i hj h1 hb
    have hle := h3 e he hbi
    rcases h with h | h
    .exact h ▸ hle
    .have hlt := st.back i h1 e he hbi
     exact hdown e.on j hj (by omega) hle h
   have hdown' : ∀ j k, j < ops.size -> k < ops.size -> mW listed k -> VU b j k = true -> mW listed j := fun j k => hdown k j
   have hlooks : ∀ s ∈ looks ops (O i), (G i) s = g s := fun s hs =>
    (r.envFor i (by omega)).agree henv s (fun j hj hd => by
      by_cases hji : j = i
      .subst hji
       exact ⟨fun h => absurd h (by omega), fun h => absurd h h2⟩
      .exact (st.order h1 hdown' hbi h2 (.inl hs) hj hji hd).symm)
   have hl' : ∀ j, mW (listed.setIfInBounds i true) j ↔ (mW listed j ∨ j = i) := by
    intro j
    unfold mW
    rw [acW, acW]
    by_cases hji : j = i
    .subst hji
     rw [adF (by omega)]
     simp
    .rw [adG (fun e => hji e.symm)]
     simp [hji]
   have next : ∀ k', k' <= ops.size -> (∀ h, h < ops.size -> pP h an.1 = true -> ((mW listed h ∨ h = i) ↔ h < k')) -> NM P ops g (O i) (W k) (V i) (W k') →
       Jz P ops i (Pc P ops Q fuel (listed.setIfInBounds i true)) a (W k) := by
    intro k' hk' hh' hy
    refine NZ (r.op i h1) (hca i _ (r.op i h1)) hd hr hy ?_
    refine ih _ (put g (O i).dst (V i)) _ k' (by simp [hsz]) (hr.put _ _ (hd i _ (r.op i h1))) hk' ?_ ?_ ?_ ?_
    .intro j hj hlj e he hb
     rw [hl'] at hlj ⊢
     rcases hlj with hlj | rfl
     .exact .inl (hdep j hj hlj e he hb)
     .exact .inl (h3 e he hb)
    .have := henv.step i h1 (fun s hs j hj hji hd hlj => (st.order h1 hdown' hbi h2 (.inr hs) hj hji hd).1 hlj)
     intro s
     rcases this s with ⟨j, j1, j2, j3, j4, j5⟩ | ⟨j1, j2⟩
     .exact .inl ⟨j, j1, (hl' j).2 j2, j3, fun k k1 k2 k3 => j4 k k1 ((hl' k).1 k2) k3, j5⟩
     .exact .inr ⟨fun j a b => j1 j a ((hl' j).1 b), j2⟩
    .intro h a b; rw [hl']; exact hh' h a b
    .have hin : i ∈ (List.range ops.size).filter fun i => !listed.getD i false :=
      List.mem_filter.2 ⟨adY.2 h1, by unfold mW at h2; simpa using h2⟩
     have e1 : ((List.range ops.size).filter fun j => !(listed.setIfInBounds i true).getD j false) = ((List.range ops.size).filter fun j => !listed.getD j false).filter fun j => j != i := by
      rw [List.filter_filter]
      refine List.filter_congr fun j _ => ?_
      have := hl' j
      unfold mW at this
      by_cases hji : j = i
      .have hh : (listed.setIfInBounds i true).getD j false = true := this.2 (.inr hji)
       rw [hh, hji]; simp
      .have hne : (j != i) = true := by simpa using hji
       rw [hne, Bool.true_and]
       cases ha : listed.getD j false with
       | true => rw [this.2 (.inl ha)]
       | false =>
         cases hb : (listed.setIfInBounds i true).getD j false with
         | false => rfl
         | true => rcases this.1 hb with h | h
                   .rw [ha] at h; cases h
                   .exact absurd h hji
     have hnd : ((List.range ops.size).filter fun j => !listed.getD j false).Nodup := List.nodup_range.filter _
     rw [e1, <- List.Nodup.erase_eq_filter hnd, List.length_erase_of_mem hin]
     omega
   cases hm : pP i an.1 with
   | true =>
     have hS : ∀ h, h < ops.size -> pP h an.1 = true -> (mW listed h ↔ h < i) := by
      intro h hh1 hhm
      rcases Nat.lt_trichotomy h i with hlt | heq | hgt
      .refine ⟨fun _ => hlt, fun _ => ?_⟩
       have p := st.pair h i hlt h1
       unfold Jq at p
       rw [hhm, hm] at p
       simp only [aeH, acV, acK, and_false, or_false] at p
       exact hbi h hh1 p
      .subst heq; exact ⟨fun hh => absurd hh h2, fun hh => absurd hh (by omega)⟩
      .refine ⟨fun hl => ?_, fun hh => absurd hh (by omega)⟩
       have p := st.pair i h hgt hh1
       unfold Jq at p
       rw [hhm, hm] at p
       simp only [aeH, acV, acK, and_false, or_false] at p
       exact absurd (hdown h i h1 hh1 hl p) h2
     have eW : W k = W i := by
      rcases Nat.le_total k i with hki | hki
      .exact (r.still' hki (by omega) (fun h a b => by
        cases hx : pP h an.1
        .rfl
        .have := (hh h (by omega) hx).1 ((hS h (by omega) hx).2 b); omega)).symm
      .exact r.still' hki hk (fun h a b => by
        cases hx : pP h an.1
        .rfl
        .have := (hS h (by omega) hx).1 ((hh h (by omega) hx).2 b); omega)
     refine next (i + 1) (by omega) (fun h a b => ?_) ?_
     .rw [hS h a b]; omega
     .rw [eW]
      intro K hK
      exact Mz (ops := ops) (st.sel i h1) hlooks (r.yld i h1 K hK)
   | false =>
     refine next k hk (fun h a b => ?_) ?_
     .rw [<- hh h a b]
      constructor
      .rintro (h' | rfl)
       .exact h'
       .rw [hm] at b; cases b
      .exact .inl
     .intro K hK
      exact Mz (ops := ops) (st.sel i h1) hlooks (SO rfl r st h1 hk hdown' hbi h2 hh hm K hK)
end
abbrev PR (P : Program) : Machine -> Prop := Machine.fenced P Fence.wide
def Pw (P : Program) (f : FuncId) (ro : Option Nat) (c : Code) (Q : Exit -> Act -> ahA -> Prop) (a : Act) (w : ahA) : Prop :=
 ∀ (b : Frame) (k : List Item) (cs : List Frame), b.fn = f -> b.roundOf = ro -> ∃ e a' w', Q e a' w' /\ ArrivesIn (PR P) P (lone (b.atR a (.code c :: k)) cs w) b k cs e a' w'
section
variable {P : Program} {f : FuncId} {ro : Option Nat} {Q : Exit -> Act -> ahA -> Prop} {a : Act} {w : ahA}
theorem DB {m m1 : Machine} (h : step P m = .next m1) : StepsIn (PR P) P m m1 := .one (fenced_wide P m) h
theorem HJ {m m1 m2 : Machine} (h : step P m = .next m1) (h' : StepsIn (PR P) P m1 m2) : StepsIn (PR P) P m m2 := .head (fenced_wide P m) h h'
theorem VW (h : Q .normal a w) : Pw P f ro .skip Q a w := fun _ _ _ _ _ => ⟨.normal, a, w, h, DB Go.stepR_skip⟩
theorem VD {l : Nat} (h : Q .normal a w) : Pw P f ro (.label l) Q a w := fun _ _ _ _ _ => ⟨.normal, a, w, h, DB stepR_label⟩
theorem Se {id : Nat} (h : Q (.exit id) a w) : Pw P f ro (.exit id) Q a w :=
 fun _ k _ _ _ => ⟨.exit id, a, w, h, fun _ hk => DB (stepR_exit hk), fun _ hk => ⟨k, hk, .refl _⟩⟩
theorem Uv (h : Q .ret a w) : Pw P f ro .ret Q a w :=
 fun _ k _ _ _ => ⟨.ret, a, w, h, fun hn => ⟨_, DB (stepR_ret hn)⟩, fun _ => ⟨k, .refl _⟩⟩
theorem XR {x y : Code} (h : Pw P f ro x (Exit.then (Pw P f ro y Q) Q) a w) : Pw P f ro (.seq x y) Q a w := by
 intro b k cs hb hro
 obtain ⟨e, a1, w1, hq, har⟩ := h b (.code y :: k) cs hb hro
 cases e with
 | normal =>
   obtain ⟨e2, a2, w2, hq2, har2⟩ := hq b k cs hb hro
   exact ⟨e2, a2, w2, hq2, .of_steps (HJ stepR_seq har) har2⟩
 | _ => exact ⟨_, a1, w1, hq, .of_steps (DB stepR_seq) (.pass (x := .code y) rfl (fun _ _ => .inl (by simp)) har)⟩
theorem Wv {c : Operand} {x y : Code} {t : Bool} (hc : a.eval c = .bool t) (h : Pw P f ro (if t then x else y) Q a w) : Pw P f ro (.cond c x y) Q a w :=
 fun b k cs hb hro => let ⟨e, a1, w1, q, r⟩ := h b k cs hb hro; ⟨e, a1, w1, q, .of_steps (DB (stepR_cond hc)) r⟩
theorem VH {id : Nat} {c : Code} (h : Pw P f ro c (Exit.inBlock id Q) a w) : Pw P f ro (.block id c) Q a w := by
 intro b k cs hb hro
 obtain ⟨e, a1, w1, hq, har⟩ := h b (.inBlock id :: k) cs hb hro
 cases e with
 | normal => exact ⟨.normal, a1, w1, hq, HJ stepR_block (StepsIn.trans har (DB stepR_inBlock))⟩
 | exit i =>
   by_cases hid : i = id
   .simp only [Exit.inBlock, hid, if_true] at hq
    exact ⟨.normal, a1, w1, hq, HJ stepR_block (har.1 k (by simp [exitTo, hid]))⟩
   .simp only [Exit.inBlock, hid, if_false] at hq
    have this : (id == i) = false := by simp; exact fun h => hid h.symm
    have hx : exitTo i (.inBlock id :: k) = exitTo i k := by simp [exitTo, this]
    exact ⟨.exit i, a1, w1, hq, fun k' hk => HJ stepR_block (har.1 k' (by rw [hx]; exact hk)),
     fun hr' hk => let ⟨k1, h1, h2⟩ := har.2 hr' (by rw [hx]; exact hk); ⟨k1, h1, HJ stepR_block h2⟩⟩
 | goto l =>
   have hx : gotoIn l (.inBlock id :: k) = gotoIn l k := by simp [gotoIn]
   exact ⟨_, a1, w1, hq, fun k' hk => HJ stepR_block (har.1 k' (by rw [hx]; exact hk)),
    fun hr' hk => let ⟨k1, h1, h2⟩ := har.2 hr' (by rw [hx]; exact hk); ⟨k1, h1, HJ stepR_block h2⟩⟩
 | ret => exact ⟨_, a1, w1, hq, .of_steps (DB stepR_block) har⟩
 | panic ch => exact ⟨_, a1, w1, hq, .of_steps (DB stepR_block) har⟩
 | outgrown => exact ⟨_, a1, w1, hq, .of_steps (DB stepR_block) har⟩
theorem zR {b : Frame} {k : List Item} {cs : List Frame} {c : Code} :
 step P (lone (b.atR a (.code (.scope c) :: k)) cs w) = .next (lone (b.atR a (.code c :: .inScope c :: k)) cs w) :=
 step_lone_go (by simp [stepG, stepG.exec, Frame.atR])
theorem P6 {b : Frame} {k : List Item} {cs : List Frame} {c : Code} :
 step P (lone (b.atR a (.inScope c :: k)) cs w) = .next (lone (b.atR a k) cs w) :=
 step_lone_go (by simp [stepG, stepG.exec, Frame.atR])
theorem Vn {c : Code} (h : Pw P f ro c (Exit.noGoto Q) a w) : Pw P f ro (.scope c) Q a w := by
 intro b k cs hb hro
 obtain ⟨e, a1, w1, hq, har⟩ := h b (.inScope c :: k) cs hb hro
 cases e with
 | normal => exact ⟨.normal, a1, w1, hq, HJ zR (StepsIn.trans har (DB P6))⟩
 | exit id =>
   have hx : exitTo id (.inScope c :: k) = exitTo id k := by simp [exitTo]
   exact ⟨.exit id, a1, w1, hq, fun k' hk => HJ zR (har.1 k' (by rw [hx]; exact hk)),
    fun hr' hk => let ⟨k1, h1, h2⟩ := har.2 hr' (by rw [hx]; exact hk); ⟨k1, h1, HJ zR h2⟩⟩
 | goto l => exact hq.elim
 | ret => exact ⟨_, a1, w1, hq, .of_steps (DB zR) har⟩
 | panic ch => exact ⟨_, a1, w1, hq, .of_steps (DB zR) har⟩
 | outgrown => exact ⟨_, a1, w1, hq, .of_steps (DB zR) har⟩
theorem Wf {c : Code} (I : Act -> ahA -> Prop) (μ : Act -> ahA -> Nat) (h0 : I a w)
 (round : ∀ a w, I a w -> Pw P f ro c (Exit.then (fun a' w' => I a' w' /\ μ a' w' < μ a w) Q) a w) : Pw P f ro (.loop c) Q a w := by
 intro b k cs hb hro
 have key : ∀ n a w, μ a w = n -> I a w →
     ∃ e a' w', Q e a' w' /\ ArrivesIn (PR P) P (lone (b.atR a (.code c :: .inLoop c :: k)) cs w) b k cs e a' w' := by
  intro n
  induction n using Nat.strongRecOn with
  | _ n ih =>
    intro a w hn hI
    obtain ⟨e, a1, w1, hq, har⟩ := round a w hI b (.inLoop c :: k) cs hb hro
    cases e with
    | normal =>
      obtain ⟨hI1, hlt⟩ := hq
      obtain ⟨e2, a2, w2, hq2, har2⟩ := ih (μ a1 w1) (hn ▸ hlt) a1 w1 rfl hI1
      exact ⟨e2, a2, w2, hq2, .of_steps (StepsIn.trans har (DB stepR_inLoop)) har2⟩
    | _ => exact ⟨_, a1, w1, hq, .pass (x := .inLoop c) rfl (fun _ _ => .inl (by simp)) har⟩
 obtain ⟨e, a', w', hq, har⟩ := key _ a w rfl h0
 exact ⟨e, a', w', hq, .of_steps (DB stepR_loop) har⟩
theorem Uw {ops : Array Oper} {L : List Nat} (h : BB P ops (Q .normal) L a w) (b : Frame) (k : List Item) (cs : List Frame) (hro : b.roundOf = ro) :
 ∃ e a' w', Q e a' w' /\ ArrivesIn (PR P) P (lone (b.atR a (.inRegion ops L :: k)) cs w) b k cs e a' w' := by
 obtain ⟨e, a', w', ⟨rfl, hq⟩, hs⟩ := wp_opsIn (F := OX ro) (n := 0) L a w (VA ro L a w h) b k cs hro trivial (fun _ h => by simp [OX, Fence.wide] at h)
 exact ⟨.normal, a', w', hq, hs⟩
theorem TE {id : Nat} {ops : Array Oper} (h : BB P ops (Q .normal) (List.range ops.size) a w) : Pw P f ro (.region id ops false) Q a w := by
 intro b k cs hb hro
 obtain ⟨e, a1, w1, q, r⟩ := Uw h b k cs hro
 exact ⟨e, a1, w1, q, .of_steps (DB stepR_region) r⟩
theorem Ox (hm : P.follows .mixedOrders = true) {id : Nat} {ops : Array Oper}
 (h : BB P ops (Q .normal) (Region.schedule true ops (w.tape w.drawn (.order f id))) a { w with drawn := w.drawn + 1 }) : Pw P f ro (.region id ops true) Q a w := by
 intro b k cs hb hro
 obtain ⟨e, a1, w1, q, r⟩ := Uw h b k cs hro
 refine ⟨e, a1, w1, q, .of_steps (DB ?_) r⟩
 have := @stepR_region_draw P b a k cs w ops id
 rw [hm, hb] at this
 exact this
def CT (v : ahB) (w : ahA) (K : ahA -> Prop) : Prop :=
 match v with
 | .pointer (some a) => w.heap[a.block]? = some (.deferred (some [])) /\ K (w.putObj a.block (.deferred none))
 | _ => K w
def Vo (P : Program) (fn : Func) (R : ahB -> ahA -> Prop) : Exit -> Act -> ahA -> Prop
 | .normal, a, w | .ret, a, w => ∃ m, a.defers = Sw m /\ CT m w fun w' => ∃ v, (results fn a.tmps).run P w' = .ok v w' /\ R v w'
 | _, _, _ => False
theorem SD {fn : Func} {R : ahB -> ahA -> Prop} {fr : Frame} {cs : List Frame} (hm : fr.mode = .returning) (hf : P.funcs[fr.fn]? = some fn) (hk : fr.kind = .normal) {m : ahB} (hd : fr.defers = Sw m)
 (h : CT m w fun w' => ∃ v, (results fn fr.tmps).run P w' = .ok v w' /\ R v w') :
 ∃ v w' fr', R v w' /\ Steps P (lone fr cs w) (lone fr' cs w') /\ fr'.fn = fr.fn /\ fr'.leaving P w' (.returned v) := by
 have nil : fr.defers = [] -> (∃ v, (results fn fr.tmps).run P w = .ok v w /\ R v w) →
     ∃ v w' fr', R v w' /\ Steps P (lone fr cs w) (lone fr' cs w') /\ fr'.fn = fr.fn /\ fr'.leaving P w' (.returned v) := by
  rintro hd ⟨v, hv, hR⟩
  exact ⟨v, w, fr, hR, .refl _ _, rfl, hm, hd, hk, fn, hf, hv⟩
 cases m with
 | pointer p =>
   cases p with
   | none => exact nil hd h
   | some a =>
     obtain ⟨h1, v, hv, hR⟩ := h
     have hs := step_collected (P := P) (fr := fr) (cs := cs) (w := w) (d := { target := .collected a.block, args := #[] }) (r := a.block) (ds := []) (calls := [])
      (by rw [hm]; simp) hd rfl (run_takeDeferred h1)
     exact ⟨v, _, { fr with defers := [] }, hR, .head hs (.refl _ _), rfl, hm, rfl, hk, fn, hf, hv⟩
 | _ => exact nil hd h
theorem Ri {fn : Func} {c : Code} {args : Array ahB} {w : ahA} {R : ahB -> ahA -> Prop}
 (hf : P.funcs[f]? = some fn) (hb : fn.body = some c)
 (h : Pw P f none c (Vo P fn R) { tmps := args ++ Array.replicate (fn.ntmps - args.size) undef, defers := [] } w) : Calls P f args w fun e w' => ∃ v, e = .returned v /\ R v w' := by
 intro cs
 let b : Frame := { (default : Frame) with fn := f, kind := .normal, roundOf := none }
 have henter : Frame.enter P f args .normal = b.atR { tmps := args ++ Array.replicate (fn.ntmps - args.size) undef, defers := [] } [.code c] := by
  simp [Frame.enter, Frame.atR, hf, hb, b]
 obtain ⟨e, a', w', hq, har⟩ := h b [] cs rfl rfl
 rw [<- henter] at har
 cases e with
 | normal =>
   obtain ⟨m, hd, hq⟩ := hq
   obtain ⟨v, w2, fr, hR, hs, hfn, hl⟩ := SD (P := P) (cs := cs) (fr := { b.atR a' [] with mode := .returning }) rfl hf rfl hd hq
   exact ⟨.returned v, w2, fr, ⟨v, rfl, hR⟩, (StepsIn.steps har).trans (.head (stepR_end rfl) hs), hfn, hl⟩
 | ret =>
   obtain ⟨m, hd, hq⟩ := hq
   obtain ⟨todo, hs0⟩ := har.1 rfl
   obtain ⟨v, w2, fr, hR, hs, hfn, hl⟩ := SD (P := P) (cs := cs) (fr := { b.atR a' todo with mode := .returning }) rfl hf rfl hd hq
   exact ⟨.returned v, w2, fr, ⟨v, rfl, hR⟩, (StepsIn.steps hs0).trans hs, hfn, hl⟩
 | panic chain => exact hq.elim
 | exit id => exact hq.elim
 | goto l => exact hq.elim
 | outgrown => exact hq.elim
def YO (P : Program) (f : FuncId) (Q : Exit -> Act -> ahA -> Prop) (a : Act) (w : ahA) : Option Code -> Prop
 | none => Q .normal a w
 | some c => Pw P f none c Q a w
theorem U8 {gf : Operand} {ps : Array Tmp} {acH bd : Code} {d : Deferred} {g : FuncId} {args : Array ahB} {w1 : ahA} {l : Nat} {mark : List Deferred} {w2 w3 : ahA} {v : ahB}
 (he : (Instr.enterLoop f a.tmps ps acH bd none).run P w = .ok (l, mark) w1)
 (hres : (resolve a.eval (rangeCall gf l) 0).run P w1 = .ok d w1) (hinv : (invoke d.target d.args).run P w1 = .ok (.enter g args) w2)
 (hcall : Ret P g args w2 v w3)
 {jump : Option Code} {w4 : ahA} (hend : (Instr.endLoop l).run P w3 = .ok jump w4)
 (hj : YO P f Q { a with defers := mark ++ a.defers } w4 jump) :
 Pw P f none (.rangeFunc gf ps acH bd) Q a w := by
 intro b k cs hb hro
 rw [<- hb, <- hro] at he
 have henter := stepR_rangeFunc (P := P) (b := b) (a := a) (k := k) (cs := cs) (w := w) he hres hinv
 obtain ⟨e, w3', fr, ⟨rfl, rfl⟩, hsteps, hfn, hleave⟩ := hcall (b.atR { a with defers := mark ++ a.defers } (.inRangeFunc l :: k) :: cs)
 have sback : StepsIn (PR P) P (lone (b.atR a (.code (.rangeFunc gf ps acH bd) :: k)) cs w) (lone (b.atR { a with defers := mark ++ a.defers } ((jump.map Item.code).toList ++ k)) cs w4) := by
  refine HJ henter (StepsIn.trans (stepsIn_wide.2 hsteps) (HJ (m1 := lone (b.atR { a with defers := mark ++ a.defers } (.endRangeFunc l :: k)) cs w3') ?_ (DB (stepR_endRangeFunc hend))))
  rw [<- finish_atR_inRangeFunc l v]; exact step_leave_returned hleave
 cases jump with
 | none => exact ⟨.normal, _, w4, hj, sback⟩
 | some c =>
   obtain ⟨e', a'', w5, hq, harr⟩ := hj b k cs hb hro
   exact ⟨e', a'', w5, hq, .of_steps sback harr⟩
def TZ (P : Program) (l : Nat) (R : ahB -> ahA -> Prop) : Exit -> Act -> ahA -> Prop
 | .normal, _, w => ∃ v w', (Instr.endRound l none).run P w = .ok v w' /\ R v w'
 | .ret, _, w => ∃ v w', (Instr.endRound l (some .ret)).run P w = .ok v w' /\ R v w'
 | .exit id, _, w => ∃ v w', (Instr.endRound l (some (.exit id))).run P w = .ok v w' /\ R v w'
 | _, _, _ => False
theorem Q3 {l : Nat} {tmps : Array ahB} {acH bd : Code} {R : ahB -> ahA -> Prop}
 (h : Pw P f (some l) acH (Exit.then (fun a1 w1 => ∃ w2, (Instr.beginRound l).run P w1 = .ok () w2 /\ Pw P f (some l) bd (TZ P l R) a1 w2) (fun _ _ _ => False))
   { tmps := tmps, defers := [] } w) :
 RoundIn Fence.wide 0 P l f tmps acH bd w fun e w' => ∃ v, e = .returned v /\ R v w' := by
 refine ⟨trivial, fun c cs _ => ?_⟩
 let b : Frame := { (default : Frame) with fn := f, kind := .normal, roundOf := some l }
 have hb0 : Frame.round l f tmps acH bd .normal = b.atR { tmps := tmps, defers := [] } [.code acH, .beginRound, .code bd] := by
  simp [Frame.round, Frame.atR, b]
 obtain ⟨e, a1, w1, hq, harr⟩ := h b [.beginRound, .code bd] (c :: cs) rfl rfl
 rw [<- hb0] at harr
 cases e with
 | normal =>
   obtain ⟨w2, hbr, hbody⟩ := hq
   have s1 := DB (stepR_beginRound (P := P) (b := b) (a := a1) (k := [.code bd]) (cs := c :: cs) rfl hbr)
   obtain ⟨e2, a2, w3, hq2, harr2⟩ := hbody b [] (c :: cs) rfl rfl
   cases e2 with
   | normal =>
     obtain ⟨v, w4, hend, hR⟩ := hq2
     exact ⟨.returned v, w4, ⟨v, rfl, hR⟩, (StepsIn.trans harr s1).trans (StepsIn.trans harr2 (DB (stepR_round_end rfl rfl hend)))⟩
   | ret =>
     obtain ⟨v, w4, hend, hR⟩ := hq2
     obtain ⟨k1, hs⟩ := harr2.2 rfl
     exact ⟨.returned v, w4, ⟨v, rfl, hR⟩, (StepsIn.trans harr s1).trans (StepsIn.trans hs (DB (stepR_round_ret rfl rfl hend)))⟩
   | exit id =>
     obtain ⟨v, w4, hend, hR⟩ := hq2
     obtain ⟨k1, hk, hs⟩ := harr2.2 rfl rfl
     exact ⟨.returned v, w4, ⟨v, rfl, hR⟩, (StepsIn.trans harr s1).trans (StepsIn.trans hs (DB (stepR_round_exit rfl rfl hk hend)))⟩
   | goto t => exact hq2.elim
   | panic chain => exact hq2.elim
   | outgrown => exact hq2.elim
 | exit id => exact hq.elim
 | goto t => exact hq.elim
 | ret => exact hq.elim
 | panic chain => exact hq.elim
 | outgrown => exact hq.elim
end
def RA (ops : Array Oper) : Nat -> Array Bool -> List Nat -> Prop
 | 0, _, L => L = []
 | _ + 1, listed, [] => Region.ready .any ops listed = []
 | n + 1, listed, i :: L => i ∈ Region.ready .any ops listed /\ RA ops n (listed.setIfInBounds i true) L
section
variable {P : Program} {ops : Array Oper} {Q : Act -> ahA -> Prop}
theorem Yq : ∀ (fuel t : Nat) (listed : Array Bool), RA ops fuel listed (Region.linearise.go .any ops fuel t listed []) := by
 intro fuel
 induction fuel with
 | zero => intro t listed; simp [Region.linearise.go, RA]
 | succ fuel ih =>
   intro t listed
   simp only [Region.linearise.go]
   change RA ops (fuel + 1) listed (match (Region.ready .any ops listed)[t % (Region.ready .any ops listed).length]? with
    | some i => Region.linearise.go .any ops fuel (t / (Region.ready .any ops listed).length) (listed.setIfInBounds i true) [i]
    | none => [].reverse)
   cases hi : (Region.ready .any ops listed)[t % (Region.ready .any ops listed).length]? with
   | none =>
     have : Region.ready .any ops listed = [] := by
      cases hr : Region.ready .any ops listed with
      | nil => rfl
      | cons x xs =>
        rw [hr] at hi
        have hlt : t % (x :: xs).length < (x :: xs).length := afX _ (by simp)
        rw [acS hlt] at hi
        cases hi
     simpa [RA] using this
   | some i =>
     simp only []
     rw [linearise_go_acc]
     exact ⟨agT hi, ih _ _⟩
theorem LO : ∀ (fuel : Nat) (listed : Array Bool) (L : List Nat) (a : Act) (w : ahA), Pc P ops Q fuel listed a w -> RA ops fuel listed L -> BB P ops Q L a w := by
 intro fuel
 induction fuel with
 | zero => intro listed L a w h hL; obtain rfl : L = [] := hL; exact h.2
 | succ fuel ih =>
   intro listed L a w h hL
   cases L with
   | nil => exact h.1 hL
   | cons i L =>
     exact Tf (fun a w hh => ih _ _ a w hh hL.2) (h.2 i hL.1)
end
structure Qm (π : List Nat) (ops : Array Oper) : Prop where
 len : π.length = ops.size
 to : ∀ i, i < ops.size -> uW π i < ops.size /\ π[uW π i]? = some i
 back : ∀ k, k < ops.size -> ∃ i, π[k]? = some i /\ uW π i = k /\ i < ops.size
 after : ∀ (i : Nat) (o : Oper), ops[i]? = some o -> ∀ e ∈ o.after, e.on < ops.size
 guard : ∀ (i : Nat) (o : Oper) (j : Nat) (b : Bool), ops[i]? = some o -> o.guard = some (j, b) -> j < ops.size
theorem Ye {π : List Nat} {ops : Array Oper} (h : TM π ops = true) : Qm π ops := by
 unfold TM at h
 simp only [acV] at h
 obtain ⟨⟨⟨h1, h2⟩, h3⟩, h4⟩ := h
 have h1 := adO h1
 have at4 : ∀ (i : Nat) (o : Oper), ops[i]? = some o -> (o.after.all fun e => Nat.blt e.on ops.size) = true /\ (match o.guard with | some (j, _) => Nat.blt j ops.size | none => true) = true := by
  intro i o ho
  have hi : i < ops.size := by
   rcases aeG i ops.size with h | h
   .exact h
   .rw [adR h] at ho; cases ho
  have := aeD.1 h4 i (adY.2 hi)
  rw [ho] at this
  simp only [acV] at this
  refine ⟨this.1, ?_⟩
  have h := this.2
  revert h
  cases o.guard <;> exact id
 refine ⟨h1, fun i hi => ?_, fun k hk => ?_, fun i o ho e he => ?_, fun i o j b ho hg => ?_⟩
 .have := aeD.1 h3 i (adY.2 hi)
  cases hp : π[uW π i]? with
  | none => rw [hp] at this; cases this
  | some j =>
    rw [hp] at this
    obtain rfl := adO this
    refine ⟨?_, rfl⟩
    rcases aeG (uW π j) π.length with h | h
    .omega
    .rw [adZ h] at hp; cases hp
 .have := aeD.1 h2 k (adY.2 hk)
  cases hp : π[k]? with
  | none => rw [hp] at this; cases this
  | some i =>
    rw [hp] at this
    simp only [acV] at this
    exact ⟨i, rfl, adO this.1, (afP (x := i) (y := ops.size)) ▸ this.2⟩
 .have := aeP.1 (at4 i o ho).1 e he
  exact (afP (x := e.on) (y := ops.size)) ▸ this
 .have := (at4 i o ho).2
  rw [hg] at this
  exact (afP (x := j) (y := ops.size)) ▸ this
theorem QX {π : List Nat} {es : List (Nat × Nat)} {l : List Oper} : ∀ (r : List Nat), (∀ i ∈ r, i < l.length) -> (MM π es l r).length = r.length /\ ∀ k i : Nat, r[k]? = some i -> (MM π es l r)[k]? = (l[i]?).map (Ft π es i) := by
 intro r
 induction r with
 | nil => intro _; exact ⟨rfl, fun k i h => by simp at h⟩
 | cons j r ih =>
   intro h
   obtain ⟨h1, h2⟩ := ih fun i hi => h i (adC _ hi)
   have hj : j < l.length := h j (by simp)
   simp only [MM, acS hj]
   refine ⟨by simp [h1], fun k i hk => ?_⟩
   cases k with
   | zero => simp at hk; subst hk; simp [acS hj]
   | succ k => simp at hk ⊢; exact h2 k i hk
section
variable {P : Program} {ops : Array Oper} {Q : Act -> ahA -> Prop} {π : List Nat} {es : List (Nat × Nat)}
theorem Qm.mem (p : Qm π ops) : ∀ i ∈ π, i < ops.toList.length := by
 intro i hi
 obtain ⟨k, hk, e⟩ := agF hi
 obtain ⟨j, h1, _, h2⟩ := p.back k (by rw [<- p.len]; exact hk)
 rw [acS hk] at h1
 cases h1
 rw [<- e]; simpa using h2
theorem Qm.size (p : Qm π ops) : (pM π es ops).size = ops.size := by
 unfold pM
 rw [afI, (QX (es := es) (π := π) π p.mem).1, p.len]
theorem Qm.get (p : Qm π ops) {i : Nat} (hi : i < ops.size) : (pM π es ops)[uW π i]? = (ops[i]?).map (Ft π es i) := by
 unfold pM
 have := (QX (es := es) (π := π) π p.mem).2 (uW π i) i (p.to i hi).2
 rw [afL] at this
 simpa using this
theorem TK {i : Nat} {o : Oper} {a : Act} {w : ahA} {K : Act -> ahA -> Prop} : TA P (Ft π es i o) a w K ↔ TA P o a w K := by
 unfold TA
 have h1 : execOp a.eval (Ft π es i o) = execOp a.eval o := by
  obtain ⟨d, op, ty, ps, af, g⟩ := o
  cases op <;> rfl
 have h2 : QN (Ft π es i o) = QN o := rfl
 rw [h1, h2]
 generalize (execOp a.eval o).run P w = r
 cases r with
 | ok n w => cases n <;> exact Iff.rfl
 | halt x w => exact Iff.rfl
theorem Sh (p : Qm π ops) {i : Nat} {o : Oper} (ho : ops[i]? = some o) (tmps : Array ahB) :
 Region.wanted (Ft π es i o) (yielded (pM π es ops) tmps) = Region.wanted o (yielded ops tmps) := by
 unfold Region.wanted Ft
 simp only
 cases hg : o.guard with
 | none => rfl
 | some q =>
   obtain ⟨j, b⟩ := q
   simp only
   have hj := p.guard i o j b ho hg
   have : (pM π es ops)[uW π j]?.bind (·.dst) = (ops[j]?).bind (·.dst) := by
    rw [p.get hj]
    cases ops[j]? <;> rfl
   unfold yielded
   rw [this]
theorem Tl (p : Qm π ops) : ∀ (L : List Nat), (∀ i ∈ L, i < ops.size) -> ∀ (a : Act) (w : ahA), BB P (pM π es ops) Q (L.map (uW π)) a w -> BB P ops Q L a w := by
 intro L
 induction L with
 | nil => intro _ a w h; exact h
 | cons i L ih =>
   intro hL a w h
   rw [acZ] at h
   simp only [BB] at h ⊢
   have hi := hL i (by simp)
   have ih := ih fun i hi => hL i (adC _ hi)
   unfold Jz at h ⊢
   rw [p.get hi] at h
   rw [adD hi] at h ⊢
   simp only [aeA] at h
   rw [Sh p (adD hi)] at h
   simp only
   split
   .rename_i hw
    rw [if_pos hw, TK] at h
    exact Qo (fun a w => ih a w) h
   .rename_i hw
    rw [if_neg hw] at h
    exact ih _ _ h
theorem Kb {ops : Array Oper} {listed : Array Bool} (hsz : listed.size = ops.size) (i : Nat) :
 i ∈ Region.ready .any ops listed ↔ (i < ops.size /\ listed.getD i false = false /\ ∀ o, ops[i]? = some o -> ∀ e ∈ o.after, Region.binds .any e = true -> listed.getD e.on false = true) := by
 unfold Region.ready
 rw [List.mem_filter, adY]
 constructor
 .rintro ⟨h1, h2⟩
  rw [adD h1] at h2
  simp only [acV, aeA, adH] at h2
  refine ⟨h1, ?_, fun o ho e he hb => ?_⟩
  .have := h2.1
   rw [acW] at this ⊢
   rw [adD (by omega)] at this ⊢
   simpa using this
  .rw [adD h1] at ho
   cases ho
   have := aeP.1 h2.2 e he
   simpa [hb] using this
 .rintro ⟨h1, h2, h3⟩
  refine ⟨h1, ?_⟩
  rw [adD h1]
  simp only [acV, aeA, adH]
  refine ⟨?_, aeP.2 fun e he => ?_⟩
  .rw [acW] at h2 ⊢
   rw [adD (by omega)] at h2 ⊢
   simpa using h2
  .by_cases hb : Region.binds .any e = true
   .simp [hb, h3 _ (adD h1) e he hb]
   .simp [hb]
theorem WN {π : List Nat} {i : Nat} : ∀ {es : List (Nat × Nat)} {e : Edge}, e ∈ Dj π i es -> ∃ a, (a, i) ∈ es /\ e.on = uW π a := by
 intro es
 induction es with
 | nil => intro e h; simp [Dj] at h
 | cons q r ih =>
   obtain ⟨a, b⟩ := q
   intro e h
   simp only [Dj] at h
   cases hb : Nat.beq b i with
   | true =>
     rw [hb] at h
     obtain rfl := adO hb
     rcases adX.1 h with rfl | h
     .exact ⟨a, by simp, rfl⟩
     .obtain ⟨a, h1, h2⟩ := ih h; exact ⟨a, adC _ h1, h2⟩
   | false => rw [hb] at h; obtain ⟨a, h1, h2⟩ := ih h; exact ⟨a, adC _ h1, h2⟩
theorem U6 (p : Qm π ops) {L0 : List Nat} (hes : ∀ q ∈ es, L0.idxOf q.1 <= L0.idxOf q.2 /\ q.1 ≠ q.2 /\ q.1 < ops.size) :
 ∀ (fuel : Nat) (listed listed' : Array Bool) (pre L : List Nat), L0 = pre ++ L -> listed.size = ops.size -> listed'.size = ops.size →
   (∀ j, j < ops.size -> listed'.getD (uW π j) false = listed.getD j false) -> (∀ j ∈ pre, listed.getD j false = true) -> (∀ j, listed.getD j false = true -> j ∈ pre) →
   RA ops fuel listed L -> RA (pM π es ops) fuel listed' (L.map (uW π)) /\ ∀ i ∈ L, i < ops.size := by
 intro fuel
 induction fuel with
 | zero => intro listed listed' pre L _ _ _ _ _ _ h; obtain rfl : L = [] := h; exact ⟨rfl, by simp⟩
 | succ fuel ih =>
   intro listed listed' pre L hL0 hs hs' hrel hpre hpre' h
   have hsz : (pM π es ops).size = ops.size := p.size
   cases L with
   | nil =>
     refine ⟨?_, by simp⟩
     show Region.ready .any (pM π es ops) listed' = []
     rw [List.eq_nil_iff_forall_not_mem]
     intro k hk
     obtain ⟨h1, h2, h3⟩ := (Kb (by omega) k).1 hk
     obtain ⟨i, hi1, hi2, hi3⟩ := p.back k (by omega)
     have : i ∈ Region.ready .any ops listed := by
      refine (Kb hs i).2 ⟨hi3, ?_, fun o ho e he hb => ?_⟩
      .rw [<- hrel i hi3, hi2]; exact h2
      .have g := p.get (es := es) hi3
       rw [hi2, ho] at g
       have hon := p.after i o ho e he
       have := h3 _ g ⟨uW π e.on, e.ground⟩ (by
        simp only [Ft, List.mem_toArray, adV, aeE]
        exact .inl ⟨e, by simpa using he, rfl⟩) (by unfold Region.binds at hb ⊢; exact hb)
       rw [<- hrel e.on hon]; exact this
     rw [show Region.ready .any ops listed = [] from h] at this
     cases this
   | cons i L =>
     obtain ⟨h1, h2⟩ := h
     obtain ⟨r1, r2, r3⟩ := (Kb hs i).1 h1
     have hnot : i ∉ pre := fun hm => by rw [hpre i hm] at r2; cases r2
     have hidx : L0.idxOf i = pre.length := by
      rw [hL0, List.idxOf_append, if_neg hnot]; simp
     have ready' : uW π i ∈ Region.ready .any (pM π es ops) listed' := by
      refine (Kb (by omega) _).2 ⟨by rw [hsz]; exact (p.to i r1).1, by rw [hrel i r1]; exact r2, fun o' ho' e' he' hb => ?_⟩
      rw [p.get r1, adD r1] at ho'
      simp only [aeA, adT] at ho'
      subst ho'
      simp only [Ft, List.mem_toArray, adV, aeE] at he'
      rcases he' with ⟨e, he, rfl⟩ | he'
      .have ho := adD r1
       have he2 : e ∈ ops[i].after := by simpa using he
       rw [hrel e.on (p.after i _ ho e he2)]
       exact r3 _ ho e he2 (by unfold Region.binds at hb ⊢; exact hb)
      .obtain ⟨a, ha, hon⟩ := WN he'
       obtain ⟨q1, q2, q3⟩ := hes _ ha
       simp only at q1 q2 q3
       rw [hon, hrel a q3]
       refine hpre a ?_
       rw [hidx] at q1
       rw [hL0, List.idxOf_append] at q1
       by_cases hm : a ∈ pre
       .exact hm
       .rw [if_neg hm] at q1
        exfalso
        have hz : (i :: L).idxOf a = 0 := by omega
        rw [List.idxOf_cons] at hz
        cases hb : (i == a) with
        | true => exact q2 (by simpa using (beq_iff_eq.1 hb).symm)
        | false => rw [hb] at hz; simp at hz
     have hlen' : listed'.size = ops.size := hs'
     obtain ⟨k1, k2⟩ := ih (listed.setIfInBounds i true) (listed'.setIfInBounds (uW π i) true) (pre ++ [i]) L (by rw [hL0]; simp) (by simp [hs]) (by simp [hs'])
      (fun j hj => by
       by_cases hji : j = i
       .subst hji
        rw [acW, acW, adF (by rw [hs']; exact (p.to j hj).1), adF (by omega)]
       .have hne : uW π i ≠ uW π j := fun e => by
         have a1 := (p.to i r1).2
         have a2 := (p.to j hj).2
         rw [e] at a1
         rw [a1] at a2
         exact hji (aeM a2).symm
        have := hrel j hj
        rw [acW, acW] at this ⊢
        rw [adG hne, adG (fun e => hji e.symm)]
        exact this)
      (fun j hj => by
       rw [acW]
       rcases adV.1 hj with hj | hj
       .by_cases hji : j = i
        .subst hji; rw [adF (by omega)] <;> rfl
        .rw [adG (fun e => hji e.symm), <- acW]; exact hpre j hj
       .have : j = i := by simpa using hj
        subst this
        rw [adF (by omega)] <;> rfl)
      (fun j hj => by
       by_cases hji : j = i
       .subst hji; simp
       .rw [acW, adG (fun e => hji e.symm), <- acW] at hj
        exact afF _ (hpre' j hj))
      h2
     exact ⟨⟨ready', k1⟩, fun j hj => (adX.1 hj).elim (fun e => e ▸ r1) (k2 j)⟩
end
section
variable {P : Program} {ops : Array Oper}
theorem Ob {N : Nat} {an : Um} {pl : RM} (hok : Pe ops an = true) (hpl : PQ ops.size an pl = true) (hd : LG N ops) (hca : L3 P ops)
 {K : Env -> ahA -> Prop} {Q : Act -> ahA -> Prop} (hQ : ∀ g a w, JL N g a -> K g w -> Q a w) {g : Env} {a : Act} {w : ahA} (hr : JL N g a)
 (h : qM P ops ops.toList pl [] g w K) : Pc P ops Q ops.size (Array.replicate ops.size false) a w := by
 have r0 : VS P ops an g w 0 (fun _ => default) (fun _ => g) (fun _ => w) (fun _ => undef) :=
  ⟨rfl, rfl, fun i hi => by omega, fun i hi => by omega, fun i hi => by omega, fun i hi => by omega, fun i j _ hj => by omega⟩
 obtain ⟨O, G, W, V, r, hk⟩ := RL hpl ops.toList 0 [] _ _ _ _ (fun j => by simp) (by simp) r0 (fun i hi => by omega) h
 simp only [acQ, Array.length_toList] at r hk
 have st := UP hok r.op
 have := XH (Q := Q) (n := ops.size) rfl hd hca r st (fun a hra => hQ _ a _ hra hk) ops.size (Array.replicate ops.size false) g a 0 (by simp) hr (by omega)
  (fun j hj hl => by unfold mW at hl; simp [acW, hj] at hl)
  (fun s => .inr ⟨fun j hj hl => by unfold mW at hl; simp [acW, hj] at hl, rfl⟩)
  (fun h hh _ => ⟨fun hl => by unfold mW at hl; simp [acW, hh] at hl, fun hl => by omega⟩)
  (aeV (List.length_filter_le _ _) (by simp))
 rw [r.w0] at this
 exact this
theorem Nu {N : Nat} {ops : Array Oper} (h : ops.all (UA N) = true) : LG N ops := by
 intro i o ho t ht
 have := aeP.1 h o (agQ ho)
 unfold UA at this
 rw [ht] at this
 exact (afP (x := t) (y := N)) ▸ this
theorem PO {ops : Array Oper} (h : ops.all (AG P) = true) : L3 P ops :=
 fun _ o ho => aeP.1 h o (agQ ho)
theorem Tk {N : Nat} {f : FuncId} {id : Nat} (hd : LG N ops) (hca : L3 P ops)
 {K : Env -> ahA -> Prop} {Q : Act -> ahA -> Prop} (hQ : ∀ g a w, JL N g a -> K g w -> Q a w) {g : Env} {a : Act} {w0 w : ahA} (hr : JL N g a) :
 ∀ (T : HT) (path : List (Nat × Nat)), Lv P N ops path T = true →
   (∀ q ∈ path, (Region.schedule true ops (w0.tape w0.drawn (.order f id))).idxOf q.1 <= (Region.schedule true ops (w0.tape w0.drawn (.order f id))).idxOf q.2 /\ q.1 ≠ q.2) →
   R5 P f id ops T g w0 w K -> BB P ops Q (Region.schedule true ops (w0.tape w0.drawn (.order f id))) a w := by
 have lin : RA ops ops.size (Array.replicate ops.size false) (Region.schedule true ops (w0.tape w0.drawn (.order f id))) := by
  unfold Region.schedule
  simp only [Bool.true_or, if_true]
  exact Yq _ _ _
 generalize hL : Region.schedule true ops (w0.tape w0.drawn (.order f id)) = L at lin ⊢
 intro T
 induction T with
 | leaf an pl =>
   intro path hok _ h
   simp only [Lv, acV] at hok
   exact LO _ _ _ _ _ (Ob hok.1 hok.2 hd hca hQ hr h) lin
 | perm π es an pl =>
   intro path hok hpath h
   simp only [Lv, acV] at hok
   obtain ⟨⟨⟨⟨⟨h1, h2⟩, h3⟩, h4⟩, h5⟩, h6⟩ := hok
   have p := Ye h2
   have hes : ∀ q ∈ es, L.idxOf q.1 <= L.idxOf q.2 /\ q.1 ≠ q.2 /\ q.1 < ops.size := fun q hq => by
    have := aeD.1 h1 q hq
    simp only [acV] at this
    have hp := hpath q (Xd this.1)
    exact ⟨hp.1, hp.2, (afP (x := q.1) (y := ops.size)) ▸ this.2⟩
   obtain ⟨k1, k2⟩ := U6 (es := es) p hes ops.size (Array.replicate ops.size false) (Array.replicate ops.size false) [] L rfl (by simp) (by simp)
    (fun j hj => by simp [acW, hj, (p.to j hj).1]) (by simp)
    (fun j hj => by rw [acW] at hj; by_cases hh : j < ops.size <;> simp [hh] at hj) lin
   have hw := Ob h5 h6 (Nu h3) (PO h4) hQ hr h
   rw [p.size] at hw
   exact Tl (es := es) p L k2 a w (LO _ _ _ _ _ hw k1)
 | split x y A B ihA ihB =>
   intro path hok hpath h
   simp only [Lv, acV] at hok
   have hne : x ≠ y := by
    intro e
    have := hok.1.1
    rw [e] at this
    simp at this
   simp only [R5] at h
   unfold Ord XL at h
   rw [hL] at h
   cases hb : Nat.ble (L.idxOf x) (L.idxOf y) with
   | true =>
     rw [hb] at h
     refine ihA _ hok.1.2 (fun q hq => ?_) h
     rcases adX.1 hq with rfl | hq
     .exact ⟨afC hb, hne⟩
     .exact hpath q hq
   | false =>
     rw [hb] at h
     refine ihB _ hok.2 (fun q hq => ?_) h
     rcases adX.1 hq with rfl | hq
     .refine ⟨?_, hne.symm⟩
      simp only
      rcases aeG (L.idxOf y) (L.idxOf x) with hh | hh
      .omega
      .have := Nat.ble_eq_true_of_le hh; rw [this] at hb; cases hb
     .exact hpath q hq
end
section
variable {P : Program} {ann : FA}
def oJ : List Oper -> List Nat
 | [] => []
 | o :: r => match o.dst with | some d => d :: oJ r | none => oJ r
def Kv : Code -> List Nat
 | .region _ ops _ => oJ ops.toList
 | .seq x y => Kv x ++ Kv y
 | .cond _ x y => Kv x ++ Kv y
 | .block _ c => Kv c
 | .scope c => Kv c
 | .loop c => Kv c
 | .rangeFunc .. => [DS]
 | _ => []
def mT (l : List Nat) (g g' : Env) : Prop := ∀ s, s ∉ l -> g' s = g s
theorem mT.refl (l : List Nat) (g : Env) : mT l g g := fun _ _ => rfl
theorem mT.trans {l l1 l2 : List Nat} {a b c : Env} (h : mT l1 a b) (k : mT l2 b c) (h1 : ∀ s, s ∈ l1 -> s ∈ l) (h2 : ∀ s, s ∈ l2 -> s ∈ l) : mT l a c :=
 fun s hs => (k s fun h => hs (h2 s h)).trans (h s fun h => hs (h1 s h))
theorem mT.mono {l l1 : List Nat} {a b : Env} (h : mT l1 a b) (h1 : ∀ s, s ∈ l1 -> s ∈ l) : mT l a b := fun s hs => h s fun hh => hs (h1 s hh)
theorem mT.put {l : List Nat} {a : Env} (d : Option Tmp) (v : ahB) (h : ∀ t, d = some t -> t ∈ l) : mT l a (put a d v) := by
 intro s hs
 cases d with
 | none => rfl
 | some t =>
   rw [FY, if_neg (fun e => hs (by rw [e]; exact h t rfl))]
theorem Th {ops : Array Oper} {K : Env -> ahA -> Prop} : ∀ (l : List Oper) (g : Env) (w : ahA), PT P ops l g w K →
 ∃ g' w', K g' w' /\ mT (oJ l) g g' /\ ∀ K' : Env -> ahA -> Prop, K' g' w' -> PT P ops l g w K' := by
 intro l
 induction l with
 | nil => intro g w h; exact ⟨g, w, h, mT.refl _ _, fun _ h => h⟩
 | cons o l ih =>
   intro g w h
   obtain ⟨v, w1, hy, h1⟩ := GZ h
   obtain ⟨g', w', hk, ha, hall⟩ := ih _ _ h1
   refine ⟨g', w', hk, ?_, fun K' hk' => hy _ (hall K' hk')⟩
   refine mT.trans (mT.put o.dst v (l := oJ (o :: l)) fun t ht => by simp [oJ, ht]) ha (fun _ h => h) (fun s hs => ?_)
   unfold oJ
   split
   .exact adC _ hs
   .exact hs
theorem NR {ops : Array Oper} {K : Env -> ahA -> Prop} : ∀ (l : List Oper) (pl : RM) (hist : List Rec) (g : Env) (w : ahA), qM P ops l pl hist g w K →
 ∃ g' w', K g' w' /\ mT (oJ l) g g' /\ ∀ K' : Env -> ahA -> Prop, K' g' w' -> qM P ops l pl hist g w K' := by
 intro l
 induction l with
 | nil => intro pl hist g w h; unfold qM at h; exact ⟨g, w, h, mT.refl _ _, fun _ h => (by unfold qM; exact h)⟩
 | cons o l ih =>
   intro pl hist g w h
   cases pl with
   | nil => exact h.elim
   | cons p pl =>
     obtain ⟨hv, ks⟩ := p
     obtain ⟨v, w1, hy, h1⟩ := GZ h
     have tail : ∀ (w2 : ahA) (hist' : List Rec), qM P ops l pl hist' (put g o.dst v) w2 K →
         ∃ g' w', K g' w' /\ mT (oJ (o :: l)) g g' /\ ∀ K' : Env -> ahA -> Prop, K' g' w' -> qM P ops l pl hist' (put g o.dst v) w2 K' := by
      intro w2 hist' c2
      obtain ⟨g', w', hk, ha, hall⟩ := ih _ _ _ _ c2
      refine ⟨g', w', hk, ?_, hall⟩
      refine mT.trans (mT.put o.dst v (l := oJ (o :: l)) fun t ht => by simp [oJ, ht]) ha (fun _ h => h) (fun s hs => ?_)
      unfold oJ
      split
      .exact adC _ hs
      .exact hs
     cases hv with
     | true =>
       cases ks with
       | nil =>
         obtain ⟨g', w', hk, ha, hall⟩ := tail w1 _ h1
         exact ⟨g', w', hk, ha, fun K' hk' => hy _ (hall K' hk')⟩
       | cons k ks =>
         obtain ⟨hc, h1⟩ := h1
         obtain ⟨g', w', hk, ha, hall⟩ := tail w1 _ h1
         exact ⟨g', w', hk, ha, fun K' hk' => hy _ ⟨hc, hall K' hk'⟩⟩
     | false =>
       cases ks with
       | nil =>
         obtain ⟨rfl, h1⟩ := h1
         obtain ⟨g', w', hk, ha, hall⟩ := tail w1 _ h1
         exact ⟨g', w', hk, ha, fun K' hk' => hy _ ⟨rfl, hall K' hk'⟩⟩
       | cons k ks =>
         obtain ⟨rfl, hc, h1⟩ := h1
         obtain ⟨g', w', hk, ha, hall⟩ := tail w1 _ h1
         exact ⟨g', w', hk, ha, fun K' hk' => hy _ ⟨rfl, hc, hall K' hk'⟩⟩
theorem EO {l : List Oper} {s : Nat} : s ∈ oJ l ↔ ∃ o ∈ l, o.dst = some s := by
 induction l with
 | nil => simp [oJ]
 | cons o l ih =>
   unfold oJ
   cases hd : o.dst with
   | none => simp [ih, hd]
   | some d => simp [ih, hd, eq_comm]
theorem T5 {π : List Nat} {es : List (Nat × Nat)} {l : List Oper} {s : Nat} : ∀ (r : List Nat), s ∈ oJ (MM π es l r) -> s ∈ oJ l := by
 intro r
 induction r with
 | nil => intro h; simp [MM, oJ] at h
 | cons i r ih =>
   intro h
   simp only [MM] at h
   cases ho : l[i]? with
   | none => rw [ho] at h; exact ih h
   | some o =>
     rw [ho] at h
     obtain ⟨o', h1, h2⟩ := EO.1 h
     rcases adX.1 h1 with rfl | h1
     .exact EO.2 ⟨o, agT ho, h2⟩
     .exact ih (EO.2 ⟨o', h1, h2⟩)
theorem Wt {f : FuncId} {id : Nat} {ops : Array Oper} {K : Env -> ahA -> Prop} {g : Env} {w0 : ahA} : ∀ (T : HT) (w : ahA), R5 P f id ops T g w0 w K →
 ∃ g' w', K g' w' /\ mT (oJ ops.toList) g g' /\ ∀ K' : Env -> ahA -> Prop, K' g' w' -> R5 P f id ops T g w0 w K' := by
 intro T
 induction T with
 | leaf an pl => intro w h; exact NR _ _ _ _ _ h
 | perm π es an pl =>
   intro w h
   obtain ⟨g', w', a, b, c⟩ := NR _ _ _ _ _ h
   exact ⟨g', w', a, b.mono (fun s hs => T5 π (by simpa [pM] using hs)), c⟩
 | split x y A B ihA ihB =>
   intro w h
   simp only [R5, Ord] at h ⊢
   cases hb : XL f id ops x y w0 with
   | true => rw [hb] at h; exact ihA w h
   | false => rw [hb] at h; exact ihB w h
theorem kJ.head {α : Type} {F : (α -> ahA -> Prop) -> α -> ahA -> Prop} (hmono : ∀ X Y g w, (∀ g w, X g w -> Y g w) -> F X g w -> F Y g w)
 {g : α} {w : ahA} (h : F (fun g' w' => kJ F g' w') g w) (hdet : ∃ g' w', kJ F g' w' /\ ∀ X : α -> ahA -> Prop, X g' w' -> F X g w) : kJ F g w := by
 obtain ⟨g1, w1, ⟨I, ⟨n1, h1⟩, hI⟩, hF⟩ := hdet
 refine ⟨fun n g' w' => I n g' w' ∨ (n = n1 + 1 /\ g' = g /\ w' = w), ⟨n1 + 1, .inr ⟨rfl, rfl, rfl⟩⟩, ?_⟩
 rintro n g' w' (h | ⟨rfl, rfl, rfl⟩)
 .exact hmono _ _ _ _ (fun _ _ ⟨m, hm, hh⟩ => ⟨m, hm, .inl hh⟩) (hI _ _ _ h)
 .exact hF _ ⟨n1, by omega, .inl h1⟩
theorem ZC {f : FuncId} {gf : Operand} {ps : Array Tmp} {acH bd : Code} {Q : Exit -> Env -> ahA -> Prop} {g : Env} {w : ahA} (h : RF P f gf ps acH bd Q g w) :
 ∃ e g' w', Q e g' w' /\ mT [DS] g g' /\ ∀ Q' : Exit -> Env -> ahA -> Prop, Q' e g' w' -> RF P f gf ps acH bd Q' g w := by
 unfold RF at h ⊢
 cases hn : noMark (g DS) with
 | false => rw [hn] at h; exact h.elim
 | true =>
   rw [hn] at h
   simp only at h ⊢
   generalize (zL (ev g gf) [Du (w.heap.size + 1)]).run P (VT f (MZ P f) ps acH bd g w) = r at *
   match r, h with
   | .ok (.enter f2 args) w1, h =>
     obtain ⟨v, w3, hret, r, h1, h2, h3⟩ := h
     have ha : mT [DS] g (put g (some DS) (.pointer (some ⟨w.heap.size, 0, none⟩))) := mT.put _ _ (fun t ht => by cases ht; simp)
     cases hp : r.pending with
     | none =>
       rw [hp] at h3
       exact ⟨.normal, _, _, h3, ha, fun Q' h => ⟨v, w3, hret, r, h1, h2, by rw [hp]; exact h⟩⟩
     | some c =>
       rw [hp] at h3
       cases c <;> first
        | exact h3.elim
        | exact ⟨.ret, _, _, h3, ha, fun Q' h => ⟨v, w3, hret, r, h1, h2, by rw [hp]; exact h⟩⟩
        | exact ⟨.exit _, _, _, h3, ha, fun Q' h => ⟨v, w3, hret, r, h1, h2, by rw [hp]; exact h⟩⟩
theorem OH : ∀ (c : Code) (Q : Exit -> Env -> ahA -> Prop) (g : Env) (w : ahA), iY P ann c Q g w →
 ∃ e g' w', Q e g' w' /\ mT (Kv c) g g' /\ ∀ Q' : Exit -> Env -> ahA -> Prop, Q' e g' w' -> iY P ann c Q' g w := by
 intro c
 induction c with
 | skip => intro Q g w h; exact ⟨_, _, _, h, mT.refl _ _, fun _ h => h⟩
 | region id ops draw =>
   intro Q g w h
   cases draw with
   | false =>
     obtain ⟨g', w', a, b, c⟩ := Th _ _ _ h
     exact ⟨.normal, g', w', a, b, fun Q' h => c _ h⟩
   | true =>
     obtain ⟨g', w', a, b, c⟩ := Wt _ _ h
     exact ⟨.normal, g', w', a, b, fun Q' h => c _ h⟩
 | seq x y ihx ihy =>
   intro Q g w h
   obtain ⟨e, g1, w1, a, b, c⟩ := ihx _ _ _ h
   cases e with
   | normal =>
     obtain ⟨e2, g2, w2, a2, b2, c2⟩ := ihy _ _ _ a
     exact ⟨e2, g2, w2, a2, b.trans b2 (fun s h => afF _ h) (fun s h => afU _ h), fun Q' h => c _ (c2 _ h)⟩
   | _ => exact ⟨_, g1, w1, a, b.mono (fun s h => afF _ h), fun Q' h => c _ h⟩
 | cond c x y ihx ihy =>
   intro Q g w h
   simp only [iY] at h ⊢
   unfold mC at h ⊢
   cases hc : ev g c with
   | bool b =>
     rw [hc] at h
     cases b with
     | true =>
       obtain ⟨e, g', w', a, b, c⟩ := ihx _ _ _ h
       exact ⟨e, g', w', a, b.mono (fun s h => afF _ h), c⟩
     | false =>
       obtain ⟨e, g', w', a, b, c⟩ := ihy _ _ _ h
       exact ⟨e, g', w', a, b.mono (fun s h => afU _ h), c⟩
   | _ => rw [hc] at h; exact h.elim
 | block id c ih =>
   intro Q g w h
   obtain ⟨e, g', w', a, b, c⟩ := ih _ _ _ h
   cases e with
   | exit i =>
     simp only [X0] at a
     cases hb : Nat.beq i id with
     | true =>
       simp only [hb] at a
       refine ⟨.normal, g', w', a, b, fun Q' h => c _ ?_⟩
       simp only [X0, hb]; exact h
     | false =>
       simp only [hb] at a
       refine ⟨.exit i, g', w', a, b, fun Q' h => c _ ?_⟩
       simp only [X0, hb]; exact h
   | _ => exact ⟨_, g', w', a, b, fun Q' h => c _ h⟩
 | loop c ih =>
   intro Q g w h
   have hmono : ∀ (Q : Exit -> Env -> ahA -> Prop) (X Y : Env -> ahA -> Prop) g w, (∀ g w, X g w -> Y g w) -> iY P ann c (zX X Q) g w -> iY P ann c (zX Y Q) g w := by
    intro Q X Y g w hxy h
    obtain ⟨e, g', w', a, _, k⟩ := ih _ _ _ h
    refine k _ ?_
    cases e with
    | normal => exact hxy _ _ a
    | _ => exact a
   obtain ⟨I, ⟨n, h0⟩, hI⟩ := h
   have key : ∀ n g w, I n g w -> ∃ e g' w', Q e g' w' /\ mT (Kv c) g g' /\ ∀ Q' : Exit -> Env -> ahA -> Prop, Q' e g' w' -> kJ (fun X g w => iY P ann c (zX X Q') g w) g w := by
    intro n
    induction n using Nat.strongRecOn with
    | _ n ih2 =>
      intro g w hg
      obtain ⟨e, g1, w1, a, b, k⟩ := ih _ _ _ (hI n g w hg)
      have once : ∀ (Q' : Exit -> Env -> ahA -> Prop), (∀ X : Env -> ahA -> Prop, iY P ann c (zX X Q') g w) -> kJ (fun X g w => iY P ann c (zX X Q') g w) g w := by
       intro Q' h
       refine ⟨fun n g' w' => g' = g /\ w' = w, ⟨0, rfl, rfl⟩, ?_⟩
       rintro _ g' w' ⟨rfl, rfl⟩
       exact h _
      cases e with
      | normal =>
        obtain ⟨m, hm, hIm⟩ := a
        obtain ⟨e2, g2, w2, a2, b2, k2⟩ := ih2 m hm g1 w1 hIm
        refine ⟨e2, g2, w2, a2, b.trans b2 (fun _ h => h) (fun _ h => h), fun Q' h => ?_⟩
        have hl := k2 Q' h
        exact kJ.head (hmono Q') (k _ hl) ⟨g1, w1, hl, fun X hx => k _ hx⟩
      | _ => exact ⟨_, g1, w1, a, b, fun Q' h => once Q' fun X => k _ h⟩
   exact key n g w h0
 | exit id => intro Q g w h; exact ⟨_, _, _, h, mT.refl _ _, fun _ h => h⟩
 | label l => intro Q g w h; exact ⟨_, _, _, h, mT.refl _ _, fun _ h => h⟩
 | scope c ih => intro Q g w h; exact ih Q g w h
 | ret => intro Q g w h; exact ⟨_, _, _, h, mT.refl _ _, fun _ h => h⟩
 | rangeFunc gf ps acH bd => intro Q g w h; exact ZC h
 | _ => intro Q g w h; exact h.elim
theorem Cs {c : Code} {Q Q' : Exit -> Env -> ahA -> Prop} {g : Env} {w : ahA} (h : iY P ann c Q g w)
 (hq : ∀ e g' w', mT (Kv c) g g' -> Q e g' w' -> Q' e g' w') : iY P ann c Q' g w :=
 let ⟨_, _, _, a, b, k⟩ := OH c Q g w h
 k _ (hq _ _ _ b a)
def ZG (Q : Exit -> Env -> ahA -> Prop) : Exit -> Env -> ahA -> Prop
 | .goto _, _, _ => False
 | e, g, w => Q e g w
theorem Tv : ∀ (c : Code) (Q : Exit -> Env -> ahA -> Prop) (g : Env) (w : ahA), iY P ann c Q g w -> iY P ann c (ZG Q) g w := by
 intro c
 induction c with
 | skip => intro Q g w h; exact h
 | region id ops draw => intro Q g w h; cases draw <;> exact h
 | seq x y ihx ihy =>
   intro Q g w h
   show iY P ann x (zX (fun g w => iY P ann y (ZG Q) g w) (ZG Q)) g w
   refine Cs (ihx _ _ _ h) (fun e g' w' _ hq => ?_)
   cases e with
   | normal => exact ihy _ _ _ hq
   | goto l => exact hq.elim
   | _ => exact hq
 | cond c x y ihx ihy =>
   intro Q g w h
   simp only [iY] at h ⊢
   unfold mC at h ⊢
   cases hc : ev g c with
   | bool b =>
     rw [hc] at h
     cases b with
     | true => exact ihx _ _ _ h
     | false => exact ihy _ _ _ h
   | _ => rw [hc] at h; exact h.elim
 | block id c ih =>
   intro Q g w h
   show iY P ann c (X0 id (ZG Q)) g w
   refine Cs (ih _ _ _ h) (fun e g' w' _ hq => ?_)
   cases e with
   | exit i =>
     simp only [ZG, X0] at hq ⊢
     cases hb : Nat.beq i id with
     | true => rw [hb] at hq; exact hq
     | false => rw [hb] at hq; exact hq
   | goto l => exact hq.elim
   | _ => exact hq
 | loop c ih =>
   intro Q g w h
   obtain ⟨I, h0, hI⟩ := h
   refine ⟨I, h0, fun n g w hi => ?_⟩
   refine Cs (ih _ _ _ (hI n g w hi)) (fun e g' w' _ hq => ?_)
   cases e with
   | normal => exact hq
   | goto l => exact hq.elim
   | _ => exact hq
 | exit id => intro Q g w h; exact h
 | label l => intro Q g w h; exact h
 | scope c ih => intro Q g w h; exact ih Q g w h
 | ret => intro Q g w h; exact h
 | rangeFunc gf ps acH bd =>
   intro Q g w h
   have h : RF P ann.f gf ps acH bd Q g w := h
   show RF P ann.f gf ps acH bd (ZG Q) g w
   unfold RF at h ⊢
   cases hn : noMark (g DS) with
   | false => rw [hn] at h; exact h.elim
   | true =>
     rw [hn] at h
     simp only at h ⊢
     generalize (zL (ev g gf) [Du (w.heap.size + 1)]).run P (VT ann.f (MZ P ann.f) ps acH bd g w) = r at *
     match r, h with
     | .ok (.enter f2 args) w1, h =>
       obtain ⟨v, w3, hret, r, h1, h2, h3⟩ := h
       refine ⟨v, w3, hret, r, h1, h2, ?_⟩
       cases hp : r.pending with
       | none => rw [hp] at h3; exact h3
       | some c => rw [hp] at h3; cases c <;> exact h3
 | _ => intro Q g w h; exact h.elim
theorem PV {N : Nat} {g : Env} {a : Act} (h : JL N g a) : a.tmps = tmpsOf N g := by
 refine Array.ext (by simp [tmpsOf, h.size]) fun i h1 h2 => ?_
 have hi : i < N := by rw [<- h.size]; exact h1
 have := h.at_ i (afT (afK hi h.le))
 rw [acW, adD h1] at this
 simp [tmpsOf] at this ⊢
 exact this
theorem Xb {v : ahB} (h : noMark v = true) : Sw v = [] := by cases v <;> first | rfl | cases h
theorem M6 {N : Nat} (hm : P.follows .mixedOrders = true) {ro : Option Nat} (hN : MZ P ann.f = N) : ∀ (c : Code), codeOk P N ann c = true -> ro = none ∨ rL c = true →
 ∀ (Q : Exit -> Env -> ahA -> Prop) (QA : Exit -> Act -> ahA -> Prop) (g : Env) (a : Act) (w : ahA), JL N g a →
   (∀ e g a w, JL N g a -> Q e g w -> QA e a w) -> iY P ann c Q g w -> Pw P ann.f ro c QA a w := by
 intro c
 induction c with
 | skip => intro _ _ Q QA g a w hr hq h; exact VW (hq _ _ _ _ hr h)
 | region id ops draw =>
   intro hok _ Q QA g a w hr hq h
   simp only [codeOk, acV, aeH, afA] at hok
   have hd := Nu hok.1.1
   have hca := PO hok.1.2
   cases draw with
   | false =>
     refine TE ?_
     have := Vw hd hca (P := P) (Q := QA .normal) (K := Q .normal) (fun g a w => hq .normal g a w) ops.toList 0 g a w (fun j => by simp) hr h
     rw [List.range_eq_range']
     simpa using this
   | true =>
     rcases hok.2 with h1 | h1
     .cases h1
     .exact Ox hm (Tk hd hca (fun g a w => hq .normal g a w) hr _ [] h1 (by simp) h)
 | seq x y ihx ihy =>
   intro hok hfl Q QA g a w hr hq h
   simp only [codeOk, acV] at hok
   have hfx : ro = none ∨ rL x = true := hfl.imp id fun h => by simp only [rL, acV] at h; exact h.1
   have hfy : ro = none ∨ rL y = true := hfl.imp id fun h => by simp only [rL, acV] at h; exact h.2
   refine XR (ihx hok.1 hfx _ _ g a w hr (fun e g a w hr h => ?_) h)
   cases e with
   | normal => exact ihy hok.2 hfy _ _ g a w hr hq h
   | _ => exact hq _ _ _ _ hr h
 | cond c x y ihx ihy =>
   intro hok hfl Q QA g a w hr hq h
   simp only [codeOk, acV] at hok
   have hfx : ro = none ∨ rL x = true := hfl.imp id fun h => by simp only [rL, acV] at h; exact h.1
   have hfy : ro = none ∨ rL y = true := hfl.imp id fun h => by simp only [rL, acV] at h; exact h.2
   simp only [iY] at h
   unfold mC at h
   have he := hr.ev c hok.1
   cases hc : ev g c with
   | bool b =>
     rw [hc] at h he
     refine Wv he ?_
     cases b with
     | true => exact ihx hok.2.1 hfx _ _ g a w hr hq h
     | false => exact ihy hok.2.2 hfy _ _ g a w hr hq h
   | _ => rw [hc] at h; exact h.elim
 | block id c ih =>
   intro hok hfl Q QA g a w hr hq h
   refine VH (ih hok hfl _ _ g a w hr (fun e g a w hr h => ?_) h)
   cases e with
   | exit i =>
     unfold Exit.inBlock
     simp only [X0] at h
     by_cases hi : i = id
     .subst hi
      simp only [if_true]
      simp only [Nat.beq_refl] at h
      exact hq _ _ _ _ hr h
     .simp only [hi, if_false]
      have : Nat.beq i id = false := by
       cases hb : Nat.beq i id
       .rfl
       .exact absurd (adO hb) hi
      simp only [this] at h
      exact hq _ _ _ _ hr h
   | _ => exact hq _ _ _ _ hr h
 | loop c ih =>
   intro hok hfl Q QA g a w hr hq h
   obtain ⟨I, h0, hround⟩ := h
   have hex : ∀ a w, (∃ n g, JL N g a /\ I n g w) -> ∃ n, (∃ g, JL N g a /\ I n g w) /\ ∀ m, (∃ g, JL N g a /\ I m g w) -> n <= m := by
    rintro a w ⟨n, hn⟩
    induction n using Nat.strongRecOn with
    | _ n ih2 =>
      by_cases hx : ∃ m, m < n /\ ∃ g, JL N g a /\ I m g w
      .obtain ⟨m, hm, h⟩ := hx; exact ih2 m hm h
      .exact ⟨n, hn, fun m hm => Nat.le_of_not_lt fun hlt => hx ⟨m, hlt, hm⟩⟩
   have hdec : ∀ a w, Decidable (∃ n g, JL N g a /\ I n g w) := fun a w => Classical.propDecidable _
   let μ : Act -> ahA -> Nat := fun a w => if hh : ∃ n g, JL N g a /\ I n g w then Classical.choose (hex a w hh) else 0
   have hμ : ∀ a w n g, JL N g a -> I n g w -> μ a w <= n /\ ∃ g, JL N g a /\ I (μ a w) g w := by
    intro a w n g hr hI
    have hh : ∃ n g, JL N g a /\ I n g w := ⟨n, g, hr, hI⟩
    have e : μ a w = Classical.choose (hex a w hh) := dif_pos hh
    have s := Classical.choose_spec (hex a w hh)
    rw [e]
    exact ⟨s.2 n ⟨g, hr, hI⟩, s.1⟩
   obtain ⟨n0, h0⟩ := h0
   refine Wf (fun a w => ∃ n g, JL N g a /\ I n g w) μ ⟨n0, g, hr, h0⟩ ?_
   rintro a w ⟨n, g, hr, hI⟩
   obtain ⟨_, g', hr', hI'⟩ := hμ a w n g hr hI
   refine ih hok hfl _ _ g' a w hr' (fun e g1 a1 w1 hr1 h => ?_) (hround _ _ _ hI')
   cases e with
   | normal =>
     obtain ⟨m, hm, hIm⟩ := h
     have := hμ a1 w1 m g1 hr1 hIm
     exact ⟨⟨m, g1, hr1, hIm⟩, by omega⟩
   | _ => exact hq _ _ _ _ hr1 h
 | label l => intro _ _ Q QA g a w hr hq h; exact VD (hq _ _ _ _ hr h)
 | scope c ih =>
   intro hok hfl Q QA g a w hr hq h
   refine Vn (ih hok hfl (ZG Q) _ g a w hr (fun e g a w hr h => ?_) (Tv c _ g w h))
   cases e with
   | goto l => exact h.elim
   | _ => exact hq _ _ _ _ hr h
 | exit id => intro _ _ Q QA g a w hr hq h; exact Se (hq _ _ _ _ hr h)
 | ret => intro _ _ Q QA g a w hr hq h; exact Uv (hq _ _ _ _ hr h)
 | rangeFunc gf ps acH bd =>
   intro hok hfl Q QA g a w hr hq h
   have hro : ro = none := hfl.resolve_right (by simp [rL])
   subst hro
   have hok : Q2 gf = true := hok
   have h : RF P ann.f gf ps acH bd Q g w := h
   unfold RF at h
   cases hn : noMark (g DS) with
   | false => rw [hn] at h; exact h.elim
   | true =>
     rw [hn] at h
     simp only [hN] at h
     have ed : a.defers = [] := by rw [hr.defers, Xb hn]
     have er := run_enterLoop_outer (P := P) (w := w) ann.f a.tmps ps acH bd
     rw [PV hr] at er
     have er : (Instr.enterLoop ann.f a.tmps ps acH bd none).run P w = .ok (w.heap.size + 1, [{ target := .collected w.heap.size, args := #[] }]) (VT ann.f N ps acH bd g w) := by rw [PV hr]; exact er
     generalize VT ann.f N ps acH bd g w = w1 at *
     have ee := hr.ev gf hok
     unfold zL at h
     have hres : resolve a.eval (rangeCall gf (w.heap.size + 1)) 0 = Deferred.ofValue (ev g gf) #[Du (w.heap.size + 1)] := by
      have : resolve a.eval (rangeCall gf (w.heap.size + 1)) 0 = Deferred.ofValue (a.eval gf) #[Du (w.heap.size + 1)] := by
       simp only [resolve, List.map_toArray, acZ, List.map_nil]; rfl
      rw [this, ee]
     rw [show ([Du (w.heap.size + 1)] : List ahB).toArray = #[Du (w.heap.size + 1)] from rfl, <- hres, Sem.run_bind] at h
     cases hv : (resolve a.eval (rangeCall gf (w.heap.size + 1)) 0).run P w1 with
     | halt x wx => rw [hv] at h; exact h.elim
     | ok d wx =>
       have hwx : wx = w1 := by
        rw [hres] at hv
        unfold Deferred.ofValue at hv
        split at hv <;> first | (simp only [Sem.run_pure] at hv; cases hv; rfl) | (simp [stuck] at hv)
       subst hwx
       rw [hv] at h
       simp only [Result.andThen] at h
       cases hi : (invoke d.target d.args).run P wx with
       | halt x w2 => rw [hi] at h; exact h.elim
       | ok nx w2 =>
         rw [hi] at h
         cases nx <;> try (exact h.elim)
         obtain ⟨v, w3, hret, r, h1, h2, h3⟩ := h
         have hrel : ∀ w, JL N (put g (some DS) (.pointer (some ⟨w, 0, none⟩))) { a with defers := [{ target := .collected w, args := #[] }] ++ a.defers } := fun w => by
          refine ⟨hr.le, ?_, hr.size, fun i hi => ?_⟩
          .rw [FY, if_pos rfl, ed] <;> rfl
          .rw [FY, if_neg hi]; exact hr.at_ i hi
         have key : ∀ (j : Option Code) (w5 : ahA), Zq Q (put g (some DS) (.pointer (some ⟨w.heap.size, 0, none⟩))) j w5 →
             YO P ann.f QA { a with defers := [{ target := .collected w.heap.size, args := #[] }] ++ a.defers } w5 j := by
          intro j w5 h
          cases j with
          | none => exact hq _ _ _ _ (hrel _) h
          | some c =>
            cases c <;> first
             | exact h.elim
             | exact Uv (hq _ _ _ _ (hrel _) h)
             | exact Se (hq _ _ _ _ (hrel _) h)
         exact U8 er hv hi hret (run_endLoop h1 h2) (key _ _ h3)
 | _ => intro hok; simp [codeOk] at hok
def qC (P : Program) : List ResultVar -> Env -> ahA -> (List ahB -> Prop) -> Prop
 | [], _, _, K => K []
 | .tmp t :: r, g, w, K => qC P r g w fun vs => K (g t :: vs)
 | .cell a t :: r, g, w, K => ∃ v, (do loadVar t (<- asAddr (g a)) : Sem ahB).run P w = .ok v w /\ qC P r g w fun vs => K (v :: vs)
def PX : List ahB -> ahB
 | [v] => v
 | vs => .tuple vs.toArray
def aaB (P : Program) (rs : List ResultVar) (R : ahB -> ahA -> Prop) : Exit -> Env -> ahA -> Prop
 | .normal, g, w => qC P rs g w fun vs => R (PX vs) w
 | .ret, g, w => qC P rs g w fun vs => R (PX vs) w
 | _, _, _ => False
theorem R9 {N : Nat} {g : Env} {a : Act} {w : ahA} (hr : JL N g a) : ∀ (rs : List ResultVar), rs.all QM = true -> ∀ (K : List ahB -> Prop), qC P rs g w K →
 ∃ vs, K vs /\ (rs.mapM fun | .tmp t => pure (a.tmps.getD t undef) | .cell b t => do loadVar t (<- asAddr (a.tmps.getD b undef)) : Sem (List ahB)).run P w = .ok vs w := by
 have ne : ∀ t : Nat, Nat.blt t DS = true -> a.tmps.getD t undef = g t := fun t h => hr.at_ t (afT ((afP (x := t) (y := DS)) ▸ h))
 intro rs
 induction rs with
 | nil => intro _ K h; exact ⟨[], h, by simp⟩
 | cons r rs ih =>
   intro hok K h
   simp only [List.all_cons, acV] at hok
   cases r with
   | tmp t =>
     obtain ⟨vs, h1, h2⟩ := ih hok.2 _ h
     refine ⟨_, h1, ?_⟩
     rw [List.mapM_cons]
     rw [pure_bind, Sem.run_bind]
     simp only [h2, Result.andThen, Sem.run_pure, ne t hok.1]
   | cell b t =>
     obtain ⟨v, hv, h⟩ := h
     obtain ⟨vs, h1, h2⟩ := ih hok.2 _ h
     refine ⟨_, h1, ?_⟩
     rw [List.mapM_cons]
     rw [<- ne b hok.1] at hv
     rw [Sem.run_bind]
     simp only [hv, Result.andThen]
     rw [Sem.run_bind]
     simp only [h2, Result.andThen]
     rfl
theorem ZD (vs : Array ahB) : (if h : vs.size = 1 then vs[0] else Value.tuple vs) = PX vs.toList := by
 obtain ⟨l⟩ := vs
 match l with
 | [] => rfl
 | [v] => rfl
 | a :: b :: r => simp [PX]
theorem SX {N : Nat} {g : Env} {a : Act} {w : ahA} (fn : Func) {rs : List ResultVar} (hok : rs.all QM = true) (hrs : fn.results = rs.toArray) (hr : JL N g a) {R : ahB -> ahA -> Prop}
 (h : qC P rs g w fun vs => R (PX vs) w) : ∃ v, (results fn a.tmps).run P w = .ok v w /\ R v w := by
 obtain ⟨vs, h1, h2⟩ := R9 hr rs hok _ h
 refine ⟨PX vs, ?_, h1⟩
 unfold results
 rw [hrs, Array.mapM_eq_mapM_toList, aeC]
 simp only [bind_assoc, map_eq_pure_bind]
 rw [Sem.run_bind]
 refine Eq.trans (congrArg (fun r => Result.andThen r _) h2) ?_
 simp only [Result.andThen]
 simp only [pure_bind, Sem.run_pure, ZD]
def NJ (args : List ahB) : Env := fun i => args.getD i undef
def Zj (P : Program) (rs : List ResultVar) (R : ahB -> ahA -> Prop) : Exit -> Env -> ahA -> Prop
 | .normal, g, w => CT (g DS) w fun w => qC P rs g w fun vs => R (PX vs) w
 | .ret, g, w => CT (g DS) w fun w => qC P rs g w fun vs => R (PX vs) w
 | _, _, _ => False
theorem Sd {g : Env} {w : ahA} : ∀ (rs : List ResultVar) (K : List ahB -> Prop), qC P rs g w K -> ∃ vs, K vs /\ ∀ K' : List ahB -> Prop, K' vs -> qC P rs g w K' := by
 intro rs
 induction rs with
 | nil => intro K h; exact ⟨_, h, fun _ h => h⟩
 | cons r rs ih =>
   intro K h
   cases r with
   | tmp t =>
     obtain ⟨vs, a, b⟩ := ih _ h
     exact ⟨_, a, fun K' h => b _ h⟩
   | cell b t =>
     obtain ⟨v, hv, h⟩ := h
     obtain ⟨vs, a, b⟩ := ih _ h
     exact ⟨_, a, fun K' h => ⟨v, hv, b _ h⟩⟩
theorem Qr {v : ahB} {w : ahA} {K : ahA -> Prop} (h : CT v w K) : ∃ w', K w' /\ ∀ K' : ahA -> Prop, K' w' -> CT v w K' := by
 cases v with
 | pointer p =>
   cases p with
   | none => exact ⟨_, h, fun _ h => h⟩
   | some a => exact ⟨_, h.2, fun _ h' => ⟨h.1, h'⟩⟩
 | _ => exact ⟨_, h, fun _ h => h⟩
theorem TT {v : ahB} {w : ahA} {K K' : ahA -> Prop} (h : CT v w K) (hk : ∀ w, K w -> K' w) : CT v w K' :=
 let ⟨w', a, b⟩ := Qr h; b _ (hk w' a)
theorem R8 {args : List ahB} {N i : Nat} (hle : args.length <= N) (hi : N <= i) : NJ args i = undef := by
 unfold NJ
 rw [acU, adZ (by omega)] <;> rfl
theorem L9 {f : FuncId} {fn : Func} {c : Code} {args : List ahB} {w : ahA} {rs : List ResultVar} {R : ahB -> ahA -> Prop} (hm : P.follows .mixedOrders = true) (hAf : ann.f = f)
 (hf : P.funcs[f]? = some fn) (hb : fn.body = some c) (hrs : fn.results = rs.toArray) {N : Nat} (hN : fn.ntmps = N) (hle : args.length <= N)
 (hok : codeOk P N ann c = true) (hro : rs.all QM = true) (hND : Nat.ble N DS = true) (h : iY P ann c (Zj P rs R) (NJ args) w) : gT P f args.toArray w R := by
 obtain ⟨e, g', w', hq, _, hall⟩ := OH _ _ _ _ h
 have hND := afC hND
 have hNt : MZ P ann.f = N := by unfold MZ; rw [hAf, hf]; exact hN
 have hrv : CT (g' DS) w' fun w => qC P rs g' w fun vs => R (PX vs) w := by cases e <;> first | exact hq | exact hq.elim
 obtain ⟨w2, hrv2, hsh⟩ := Qr hrv
 obtain ⟨vs, hv, hrest⟩ := Sd _ _ hrv2
 refine ⟨PX vs, w2, ?_, hv⟩
 have hrel : JL N (NJ args) { tmps := args.toArray ++ Array.replicate (fn.ntmps - args.toArray.size) undef, defers := [] } := by
  refine ⟨hND, by rw [R8 hle hND] <;> rfl, by simp [hN]; omega, fun i _ => ?_⟩
  simp only [NJ, acW, acU]
  by_cases hi : i < args.length
  .simp [Array.getElem?_append, hi]
  .simp only [Array.getElem?_append, afI, hi, if_false, Array.getElem?_replicate]
   rw [adZ (by omega)]
   split <;> rfl
 have key := Ri (P := P) (f := f) hf hb (R := fun v3 w3 => v3 = PX vs /\ w3 = w2) (args := args.toArray) (w := w)
  (hAf ▸ M6 hm hNt c hok (.inl rfl) (Zj P rs fun v3 w3 => v3 = PX vs /\ w3 = w2) _ _ _ _ hrel (fun e g a w hr h => ?_) (hall _ ?_))
 .refine Calls.mono key ?_
  rintro e w3 ⟨v, rfl, rfl, rfl⟩
  exact ⟨rfl, rfl⟩
 .have hx : ∀ {w}, (CT (g DS) w fun w => qC P rs g w fun vs' => PX vs' = PX vs /\ w = w2) -> ∃ m, a.defers = Sw m /\ CT m w fun w' => ∃ v, (results fn a.tmps).run P w' = .ok v w' /\ (v = PX vs /\ w' = w2) := by
   intro w h
   exact ⟨_, hr.defers, TT h fun w h => SX fn hro hrs hr (R := fun v3 w3 => v3 = PX vs /\ w3 = w2) h⟩
  cases e with
  | normal => exact hx h
  | ret => exact hx h
  | _ => exact h.elim
 .have := hsh (fun w => qC P rs g' w fun vs' => PX vs' = PX vs /\ w = w2) (hrest _ ⟨rfl, rfl⟩)
  cases e <;> first | exact this | exact hq.elim
theorem Yj {N : Nat} : ∀ (c : Code), codeOk P N ann c = true -> rL c = true -> ∀ s ∈ Kv c, s < N := by
 intro c
 induction c with
 | region id ops draw =>
   intro hok _ s hs
   simp only [codeOk, acV] at hok
   obtain ⟨o, h1, h2⟩ := EO.1 hs
   obtain ⟨i, hi, rfl⟩ := agF h1
   exact Nu hok.1.1 i _ (by simp at hi ⊢) s h2
 | seq x y ihx ihy =>
   intro hok hfl s hs
   simp only [codeOk, rL, acV] at hok hfl
   rcases adV.1 hs with hs | hs
   .exact ihx hok.1 hfl.1 s hs
   .exact ihy hok.2 hfl.2 s hs
 | cond c x y ihx ihy =>
   intro hok hfl s hs
   simp only [codeOk, rL, acV] at hok hfl
   rcases adV.1 hs with hs | hs
   .exact ihx hok.2.1 hfl.1 s hs
   .exact ihy hok.2.2 hfl.2 s hs
 | block id c ih => intro hok hfl s hs; exact ih hok hfl s hs
 | loop c ih => intro hok hfl s hs; exact ih hok hfl s hs
 | scope c ih => intro hok hfl s hs; exact ih hok hfl s hs
 | rangeFunc => intro _ hfl; simp [rL] at hfl
 | _ => intro _ _ s hs; simp [Kv] at hs
theorem SZ {f : FuncId} {fn : Func} {c : Code} {args : List ahB} {w : ahA} {rs : List ResultVar} {R : ahB -> ahA -> Prop} (hm : P.follows .mixedOrders = true) (hAf : ann.f = f)
 (hf : P.funcs[f]? = some fn) (hb : fn.body = some c) (hrs : fn.results = rs.toArray) {N : Nat} (hN : fn.ntmps = N) (hle : args.length <= N)
 (hok : codeOk P N ann c = true) (hro : rs.all QM = true) (hND : Nat.ble N DS = true) (hfl : rL c = true) (h : iY P ann c (aaB P rs R) (NJ args) w) : gT P f args.toArray w R := by
 refine L9 hm hAf hf hb hrs hN hle hok hro hND (Cs h fun e g' w' ha hq => ?_)
 have hND := afC hND
 have : g' DS = undef := by
  rw [ha DS (fun hd => absurd (Yj c hok hfl DS hd) (Nat.not_lt.2 hND)), R8 hle hND]
 cases e with
 | normal => show CT (g' DS) w' (fun w => qC P rs g' w fun vs => R (PX vs) w); rw [this]; exact hq
 | ret => show CT (g' DS) w' (fun w => qC P rs g' w fun vs => R (PX vs) w); rw [this]; exact hq
 | _ => exact hq.elim
def KB (tmps : Array ahB) : Env := fun i => tmps.getD i undef
def Q8 (l : Nat) (R : ahB -> ahA -> Prop) : Exit -> Env -> ahA -> Prop
 | .normal, _, w => ∃ r : Loop, w.heap[l]? = some (.loop r) /\ R (.bool true) (w.putObj l (.loop { r with state := .ready, pending := none }))
 | .ret, _, w => ∃ r : Loop, w.heap[l]? = some (.loop r) /\ R (.bool false) (w.putObj l (.loop { r with state := .done, pending := some .ret }))
 | .exit i, _, w => ∃ r : Loop, w.heap[l]? = some (.loop r) /\ R (.bool false) (w.putObj l (.loop { r with state := .done, pending := some (.exit i) }))
 | _, _, _ => False
def asQ (P : Program) (ann : FA) (l : Nat) (bd : Code) (R : ahB -> ahA -> Prop) : Exit -> Env -> ahA -> Prop
 | .normal, g, w => ∃ r : Loop, w.heap[l]? = some (.loop r) /\ r.state = .ready /\ iY P ann bd (Q8 l R) g (w.putObj l (.loop { r with state := .busy }))
 | _, _, _ => False
theorem Q4 {f : FuncId} {l : Nat} {tmps : Array ahB} {acH bd : Code} {w : ahA} {R : ahB -> ahA -> Prop} (hm : P.follows .mixedOrders = true) (hAf : ann.f = f) {N : Nat} (hN : MZ P f = N) (hND : Nat.ble N DS = true)
 (hsz : tmps.size = N) (hok1 : codeOk P N ann acH = true) (hf1 : rL acH = true) (hok2 : codeOk P N ann bd = true) (hf2 : rL bd = true)
 (h : iY P ann acH (asQ P ann l bd R) (KB tmps) w) : QH P l f tmps acH bd w R := by
 subst hAf
 have hND := afC hND
 obtain ⟨e, g1, w1, hq, ha, hall⟩ := OH _ _ _ _ h
 cases e with
 | normal =>
   obtain ⟨r, h1, h2, hd⟩ := hq
   obtain ⟨e2, g2, w2, hq2, ha2, hall2⟩ := OH _ _ _ _ hd
   have hx : ∃ v w4, R v w4 /\ ∀ R' : ahB -> ahA -> Prop, R' v w4 -> Q8 l R' e2 g2 w2 := by
    cases e2 with
    | normal => obtain ⟨r2, k1, k2⟩ := hq2; exact ⟨_, _, k2, fun R' h => ⟨r2, k1, h⟩⟩
    | ret => obtain ⟨r2, k1, k2⟩ := hq2; exact ⟨_, _, k2, fun R' h => ⟨r2, k1, h⟩⟩
    | exit i => obtain ⟨r2, k1, k2⟩ := hq2; exact ⟨_, _, k2, fun R' h => ⟨r2, k1, h⟩⟩
    | _ => exact hq2.elim
   obtain ⟨v, w4, hR, hrest⟩ := hx
   refine ⟨v, w4, ?_, hR⟩
   have hrel : JL N (KB tmps) { tmps := tmps, defers := [] } := by
    refine ⟨hND, ?_, hsz, fun i _ => rfl⟩
    have : KB tmps DS = undef := by unfold KB; rw [acW, adR (by omega)] <;> rfl
    rw [this] <;> rfl
   have key : RoundIn Fence.wide 0 P l ann.f tmps acH bd w fun e w' => ∃ v', e = .returned v' /\ (v' = v /\ w' = w4) := by
    refine Q3 (M6 hm hN acH hok1 (.inr hf1) (fun e g w => e = .normal /\ g = g1 /\ w = w1) _ _ _ _ hrel ?_ (hall _ ⟨rfl, rfl, rfl⟩))
    rintro e g a w hra ⟨rfl, rfl, rfl⟩
    refine ⟨_, run_beginRound h1 h2, M6 hm hN bd hok2 (.inr hf2) (Q8 l fun v' w' => v' = v /\ w' = w4) _ _ _ _ hra ?_ (hall2 _ (hrest _ ⟨rfl, rfl⟩))⟩
    intro e g a w _ h
    cases e with
    | normal => obtain ⟨r, k1, k2⟩ := h; exact ⟨_, _, run_endRound none k1, k2⟩
    | ret => obtain ⟨r, k1, k2⟩ := h; exact ⟨_, _, run_endRound (some .ret) k1, k2⟩
    | exit i => obtain ⟨r, k1, k2⟩ := h; exact ⟨_, _, run_endRound (some (.exit i)) k1, k2⟩
    | _ => exact h.elim
   refine RoundIn.mono key ?_
   rintro e w' ⟨v', rfl, rfl, rfl⟩
   exact ⟨rfl, rfl⟩
 | _ => exact hq.elim
theorem Qc {f : FuncId} {args : Array ahB} {w : ahA} {R : ahB -> ahA -> Prop} (h : gT P f args w R) :
 Calls P f args w fun e w' => ∃ v, e = .returned v /\ R v w' := by
 obtain ⟨v, w', hr, hR⟩ := h
 refine Calls.mono hr ?_
 rintro e w'' ⟨rfl, rfl⟩
 exact ⟨v, rfl, hR⟩
end
def sA : Code -> Code | .seq a _ => a | c => c
def cT : Code -> Code | .cond _ a _ => a | c => c
def cE : Code -> Code | .cond _ _ b => b | c => c
def bI : Code -> Code | .block _ c => c | .loop c => c | .scope c => c | c => c
def jB (f : Func) : Code := match f.body with | some c => c | none => .skip
def gX : Nat -> Code -> Code
 | 0, c => c
 | 1, c => sA c
 | n + 1, .seq a b => .seq a (gX n b)
 | _, c => c
def gK : Nat -> Code -> Code
 | 0, c => c
 | n + 1, .seq _ b => gK n b
 | _, c => c
def TF : Nat -> Code -> Bool
 | 1, .seq _ _ => true
 | n + 1, .seq _ b => TF n b
 | _, _ => false
def dr (w : ahA) : ahA := { w with drawn := w.drawn + 1 }
def VR (P : Program) (t : TypeId) (a : ahB) (w : ahA) (K : ahB -> Prop) : Prop := ∃ v, (do loadVar t (<- asAddr a) : Sem ahB).run P w = .ok v w /\ K v
def exL : List (Nat × (Env -> ahA -> Prop)) -> Nat -> Env -> ahA -> Prop
 | [], _, _, _ => False
 | (j, k) :: r, i, g, w => match Nat.beq i j with | true => k g w | false => exL r i g w
def exQ (kn kr : Env -> ahA -> Prop) (l : List (Nat × (Env -> ahA -> Prop))) : Exit -> Env -> ahA -> Prop
 | .normal, g, w => kn g w
 | .ret, g, w => kr g w
 | .exit i, g, w => exL l i g w
 | _, _, _ => False
def Ut (Q : Exit -> Env -> ahA -> Prop) : List (Nat × (Env -> ahA -> Prop)) -> Prop
 | [] => True
 | (i, k) :: r => (∀ g w, k g w -> Q (.exit i) g w) /\ Ut Q r
def lD (c a b : ahB) : Sem Next := do pure (.value (if <- asBool c then a else b))
def lY (t : TypeId) : Sem Next := V (Instr.alloc t true (.tuple #[]))
def EL (t : TypeId) (x : ahB) : Sem Next := V (Instr.box t x)
def gJ (t : TypeId) (a : ahB) : Sem Next := V (Instr.loadAt t a)
def iG (t : TypeId) (a x : ahB) : Sem Next := U (Instr.storeAt t a x)
def jD (x : ahB) : Sem Next := execOp (fun _ => x) ⟨none, .nilCheck (.tmp 0), 0, default, #[], none⟩
def KO (op : UnOp) (x : ahB) : Sem Next := V (Op.unary op x)
def lL (s d : TypeId) (x : ahB) : Sem Next := V (convert s d x)
def Y5 (t : TypeId) (x : ahB) : Sem Next := V (Instr.makeInterface t x)
def No (t : TypeId) (r : Option ahB) : Sem Next := V (Instr.makeMap t r)
def vK (t : TypeId) (l c : ahB) : Sem Next := V (Instr.makeSlice t l c)
def mG (t : TypeId) (x : ahB) (lo hi mx : Option ahB) : Sem Next := V (Instr.sliceAt t x lo hi mx)
def gM (t : TypeId) (x : ahB) (f : Nat) : Sem Next := V (Instr.fieldAt t x f)
def iK (t : TypeId) (x i : ahB) : Sem Next := V (Instr.indexAt t x i)
def VC (t : TypeId) (x i : ahB) : Sem Next := V (Instr.index t x i)
def Ay (t : TypeId) (x i : ahB) (ok : Bool) : Sem Next := V (Instr.lookup t x i ok)
def Li (t : TypeId) (m k x : ahB) : Sem Next := U (Instr.mapUpdate t m k x)
def PC (t : TypeId) (x : ahB) : Sem Next := V (Instr.range t x)
def TS (it : ahB) : Sem Next := V (Instr.entry it)
def Ux (it : ahB) (str : Bool) (ty : TypeId) : Sem Next := V (Instr.next it str ty)
def iZ (t : ahB) (i : Nat) : Sem Next := V (Instr.extract t i)
section
variable {P : Program} {ann : FA}
theorem Zp {Q : Exit -> Env -> ahA -> Prop} : ∀ {l : List (Nat × (Env -> ahA -> Prop))}, Ut Q l -> ∀ {i : Nat} {g : Env} {w : ahA}, exL l i g w -> Q (.exit i) g w := by
 intro l
 induction l with
 | nil => intro _ i g w h; exact h.elim
 | cons p r ih =>
   obtain ⟨j, k⟩ := p
   rintro ⟨h1, h2⟩ i g w h
   simp only [exL] at h
   cases hb : Nat.beq i j with
   | true =>
     simp only [hb] at h
     obtain rfl := adO hb
     exact h1 _ _ h
   | false => simp only [hb] at h; exact ih h2 h
theorem X9 {c : Code} {kn kr : Env -> ahA -> Prop} {l : List (Nat × (Env -> ahA -> Prop))} {Q : Exit -> Env -> ahA -> Prop} {g : Env} {w : ahA} {A : Prop}
 (e : A = iY P ann c (exQ kn kr l) g w) (h : A) (hn : ∀ g w, kn g w -> Q .normal g w) (hr : ∀ g w, kr g w -> Q .ret g w) (hl : Ut Q l) : iY P ann c Q g w := by
 rw [e] at h
 refine Cs h (fun e g' w' _ hq => ?_)
 cases e with
 | normal => exact hn _ _ hq
 | ret => exact hr _ _ hq
 | exit i => exact Zp hl hq
 | _ => exact hq.elim
theorem Vy {x y z : Code} {Q : Exit -> Env -> ahA -> Prop} {g : Env} {w : ahA} (h : iY P ann (.seq (.seq x y) z) Q g w) : iY P ann (.seq x (.seq y z)) Q g w := by
 show iY P ann x (zX (fun g w => iY P ann y (zX (fun g w => iY P ann z Q g w) Q) g w) Q) g w
 have h : iY P ann x (zX (fun g w => iY P ann y (zX (fun g w => iY P ann z Q g w) Q) g w) (zX (fun g w => iY P ann z Q g w) Q)) g w := h
 refine Cs h (fun e g' w' _ hq => ?_)
 cases e <;> exact hq
theorem iC {K : Env -> ahA -> Prop} {Q : Exit -> Env -> ahA -> Prop} {g : Env} {w : ahA} (h : K g w) : zX K Q .normal g w := h
theorem VI {Q : Exit -> Env -> ahA -> Prop} : ∀ (n : Nat) (c : Code) (g : Env) (w : ahA), TF n c = true -> iY P ann (.seq (gX n c) (gK n c)) Q g w -> iY P ann c Q g w := by
 intro n
 induction n with
 | zero => intro c g w h; simp [TF] at h
 | succ n ih =>
   intro c g w h hd
   cases c with
   | seq a b =>
     cases n with
     | zero => exact hd
     | succ n =>
       have hb : TF (n + 1) b = true := by simpa [TF] using h
       have hd' : iY P ann (.seq (.seq a (gX (n + 1) b)) (gK (n + 1) b)) Q g w := hd
       have := Vy hd'
       show iY P ann a (zX (fun g w => iY P ann b Q g w) Q) g w
       have h2 : iY P ann a (zX (fun g w => iY P ann (.seq (gX (n + 1) b) (gK (n + 1) b)) Q g w) Q) g w := this
       refine Cs h2 (fun e g' w' _ hq => ?_)
       cases e with
       | normal => exact ih b g' w' hb hq
       | _ => exact hq
   | _ => cases n <;> simp [TF] at h
def YQ (id : Nat) : Code -> Bool | .block i _ => Nat.beq i id | _ => false
def Wn : Code -> Bool | .loop _ => true | _ => false
def WM : Code -> Option Operand | .cond o _ _ => some o | _ => none
theorem Yd {Q : Exit -> Env -> ahA -> Prop} (id : Nat) (c : Code) (g : Env) (w : ahA) (h : YQ id c = true) (hd : iY P ann (bI c) (X0 id Q) g w) : iY P ann c Q g w := by
 cases c with
 | block i c =>
   obtain rfl := adO (show Nat.beq i id = true from h)
   exact hd
 | _ => cases h
def YT : Code -> Bool | .scope _ => true | _ => false
theorem X5 {Q : Exit -> Env -> ahA -> Prop} (c : Code) (g : Env) (w : ahA) (h : YT c = true) (hd : iY P ann (bI c) Q g w) : iY P ann c Q g w := by
 cases c with
 | scope c => exact hd
 | _ => cases h
theorem Yi {Q : Exit -> Env -> ahA -> Prop} (o : Operand) (c : Code) (g : Env) (w : ahA) (h : WM c = some o)
 (hd : mC (ev g o) (iY P ann (cT c) Q g w) (iY P ann (cE c) Q g w)) : iY P ann c Q g w := by
 cases c with
 | cond o' a b => obtain rfl := aeM h; exact hd
 | _ => cases h
theorem WK {v : ahB} {A B A' B' : Prop} (ha : A -> A') (hb : B -> B') (h : mC v A B) : mC v A' B' := by
 unfold mC at *
 cases v with
 | bool b => cases b <;> first | exact ha h | exact hb h
 | _ => exact h
theorem Xe {T : Type} (proj : Env -> T) (F : (T -> ahA -> Prop) -> T -> ahA -> Prop) {c : Code} {Q : Exit -> Env -> ahA -> Prop} {g : Env} {w : ahA}
 (hF : ∀ (X : T -> ahA -> Prop) g' w', mT (Kv c) g g' -> F X (proj g') w' -> iY P ann c (zX (fun g'' w'' => X (proj g'') w'') Q) g' w')
 (h : kJ F (proj g) w) : iY P ann (.loop c) Q g w := by
 obtain ⟨I, ⟨n, h0⟩, hI⟩ := h
 refine ⟨fun n g' w' => mT (Kv c) g g' /\ I n (proj g') w', ⟨n, mT.refl _ _, h0⟩, ?_⟩
 rintro n g' w' ⟨ha, hi⟩
 have := hF _ g' w' ha (hI n _ _ hi)
 refine Cs this (fun e g2 w2 ha2 hq => ?_)
 cases e with
 | normal =>
   obtain ⟨m, hm, hh⟩ := hq
   exact ⟨m, hm, ha.trans ha2 (fun _ h => h) (fun _ h => h), hh⟩
 | _ => exact hq
theorem VK {T : Type} (proj : Env -> T) (F : (T -> ahA -> Prop) -> T -> ahA -> Prop) (c : Code) {Q : Exit -> Env -> ahA -> Prop} {g : Env} {w : ahA} (hl : Wn c = true)
 (h : kJ F (proj g) w)
 (hF : ∀ (X : T -> ahA -> Prop) g' w', mT (Kv (bI c)) g g' -> F X (proj g') w' -> iY P ann (bI c) (zX (fun g'' w'' => X (proj g'') w'') Q) g' w') : iY P ann c Q g w := by
 cases c with
 | loop c => exact Xe proj F hF h
 | _ => cases hl
theorem Tc {l : List Nat} {s : Nat} (hs : pP s l = false) : s ∉ l := by
 induction l with
 | nil => simp
 | cons a r ih =>
   unfold pP at hs
   cases hb : Nat.beq a s with
   | true => simp only [hb] at hs; cases hs
   | false =>
     simp only [hb] at hs
     intro hm
     rcases adX.1 hm with e | hm
     .subst e; simp at hb
     .exact ih hs hm
theorem WR {l : List Nat} {g g' : Env} (h : mT l g g') {s : Nat} (hs : pP s l = false) : g' s = g s := h s (Tc hs)
def KS (id : Nat) : Code -> Array Oper
 | .region i ops _ => match Nat.beq i id with | true => ops | false => #[]
 | .seq a b => match (KS id a).size with | 0 => KS id b | _ + 1 => KS id a
 | .cond _ a b => match (KS id a).size with | 0 => KS id b | _ + 1 => KS id a
 | .block _ c => KS id c
 | .loop c => KS id c
 | .scope c => KS id c
 | _ => #[]
theorem Wk {b : Bool} {A B : Prop} (ha : A) (hb : B) : Ord b A B := by cases b <;> assumption
theorem kJ.rule {α : Type} {F : (α -> ahA -> Prop) -> α -> ahA -> Prop} (I : Nat -> α -> ahA -> Prop) {g : α} {w : ahA} (n : Nat) (h0 : I n g w)
 (hr : ∀ n g w, I n g w -> F (fun g' w' => ∃ m, m < n /\ I m g' w') g w) : kJ F g w := ⟨I, ⟨n, h0⟩, hr⟩
theorem eQ (A B : Prop) : mC (.bool true) A B = A := Eq.trans rfl rfl
theorem eH (A B : Prop) : mC (.bool false) A B = B := Eq.trans rfl rfl
theorem eZ (s : (ahB -> ahA -> Prop) -> Prop) (w : ahA) (K : ahB -> ahA -> Prop) : Gd true s w K = s K := Eq.trans rfl rfl
theorem eU (s : (ahB -> ahA -> Prop) -> Prop) (w : ahA) (K : ahB -> ahA -> Prop) : Gd false s w K = K undef w := Eq.trans rfl rfl
theorem fB (p : Prop) : Gs true p = p := Eq.trans rfl rfl
theorem eX (p : Prop) : Gs false p = True := Eq.trans rfl rfl
theorem fE : kE (.bool true) true = true := Eq.trans rfl rfl
theorem fF : kE (.bool true) false = false := Eq.trans rfl rfl
theorem fG : kE (.bool false) true = false := Eq.trans rfl rfl
theorem fD : kE (.bool false) false = true := Eq.trans rfl rfl
def iB : Operand := .tmp 0
theorem lN {c : Code} {kn kr : Env -> ahA -> Prop} {l : List (Nat × (Env -> ahA -> Prop))} {Q : Exit -> Env -> ahA -> Prop} {g : Env} {w : ahA} {A : Prop}
 (h : A) (hn : ∀ g w, kn g w -> Q .normal g w) (hr : ∀ g w, kr g w -> Q .ret g w) (hl : Ut Q l) (e : A = iY P ann c (exQ kn kr l) g w := by kernel_rfl) : iY P ann c Q g w := X9 e h hn hr hl
theorem sW {Q : Exit -> Env -> ahA -> Prop} (n : Nat) {c : Code} {g : Env} {w : ahA}
 (hd : iY P ann (gX n c) (zX (fun g w => iY P ann (gK n c) Q g w) Q) g w) (h : TF n c = true := by kernel_rfl) : iY P ann c Q g w := VI n c g w h hd
theorem Oq {Q : Exit -> Env -> ahA -> Prop} (id : Nat) {c : Code} {g : Env} {w : ahA} (hd : iY P ann (bI c) (X0 id Q) g w) (h : YQ id c = true := by kernel_rfl) : iY P ann c Q g w := Yd id c g w h hd
theorem scD {Q : Exit -> Env -> ahA -> Prop} {c : Code} {g : Env} {w : ahA} (hd : iY P ann (bI c) Q g w) (h : YT c = true := by kernel_rfl) : iY P ann c Q g w := X5 c g w h hd
theorem cdD {Q : Exit -> Env -> ahA -> Prop} (o : Operand) {c : Code} {g : Env} {w : ahA} {A B : Prop} (ha : A -> iY P ann (cT c) Q g w) (hb : B -> iY P ann (cE c) Q g w) (hd : mC (ev g o) A B) (h : WM c = some o := by kernel_rfl) : iY P ann c Q g w :=
 Yi o c g w h (WK ha hb hd)
theorem OW {T : Type} (proj : Env -> T) (F : (T -> ahA -> Prop) -> T -> ahA -> Prop) {c : Code} {Q : Exit -> Env -> ahA -> Prop} {g : Env} {w : ahA}
 (h : kJ F (proj g) w)
 (hF : ∀ (X : T -> ahA -> Prop) g' w', mT (Kv (bI c)) g g' -> F X (proj g') w' -> iY P ann (bI c) (zX (fun g'' w'' => X (proj g'') w'') Q) g' w') (hl : Wn c = true := by kernel_rfl) : iY P ann c Q g w := VK proj F c hl h hF
theorem qI {l : List Nat} {g g' : Env} (s : Nat) (h : mT l g g') (hs : pP s l = false := by kernel_rfl) : g' s = g s := WR h hs
theorem xB {ann : FA} (fn : Func) (c : Code) (args : List ahB) (rs : List ResultVar) (N : Nat) {f : FuncId} {w : ahA} {R : ahB -> ahA -> Prop} (hm : P.follows .mixedOrders = true)
 (hf : P.funcs[f]? = some fn) (h : iY P ann c (aaB P rs R) (NJ args) w) (hAf : ann.f = f := by kernel_rfl) (hb : fn.body = some c := by kernel_rfl) (hrs : fn.results = rs.toArray := by kernel_rfl) (hN : fn.ntmps = N := by kernel_rfl) (hle : Nat.ble args.length N = true := by kernel_rfl)
 (hok : codeOk P N ann c = true := by kernel_rfl) (hro : rs.all QM = true := by kernel_rfl) (hND : Nat.ble N DS = true := by kernel_rfl) (hfl : rL c = true := by kernel_rfl) : gT P f args.toArray w R :=
 SZ hm hAf hf hb hrs hN (afC hle) hok hro hND hfl h
def Qd : Code -> Option (Operand × Array Tmp × Code × Code)
 | .rangeFunc g ps acH bd => some (g, ps, acH, bd)
 | .seq a b => (match Qd a with | some r => some r | none => Qd b)
 | .cond _ a b => (match Qd a with | some r => some r | none => Qd b)
 | .block _ c => Qd c
 | .loop c => Qd c
 | .scope c => Qd c
 | _ => none
def V0 (c : Code) : Array Tmp := match Qd c with | some (_, ps, _) => ps | none => #[]
def Vx (c : Code) : Code := match Qd c with | some (_, _, acH, _) => acH | none => .skip
def Tw (c : Code) : Code := match Qd c with | some (_, _, _, bd) => bd | none => .skip
def Rdy (l : Nat) (w : ahA) (K : ahA -> Prop) : Prop := ∃ r : Loop, w.heap[l]? = some (.loop r) /\ r.state = .ready /\ K (w.putObj l (.loop { r with state := .busy }))
def jSt : Option Code -> LoopState
 | none => .ready
 | some _ => .done
def RY (l : Nat) (j : Option Code) (R : ahB -> ahA -> Prop) (w : ahA) : Prop :=
 ∃ r : Loop, w.heap[l]? = some (.loop r) /\ R (.bool j.isNone) (w.putObj l (.loop { r with state := jSt j, pending := j }))
theorem dsF {ann : FA} (fn : Func) (c : Code) (args : List ahB) (rs : List ResultVar) (N : Nat) {f : FuncId} {w : ahA} {R : ahB -> ahA -> Prop} (hm : P.follows .mixedOrders = true)
 (hf : P.funcs[f]? = some fn) (h : iY P ann c (Zj P rs R) (NJ args) w) (hAf : ann.f = f := by kernel_rfl) (hb : fn.body = some c := by kernel_rfl) (hrs : fn.results = rs.toArray := by kernel_rfl) (hN : fn.ntmps = N := by kernel_rfl) (hle : Nat.ble args.length N = true := by kernel_rfl)
 (hok : codeOk P N ann c = true := by kernel_rfl) (hro : rs.all QM = true := by kernel_rfl) (hND : Nat.ble N DS = true := by kernel_rfl) : gT P f args.toArray w R :=
 L9 hm hAf hf hb hrs hN (afC hle) hok hro hND h
theorem dsR {ann : FA} (N : Nat) {f : FuncId} {l : Nat} {tmps : Array ahB} {acH bd : Code} {w : ahA} {R : ahB -> ahA -> Prop} (hm : P.follows .mixedOrders = true) (hsz : tmps.size = N)
 (h : iY P ann acH (asQ P ann l bd R) (KB tmps) w) (hN : MZ P f = N) (hok1 : codeOk P N ann acH = true) (hok2 : codeOk P N ann bd = true) (hAf : ann.f = f := by kernel_rfl) (hND : Nat.ble N DS = true := by kernel_rfl)
 (hf1 : rL acH = true := by kernel_rfl) (hf2 : rL bd = true := by kernel_rfl) : QH P l f tmps acH bd w R :=
 Q4 hm hAf hN hND hsz hok1 hf1 hok2 hf2 h
end
end Go.En
namespace Go.Proofs.YteelnmpbnaohpaaDoor
open Go Go.En
noncomputable abbrev pg : Program := Tryd.prog
theorem TrydM.mixed : pg.follows .mixedOrders = true := Tryd.checked.mixed
abbrev K0 := ahA -> Prop
abbrev K1 := ahB -> K0
abbrev K2 := ahB -> K1
abbrev K3 := ahB -> K2
abbrev K4 := ahB -> K3
abbrev K5 := ahB -> K4
abbrev K6 := ahB -> K5
abbrev K7 := ahB -> K6
abbrev K8 := ahB -> K7
abbrev K9 := ahB -> K8
abbrev K10 := ahB -> K9
abbrev K11 := ahB -> K10
abbrev HQ := ahB -> K11
abbrev K13 := ahB -> HQ
abbrev ZJ := ahB -> K13
abbrev HR (rs : List ResultVar) (R : K1) (Q : Exit -> Env -> ahA -> Prop) : Prop := ∀ g w, (qC pg rs g w fun vs => R (PX vs) w) -> Q .ret g w
abbrev HRF (rs : List ResultVar) (R : K1) (Q : Exit -> Env -> ahA -> Prop) : Prop := ∀ g w, (CT (g DS) w fun w => qC pg rs g w fun vs => R (PX vs) w) -> Q .ret g w
abbrev no : Env -> ahA -> Prop := fun _ _ => False
theorem mH {Q : Env -> ahA -> Prop} : ∀ g w, no g w -> Q g w := fun _ _ h => h.elim
abbrev AV : FuncId := 6
abbrev BU : FuncId := 7
abbrev Cj : FuncId := 8
abbrev BQ : FuncId := 9
abbrev rY : FuncId := 10
abbrev kI : FuncId := 11
abbrev lO : FuncId := 12
abbrev lU : FuncId := 13
abbrev oU : FuncId := 14
abbrev lH : FuncId := 15
abbrev kY : FuncId := 16
abbrev oY : FuncId := 17
abbrev xI : FuncId := 18
abbrev jJ : FuncId := 19
abbrev lK : FuncId := 20
abbrev rP : FuncId := 21
abbrev qE : FuncId := 22
abbrev sU : FuncId := 23
abbrev pT : FuncId := 24
abbrev qU : FuncId := 25
abbrev nD : FuncId := 26
abbrev mM : FuncId := 27
abbrev zP : FuncId := 28
abbrev nK : FuncId := 29
abbrev pV : FuncId := 30
abbrev oE : FuncId := 31
abbrev xF : FuncId := 32
abbrev oC : FuncId := 33
abbrev oH : FuncId := 34
abbrev nM : FuncId := 35
abbrev mP : FuncId := 36
abbrev sL : FuncId := 37
abbrev nI : FuncId := 38
abbrev lA : FuncId := 39
abbrev Bz : FuncId := 40
abbrev uD : FuncId := 41
abbrev oT : FuncId := 42
abbrev oL : FuncId := 43
abbrev JD : FuncId := 44
abbrev pZ : FuncId := 45
abbrev tY : FuncId := 46
abbrev sS : FuncId := 47
abbrev rV : FuncId := 48
abbrev lF : FuncId := 49
abbrev BV : FuncId := 50
abbrev sB : FuncId := 51
abbrev Az : FuncId := 52
abbrev J6 : FuncId := 53
abbrev mJ : FuncId := 54
abbrev AY : FuncId := 55
abbrev Rd : FuncId := 56
abbrev wQ : FuncId := 57
abbrev wB : FuncId := 58
abbrev rW : FuncId := 59
abbrev mR : FuncId := 60
abbrev qS : FuncId := 61
abbrev sG : FuncId := 62
abbrev lV : FuncId := 63
abbrev Mg : FuncId := 64
abbrev oB : FuncId := 65
abbrev vT : FuncId := 66
abbrev mQ : FuncId := 67
abbrev pR : FuncId := 68
abbrev M9 : FuncId := 69
abbrev Bu : FuncId := 70
abbrev DM : FuncId := 71
abbrev Er : FuncId := 72
abbrev AI : FuncId := 73
abbrev jS : FuncId := 74
abbrev N0 (Q : Exit -> Env -> ahA -> Prop) (k : K0) : Prop := ∀ g w, k w -> Q .normal g w
abbrev E0 (Q : Exit -> Env -> ahA -> Prop) (k : K0) (x0 : Nat) : Prop := ∀ g w, k w -> Q (.exit x0) g w
abbrev N1 (Q : Exit -> Env -> ahA -> Prop) (k : K1) (a_ : Nat) : Prop := ∀ g w, k (g a_) w -> Q .normal g w
abbrev E1 (Q : Exit -> Env -> ahA -> Prop) (k : K1) (x0 : Nat) (a_ : Nat) : Prop := ∀ g w, k (g a_) w -> Q (.exit x0) g w
abbrev N2 (Q : Exit -> Env -> ahA -> Prop) (k : K2) (a_ b_ : Nat) : Prop := ∀ g w, k (g a_) (g b_) w -> Q .normal g w
abbrev E2 (Q : Exit -> Env -> ahA -> Prop) (k : K2) (x0 : Nat) (a_ b_ : Nat) : Prop := ∀ g w, k (g a_) (g b_) w -> Q (.exit x0) g w
abbrev N3 (Q : Exit -> Env -> ahA -> Prop) (k : K3) (a_ b_ c_ : Nat) : Prop := ∀ g w, k (g a_) (g b_) (g c_) w -> Q .normal g w
abbrev E3 (Q : Exit -> Env -> ahA -> Prop) (k : K3) (x0 : Nat) (a_ b_ c_ : Nat) : Prop := ∀ g w, k (g a_) (g b_) (g c_) w -> Q (.exit x0) g w
abbrev N4 (Q : Exit -> Env -> ahA -> Prop) (k : K4) (a_ b_ c_ d_ : Nat) : Prop := ∀ g w, k (g a_) (g b_) (g c_) (g d_) w -> Q .normal g w
abbrev N5 (Q : Exit -> Env -> ahA -> Prop) (k : K5) (a_ b_ c_ d_ e_ : Nat) : Prop := ∀ g w, k (g a_) (g b_) (g c_) (g d_) (g e_) w -> Q .normal g w
abbrev N6 (Q : Exit -> Env -> ahA -> Prop) (k : K6) (a_ b_ c_ d_ e_ f_ : Nat) : Prop := ∀ g w, k (g a_) (g b_) (g c_) (g d_) (g e_) (g f_) w -> Q .normal g w
abbrev N7 (Q : Exit -> Env -> ahA -> Prop) (k : K7) (a_ b_ c_ d_ e_ f_ g_ : Nat) : Prop := ∀ g w, k (g a_) (g b_) (g c_) (g d_) (g e_) (g f_) (g g_) w -> Q .normal g w
abbrev N11 (Q : Exit -> Env -> ahA -> Prop) (k : K11) (a_ b_ c_ d_ e_ f_ g_ h_ i_ j_ k_ : Nat) : Prop := ∀ g w, k (g a_) (g b_) (g c_) (g d_) (g e_) (g f_) (g g_) (g h_) (g i_) (g j_) (g k_) w -> Q .normal g w
abbrev N12 (Q : Exit -> Env -> ahA -> Prop) (k : HQ) (a_ b_ c_ d_ e_ f_ g_ h_ i_ j_ k_ l_ : Nat) : Prop := ∀ g w, k (g a_) (g b_) (g c_) (g d_) (g e_) (g f_) (g g_) (g h_) (g i_) (g j_) (g k_) (g l_) w -> Q .normal g w
abbrev E12 (Q : Exit -> Env -> ahA -> Prop) (k : HQ) (x0 : Nat) (a_ b_ c_ d_ e_ f_ g_ h_ i_ j_ k_ l_ : Nat) : Prop := ∀ g w, k (g a_) (g b_) (g c_) (g d_) (g e_) (g f_) (g g_) (g h_) (g i_) (g j_) (g k_) (g l_) w -> Q (.exit x0) g w
abbrev N13 (Q : Exit -> Env -> ahA -> Prop) (k : K13) (a_ b_ c_ d_ e_ f_ g_ h_ i_ j_ k_ l_ m_ : Nat) : Prop := ∀ g w, k (g a_) (g b_) (g c_) (g d_) (g e_) (g f_) (g g_) (g h_) (g i_) (g j_) (g k_) (g l_) (g m_) w -> Q .normal g w
abbrev N14 (Q : Exit -> Env -> ahA -> Prop) (k : ZJ) (a_ b_ c_ d_ e_ f_ g_ h_ i_ j_ k_ l_ m_ n_ : Nat) : Prop := ∀ g w, k (g a_) (g b_) (g c_) (g d_) (g e_) (g f_) (g g_) (g h_) (g i_) (g j_) (g k_) (g l_) (g m_) (g n_) w -> Q .normal g w
abbrev ahC (n_ : Int) : ahB := .int .i64 n_
end Go.Proofs.YteelnmpbnaohpaaDoor
namespace Go.Proofs.YteelnmpbnaohpaaDoor
open Go Go.En
set_option maxRecDepth 20000
attribute [local irreducible] Go.En.iY
variable (Q : Exit -> Env -> ahA -> Prop) (g : Env) (w : ahA)
def iH : FA := ⟨AV, fun i => match Nat.beq i 22 with | true => .leaf ([], []) [(false, []), (false, []), (false, []), (false, []), (false, []), (false, []), (false, []), (false, []), (false, []), (false, [])] | false => .leaf ([], []) []⟩
def jW : List ResultVar := [.tmp 12]
noncomputable def iE : Code := jB Tryd.f6
def sJ (R : K1)  (w : ahA) : Prop :=
 R (.bool true) w
theorem Il (R : K1) (hr : HR jW R Q) (h : sJ R w) : iY pg iH (gK 1 (gK 13 iE)) Q g w :=
 lN (kn := no) (l := []) h mH hr trivial
def pC (kn : HQ) (iX hU gY gW hZ jX jP jU jM d3 gS jV : ahB) (w : ahA) : Prop :=
 eY pg (gO .add 3 iB iB jV (ahC 1)) w fun o8 w =>
 kn iX hU gY gW hZ jX jP jU jM d3 gS o8 w
theorem Ic (kn : HQ) (hn : N12 Q kn 0 1 3 4 5 14 15 17 21 23 24 25) (h : pC kn (g 0) (g 1) (g 3) (g 4) (g 5) (g 14) (g 15) (g 17) (g 21) (g 23) (g 24) (g 25) w) : iY pg iH (gK 1 (gK 1 (bI (bI (gK 1 (gX 1 (gK 13 iE))))))) Q g w :=
 lN (kr := no) (l := []) h hn mH trivial
def sR (kn : ZJ) (k2 : HQ) (R : K1) (iX hU gY gW hZ jX jP jU jM d3 gS jV FU H4 : ahB) (w : ahA) : Prop :=
 eY pg (mV .len #[45] 3 [d3]) w fun t215 w =>
 eY pg (gO .lss 3 iB iB H4 t215) w fun t216 w =>
 mC t216
  (eY pg (iK 45 d3 H4) w fun t221 w =>
  eY pg (gJ 4 t221) w fun t222 w =>
  Gd (kE t222 true) (fun K => K FU w) w fun t224 w =>
  Gd (kE t222 true) (fun K => K H4 w) w fun t225 w =>
  Gd (kE t222 true) (fun K => eY pg (iK 45 t224 t225) w K) w fun t226 w =>
  Gd (kE t222 true) (fun K => eY pg (gJ 4 t226) w K) w fun t227 w =>
  Gd (kE t222 true) (fun K => eY pg (KO .not t227) w K) w fun t228 w =>
  eY pg (lD t222 t228 (.bool false)) w fun t229 w =>
  mC t229
   (R (.bool false) w)
   (eY pg (gO .add 3 iB iB H4 (ahC 1)) w fun t218 w =>
   kn iX hU gY gW hZ jX jP jU jM d3 gS jV FU t218 w))
  (k2 iX hU gY gW hZ jX jP jU jM d3 gS jV w)
theorem H5 (kn : ZJ) (k2 : HQ) (R : K1) (hn : N14 Q kn 0 1 3 4 5 14 15 17 21 23 24 25 32 33) (h2 : E12 Q k2 2 0 1 3 4 5 14 15 17 21 23 24 25) (hr : HR jW R Q) (h : sR kn k2 R (g 0) (g 1) (g 3) (g 4) (g 5) (g 14) (g 15) (g 17) (g 21) (g 23) (g 24) (g 25) (g 32) (g 33) w) : iY pg iH (bI (bI (gK 10 (gK 1 (gK 1 (bI (gX 1 (gK 1 (bI (bI (gK 1 (gX 1 (gK 13 iE))))))))))))) Q g w :=
 lN (l := [(2, fun g w => k2 (g 0) (g 1) (g 3) (g 4) (g 5) (g 14) (g 15) (g 17) (g 21) (g 23) (g 24) (g 25) w)]) h hn hr ⟨h2, trivial⟩
def xS (k2 : HQ) (R : K1) (iX hU gY gW hZ jX jP jU jM d3 gS jV FU H4 : ahB) (w : ahA) : Prop :=
 kJ (fun (X : ahB -> K0) (t : ahB) (w : ahA) => sR (fun _ _ _ _ _ _ _ _ _ _ _ _ _ H4 w => X H4 w) k2 R iX hU gY gW hZ jX jP jU jM d3 gS jV FU t w) H4 w
theorem IP (k2 : HQ) (R : K1) (h2 : E12 Q k2 2 0 1 3 4 5 14 15 17 21 23 24 25) (hr : HR jW R Q) (h : xS k2 R (g 0) (g 1) (g 3) (g 4) (g 5) (g 14) (g 15) (g 17) (g 21) (g 23) (g 24) (g 25) (g 32) (g 33) w) : iY pg iH (bI (gK 10 (gK 1 (gK 1 (bI (gX 1 (gK 1 (bI (bI (gK 1 (gX 1 (gK 13 iE)))))))))))) Q g w := by
 refine OW (fun g : Env => g 33) (fun X t w => sR (fun _ _ _ _ _ _ _ _ _ _ _ _ _ H4 w => X H4 w) k2 R (g 0) (g 1) (g 3) (g 4) (g 5) (g 14) (g 15) (g 17) (g 21) (g 23) (g 24) (g 25) (g 32) t w) h (fun X g1 w1 ha hL => ?_)
 rw [<- qI 0 ha, <- qI 1 ha, <- qI 3 ha, <- qI 4 ha, <- qI 5 ha, <- qI 14 ha, <- qI 15 ha, <- qI 17 ha, <- qI 21 ha, <- qI 23 ha, <- qI 24 ha, <- qI 25 ha, <- qI 32 ha] at hL
 exact (H5 _ g1 w1 (fun _ _ _ _ _ _ _ _ _ _ _ _ _ H4 w => X H4 w) k2 R (fun _ _ h => h) h2 hr hL)
def yZ (kn : HQ) (R : K1) (iX hU gY gW hZ jX jP jU jM d3 gS jV FU H4 : ahB) (w : ahA) : Prop :=
 xS kn R iX hU gY gW hZ jX jP jU jM d3 gS jV FU H4 w
def yO (kn : ZJ) (k1 : HQ) (R : K1) (iX hU gY gW hZ jX jP jU jM d3 gS jV : ahB) (w : ahA) : Prop :=
 gT pg lO #[jM] w fun v8 w =>
 eY pg (mV .len #[22] 3 [gW]) w fun x1 w =>
 eY pg (gO .geq 3 iB iB jV x1) w fun x2 w =>
 Gd (kE x2 true) (fun K => K jM w) w fun x4 w =>
 Gd (kE x2 true) (fun K => gT pg lK #[x4] w K) w fun x5 w =>
 Gd (kE x2 true) (fun K => eY pg (gO .eql 29 (.tmp 165) (.const (ahC 0)) x5 (ahC 0)) w K) w fun x6 w =>
 eY pg (lD x2 x6 (.bool false)) w fun x7 w =>
 mC x7
  (k1 iX hU gY gW hZ jX jP jU jM d3 gS jV w)
  (gT pg qE #[jU, hZ] w fun y0 w =>
  eY pg (gJ 28 jP) w fun y3 w =>
  gT pg rY #[jU, (.string ⟨#[102]⟩), y3] w fun y4 w =>
  eY pg (iZ y4 0) w fun y5 w =>
  eY pg (iZ y4 1) w fun y6 w =>
  gT pg lU #[jU, (.string ⟨#[102]⟩)] w fun y9 w =>
  eY pg (iZ y9 0) w fun z0 w =>
  eY pg (iZ y9 1) w fun z1 w =>
  eY pg (gO .neq 29 (.tmp 182) (.const (ahC 0)) y6 (ahC 0)) w fun z3 w =>
  Gd (kE z3 false) (fun K => K z1 w) w fun z5 w =>
  Gd (kE z3 false) (fun K => eY pg (gO .neq 29 (.tmp 185) (.const (ahC 0)) z5 (ahC 0)) w K) w fun z6 w =>
  eY pg (lD z3 (.bool true) z6) w fun z7 w =>
  Gd (kE z7 false) (fun K => K y5 w) w fun z9 w =>
  Gd (kE z7 false) (fun K => gT pg lH #[z9] w K) w fun t190 w =>
  Gd (kE z7 false) (fun K => K gS w) w fun t191 w =>
  Gd (kE z7 false) (fun K => eY pg (gO .leq 24 iB iB t190 t191) w K) w fun t192 w =>
  eY pg (lD z7 (.bool true) t192) w fun t193 w =>
  Gd (kE t193 false) (fun K => K z0 w) w fun t195 w =>
  Gd (kE t193 false) (fun K => eY pg (lL 22 9 t195) w K) w fun t196 w =>
  Gd (kE t193 false) (fun K => K iX w) w fun t197 w =>
  Gd (kE t193 false) (fun K => eY pg (lL 22 9 t197) w K) w fun t198 w =>
  Gd (kE t193 false) (fun K => eY pg (gO .neq 9 (.tmp 196) (.tmp 198) t196 t198) w K) w fun t199 w =>
  Gd (kE t193 false) (fun K => K t199 w) w fun t200 w =>
  Gd (kE t200 true) (fun K => K z0 w) w fun t201 w =>
  Gd (kE t200 true) (fun K => eY pg (lL 22 9 t201) w K) w fun t202 w =>
  Gd (kE t200 true) (fun K => K hU w) w fun t203 w =>
  Gd (kE t200 true) (fun K => eY pg (lL 22 9 t203) w K) w fun t204 w =>
  Gd (kE t200 true) (fun K => eY pg (gO .neq 9 (.tmp 202) (.tmp 204) t202 t204) w K) w fun t205 w =>
  Gd (kE t193 false) (fun K => eY pg (lD t200 t205 (.bool false)) w K) w fun t206 w =>
  eY pg (lD t193 (.bool true) t206) w fun t207 w =>
  mC t207
   (R (.bool false) w)
   (gT pg lH #[y5] w fun t210 w =>
   gT pg oY #[y5] w fun t212 w =>
   kn iX hU gY gW hZ jX jP jU y5 d3 t210 jV t212 (ahC 0) w))
theorem IY (kn : ZJ) (k1 : HQ) (R : K1) (hn : N14 Q kn 0 1 3 4 5 14 15 17 21 23 24 25 32 33) (h1 : E12 Q k1 1 0 1 3 4 5 14 15 17 21 23 24 25) (hr : HR jW R Q) (h : yO kn k1 R (g 0) (g 1) (g 3) (g 4) (g 5) (g 14) (g 15) (g 17) (g 21) (g 23) (g 24) (g 25) w) : iY pg iH (gX 10 (gK 1 (gK 1 (bI (gX 1 (gK 1 (bI (bI (gK 1 (gX 1 (gK 13 iE))))))))))) Q g w :=
 lN (l := [(1, fun g w => k1 (g 0) (g 1) (g 3) (g 4) (g 5) (g 14) (g 15) (g 17) (g 21) (g 23) (g 24) (g 25) w)]) h hn hr ⟨h1, trivial⟩
def sI (kn : HQ) (k1 : HQ) (R : K1) (iX hU gY gW hZ jX jP jU jM d3 gS jV : ahB) (w : ahA) : Prop :=
 yO (fun iX hU gY gW hZ jX jP jU jM d3 gS jV FU H4 w => yZ kn R iX hU gY gW hZ jX jP jU jM d3 gS jV FU H4 w) k1 R iX hU gY gW hZ jX jP jU jM d3 gS jV w
def pA (kn : HQ) (iX hU gY gW hZ jX jP jU jM d3 gS jV TV d7 : ahB) (w : ahA) : Prop :=
 eY pg (gO .mul 3 iB iB jX TV) w fun u9 w =>
 eY pg (mG 22 hU (some u9) (some d7) none) w fun v1 w =>
 gT pg kI #[jM, TV, v1] w fun v2 w =>
 eY pg (gO .eql 29 (.tmp 152) (.const (ahC 0)) v2 (ahC 0)) w fun v3 w =>
 mC v3
  (eY pg (iK 45 d3 TV) w fun v6 w =>
  eY pg (iG 4 v6 (.bool true)) w fun _u w =>
  kn iX hU gY gW hZ jX jP jU jM d3 gS jV w)
  (kn iX hU gY gW hZ jX jP jU jM d3 gS jV w)
theorem II (kn : HQ) (hn : N12 Q kn 0 1 3 4 5 14 15 17 21 23 24 25) (h : pA kn (g 0) (g 1) (g 3) (g 4) (g 5) (g 14) (g 15) (g 17) (g 21) (g 23) (g 24) (g 25) (g 26) (g 27) w) : iY pg iH (gK 3 (cT (gK 1 (gX 1 (gK 1 (bI (gX 1 (gK 1 (bI (bI (gK 1 (gX 1 (gK 13 iE))))))))))))) Q g w :=
 lN (kr := no) (l := []) h hn mH trivial
def zE (kn : ZJ) (iX hU gY gW hZ jX jP jU jM d3 gS jV : ahB) (w : ahA) : Prop :=
 (dr w) = (dr w) /\
 (dr w) = (dr w) /\
 eY pg (iK 22 gY jV) (dr w) fun q7 w_ => w_ = (dr w) /\
 eY pg (gJ 5 q7) (dr w) fun q8 w_ => w_ = (dr w) /\
 eY pg (lL 5 3 q8) (dr w) fun q9 w_ => w_ = (dr w) /\
 eY pg (gM 28 jP 2) (dr w) fun s0 w_ => w_ = (dr w) /\
 eY pg (gJ 26 s0) (dr w) fun s1 w_ => w_ = (dr w) /\
 eY pg (mV .len #[26] 3 [s1]) (dr w) fun s2 w_ => w_ = (dr w) /\
 eY pg (gO .rem 3 iB iB q9 s2) (dr w) fun s3 w_ => w_ = (dr w) /\
 (dr w) = (dr w) /\
 eY pg (gO .add 3 iB iB s3 (ahC 1)) (dr w) fun s6 w =>
 eY pg (gO .mul 3 iB iB jX s6) w fun s7 w =>
 eY pg (mV .len #[22] 3 [hU]) w fun u0 w =>
 eY pg (gO .gtr 3 iB iB s7 u0) w fun u1 w =>
 mC u1
  (eY pg (mV .len #[22] 3 [hU]) w fun u3 w =>
  kn iX hU gY gW hZ jX jP jU jM d3 gS jV s3 u3 w)
  (kn iX hU gY gW hZ jX jP jU jM d3 gS jV s3 s7 w)
theorem IK (kn : ZJ) (hn : N14 Q kn 0 1 3 4 5 14 15 17 21 23 24 25 26 27) (h : zE kn (g 0) (g 1) (g 3) (g 4) (g 5) (g 14) (g 15) (g 17) (g 21) (g 23) (g 24) (g 25) w) : iY pg iH (gX 3 (cT (gK 1 (gX 1 (gK 1 (bI (gX 1 (gK 1 (bI (bI (gK 1 (gX 1 (gK 13 iE))))))))))))) Q g w :=
 lN (kr := no) (l := []) h hn mH trivial
def C4 (kn : HQ) (iX hU gY gW hZ jX jP jU jM d3 gS jV : ahB) (w : ahA) : Prop :=
 zE (fun iX hU gY gW hZ jX jP jU jM d3 gS jV TV d7 w => pA kn iX hU gY gW hZ jX jP jU jM d3 gS jV TV d7 w) iX hU gY gW hZ jX jP jU jM d3 gS jV w
def wY (kn : HQ) (iX hU gY gW hZ jX jP jU jM d3 gS jV : ahB) (w : ahA) : Prop :=
 kn iX hU gY gW hZ jX jP jU jM d3 gS jV w
theorem Hs (kn : HQ) (hn : N12 Q kn 0 1 3 4 5 14 15 17 21 23 24 25) (h : wY kn (g 0) (g 1) (g 3) (g 4) (g 5) (g 14) (g 15) (g 17) (g 21) (g 23) (g 24) (g 25) w) : iY pg iH (cE (gK 1 (gX 1 (gK 1 (bI (gX 1 (gK 1 (bI (bI (gK 1 (gX 1 (gK 13 iE)))))))))))) Q g w :=
 lN (kr := no) (l := []) h hn mH trivial
def xA (kn : HQ) (iX hU gY gW hZ jX jP jU jM d3 gS jV q4 : ahB) (w : ahA) : Prop :=
 mC q4 (C4 kn iX hU gY gW hZ jX jP jU jM d3 gS jV w) (wY kn iX hU gY gW hZ jX jP jU jM d3 gS jV w)
def wE (kn : K13) (iX hU gY gW hZ jX jP jU jM d3 gS jV : ahB) (w : ahA) : Prop :=
 eY pg (gM 28 jP 2) w fun q1 w =>
 eY pg (gJ 26 q1) w fun q2 w =>
 eY pg (mV .len #[26] 3 [q2]) w fun q3 w =>
 eY pg (gO .gtr 3 iB iB q3 (ahC 0)) w fun q4 w =>
 kn iX hU gY gW hZ jX jP jU jM d3 gS jV q4 w
theorem GW (kn : K13) (hn : N13 Q kn 0 1 3 4 5 14 15 17 21 23 24 25 124) (h : wE kn (g 0) (g 1) (g 3) (g 4) (g 5) (g 14) (g 15) (g 17) (g 21) (g 23) (g 24) (g 25) w) : iY pg iH (gX 1 (gX 1 (gK 1 (bI (gX 1 (gK 1 (bI (bI (gK 1 (gX 1 (gK 13 iE))))))))))) Q g w :=
 lN (kr := no) (l := []) h hn mH trivial
def qT (kn : HQ) (iX hU gY gW hZ jX jP jU jM d3 gS jV : ahB) (w : ahA) : Prop :=
 wE (fun iX hU gY gW hZ jX jP jU jM d3 gS jV q4 w => xA kn iX hU gY gW hZ jX jP jU jM d3 gS jV q4 w) iX hU gY gW hZ jX jP jU jM d3 gS jV w
def qP (kn : HQ) (k1 : HQ) (R : K1) (iX hU gY gW hZ jX jP jU jM d3 gS jV : ahB) (w : ahA) : Prop :=
 qT (fun iX hU gY gW hZ jX jP jU jM d3 gS jV w => sI kn k1 R iX hU gY gW hZ jX jP jU jM d3 gS jV w) iX hU gY gW hZ jX jP jU jM d3 gS jV w
theorem Hz (kn : HQ) (hn : N12 Q kn 0 1 3 4 5 14 15 17 21 23 24 25) (h : qT kn (g 0) (g 1) (g 3) (g 4) (g 5) (g 14) (g 15) (g 17) (g 21) (g 23) (g 24) (g 25) w) : iY pg iH (gX 1 (gK 1 (bI (gX 1 (gK 1 (bI (bI (gK 1 (gX 1 (gK 13 iE)))))))))) Q g w :=
 sW 1 (GW _ g w (xA kn) (fun g w h => iC (cdD (.tmp 124) (fun h => (sW 3 (IK _ g w (pA kn) (fun g w h => iC (II _ g w kn hn h)) h))) (fun h => (Hs _ g w kn hn h)) h)) h)
def wX (kn : HQ) (iX hU gY gW hZ jX jP jU jM d3 gS jV : ahB) (w : ahA) : Prop :=
 eY pg (mV .len #[22] 3 [gW]) w fun p1 w =>
 eY pg (gO .lss 3 iB iB jV p1) w fun p2 w =>
 mC p2
  (eY pg (iK 22 gW jV) w fun p6 w =>
  eY pg (gJ 5 p6) w fun p7 w =>
  eY pg (gO .and 5 iB iB p7 (.int .u8 15)) w fun p8 w =>
  eY pg (lL 5 3 p8) w fun p9 w =>
  gT pg rP #[jU, p9] w fun q0 w =>
  kn iX hU gY gW hZ jX jP jU jM d3 gS jV w)
  (kn iX hU gY gW hZ jX jP jU jM d3 gS jV w)
theorem GS (kn : HQ) (hn : N12 Q kn 0 1 3 4 5 14 15 17 21 23 24 25) (h : wX kn (g 0) (g 1) (g 3) (g 4) (g 5) (g 14) (g 15) (g 17) (g 21) (g 23) (g 24) (g 25) w) : iY pg iH (gX 1 (bI (gX 1 (gK 1 (bI (bI (gK 1 (gX 1 (gK 13 iE))))))))) Q g w :=
 lN (kr := no) (l := []) h hn mH trivial
def CX (kn : HQ) (k1 : HQ) (R : K1) (iX hU gY gW hZ jX jP jU jM d3 gS jV : ahB) (w : ahA) : Prop :=
 wX (fun iX hU gY gW hZ jX jP jU jM d3 gS jV w => qP kn k1 R iX hU gY gW hZ jX jP jU jM d3 gS jV w) iX hU gY gW hZ jX jP jU jM d3 gS jV w
def wZ (kn : HQ) (R : K1) (iX hU gY gW hZ jX jP jU jM d3 gS jV : ahB) (w : ahA) : Prop :=
 CX kn kn R iX hU gY gW hZ jX jP jU jM d3 gS jV w
def wH (kn : HQ) (R : K1) (iX hU gY gW hZ jX jP jU jM d3 gS jV : ahB) (w : ahA) : Prop :=
 wZ (fun iX hU gY gW hZ jX jP jU jM d3 gS jV w => pC kn iX hU gY gW hZ jX jP jU jM d3 gS jV w) R iX hU gY gW hZ jX jP jU jM d3 gS jV w
theorem G4 (kn : HQ) (R : K1) (hn : N12 Q kn 0 1 3 4 5 14 15 17 21 23 24 25) (hr : HR jW R Q) (h : wZ kn R (g 0) (g 1) (g 3) (g 4) (g 5) (g 14) (g 15) (g 17) (g 21) (g 23) (g 24) (g 25) w) : iY pg iH (gX 1 (gK 1 (bI (bI (gK 1 (gX 1 (gK 13 iE))))))) Q g w :=
 Oq 1 (sW 1 (GS _ g w (qP kn kn R) (fun g w h => iC (sW 1 (Hz _ g w (sI kn kn R) (fun g w h => iC (sW 10 (IY _ g w (yZ kn R) kn R (fun g w h => iC (Oq 2 (IP _ g w kn R hn hr h))) hn hr h))) h))) h))
def wD (kn : HQ) (k0 : K0) (iX hU gY gW hZ jX jP jU jM d3 gS jV : ahB) (w : ahA) : Prop :=
 eY pg (mV .len #[22] 3 [gY]) w fun o5 w =>
 eY pg (gO .lss 3 iB iB jV o5) w fun o6 w =>
 mC o6
  (kn iX hU gY gW hZ jX jP jU jM d3 gS jV w)
  (k0 w)
theorem HH (kn : HQ) (k0 : K0) (hn : N12 Q kn 0 1 3 4 5 14 15 17 21 23 24 25) (h0 : E0 Q k0 0) (h : wD kn k0 (g 0) (g 1) (g 3) (g 4) (g 5) (g 14) (g 15) (g 17) (g 21) (g 23) (g 24) (g 25) w) : iY pg iH (gX 1 (bI (bI (gK 1 (gX 1 (gK 13 iE)))))) Q g w :=
 lN (kr := no) (l := [(0, fun g w => k0 w)]) h hn mH ⟨h0, trivial⟩
def qV (kn : HQ) (k0 : K0) (R : K1) (iX hU gY gW hZ jX jP jU jM d3 gS jV : ahB) (w : ahA) : Prop :=
 wD (fun iX hU gY gW hZ jX jP jU jM d3 gS jV w => wH kn R iX hU gY gW hZ jX jP jU jM d3 gS jV w) k0 iX hU gY gW hZ jX jP jU jM d3 gS jV w
def wL (k0 : K0) (R : K1) (iX hU gY gW hZ jX jP jU jM d3 gS jV : ahB) (w : ahA) : Prop :=
 kJ (fun (X : (ahB × ahB × ahB) -> K0) (t : ahB × ahB × ahB) (w : ahA) => qV (fun _ _ _ _ _ _ _ _ jM _ gS jV w => X (jM, gS, jV) w) k0 R iX hU gY gW hZ jX jP jU t.1 d3 t.2.1 t.2.2 w) (jM, gS, jV) w
theorem GY (kn : HQ) (k0 : K0) (R : K1) (hn : N12 Q kn 0 1 3 4 5 14 15 17 21 23 24 25) (h0 : E0 Q k0 0) (hr : HR jW R Q) (h : qV kn k0 R (g 0) (g 1) (g 3) (g 4) (g 5) (g 14) (g 15) (g 17) (g 21) (g 23) (g 24) (g 25) w) : iY pg iH (bI (bI (gK 1 (gX 1 (gK 13 iE))))) Q g w :=
 sW 1 (HH _ g w (wH kn R) k0 (fun g w h => iC (sW 1 (G4 _ g w (pC kn) R (fun g w h => iC (Ic _ g w kn hn h)) hr h))) h0 h)
theorem Hb (k0 : K0) (R : K1) (h0 : E0 Q k0 0) (hr : HR jW R Q) (h : wL k0 R (g 0) (g 1) (g 3) (g 4) (g 5) (g 14) (g 15) (g 17) (g 21) (g 23) (g 24) (g 25) w) : iY pg iH (bI (gK 1 (gX 1 (gK 13 iE)))) Q g w := by
 refine OW (fun g : Env => (g 21, g 24, g 25)) (fun X t w => qV (fun _ _ _ _ _ _ _ _ jM _ gS jV w => X (jM, gS, jV) w) k0 R (g 0) (g 1) (g 3) (g 4) (g 5) (g 14) (g 15) (g 17) t.1 (g 23) t.2.1 t.2.2 w) h (fun X g1 w1 ha hL => ?_)
 rw [<- qI 0 ha, <- qI 1 ha, <- qI 3 ha, <- qI 4 ha, <- qI 5 ha, <- qI 14 ha, <- qI 15 ha, <- qI 17 ha, <- qI 23 ha] at hL
 exact (GY _ g1 w1 (fun _ _ _ _ _ _ _ _ jM _ gS jV w => X (jM, gS, jV) w) k0 R (fun _ _ h => h) h0 hr hL)
def wW (kn : K0) (R : K1) (iX hU gY gW hZ jX jP jU jM d3 gS jV : ahB) (w : ahA) : Prop :=
 wL kn R iX hU gY gW hZ jX jP jU jM d3 gS jV w
def wV (kn : HQ) (iX hU gY gW hZ jX jP jU jM d3 gS : ahB) (w : ahA) : Prop :=
 kn iX hU gY gW hZ jX jP jU jM d3 gS (ahC 0) w
theorem G9 (kn : HQ) (hn : N12 Q kn 0 1 3 4 5 14 15 17 21 23 24 25) (h : wV kn (g 0) (g 1) (g 3) (g 4) (g 5) (g 14) (g 15) (g 17) (g 21) (g 23) (g 24) w) : iY pg iH (gX 1 (gX 1 (gK 13 iE))) Q g w :=
 lN (kr := no) (l := []) h hn mH trivial
def wK (kn : K0) (R : K1) (iX hU gY gW hZ jX jP jU jM d3 gS : ahB) (w : ahA) : Prop :=
 wV (fun iX hU gY gW hZ jX jP jU jM d3 gS jV w => wW kn R iX hU gY gW hZ jX jP jU jM d3 gS jV w) iX hU gY gW hZ jX jP jU jM d3 gS w
def wP (R : K1) (iX hU gY gW hZ jX jP jU jM d3 gS : ahB) (w : ahA) : Prop :=
 wK (fun  w => sJ R w) R iX hU gY gW hZ jX jP jU jM d3 gS w
theorem GV (kn : K0) (R : K1) (hn : N0 Q kn) (hr : HR jW R Q) (h : wK kn R (g 0) (g 1) (g 3) (g 4) (g 5) (g 14) (g 15) (g 17) (g 21) (g 23) (g 24) w) : iY pg iH (gX 1 (gK 13 iE)) Q g w :=
 sW 1 (G9 _ g w (wW kn R) (fun g w h => iC (Oq 0 (Hb _ g w kn R hn hr h))) h)
def wC (kn : K11) (R : K1) (iX hU Tq gY gW hZ : ahB) (w : ahA) : Prop :=
 gT pg BU #[] w fun e4 w =>
 eY pg (KO .not e4) w fun e6 w =>
 mC e6
  (R (.bool false) w)
  (eY pg (mV .len #[22] 3 [iX]) w fun e8 w =>
  eY pg (gO .gtr 3 iB iB e8 (ahC 200)) w fun e9 w =>
  Gd (kE e9 false) (fun K => K hU w) w fun f1 w =>
  Gd (kE e9 false) (fun K => eY pg (mV .len #[22] 3 [f1]) w K) w fun f2 w =>
  Gd (kE e9 false) (fun K => eY pg (gO .gtr 3 iB iB f2 (ahC 200)) w K) w fun f3 w =>
  eY pg (lD e9 (.bool true) f3) w fun f4 w =>
  Gd (kE f4 false) (fun K => K gY w) w fun f6 w =>
  Gd (kE f4 false) (fun K => eY pg (mV .len #[22] 3 [f6]) w K) w fun f7 w =>
  Gd (kE f4 false) (fun K => eY pg (gO .gtr 3 iB iB f7 (ahC 30)) w K) w fun f8 w =>
  eY pg (lD f4 (.bool true) f8) w fun f9 w =>
  Gd (kE f9 false) (fun K => K gW w) w fun i1 w =>
  Gd (kE f9 false) (fun K => eY pg (mV .len #[22] 3 [i1]) w K) w fun i2 w =>
  Gd (kE f9 false) (fun K => eY pg (gO .gtr 3 iB iB i2 (ahC 8)) w K) w fun i3 w =>
  eY pg (lD f9 (.bool true) i3) w fun i4 w =>
  mC i4
   (R (.bool true) w)
   (eY pg (lL 5 3 Tq) w fun i6 w =>
   eY pg (gO .add 3 iB iB i6 (ahC 1)) w fun i7 w =>
   gT pg Cj #[hU, i7] w fun j1 w =>
   eY pg (iZ j1 0) w fun j2 w =>
   eY pg (iZ j1 1) w fun j3 w =>
   eY pg (lY 28) w fun jP w =>
   eY pg (iG 28 jP j2) w fun _u w =>
   gT pg BQ #[(ahC 100000)] w fun j5 w =>
   eY pg (iZ j5 0) w fun j6 w =>
   eY pg (iZ j5 1) w fun j7 w =>
   gT pg kY #[j6, (.string ⟨#[102]⟩), (ahC 0), iX] w fun l0 w =>
   gT pg jJ #[j6] w fun l2 w =>
   eY pg (gJ 28 jP) w fun l5 w =>
   gT pg rY #[j6, (.string ⟨#[102]⟩), l5] w fun l6 w =>
   eY pg (iZ l6 0) w fun l7 w =>
   eY pg (iZ l6 1) w fun l8 w =>
   eY pg (gO .neq 29 (.tmp 79) (.const (ahC 0)) j3 (ahC 0)) w fun m0 w =>
   Gd (kE m0 false) (fun K => K j7 w) w fun m2 w =>
   Gd (kE m0 false) (fun K => eY pg (gO .neq 29 (.tmp 82) (.const (ahC 0)) m2 (ahC 0)) w K) w fun m3 w =>
   eY pg (lD m0 (.bool true) m3) w fun m4 w =>
   Gd (kE m4 false) (fun K => K l0 w) w fun m6 w =>
   Gd (kE m4 false) (fun K => eY pg (gO .neq 29 (.tmp 86) (.const (ahC 0)) m6 (ahC 0)) w K) w fun m7 w =>
   eY pg (lD m4 (.bool true) m7) w fun m8 w =>
   Gd (kE m8 false) (fun K => K l2 w) w fun n0 w =>
   Gd (kE m8 false) (fun K => eY pg (gO .neq 29 (.tmp 90) (.const (ahC 0)) n0 (ahC 0)) w K) w fun n1 w =>
   eY pg (lD m8 (.bool true) n1) w fun n2 w =>
   Gd (kE n2 false) (fun K => K l8 w) w fun n4 w =>
   Gd (kE n2 false) (fun K => eY pg (gO .neq 29 (.tmp 94) (.const (ahC 0)) n4 (ahC 0)) w K) w fun n5 w =>
   eY pg (lD n2 (.bool true) n5) w fun n6 w =>
   mC n6
    (R (.bool false) w)
    (eY pg (gM 28 jP 2) w fun n7 w =>
    eY pg (gJ 26 n7) w fun n8 w =>
    eY pg (mV .len #[26] 3 [n8]) w fun n9 w =>
    eY pg (vK 45 n9 n9) w fun o0 w =>
    gT pg lH #[l7] w fun o2 w =>
    kn iX hU gY gW hZ i7 jP j6 l7 o0 o2 w)))
theorem Hl (kn : K11) (R : K1) (hn : N11 Q kn 0 1 3 4 5 14 15 17 21 23 24) (hr : HR jW R Q) (h : wC kn R (g 0) (g 1) (g 2) (g 3) (g 4) (g 5) w) : iY pg iH (gX 13 iE) Q g w :=
 lN (l := []) h hn hr trivial
def wJ (R : K1) (iX hU Tq gY gW hZ : ahB) (w : ahA) : Prop :=
 wC (fun iX hU gY gW hZ jX jP jU jM d3 gS w => wP R iX hU gY gW hZ jX jP jU jM d3 gS w) R iX hU Tq gY gW hZ w
theorem G3 (R : K1) (hr : HR jW R Q) (h : wJ R (g 0) (g 1) (g 2) (g 3) (g 4) (g 5) w) : iY pg iH iE Q g w :=
 sW 13 (Hl _ g w (wP R) R (fun g w h => iC (sW 1 (GV _ g w (fun  w => sJ R w) R (fun g w h => iC (Il _ g w R hr h)) hr h))) hr h)
def HO (a0 a1 a2 a3 a4 a5 : ahB) (w : ahA) (R : K1) : Prop :=
 wJ R a0 a1 a2 a3 a4 a5 w
theorem JC {a0 a1 a2 a3 a4 a5 : ahB} {w : ahA} {R : K1} (h : HO a0 a1 a2 a3 a4 a5 w R) : gT pg AV #[a0, a1, a2, a3, a4, a5] w R := by
 refine xB (ann := iH) Tryd.f6 iE [a0, a1, a2, a3, a4, a5] jW 230 TrydM.mixed Tryd.func6 ?_
 exact (G3 _ _ _ R (fun _ _ h => h) h)
def HL : FA := ⟨BU, fun i => .leaf ([], []) []⟩
def Jr : List ResultVar := [.tmp 0]
noncomputable def Gq : Code := jB Tryd.f7
def Dl (R : K1)  (w : ahA) : Prop :=
 gT pg BQ #[(ahC 1000)] w fun c4 w =>
 eY pg (iZ c4 0) w fun c5 w =>
 eY pg (iZ c4 1) w fun c6 w =>
 eY pg (iL 22 5 [(0, (.int .u8 97)), (1, (.int .u8 98)), (2, (.int .u8 99)), (3, (.int .u8 100)), (4, (.int .u8 101))]) w fun c8 w =>
 eY pg (lL 22 22 c8) w fun c9 w =>
 gT pg Cj #[c9, (ahC 2)] w fun d0 w =>
 eY pg (iZ d0 0) w fun d1 w =>
 eY pg (iZ d0 1) w fun d2 w =>
 eY pg (lY 28) w fun m_3 w =>
 eY pg (iG 28 m_3 d1) w fun _u w =>
 eY pg (gJ 28 m_3) w fun d5 w =>
 gT pg rY #[c5, (.string ⟨#[102]⟩), d5] w fun d6 w =>
 eY pg (iZ d6 0) w fun d7 w =>
 eY pg (iZ d6 1) w fun d8 w =>
 eY pg (gO .neq 29 (.tmp 29) (.const (ahC 0)) c6 (ahC 0)) w fun e0 w =>
 Gd (kE e0 false) (fun K => K d2 w) w fun e2 w =>
 Gd (kE e0 false) (fun K => eY pg (gO .neq 29 (.tmp 32) (.const (ahC 0)) e2 (ahC 0)) w K) w fun e3 w =>
 eY pg (lD e0 (.bool true) e3) w fun e4 w =>
 Gd (kE e4 false) (fun K => K d8 w) w fun e6 w =>
 Gd (kE e4 false) (fun K => eY pg (gO .neq 29 (.tmp 36) (.const (ahC 0)) e6 (ahC 0)) w K) w fun e7 w =>
 eY pg (lD e4 (.bool true) e7) w fun e8 w =>
 Gd (kE e8 false) (fun K => K d7 w) w fun f0 w =>
 Gd (kE e8 false) (fun K => eY pg (gO .eql 35 (.tmp 40) (.const (.pointer none)) f0 (.pointer none)) w K) w fun f1 w =>
 eY pg (lD e8 (.bool true) f1) w fun f2 w =>
 mC f2
  (R (.bool false) w)
  (eY pg (iL 22 2 [(0, (.int .u8 99)), (1, (.int .u8 100))]) w fun f4 w =>
  eY pg (lL 22 22 f4) w fun f5 w =>
  gT pg kI #[d7, (ahC 1), f5] w fun f6 w =>
  eY pg (iL 22 2 [(0, (.int .u8 120)), (1, (.int .u8 121))]) w fun f8 w =>
  eY pg (lL 22 22 f8) w fun f9 w =>
  gT pg kI #[d7, (ahC 0), f9] w fun i0 w =>
  gT pg lO #[d7] w fun i2 w =>
  eY pg (iL 22 2 [(0, (.int .u8 97)), (1, (.int .u8 98))]) w fun i4 w =>
  eY pg (lL 22 22 i4) w fun i5 w =>
  gT pg kI #[d7, (ahC 0), i5] w fun i6 w =>
  eY pg (iL 22 1 [(0, (.int .u8 101))]) w fun i8 w =>
  eY pg (lL 22 22 i8) w fun i9 w =>
  gT pg kI #[d7, (ahC 2), i9] w fun j0 w =>
  gT pg lO #[d7] w fun j2 w =>
  gT pg lU #[c5, (.string ⟨#[102]⟩)] w fun j5 w =>
  eY pg (iZ j5 0) w fun j6 w =>
  eY pg (iZ j5 1) w fun j7 w =>
  gT pg lH #[d7] w fun j9 w =>
  eY pg (gO .eql 24 (.tmp 69) (.const (.int .u64 1)) j9 (.int .u64 1)) w fun l0 w =>
  Gd (kE l0 true) (fun K => K f6 w) w fun l2 w =>
  Gd (kE l0 true) (fun K => eY pg (gO .eql 29 (.tmp 72) (.const (ahC 0)) l2 (ahC 0)) w K) w fun l3 w =>
  eY pg (lD l0 l3 (.bool false)) w fun l4 w =>
  Gd (kE l4 true) (fun K => K i0 w) w fun l6 w =>
  Gd (kE l4 true) (fun K => eY pg (gO .eql 29 (.tmp 76) (.const (ahC 13)) l6 (ahC 13)) w K) w fun l7 w =>
  eY pg (lD l4 l7 (.bool false)) w fun l8 w =>
  Gd (kE l8 true) (fun K => K i2 w) w fun m0 w =>
  Gd (kE l8 true) (fun K => eY pg (gO .eql 29 (.tmp 80) (.const (ahC 30)) m0 (ahC 30)) w K) w fun m1 w =>
  eY pg (lD l8 m1 (.bool false)) w fun m2 w =>
  Gd (kE m2 true) (fun K => K j2 w) w fun m4 w =>
  Gd (kE m2 true) (fun K => eY pg (gO .eql 29 (.tmp 84) (.const (ahC 0)) m4 (ahC 0)) w K) w fun m5 w =>
  eY pg (lD m2 m5 (.bool false)) w fun m6 w =>
  Gd (kE m6 true) (fun K => K j6 w) w fun m8 w =>
  Gd (kE m6 true) (fun K => eY pg (lL 22 9 m8) w K) w fun m9 w =>
  Gd (kE m6 true) (fun K => eY pg (gO .eql 9 (.tmp 89) (.const (.string ⟨#[97, 98, 99, 100, 101]⟩)) m9 (.string ⟨#[97, 98, 99, 100, 101]⟩)) w K) w fun n0 w =>
  eY pg (lD m6 n0 (.bool false)) w fun n1 w =>
  Gd (kE n1 true) (fun K => K j7 w) w fun n3 w =>
  Gd (kE n1 true) (fun K => eY pg (gO .eql 29 (.tmp 93) (.const (ahC 0)) n3 (ahC 0)) w K) w fun n4 w =>
  eY pg (lD n1 n4 (.bool false)) w fun n5 w =>
  Gd (kE n5 true) (fun K => K d7 w) w fun n7 w =>
  Gd (kE n5 true) (fun K => gT pg oU #[n7] w K) w fun n8 w =>
  eY pg (lD n5 n8 (.bool false)) w fun n9 w =>
  Gd (kE n9 true) (fun K => K d7 w) w fun o1 w =>
  Gd (kE n9 true) (fun K => gT pg oY #[o1] w K) w fun o2 w =>
  Gd (kE n9 true) (fun K => eY pg (mV .len #[45] 3 [o2]) w K) w fun o3 w =>
  Gd (kE n9 true) (fun K => eY pg (gO .eql 3 (.tmp 103) (.const (ahC 3)) o3 (ahC 3)) w K) w fun o4 w =>
  eY pg (lD n9 o4 (.bool false)) w fun o5 w =>
  R o5 w)
theorem Mu (R : K1) (hr : HR Jr R Q) (h : Dl R w) : iY pg HL Gq Q g w :=
 lN (kn := no) (l := []) h mH hr trivial
def Oe (w : ahA) (R : K1) : Prop :=
 Dl R w
theorem Nh {w : ahA} {R : K1} (h : Oe w R) : gT pg BU #[] w R := by
 refine xB (ann := HL) Tryd.f7 Gq [] Jr 106 TrydM.mixed Tryd.func7 ?_
 exact (Mu _ _ _ R (fun _ _ h => h) h)
def oP : FA := ⟨Cj, fun i => match Nat.beq i 11 with | true => .leaf ([9, 10, 11, 13], [(0, 9), (0, 10), (1, 9), (1, 10)]) [(false, []), (false, []), (false, []), (false, []), (false, []), (false, []), (false, []), (false, []), (false, []), (true, [7, 8]), (true, [8, 9]), (true, []), (false, []), (true, [])] | false => .leaf ([], []) []⟩
def sO : List ResultVar := [.cell 4 28, .tmp 5]
noncomputable def nL : Code := jB Tryd.f8
def C9 (R : K1) (b4 Kd : ahB) (w : ahA) : Prop :=
 eY pg (gJ 28 Kd) w fun j2 w =>
 eY pg (iG 28 b4 j2) w fun _u w =>
 VR pg 28 b4 w fun r0 => R (.tuple #[r0, (ahC 0)]) w
theorem OF (R : K1) (hr : HR sO R Q) (h : C9 R (g 4) (g 8) w) : iY pg oP (gK 1 (gK 4 nL)) Q g w :=
 lN (kn := no) (l := []) h mH hr trivial
def De (kn : K6) (k0 : K2) (R : K1) (A5 lJ b4 Kd e1 e2 : ahB) (w : ahA) : Prop :=
 eY pg (gO .lss 3 iB iB e2 e1) w fun e3 w =>
 mC e3
  (eY pg (gM 28 Kd 0) w fun e6 w =>
  eY pg (gJ 24 e6) w fun e7 w =>
  gT pg pT #[e7, lJ, e2] w fun f0 w =>
  eY pg (iZ f0 0) w fun f1 w =>
  eY pg (iZ f0 1) w fun f2 w =>
  eY pg (iZ f0 2) w fun f3 w =>
  eY pg (gO .neq 29 (.tmp 44) (.const (ahC 0)) f3 (ahC 0)) w fun f5 w =>
  mC f5
   (eY pg (lZ 28 []) w fun f6 w =>
   eY pg (iG 28 b4 f6) w fun _u w =>
   VR pg 28 b4 w fun r0 => R (.tuple #[r0, f3]) w)
   (eY pg (gM 28 Kd 2) (dr w) fun f8 w_ => w_ = (dr w) /\
   eY pg (gJ 26 f8) (dr w) fun f9 w_ => w_ = (dr w) /\
   (dr w) = (dr w) /\
   (dr w) = (dr w) /\
   (dr w) = (dr w) /\
   (dr w) = (dr w) /\
   eY pg (lL 3 24 f2) (dr w) fun i4 w_ => w_ = (dr w) /\
   eY pg (gO .add 24 iB iB f1 i4) (dr w) fun i5 w_ => w_ = (dr w) /\
   eY pg (mG 22 A5 (some f1) (some i5) none) (dr w) fun i6 w_ => w_ = (dr w) /\
   gT pg xI #[i6] (dr w) fun i7 WC =>
   (gN pg (gJ 26 f8) f9 WC /\ gN pg (gM 28 Kd 2) f8 WC /\ True) /\
   eY pg (iL 26 1 [(0, i7)]) WC fun i8 Ts =>
   (gN pg (gJ 26 f8) f9 Ts /\ gN pg (gM 28 Kd 2) f8 Ts /\ True) /\
   eY pg (mV .append #[26, 26] 26 [f9, i8]) Ts fun i9 Pk =>
   eY pg (gM 28 Kd 2) Pk fun j0 w_ => w_ = Pk /\
   eY pg (iG 26 j0 i9) Pk fun _u13 DR =>
   eY pg (gO .add 3 iB iB e2 (ahC 1)) DR fun j1 w =>
   kn A5 lJ b4 Kd e1 j1 w))
  (k0 b4 Kd w)
theorem Oz (kn : K6) (k0 : K2) (R : K1) (hn : N6 Q kn 0 1 4 8 31 32) (h0 : E2 Q k0 0 4 8) (hr : HR sO R Q) (h : De kn k0 R (g 0) (g 1) (g 4) (g 8) (g 31) (g 32) w) : iY pg oP (bI (bI (gK 1 (gX 1 (gK 4 nL))))) Q g w :=
 lN (l := [(0, fun g w => k0 (g 4) (g 8) w)]) h hn hr ⟨h0, trivial⟩
def G8 (k0 : K2) (R : K1) (A5 lJ b4 Kd e1 e2 : ahB) (w : ahA) : Prop :=
 kJ (fun (X : ahB -> K0) (t : ahB) (w : ahA) => De (fun _ _ _ _ _ e2 w => X e2 w) k0 R A5 lJ b4 Kd e1 t w) e2 w
theorem Ou (k0 : K2) (R : K1) (h0 : E2 Q k0 0 4 8) (hr : HR sO R Q) (h : G8 k0 R (g 0) (g 1) (g 4) (g 8) (g 31) (g 32) w) : iY pg oP (bI (gK 1 (gX 1 (gK 4 nL)))) Q g w := by
 refine OW (fun g : Env => g 32) (fun X t w => De (fun _ _ _ _ _ e2 w => X e2 w) k0 R (g 0) (g 1) (g 4) (g 8) (g 31) t w) h (fun X g1 w1 ha hL => ?_)
 rw [<- qI 0 ha, <- qI 1 ha, <- qI 4 ha, <- qI 8 ha, <- qI 31 ha] at hL
 exact (Oz _ g1 w1 (fun _ _ _ _ _ e2 w => X e2 w) k0 R (fun _ _ h => h) h0 hr hL)
def HA (kn : K2) (R : K1) (A5 lJ b4 Kd e1 e2 : ahB) (w : ahA) : Prop :=
 G8 kn R A5 lJ b4 Kd e1 e2 w
def He (kn : K6) (A5 lJ b4 S9 Kd : ahB) (w : ahA) : Prop :=
 kn A5 lJ b4 Kd S9 (ahC 0) w
theorem On (kn : K6) (hn : N6 Q kn 0 1 4 8 31 32) (h : He kn (g 0) (g 1) (g 4) (g 6) (g 8) w) : iY pg oP (gX 1 (gX 1 (gK 4 nL))) Q g w :=
 lN (kr := no) (l := []) h hn mH trivial
def Hj (kn : K2) (R : K1) (A5 lJ b4 S9 Kd : ahB) (w : ahA) : Prop :=
 He (fun A5 lJ b4 Kd e1 e2 w => HA kn R A5 lJ b4 Kd e1 e2 w) A5 lJ b4 S9 Kd w
def G1 (R : K1) (A5 lJ b4 S9 Kd : ahB) (w : ahA) : Prop :=
 Hj (fun b4 Kd w => C9 R b4 Kd w) R A5 lJ b4 S9 Kd w
theorem OB (kn : K2) (R : K1) (hn : N2 Q kn 4 8) (hr : HR sO R Q) (h : Hj kn R (g 0) (g 1) (g 4) (g 6) (g 8) w) : iY pg oP (gX 1 (gK 4 nL)) Q g w :=
 sW 1 (On _ g w (HA kn R) (fun g w h => iC (Oq 0 (Ou _ g w kn R hn hr h))) h)
def Ht (kn : K5) (R : K1) (A5 lJ : ahB) (w : ahA) : Prop :=
 eY pg (lY 28) w fun b4 w =>
 eY pg (mV .len #[22] 3 [A5]) w fun c5 w =>
 eY pg (lL 3 24 c5) w fun c6 w =>
 gT pg sU #[c6, lJ] w fun c8 w =>
 eY pg (iZ c8 0) w fun c9 w =>
 eY pg (iZ c8 1) w fun d0 w =>
 eY pg (gO .neq 29 (.tmp 21) (.const (ahC 0)) d0 (ahC 0)) w fun d2 w =>
 mC d2
  (eY pg (lZ 28 []) w fun d3 w =>
  eY pg (iG 28 b4 d3) w fun _u w =>
  VR pg 28 b4 w fun r0 => R (.tuple #[r0, d0]) w)
  (eY pg (mV .len #[22] 3 [A5]) w fun d6 w =>
  eY pg (lL 3 24 d6) w fun d7 w =>
  eY pg (lL 3 25 lJ) w fun d9 w =>
  eY pg (lZ 28 [(0, d7), (1, d9)]) w fun e0 w =>
  eY pg (lY 28) w fun Kd w =>
  eY pg (iG 28 Kd e0) w fun _u w =>
  kn A5 lJ b4 c9 Kd w)
theorem OE (kn : K5) (R : K1) (hn : N5 Q kn 0 1 4 6 8) (hr : HR sO R Q) (h : Ht kn R (g 0) (g 1) w) : iY pg oP (gX 4 nL) Q g w :=
 lN (l := []) h hn hr trivial
def Hc (R : K1) (A5 lJ : ahB) (w : ahA) : Prop :=
 Ht (fun A5 lJ b4 S9 Kd w => G1 R A5 lJ b4 S9 Kd w) R A5 lJ w
theorem OG (R : K1) (hr : HR sO R Q) (h : Hc R (g 0) (g 1) w) : iY pg oP nL Q g w :=
 sW 4 (OE _ g w (G1 R) R (fun g w h => iC (sW 1 (OB _ g w (C9 R) R (fun g w h => iC (OF _ g w R hr h)) hr h))) hr h)
def QZ (a0 a1 : ahB) (w : ahA) (R : K1) : Prop :=
 Hc R a0 a1 w
theorem PE {a0 a1 : ahB} {w : ahA} {R : K1} (h : QZ a0 a1 w R) : gT pg Cj #[a0, a1] w R := by
 refine xB (ann := oP) Tryd.f8 nL [a0, a1] sO 63 TrydM.mixed Tryd.func8 ?_
 exact (OG _ _ _ R (fun _ _ h => h) h)
def Mj : FA := ⟨BQ, fun i => .leaf ([], []) []⟩
def NN : List ResultVar := [.tmp 2, .tmp 3]
noncomputable def KQ : Code := jB Tryd.f9
def JT (R : K1) (T0 : ahB) (w : ahA) : Prop :=
 eY pg (gO .lss 3 iB iB T0 (ahC 0)) w fun b5 w =>
 Gd (kE b5 false) (fun K => K T0 w) w fun b7 w =>
 Gd (kE b5 false) (fun K => eY pg (gO .gtr 3 iB iB b7 (ahC 16777216)) w K) w fun b8 w =>
 eY pg (lD b5 (.bool true) b8) w fun b9 w =>
 mC b9
  (R (.tuple #[(.pointer none), (ahC 1)]) w)
  (eY pg (No 61 none) w fun c1 w =>
  eY pg (No 61 none) w fun c2 w =>
  eY pg (lZ 64 [(0, T0), (1, c1), (2, c2), (4, (ahC (-1)))]) w fun c3 w =>
  eY pg (EL 64 c3) w fun c4 w =>
  R (.tuple #[c4, (ahC 0)]) w)
theorem OY (R : K1) (hr : HR NN R Q) (h : JT R (g 0) w) : iY pg Mj KQ Q g w :=
 lN (kn := no) (l := []) h mH hr trivial
def SR (a0 : ahB) (w : ahA) (R : K1) : Prop :=
 JT R a0 w
theorem P8 {a0 : ahB} {w : ahA} {R : K1} (h : SR a0 w R) : gT pg BQ #[a0] w R := by
 refine xB (ann := Mj) Tryd.f9 KQ [a0] NN 15 TrydM.mixed Tryd.func9 ?_
 exact (OY _ _ _ R (fun _ _ h => h) h)
def lC : FA := ⟨rY, fun i => match Nat.beq i 28 with | true => .leaf ([12], []) [(false, []), (false, []), (false, []), (false, []), (false, []), (false, []), (false, []), (false, []), (false, []), (false, []), (false, []), (false, []), (true, [])] | false => .leaf ([], []) []⟩
def sT : List ResultVar := [.tmp 6, .tmp 7]
noncomputable def kU : Code := jB Tryd.f10
def xJ (R : K1) (lE nH : ahB) (w : ahA) : Prop :=
 gT pg jJ #[lE] w fun v4 w =>
 eY pg (gO .neq 29 (.tmp 155) (.const (ahC 0)) v4 (ahC 0)) w fun v6 w =>
 mC v6
  (R (.tuple #[(.pointer none), v4]) w)
  (R (.tuple #[nH, (ahC 0)]) w)
theorem MY (R : K1) (hr : HR sT R Q) (h : xJ R (g 0) (g 10) w) : iY pg lC (gK 1 (gK 12 kU)) Q g w :=
 lN (kn := no) (l := []) h mH hr trivial
def BW (kn : K7) (lE Gy nH Hn q4 q5 q6 : ahB) (w : ahA) : Prop :=
 eY pg (gO .add 3 iB iB q6 (ahC 1)) w fun v2 w =>
 kn lE Gy nH Hn q4 q5 v2 w
theorem M7 (kn : K7) (hn : N7 Q kn 0 8 10 16 124 125 126) (h : BW kn (g 0) (g 8) (g 10) (g 16) (g 124) (g 125) (g 126) w) : iY pg lC (gK 3 (bI (bI (gK 5 (cT (gK 1 (gX 1 (gK 12 kU)))))))) Q g w :=
 lN (kr := no) (l := []) h hn mH trivial
def FP (kn : K7) (k1 : K2) (lE Gy nH Hn q4 q5 q6 : ahB) (w : ahA) : Prop :=
 eY pg (gO .lss 3 iB iB q6 q5) w fun q7 w =>
 mC q7
  (eY pg (iK 72 q4 q6) w fun q8 w =>
  eY pg (gJ 77 q8) w fun q9 w =>
  eY pg (lY 77) w fun V7 w =>
  eY pg (iG 77 V7 q9) w fun _u w =>
  eY pg (gM 77 V7 0) w fun s0 w =>
  eY pg (gJ 5 s0) w fun s1 w =>
  eY pg (gO .eql 5 (.tmp 131) (.const (.int .u8 2)) s1 (.int .u8 2)) w fun s2 w =>
  Gd (kE s2 true) (fun K => eY pg (gM 77 V7 1) w K) w fun s4 w =>
  Gd (kE s2 true) (fun K => eY pg (gJ 24 s4) w K) w fun s5 w =>
  Gd (kE s2 true) (fun K => K Gy w) w fun s6 w =>
  Gd (kE s2 true) (fun K => eY pg (lL 3 24 s6) w K) w fun s7 w =>
  Gd (kE s2 true) (fun K => eY pg (gO .lss 24 iB iB s5 s7) w K) w fun s8 w =>
  eY pg (lD s2 s8 (.bool false)) w fun s9 w =>
  mC s9
   ((dr w) = (dr w) /\
   eY pg (jD nH) (dr w) fun u1 w_ => w_ = (dr w) /\
   eY pg (gM 67 u1 4) (dr w) fun u2 w_ => w_ = (dr w) /\
   eY pg (gJ 45 u2) (dr w) fun u3 w_ => w_ = (dr w) /\
   eY pg (gM 77 V7 1) (dr w) fun u4 w_ => w_ = (dr w) /\
   eY pg (gJ 24 u4) (dr w) fun u5 w_ => w_ = (dr w) /\
   (dr w) = (dr w) /\
   eY pg (gM 77 V7 1) (dr w) fun u7 w_ => w_ = (dr w) /\
   eY pg (gJ 24 u7) (dr w) fun u8 w_ => w_ = (dr w) /\
   eY pg (iK 45 Hn u8) (dr w) fun u9 w_ => w_ = (dr w) /\
   eY pg (gJ 4 u9) (dr w) fun v0 w_ => w_ = (dr w) /\
   eY pg (iK 45 u3 u5) (dr w) fun v1 w_ => w_ = (dr w) /\
   eY pg (iG 4 v1 v0) (dr w) fun _u12 YX =>
   kn lE Gy nH Hn q4 q5 q6 YX)
   (kn lE Gy nH Hn q4 q5 q6 w))
  (k1 lE nH w)
theorem Nb (kn : K7) (k1 : K2) (hn : N7 Q kn 0 8 10 16 124 125 126) (h1 : E2 Q k1 1 0 10) (h : FP kn k1 (g 0) (g 8) (g 10) (g 16) (g 124) (g 125) (g 126) w) : iY pg lC (gX 3 (bI (bI (gK 5 (cT (gK 1 (gX 1 (gK 12 kU)))))))) Q g w :=
 lN (kr := no) (l := [(1, fun g w => k1 (g 0) (g 10) w)]) h hn mH ⟨h1, trivial⟩
def BX (kn : K7) (k1 : K2) (lE Gy nH Hn q4 q5 q6 : ahB) (w : ahA) : Prop :=
 FP (fun lE Gy nH Hn q4 q5 q6 w => BW kn lE Gy nH Hn q4 q5 q6 w) k1 lE Gy nH Hn q4 q5 q6 w
def FK (k1 : K2) (lE Gy nH Hn q4 q5 q6 : ahB) (w : ahA) : Prop :=
 kJ (fun (X : ahB -> K0) (t : ahB) (w : ahA) => BX (fun _ _ _ _ _ _ q6 w => X q6 w) k1 lE Gy nH Hn q4 q5 t w) q6 w
theorem Nr (kn : K7) (k1 : K2) (hn : N7 Q kn 0 8 10 16 124 125 126) (h1 : E2 Q k1 1 0 10) (h : BX kn k1 (g 0) (g 8) (g 10) (g 16) (g 124) (g 125) (g 126) w) : iY pg lC (bI (bI (gK 5 (cT (gK 1 (gX 1 (gK 12 kU))))))) Q g w :=
 sW 3 (Nb _ g w (BW kn) k1 (fun g w h => iC (M7 _ g w kn hn h)) h1 h)
theorem M8 (k1 : K2) (h1 : E2 Q k1 1 0 10) (h : FK k1 (g 0) (g 8) (g 10) (g 16) (g 124) (g 125) (g 126) w) : iY pg lC (bI (gK 5 (cT (gK 1 (gX 1 (gK 12 kU)))))) Q g w := by
 refine OW (fun g : Env => g 126) (fun X t w => BX (fun _ _ _ _ _ _ q6 w => X q6 w) k1 (g 0) (g 8) (g 10) (g 16) (g 124) (g 125) t w) h (fun X g1 w1 ha hL => ?_)
 rw [<- qI 0 ha, <- qI 8 ha, <- qI 10 ha, <- qI 16 ha, <- qI 124 ha, <- qI 125 ha] at hL
 exact (Nr _ g1 w1 (fun _ _ _ _ _ _ q6 w => X q6 w) k1 (fun _ _ h => h) h1 hL)
def FB (kn : K2) (lE Gy nH Hn q4 q5 q6 : ahB) (w : ahA) : Prop :=
 FK kn lE Gy nH Hn q4 q5 q6 w
def Fs (kn : K7) (R : K1) (lE Gy nH Gi : ahB) (w : ahA) : Prop :=
 gT pg pV #[nH] w fun p0 w =>
 eY pg (iZ p0 0) w fun p1 w =>
 eY pg (iZ p0 1) w fun p2 w =>
 eY pg (gO .neq 29 (.tmp 113) (.const (ahC 0)) p2 (ahC 0)) w fun p4 w =>
 mC p4
  (R (.tuple #[(.pointer none), p2]) w)
  (eY pg (vK 45 Gy Gy) w fun p8 w =>
  eY pg (jD nH) w fun p9 w =>
  eY pg (gM 67 p9 4) w fun q0 w =>
  eY pg (iG 45 q0 p8) w fun _u w =>
  gT pg mM #[nH, p1] w fun q3 w =>
  eY pg (mV .len #[72] 3 [Gi]) w fun q5 w =>
  kn lE Gy nH q3 Gi q5 (ahC 0) w)
theorem Ni (kn : K7) (R : K1) (hn : N7 Q kn 0 8 10 16 124 125 126) (hr : HR sT R Q) (h : Fs kn R (g 0) (g 8) (g 10) (g 13) w) : iY pg lC (gX 5 (cT (gK 1 (gX 1 (gK 12 kU))))) Q g w :=
 lN (l := []) h hn hr trivial
def KJ (kn : K2) (R : K1) (lE Gy nH Gi : ahB) (w : ahA) : Prop :=
 Fs (fun lE Gy nH Hn q4 q5 q6 w => FB kn lE Gy nH Hn q4 q5 q6 w) R lE Gy nH Gi w
def FH (kn : K2) (lE nH : ahB) (w : ahA) : Prop :=
 kn lE nH w
theorem NH (kn : K2) (hn : N2 Q kn 0 10) (h : FH kn (g 0) (g 10) w) : iY pg lC (cE (gK 1 (gX 1 (gK 12 kU)))) Q g w :=
 lN (kr := no) (l := []) h hn mH trivial
def Dn (kn : K2) (R : K1) (lE Gy nH Gi o7 : ahB) (w : ahA) : Prop :=
 mC o7 (KJ kn R lE Gy nH Gi w) (FH kn lE nH w)
def Ef (kn : K5) (lE Gy nH Gi : ahB) (w : ahA) : Prop :=
 eY pg (jD nH) w fun o4 w =>
 eY pg (gM 67 o4 6) w fun o5 w =>
 eY pg (gJ 4 o5) w fun o6 w =>
 eY pg (KO .not o6) w fun o7 w =>
 kn lE Gy nH Gi o7 w
theorem Ma (kn : K5) (hn : N5 Q kn 0 8 10 13 107) (h : Ef kn (g 0) (g 8) (g 10) (g 13) w) : iY pg lC (gX 1 (gX 1 (gK 12 kU))) Q g w :=
 lN (kr := no) (l := []) h hn mH trivial
def Ec (kn : K2) (R : K1) (lE Gy nH Gi : ahB) (w : ahA) : Prop :=
 Ef (fun lE Gy nH Gi o7 w => Dn kn R lE Gy nH Gi o7 w) lE Gy nH Gi w
def vB (R : K1) (lE Gy nH Gi : ahB) (w : ahA) : Prop :=
 Ec (fun lE nH w => xJ R lE nH w) R lE Gy nH Gi w
theorem L7 (kn : K2) (R : K1) (hn : N2 Q kn 0 10) (hr : HR sT R Q) (h : Ec kn R (g 0) (g 8) (g 10) (g 13) w) : iY pg lC (gX 1 (gK 12 kU)) Q g w :=
 sW 1 (Ma _ g w (Dn kn R) (fun g w h => iC (cdD (.tmp 107) (fun h => (sW 5 (Ni _ g w (FB kn) R (fun g w h => iC (Oq 1 (M8 _ g w kn hn h))) hr h))) (fun h => (NH _ g w kn hn h)) h)) h)
def Ep (kn : K4) (R : K1) (lE uS m_2 : ahB) (w : ahA) : Prop :=
 eY pg (EL 28 m_2) w fun Za w =>
 eY pg (gO .eql 32 (.tmp 20) (.const (.pointer none)) lE (.pointer none)) w fun d1 w =>
 Gd (kE d1 false) (fun K => K uS w) w fun d3 w =>
 Gd (kE d1 false) (fun K => eY pg (mV .len #[9] 3 [d3]) w K) w fun d4 w =>
 Gd (kE d1 false) (fun K => eY pg (gO .lss 3 iB iB d4 (ahC 1)) w K) w fun d5 w =>
 eY pg (lD d1 (.bool true) d5) w fun d6 w =>
 Gd (kE d6 false) (fun K => K uS w) w fun d8 w =>
 Gd (kE d6 false) (fun K => eY pg (mV .len #[9] 3 [d8]) w K) w fun d9 w =>
 Gd (kE d6 false) (fun K => eY pg (gO .gtr 3 iB iB d9 (ahC 27)) w K) w fun e0 w =>
 eY pg (lD d6 (.bool true) e0) w fun e1 w =>
 mC e1
  (R (.tuple #[(.pointer none), (ahC 1)]) w)
  (eY pg (gM 28 Za 0) w fun e3 w =>
  eY pg (gJ 24 e3) w fun e4 w =>
  eY pg (gM 28 Za 1) w fun e5 w =>
  eY pg (gJ 25 e5) w fun e6 w =>
  eY pg (lL 25 3 e6) w fun e7 w =>
  gT pg sU #[e4, e7] w fun e8 w =>
  eY pg (iZ e8 0) w fun e9 w =>
  eY pg (iZ e8 1) w fun f0 w =>
  eY pg (gO .neq 29 (.tmp 42) (.const (ahC 0)) f0 (ahC 0)) w fun f3 w =>
  mC f3
   (R (.tuple #[(.pointer none), f0]) w)
   (eY pg (gM 28 Za 2) w fun f7 w =>
   eY pg (gJ 26 f7) w fun f8 w =>
   eY pg (mV .len #[26] 3 [f8]) w fun f9 w =>
   eY pg (gO .neq 3 (.tmp 46) (.tmp 49) e9 f9) w fun i0 w =>
   mC i0
    (R (.tuple #[(.pointer none), (ahC 11)]) w)
    (eY pg (gM 28 Za 2) w fun i1 w =>
    eY pg (gJ 26 i1) w fun i2 w =>
    gT pg qU #[i2] w fun i3 w =>
    eY pg (gM 28 Za 2) w fun i4 w =>
    eY pg (iG 26 i4 i3) w fun _u w =>
    eY pg (gJ 28 Za) w fun i7 w =>
    eY pg (lZ 67 [(0, lE), (1, uS), (2, i7)]) w fun i8 w =>
    eY pg (EL 67 i8) w fun i9 w =>
    gT pg nD #[i9, uS] w fun j3 w =>
    eY pg (iZ j3 0) w fun j4 w =>
    eY pg (iZ j3 1) w fun j5 w =>
    eY pg (iZ j3 2) w fun j6 w =>
    eY pg (gO .neq 29 (.tmp 67) (.const (ahC 0)) j6 (ahC 0)) w fun j8 w =>
    mC j8
     (R (.tuple #[(.pointer none), j6]) w)
     (gT pg mM #[i9, j4] w fun l3 w =>
     eY pg (jD i9) w fun l4 w =>
     eY pg (gM 67 l4 4) w fun l5 w =>
     eY pg (iG 45 l5 l3) w fun _u w =>
     Gd (kE j5 true) (fun K => K j4 w) w fun l9 w =>
     Gd (kE j5 true) (fun K => eY pg (mV .len #[22] 3 [l9]) w K) w fun m0 w =>
     Gd (kE j5 true) (fun K => eY pg (lL 3 24 m0) w K) w fun m1 w =>
     Gd (kE j5 true) (fun K => eY pg (gM 28 Za 0) w K) w fun m2 w =>
     Gd (kE j5 true) (fun K => eY pg (gJ 24 m2) w K) w fun m3 w =>
     Gd (kE j5 true) (fun K => eY pg (gO .eql 24 (.tmp 81) (.tmp 83) m1 m3) w K) w fun m4 w =>
     eY pg (lD j5 m4 (.bool false)) w fun m5 w =>
     Gd (kE m5 true) (fun K => K i9 w) w fun m7 w =>
     Gd (kE m5 true) (fun K => eY pg (jD m7) w K) w fun m8 w =>
     Gd (kE m5 true) (fun K => eY pg (gM 67 m8 4) w K) w fun m9 w =>
     Gd (kE m5 true) (fun K => eY pg (gJ 45 m9) w K) w fun n0 w =>
     Gd (kE m5 true) (fun K => gT pg zP #[n0] w K) w fun n1 w =>
     eY pg (lD m5 n1 (.bool false)) w fun n2 w =>
     eY pg (jD i9) w fun n3 w =>
     eY pg (gM 67 n3 6) w fun n4 w =>
     eY pg (iG 4 n4 n2) w fun _u w =>
     gT pg nK #[i9] w fun n7 w =>
     eY pg (iZ n7 0) w fun n8 w =>
     eY pg (iZ n7 1) w fun n9 w =>
     eY pg (gO .neq 29 (.tmp 100) (.const (ahC 0)) n9 (ahC 0)) w fun o1 w =>
     mC o1
      (R (.tuple #[(.pointer none), n9]) w)
      (kn lE e9 i9 n8 w)))))
theorem Mb (kn : K4) (R : K1) (hn : N4 Q kn 0 8 10 13) (hr : HR sT R Q) (h : Ep kn R (g 0) (g 1) (g 2) w) : iY pg lC (gX 12 kU) Q g w :=
 lN (l := []) h hn hr trivial
def Ei (R : K1) (lE uS m_2 : ahB) (w : ahA) : Prop :=
 Ep (fun lE Gy nH Gi w => vB R lE Gy nH Gi w) R lE uS m_2 w
theorem L8 (R : K1) (hr : HR sT R Q) (h : Ei R (g 0) (g 1) (g 2) w) : iY pg lC kU Q g w :=
 sW 12 (Mb _ g w (vB R) R (fun g w h => iC (sW 1 (L7 _ g w (xJ R) R (fun g w h => iC (MY _ g w R hr h)) hr h))) hr h)
def PB (a0 a1 a2 : ahB) (w : ahA) (R : K1) : Prop :=
 Ei R a0 a1 a2 w
theorem Oy {a0 a1 a2 : ahB} {w : ahA} {R : K1} (h : PB a0 a1 a2 w R) : gT pg rY #[a0, a1, a2] w R := by
 refine xB (ann := lC) Tryd.f10 kU [a0, a1, a2] sT 159 TrydM.mixed Tryd.func10 ?_
 exact (L8 _ _ _ R (fun _ _ h => h) h)
def qO : FA := ⟨kI, fun i => match Nat.beq i 3 with | true => .leaf ([], []) [(false, []), (false, []), (false, []), (false, []), (false, []), (false, []), (false, []), (false, []), (false, []), (false, []), (false, []), (false, [])] | false => match Nat.beq i 5 with | true => .leaf ([], []) [(false, []), (false, []), (false, []), (false, []), (false, []), (false, []), (false, []), (false, []), (false, []), (false, []), (false, []), (false, []), (false, []), (false, [])] | false => match Nat.beq i 9 with | true => .split 12 17 (.perm [0, 1, 2, 3, 4, 5, 6, 7, 8, 9, 10, 11, 12, 13, 14, 15, 16, 17, 18, 19, 20] [(12, 17)] ([12, 17, 18], [(14, 17), (15, 17), (15, 18), (16, 17), (16, 18)]) [(false, []), (false, []), (false, []), (false, []), (false, []), (false, []), (false, []), (false, []), (false, []), (false, []), (false, []), (false, []), (true, []), (false, []), (false, []), (false, []), (false, []), (true, [0, 1, 2]), (true, [1, 2]), (false, []), (false, [])]) (.perm [0, 1, 2, 3, 4, 5, 6, 7, 8, 9, 10, 11, 17, 12, 13, 14, 15, 16, 18, 19, 20] [(17, 12)] ([12, 13, 18], [(0, 12), (1, 12), (2, 12), (3, 12), (4, 12), (5, 12), (6, 12), (7, 12), (8, 12), (9, 12), (10, 12), (11, 12), (16, 18), (17, 18)]) [(false, []), (false, []), (false, []), (false, []), (false, []), (false, []), (false, []), (false, []), (false, []), (false, []), (false, []), (false, []), (true, [0, 1, 2, 3, 4, 5, 6, 7, 8, 9, 10, 11]), (true, []), (false, []), (false, []), (false, []), (false, []), (true, [0, 1]), (false, []), (false, [])]) | false => match Nat.beq i 10 with | true => .leaf ([13, 14, 17], [(0, 13), (0, 14)]) [(false, []), (false, []), (false, []), (false, []), (false, []), (false, []), (false, []), (false, []), (false, []), (false, []), (false, []), (false, []), (false, []), (true, [12]), (true, [13]), (false, []), (false, []), (true, [])] | false => match Nat.beq i 11 with | true => .leaf ([11], []) [(false, []), (false, []), (false, []), (false, []), (false, []), (false, []), (false, []), (false, []), (false, []), (false, []), (false, []), (true, [])] | false => .leaf ([], []) []⟩
def sH : List ResultVar := [.tmp 6]
noncomputable def nN : Code := jB Tryd.f11
def nC (R : K1) (Md IF Sq PA : ahB) (w : ahA) : Prop :=
 eY pg (gJ 35 Md) (dr w) fun j5 w_ => w_ = (dr w) /\
 eY pg (JM (.func 33) [] [Md, PA, Sq]) (dr w) fun j6 w_ => w_ = (dr w) /\
 eY pg (gJ 35 Md) (dr w) fun j7 w_ => w_ = (dr w) /\
 eY pg (jD j7) (dr w) fun j8 w_ => w_ = (dr w) /\
 eY pg (gM 67 j8 0) (dr w) fun j9 w_ => w_ = (dr w) /\
 eY pg (gJ 32 j9) (dr w) fun l0 w_ => w_ = (dr w) /\
 eY pg (JM (.func 19) [l0] []) (dr w) fun l1 w_ => w_ = (dr w) /\
 eY pg (JM (.func 34) [] [Md, IF]) (dr w) fun l2 w_ => w_ = (dr w) /\
 eY pg (gJ 35 Md) (dr w) fun l3 w_ => w_ = (dr w) /\
 eY pg (jD l3) (dr w) fun l4 w_ => w_ = (dr w) /\
 eY pg (gM 67 l4 0) (dr w) fun l5 w_ => w_ = (dr w) /\
 eY pg (gJ 32 l5) (dr w) fun l6 w_ => w_ = (dr w) /\
 eY pg (JM (.func 19) [l6] []) (dr w) fun l7 w_ => w_ = (dr w) /\
 eY pg (iL 98 4 [(0, j6), (1, l1), (2, l2), (3, l7)]) (dr w) fun l8 WY =>
 (gN pg (gJ 35 Md) j5 WY /\ True) /\
 gT pg xF #[l8] WY fun l9 NC =>
 (gN pg (gJ 35 Md) j5 NC /\ True) /\
 eY pg (jD j5) NC fun m0 w_ => w_ = NC /\
 eY pg (gM 67 m0 7) NC fun m1 w_ => w_ = NC /\
 eY pg (iG 29 m1 l9) NC fun _u17 oX =>
 eY pg (gJ 35 Md) (dr oX) fun m2 w_ => w_ = (dr oX) /\
 eY pg (jD m2) (dr oX) fun m3 w_ => w_ = (dr oX) /\
 eY pg (gM 67 m3 4) (dr oX) fun m4 w_ => w_ = (dr oX) /\
 eY pg (gJ 45 m4) (dr oX) fun m5 w_ => w_ = (dr oX) /\
 eY pg (gJ 3 IF) (dr oX) fun m6 w_ => w_ = (dr oX) /\
 eY pg (gJ 35 Md) (dr oX) fun m7 w_ => w_ = (dr oX) /\
 eY pg (jD m7) (dr oX) fun m8 w_ => w_ = (dr oX) /\
 eY pg (gM 67 m8 7) (dr oX) fun m9 w_ => w_ = (dr oX) /\
 eY pg (gJ 29 m9) (dr oX) fun n0 w_ => w_ = (dr oX) /\
 eY pg (gO .eql 29 (.tmp 90) (.const (ahC 0)) n0 (ahC 0)) (dr oX) fun n1 w_ => w_ = (dr oX) /\
 eY pg (iK 45 m5 m6) (dr oX) fun n2 w_ => w_ = (dr oX) /\
 eY pg (iG 4 n2 n1) (dr oX) fun _u11 Pk =>
 eY pg (gJ 35 Md) Pk fun n3 w =>
 eY pg (jD n3) w fun n4 w =>
 eY pg (gM 67 n4 7) w fun n5 w =>
 eY pg (gJ 29 n5) w fun n6 w =>
 R n6 w
theorem IJ (R : K1) (hr : HR sH R Q) (h : nC R (g 3) (g 4) (g 5) (g 7) w) : iY pg qO (gK 3 nN) Q g w :=
 lN (kn := no) (l := []) h mH hr trivial
def xW (kn : K4) (R : K1) (lS ZL WW : ahB) (w : ahA) : Prop :=
 eY pg (EL 35 lS) w fun Md w =>
 eY pg (EL 3 ZL) w fun IF w =>
 eY pg (EL 22 WW) w fun Sq w =>
 eY pg (gJ 35 Md) w fun c1 w =>
 gT pg lK #[c1] w fun c2 w =>
 eY pg (gO .neq 29 (.tmp 12) (.const (ahC 0)) c2 (ahC 0)) w fun c3 w =>
 mC c3
  (eY pg (gJ 35 Md) w fun c4 w =>
  gT pg lK #[c4] w fun c5 w =>
  R c5 w)
  (eY pg (gJ 3 IF) (dr w) fun c7 w_ => w_ = (dr w) /\
  eY pg (gO .lss 3 iB iB c7 (ahC 0)) (dr w) fun c8 w_ => w_ = (dr w) /\
  (dr w) = (dr w) /\
  Gd (kE c8 false) (fun K => eY pg (gJ 3 IF) (dr w) K) (dr w) fun d0 w_ => w_ = (dr w) /\
  Gd (kE c8 false) (fun K => eY pg (gJ 35 Md) (dr w) K) (dr w) fun d1 w_ => w_ = (dr w) /\
  Gd (kE c8 false) (fun K => eY pg (jD d1) (dr w) K) (dr w) fun d2 w_ => w_ = (dr w) /\
  Gd (kE c8 false) (fun K => eY pg (gM 67 d2 4) (dr w) K) (dr w) fun d3 w_ => w_ = (dr w) /\
  Gd (kE c8 false) (fun K => eY pg (gJ 45 d3) (dr w) K) (dr w) fun d4 w_ => w_ = (dr w) /\
  Gd (kE c8 false) (fun K => eY pg (mV .len #[45] 3 [d4]) (dr w) K) (dr w) fun d5 w_ => w_ = (dr w) /\
  Gd (kE c8 false) (fun K => eY pg (gO .geq 3 iB iB d0 d5) (dr w) K) (dr w) fun d6 w_ => w_ = (dr w) /\
  eY pg (lD c8 (.bool true) d6) (dr w) fun d7 w_ => w_ = (dr w) /\
  (dr w) = (dr w) /\
  mC d7
   (R (ahC 17) (dr w))
   (eY pg (gJ 35 Md) (dr (dr w)) fun d9 w_ => w_ = (dr (dr w)) /\
   eY pg (jD d9) (dr (dr w)) fun e0 w_ => w_ = (dr (dr w)) /\
   eY pg (gM 67 e0 6) (dr (dr w)) fun e1 w_ => w_ = (dr (dr w)) /\
   eY pg (gJ 4 e1) (dr (dr w)) fun e2 w_ => w_ = (dr (dr w)) /\
   (dr (dr w)) = (dr (dr w)) /\
   Gd (kE e2 false) (fun K => eY pg (gJ 35 Md) (dr (dr w)) K) (dr (dr w)) fun e4 w_ => w_ = (dr (dr w)) /\
   Gd (kE e2 false) (fun K => eY pg (jD e4) (dr (dr w)) K) (dr (dr w)) fun e5 w_ => w_ = (dr (dr w)) /\
   Gd (kE e2 false) (fun K => eY pg (gM 67 e5 4) (dr (dr w)) K) (dr (dr w)) fun e6 w_ => w_ = (dr (dr w)) /\
   Gd (kE e2 false) (fun K => eY pg (gJ 45 e6) (dr (dr w)) K) (dr (dr w)) fun e7 w_ => w_ = (dr (dr w)) /\
   Gd (kE e2 false) (fun K => eY pg (gJ 3 IF) (dr (dr w)) K) (dr (dr w)) fun e8 w_ => w_ = (dr (dr w)) /\
   Gd (kE e2 false) (fun K => eY pg (iK 45 e7 e8) (dr (dr w)) K) (dr (dr w)) fun e9 w_ => w_ = (dr (dr w)) /\
   Gd (kE e2 false) (fun K => eY pg (gJ 4 e9) (dr (dr w)) K) (dr (dr w)) fun f0 w_ => w_ = (dr (dr w)) /\
   eY pg (lD e2 (.bool true) f0) (dr (dr w)) fun f1 w_ => w_ = (dr (dr w)) /\
   (dr (dr w)) = (dr (dr w)) /\
   mC f1
    (R (ahC 0) (dr (dr w)))
    (eY pg (gJ 35 Md) (dr (dr w)) fun f3 w =>
    eY pg (gJ 3 IF) w fun f4 w =>
    eY pg (gJ 22 Sq) w fun f5 w =>
    gT pg oE #[f3, f4, f5] w fun f6 w =>
    eY pg (KO .not f6) w fun f7 w =>
    mC f7
     (R (ahC 13) w)
     (Ord (XL kI 9 (KS 9 nN) 12 17 w)
      (eY pg (gJ 35 Md) (dr w) fun f9 w_ => w_ = (dr w) /\
      eY pg (jD f9) (dr w) fun i0 w_ => w_ = (dr w) /\
      eY pg (gM 67 i0 2) (dr w) fun i1 w_ => w_ = (dr w) /\
      eY pg (gM 28 i1 0) (dr w) fun i2 w_ => w_ = (dr w) /\
      eY pg (gJ 24 i2) (dr w) fun i3 w_ => w_ = (dr w) /\
      eY pg (gJ 35 Md) (dr w) fun i4 w_ => w_ = (dr w) /\
      eY pg (jD i4) (dr w) fun i5 w_ => w_ = (dr w) /\
      eY pg (gM 67 i5 2) (dr w) fun i6 w_ => w_ = (dr w) /\
      eY pg (gM 28 i6 1) (dr w) fun i7 w_ => w_ = (dr w) /\
      eY pg (gJ 25 i7) (dr w) fun i8 w_ => w_ = (dr w) /\
      eY pg (lL 25 3 i8) (dr w) fun i9 w_ => w_ = (dr w) /\
      eY pg (gJ 3 IF) (dr w) fun j0 w_ => w_ = (dr w) /\
      gT pg pT #[i3, i9, j0] (dr w) fun j1 vH =>
      vH = vH /\
      eY pg (iZ j1 0) vH fun j2 w_ => w_ = vH /\
      eY pg (iZ j1 1) vH fun j3 w_ => w_ = vH /\
      eY pg (iZ j1 2) vH fun j4 w_ => w_ = vH /\
      eY pg (lY 24) vH fun PA Uu =>
      (gN pg (iZ j1 2) j4 Uu /\ gN pg (iZ j1 1) j3 Uu /\ gN pg (iZ j1 0) j2 Uu /\ True) /\
      eY pg (iG 24 PA j2) Uu fun _u18 Em =>
      (gN pg (iZ j1 2) j4 Em /\ gN pg (iZ j1 1) j3 Em /\ True) /\
      Em = Em /\
      Em = Em /\
      kn Md IF Sq PA Em)
      (eY pg (gJ 35 Md) (dr w) fun f9 w_ => w_ = (dr w) /\
      eY pg (jD f9) (dr w) fun i0 w_ => w_ = (dr w) /\
      eY pg (gM 67 i0 2) (dr w) fun i1 w_ => w_ = (dr w) /\
      eY pg (gM 28 i1 0) (dr w) fun i2 w_ => w_ = (dr w) /\
      eY pg (gJ 24 i2) (dr w) fun i3 w_ => w_ = (dr w) /\
      eY pg (gJ 35 Md) (dr w) fun i4 w_ => w_ = (dr w) /\
      eY pg (jD i4) (dr w) fun i5 w_ => w_ = (dr w) /\
      eY pg (gM 67 i5 2) (dr w) fun i6 w_ => w_ = (dr w) /\
      eY pg (gM 28 i6 1) (dr w) fun i7 w_ => w_ = (dr w) /\
      eY pg (gJ 25 i7) (dr w) fun i8 w_ => w_ = (dr w) /\
      eY pg (lL 25 3 i8) (dr w) fun i9 w_ => w_ = (dr w) /\
      eY pg (gJ 3 IF) (dr w) fun j0 w_ => w_ = (dr w) /\
      eY pg (lY 24) (dr w) fun PA vH =>
      (gN pg (gJ 3 IF) j0 vH /\ gN pg (lL 25 3 i8) i9 vH /\ gN pg (gJ 25 i7) i8 vH /\ gN pg (gM 28 i6 1) i7 vH /\ gN pg (gM 67 i5 2) i6 vH /\ gN pg (jD i4) i5 vH /\ gN pg (gJ 35 Md) i4 vH /\ gN pg (gJ 24 i2) i3 vH /\ gN pg (gM 28 i1 0) i2 vH /\ gN pg (gM 67 i0 2) i1 vH /\ gN pg (jD f9) i0 vH /\ gN pg (gJ 35 Md) f9 vH /\ True) /\
      gT pg pT #[i3, i9, j0] vH fun j1 Mk =>
      Mk = Mk /\
      eY pg (iZ j1 0) Mk fun j2 w_ => w_ = Mk /\
      eY pg (iZ j1 1) Mk fun j3 w_ => w_ = Mk /\
      eY pg (iZ j1 2) Mk fun j4 w_ => w_ = Mk /\
      eY pg (iG 24 PA j2) Mk fun _u18 Em =>
      (gN pg (iZ j1 2) j4 Em /\ gN pg (iZ j1 1) j3 Em /\ True) /\
      Em = Em /\
      Em = Em /\
      kn Md IF Sq PA Em)))))
theorem H6 (kn : K4) (R : K1) (hn : N4 Q kn 3 4 5 7) (hr : HR sH R Q) (h : xW kn R (g 0) (g 1) (g 2) w) : iY pg qO (gX 3 nN) Q g w :=
 lN (l := []) h hn hr trivial
def yM (R : K1) (lS ZL WW : ahB) (w : ahA) : Prop :=
 xW (fun Md IF Sq PA w => nC R Md IF Sq PA w) R lS ZL WW w
theorem Ik (R : K1) (hr : HR sH R Q) (h : yM R (g 0) (g 1) (g 2) w) : iY pg qO nN Q g w :=
 sW 3 (H6 _ g w (nC R) R (fun g w h => iC (IJ _ g w R hr h)) hr h)
def HV (a0 a1 a2 : ahB) (w : ahA) (R : K1) : Prop :=
 yM R a0 a1 a2 w
theorem I2 {a0 a1 a2 : ahB} {w : ahA} {R : K1} (h : HV a0 a1 a2 w R) : gT pg kI #[a0, a1, a2] w R := by
 refine xB (ann := qO) Tryd.f11 nN [a0, a1, a2] sH 97 TrydM.mixed Tryd.func11 ?_
 exact (Ik _ _ _ R (fun _ _ h => h) h)
def As : FA := ⟨lO, fun i => match Nat.beq i 7 with | true => .leaf ([9], []) [(false, []), (false, []), (false, []), (false, []), (false, []), (false, []), (false, []), (false, []), (false, []), (true, []), (false, []), (false, []), (false, []), (false, []), (false, [])] | false => match Nat.beq i 11 with | true => .leaf ([3, 6], [(0, 3)]) [(false, []), (false, []), (false, []), (true, [2]), (false, []), (false, []), (true, [])] | false => match Nat.beq i 14 with | true => .leaf ([7, 8, 11], [(0, 7), (0, 8)]) [(false, []), (false, []), (false, []), (false, []), (false, []), (false, []), (false, []), (true, [6]), (true, [7]), (false, []), (false, []), (true, [])] | false => match Nat.beq i 15 with | true => .leaf ([8], []) [(false, []), (false, []), (false, []), (false, []), (false, []), (false, []), (false, []), (false, []), (true, [])] | false => .leaf ([], []) []⟩
def Bn : List ResultVar := [.tmp 2]
noncomputable def zS : Code := jB Tryd.f12
def tF (R : K1) (lS : ahB) (w : ahA) : Prop :=
 eY pg (EL 35 lS) w fun Rn w =>
 eY pg (gJ 35 Rn) w fun b6 w =>
 gT pg lK #[b6] w fun b7 w =>
 eY pg (gO .neq 29 (.tmp 7) (.const (ahC 0)) b7 (ahC 0)) w fun b8 w =>
 mC b8
  (eY pg (gJ 35 Rn) w fun b9 w =>
  gT pg lK #[b9] w fun c0 w =>
  R c0 w)
  (eY pg (gJ 35 Rn) w fun c2 w =>
  eY pg (jD c2) w fun c3 w =>
  eY pg (gM 67 c3 6) w fun c4 w =>
  eY pg (gJ 4 c4) w fun c5 w =>
  mC c5
   (R (ahC 0) w)
   (eY pg (gJ 35 Rn) w fun c7 w =>
   eY pg (jD c7) w fun c8 w =>
   eY pg (gM 67 c8 4) w fun c9 w =>
   eY pg (gJ 45 c9) w fun d0 w =>
   gT pg zP #[d0] w fun d1 w =>
   eY pg (KO .not d1) w fun d2 w =>
   mC d2
    (R (ahC 30) w)
    (eY pg (gJ 35 Rn) (dr w) fun d4 w_ => w_ = (dr w) /\
    eY pg (jD d4) (dr w) fun d5 w_ => w_ = (dr w) /\
    eY pg (gM 67 d5 0) (dr w) fun d6 w_ => w_ = (dr w) /\
    eY pg (gJ 32 d6) (dr w) fun d7 w_ => w_ = (dr w) /\
    eY pg (gJ 35 Rn) (dr w) fun d8 w_ => w_ = (dr w) /\
    eY pg (jD d8) (dr w) fun d9 w_ => w_ = (dr w) /\
    eY pg (gM 67 d9 1) (dr w) fun e0 w_ => w_ = (dr w) /\
    eY pg (gJ 9 e0) (dr w) fun e1 w_ => w_ = (dr w) /\
    eY pg (gO .add 9 iB iB e1 (.string ⟨#[46, 112, 97, 114, 116]⟩)) (dr w) fun e2 w_ => w_ = (dr w) /\
    gT pg lU #[d7, e2] (dr w) fun e3 I9 =>
    I9 = I9 /\
    eY pg (iZ e3 0) I9 fun e4 w_ => w_ = I9 /\
    eY pg (iZ e3 1) I9 fun e5 w_ => w_ = I9 /\
    I9 = I9 /\
    I9 = I9 /\
    eY pg (gO .neq 29 (.tmp 36) (.const (ahC 0)) e5 (ahC 0)) I9 fun e7 w =>
    mC e7
     (eY pg (gJ 35 Rn) w fun e8 w =>
     eY pg (jD e8) w fun f0 w =>
     eY pg (gM 67 f0 7) w fun f1 w =>
     eY pg (iG 29 f1 e5) w fun _u w =>
     R e5 w)
     (eY pg (gJ 35 Rn) (dr w) fun f3 w_ => w_ = (dr w) /\
     eY pg (gJ 35 Rn) (dr w) fun f4 w_ => w_ = (dr w) /\
     (dr w) = (dr w) /\
     gT pg mM #[f4, e4] (dr w) fun f6 QK =>
     (gN pg (gJ 35 Rn) f3 QK /\ True) /\
     eY pg (jD f3) QK fun f7 w_ => w_ = QK /\
     eY pg (gM 67 f7 4) QK fun f8 w_ => w_ = QK /\
     eY pg (iG 45 f8 f6) QK fun _u6 Z1 =>
     eY pg (gJ 35 Rn) Z1 fun f9 w =>
     eY pg (jD f9) w fun i0 w =>
     eY pg (gM 67 i0 4) w fun i1 w =>
     eY pg (gJ 45 i1) w fun i2 w =>
     gT pg zP #[i2] w fun i3 w =>
     eY pg (KO .not i3) w fun i4 w =>
     mC i4
      (R (ahC 13) w)
      (eY pg (gJ 35 Rn) (dr w) fun i5 w_ => w_ = (dr w) /\
      eY pg (JM (.func 36) [] [Rn]) (dr w) fun i6 w_ => w_ = (dr w) /\
      eY pg (gJ 35 Rn) (dr w) fun i7 w_ => w_ = (dr w) /\
      eY pg (jD i7) (dr w) fun i8 w_ => w_ = (dr w) /\
      eY pg (gM 67 i8 0) (dr w) fun i9 w_ => w_ = (dr w) /\
      eY pg (gJ 32 i9) (dr w) fun j0 w_ => w_ = (dr w) /\
      eY pg (JM (.func 19) [j0] []) (dr w) fun j1 w_ => w_ = (dr w) /\
      eY pg (iL 98 2 [(0, i6), (1, j1)]) (dr w) fun j2 YF =>
      (gN pg (gJ 35 Rn) i5 YF /\ True) /\
      gT pg xF #[j2] YF fun j3 Qp =>
      (gN pg (gJ 35 Rn) i5 Qp /\ True) /\
      eY pg (jD i5) Qp fun j4 w_ => w_ = Qp /\
      eY pg (gM 67 j4 7) Qp fun j5 w_ => w_ = Qp /\
      eY pg (iG 29 j5 j3) Qp fun _u11 uX =>
      eY pg (gJ 35 Rn) (dr uX) fun j6 w_ => w_ = (dr uX) /\
      eY pg (gJ 35 Rn) (dr uX) fun j7 w_ => w_ = (dr uX) /\
      eY pg (jD j7) (dr uX) fun j8 w_ => w_ = (dr uX) /\
      eY pg (gM 67 j8 7) (dr uX) fun j9 w_ => w_ = (dr uX) /\
      eY pg (gJ 29 j9) (dr uX) fun l0 w_ => w_ = (dr uX) /\
      eY pg (gO .eql 29 (.tmp 70) (.const (ahC 0)) l0 (ahC 0)) (dr uX) fun l1 w_ => w_ = (dr uX) /\
      eY pg (jD j6) (dr uX) fun l2 w_ => w_ = (dr uX) /\
      eY pg (gM 67 l2 6) (dr uX) fun l3 w_ => w_ = (dr uX) /\
      eY pg (iG 4 l3 l1) (dr uX) fun _u8 ZN =>
      eY pg (gJ 35 Rn) ZN fun l4 w =>
      eY pg (jD l4) w fun l5 w =>
      eY pg (gM 67 l5 7) w fun l6 w =>
      eY pg (gJ 29 l6) w fun l7 w =>
      R l7 w)))))
theorem FQ (R : K1) (hr : HR Bn R Q) (h : tF R (g 0) w) : iY pg As zS Q g w :=
 lN (kn := no) (l := []) h mH hr trivial
def DH (a0 : ahB) (w : ahA) (R : K1) : Prop :=
 tF R a0 w
theorem F4 {a0 : ahB} {w : ahA} {R : K1} (h : DH a0 w R) : gT pg lO #[a0] w R := by
 refine xB (ann := As) Tryd.f12 zS [a0] Bn 78 TrydM.mixed Tryd.func12 ?_
 exact (FQ _ _ _ R (fun _ _ h => h) h)
def DJ : FA := ⟨lU, fun i => .leaf ([], []) []⟩
def Fg : List ResultVar := [.tmp 4, .tmp 5]
noncomputable def CZ : Code := jB Tryd.f13
def Ag (R : K1) (lE uS : ahB) (w : ahA) : Prop :=
 gT pg nI #[lE] w fun c0 w =>
 eY pg (gO .neq 29 (.tmp 11) (.const (ahC 0)) c0 (ahC 0)) w fun c2 w =>
 mC c2
  (R (.tuple #[(.slice none 0 0), c0]) w)
  (eY pg (jD lE) w fun c6 w =>
  eY pg (gM 64 c6 2) w fun c7 w =>
  eY pg (gJ 61 c7) w fun c8 w =>
  eY pg (Ay 61 c8 uS true) w fun d0 w =>
  eY pg (iZ d0 0) w fun d1 w =>
  eY pg (iZ d0 1) w fun d2 w =>
  eY pg (KO .not d2) w fun d4 w =>
  mC d4
   (R (.tuple #[(.slice none 0 0), (ahC 21)]) w)
   (gT pg lA #[d1] w fun d6 w =>
   R (.tuple #[d6, (ahC 0)]) w))
theorem JZ (R : K1) (hr : HR Fg R Q) (h : Ag R (g 0) (g 1) w) : iY pg DJ CZ Q g w :=
 lN (kn := no) (l := []) h mH hr trivial
def I4 (a0 a1 : ahB) (w : ahA) (R : K1) : Prop :=
 Ag R a0 a1 w
theorem Kh {a0 a1 : ahB} {w : ahA} {R : K1} (h : I4 a0 a1 w R) : gT pg lU #[a0, a1] w R := by
 refine xB (ann := DJ) Tryd.f13 CZ [a0, a1] Fg 27 TrydM.mixed Tryd.func13 ?_
 exact (JZ _ _ _ R (fun _ _ h => h) h)
def Ca : FA := ⟨oU, fun i => .leaf ([], []) []⟩
def C5 : List ResultVar := [.tmp 2]
noncomputable def Bb : Code := jB Tryd.f14
def wR (R : K1) (lS : ahB) (w : ahA) : Prop :=
 eY pg (gO .neq 35 (.tmp 3) (.const (.pointer none)) lS (.pointer none)) w fun b4 w =>
 Gd (kE b4 true) (fun K => K lS w) w fun b6 w =>
 Gd (kE b4 true) (fun K => eY pg (jD b6) w K) w fun b7 w =>
 Gd (kE b4 true) (fun K => eY pg (gM 67 b7 6) w K) w fun b8 w =>
 Gd (kE b4 true) (fun K => eY pg (gJ 4 b8) w K) w fun b9 w =>
 eY pg (lD b4 b9 (.bool false)) w fun c0 w =>
 R c0 w
theorem Hh (R : K1) (hr : HR C5 R Q) (h : wR R (g 0) w) : iY pg Ca Bb Q g w :=
 lN (kn := no) (l := []) h mH hr trivial
def F9 (a0 : ahB) (w : ahA) (R : K1) : Prop :=
 wR R a0 w
theorem IV {a0 : ahB} {w : ahA} {R : K1} (h : F9 a0 w R) : gT pg oU #[a0] w R := by
 refine xB (ann := Ca) Tryd.f14 Bb [a0] C5 11 TrydM.mixed Tryd.func14 ?_
 exact (Hh _ _ _ R (fun _ _ h => h) h)
def Bi : FA := ⟨lH, fun i => .leaf ([], []) []⟩
def Cp : List ResultVar := [.tmp 2]
noncomputable def Af : Code := jB Tryd.f15
def uN (R : K1) (lS : ahB) (w : ahA) : Prop :=
 eY pg (gO .eql 35 (.tmp 3) (.const (.pointer none)) lS (.pointer none)) w fun b4 w =>
 mC b4
  (R (.int .u64 0) w)
  (eY pg (jD lS) w fun b6 w =>
  eY pg (gM 67 b6 3) w fun b7 w =>
  eY pg (gJ 24 b7) w fun b8 w =>
  R b8 w)
theorem Gr (R : K1) (hr : HR Cp R Q) (h : uN R (g 0) w) : iY pg Bi Af Q g w :=
 lN (kn := no) (l := []) h mH hr trivial
def Fe (a0 : ahB) (w : ahA) (R : K1) : Prop :=
 uN R a0 w
theorem Hw {a0 : ahB} {w : ahA} {R : K1} (h : Fe a0 w R) : gT pg lH #[a0] w R := by
 refine xB (ann := Bi) Tryd.f15 Af [a0] Cp 9 TrydM.mixed Tryd.func15 ?_
 exact (Gr _ _ _ R (fun _ _ h => h) h)
def C6 : FA := ⟨kY, fun i => match Nat.beq i 9 with | true => .leaf ([4], [(4, 7), (4, 8), (4, 10), (4, 11), (4, 14), (4, 15), (4, 16)]) [(false, []), (false, []), (false, []), (false, []), (true, []), (false, []), (false, []), (false, [2]), (false, [3]), (false, []), (false, [5]), (false, [6]), (false, []), (false, []), (false, [9]), (false, [10]), (false, [11]), (false, []), (false, [])] | false => .leaf ([], []) []⟩
def Dm : List ResultVar := [.tmp 8]
noncomputable def Cr : Code := jB Tryd.f16
def yN (R : K1) (lE uS VV TR : ahB) (w : ahA) : Prop :=
 gT pg nI #[lE] w fun c2 w =>
 eY pg (gO .neq 29 (.tmp 13) (.const (ahC 0)) c2 (ahC 0)) w fun c4 w =>
 mC c4
  (R c2 w)
  (eY pg (jD lE) w fun c7 w =>
  eY pg (gM 64 c7 2) w fun c8 w =>
  eY pg (gJ 61 c8) w fun c9 w =>
  eY pg (Ay 61 c9 uS false) w fun d1 w =>
  eY pg (mV .len #[22] 3 [d1]) w fun d2 w =>
  gT pg Bz #[uS] w fun d5 w =>
  eY pg (KO .not d5) w fun d6 w =>
  Gd (kE d6 false) (fun K => K VV w) w fun d8 w =>
  Gd (kE d6 false) (fun K => eY pg (gO .lss 3 iB iB d8 (ahC 0)) w K) w fun d9 w =>
  eY pg (lD d6 (.bool true) d9) w fun e0 w =>
  mC e0
   (R (ahC 1) w)
   (eY pg (gO .gtr 3 iB iB VV d2) w fun e4 w =>
   mC e4
    (R (ahC 17) w)
    ((dr w) = (dr w) /\
    eY pg (jD lE) (dr w) fun e7 w_ => w_ = (dr w) /\
    eY pg (gM 64 e7 2) (dr w) fun e8 w_ => w_ = (dr w) /\
    eY pg (gJ 61 e8) (dr w) fun e9 w_ => w_ = (dr w) /\
    gT pg uD #[e9] (dr w) fun f0 Aa =>
    Aa = Aa /\
    Aa = Aa /\
    eY pg (mV .len #[22] 3 [TR]) Aa fun f3 w_ => w_ = Aa /\
    (gN pg (mV .len #[22] 3 [TR]) f3 (dr w) /\ True) /\
    eY pg (gO .add 3 iB iB VV f3) Aa fun f4 w_ => w_ = Aa /\
    (gN pg (gO .add 3 iB iB VV f3) f4 (dr w) /\ True) /\
    Aa = Aa /\
    eY pg (gO .sub 3 iB iB f4 d2) Aa fun f6 w_ => w_ = Aa /\
    (gN pg (gO .sub 3 iB iB f4 d2) f6 (dr w) /\ True) /\
    eY pg (mV .max #[3, 3] 3 [f6, (ahC 0)]) Aa fun f7 w_ => w_ = Aa /\
    (gN pg (mV .max #[3, 3] 3 [f6, (ahC 0)]) f7 (dr w) /\ True) /\
    eY pg (gO .add 3 iB iB f0 f7) Aa fun f8 w_ => w_ = Aa /\
    Aa = Aa /\
    eY pg (jD lE) Aa fun i0 w_ => w_ = Aa /\
    (gN pg (jD lE) i0 (dr w) /\ True) /\
    eY pg (gM 64 i0 0) Aa fun i1 w_ => w_ = Aa /\
    (gN pg (gM 64 i0 0) i1 (dr w) /\ True) /\
    eY pg (gJ 3 i1) Aa fun i2 w_ => w_ = Aa /\
    (gN pg (gJ 3 i1) i2 (dr w) /\ True) /\
    eY pg (gO .gtr 3 iB iB f8 i2) Aa fun i3 w_ => w_ = Aa /\
    Aa = Aa /\
    mC i3
     (R (ahC 22) Aa)
     (gT pg lA #[TR] Aa fun i8 w =>
     eY pg (lZ 88 [(0, (ahC 0)), (1, uS), (3, VV), (4, i8)]) w fun i9 w =>
     gT pg oT #[lE, i9] w fun j0 w =>
     R j0 w))))
theorem H8 (R : K1) (hr : HR Dm R Q) (h : yN R (g 0) (g 1) (g 2) (g 3) w) : iY pg C6 Cr Q g w :=
 lN (kn := no) (l := []) h mH hr trivial
def HY (a0 a1 a2 a3 : ahB) (w : ahA) (R : K1) : Prop :=
 yN R a0 a1 a2 a3 w
theorem JS {a0 a1 a2 a3 : ahB} {w : ahA} {R : K1} (h : HY a0 a1 a2 a3 w R) : gT pg kY #[a0, a1, a2, a3] w R := by
 refine xB (ann := C6) Tryd.f16 Cr [a0, a1, a2, a3] Dm 61 TrydM.mixed Tryd.func16 ?_
 exact (H8 _ _ _ R (fun _ _ h => h) h)
def Cc : FA := ⟨oY, fun i => .leaf ([], []) []⟩
def CO : List ResultVar := [.tmp 2]
noncomputable def Be : Code := jB Tryd.f17
def wI (R : K1) (lS : ahB) (w : ahA) : Prop :=
 eY pg (gO .eql 35 (.tmp 3) (.const (.pointer none)) lS (.pointer none)) w fun b4 w =>
 mC b4
  (R (.slice none 0 0) w)
  (eY pg (jD lS) w fun b6 w =>
  eY pg (gM 67 b6 4) w fun b7 w =>
  eY pg (gJ 45 b7) w fun b8 w =>
  gT pg oL #[b8] w fun b9 w =>
  R b9 w)
theorem Hy (R : K1) (hr : HR CO R Q) (h : wI R (g 0) w) : iY pg Cc Be Q g w :=
 lN (kn := no) (l := []) h mH hr trivial
def Gp (a0 : ahB) (w : ahA) (R : K1) : Prop :=
 wI R a0 w
theorem IC {a0 : ahB} {w : ahA} {R : K1} (h : Gp a0 w R) : gT pg oY #[a0] w R := by
 refine xB (ann := Cc) Tryd.f17 Be [a0] CO 10 TrydM.mixed Tryd.func17 ?_
 exact (Hy _ _ _ R (fun _ _ h => h) h)
def HI : FA := ⟨xI, fun i => .leaf ([], []) []⟩
def JO : List ResultVar := [.cell 2 49]
noncomputable def GD : Code := jB Tryd.f18
def Dy (R : K1) (A5 : ahB) (w : ahA) : Prop :=
 eY pg (lY 49) w fun b2 w =>
 eY pg (iL 22 1 [(0, (.int .u8 0))]) w fun b3 w =>
 eY pg (mV .append #[22, 22] 22 [b3, A5]) w fun b5 w =>
 gT pg JD #[b5] w fun b6 w =>
 eY pg (iG 49 b2 b6) w fun _u w =>
 VR pg 49 b2 w fun r0 => R r0 w
theorem LZ (R : K1) (hr : HR JO R Q) (h : Dy R (g 0) w) : iY pg HI GD Q g w :=
 lN (kn := no) (l := []) h mH hr trivial
def Oj (a0 : ahB) (w : ahA) (R : K1) : Prop :=
 Dy R a0 w
theorem Ns {a0 : ahB} {w : ahA} {R : K1} (h : Oj a0 w R) : gT pg xI #[a0] w R := by
 refine xB (ann := HI) Tryd.f18 GD [a0] JO 7 TrydM.mixed Tryd.func18 ?_
 exact (LZ _ _ _ R (fun _ _ h => h) h)
def DX : FA := ⟨jJ, fun i => .leaf ([], []) []⟩
def EV : List ResultVar := [.tmp 2]
noncomputable def CY : Code := jB Tryd.f19
def Ar (R : K1) (lE : ahB) (w : ahA) : Prop :=
 gT pg nI #[lE] w fun b5 w =>
 eY pg (gO .neq 29 (.tmp 6) (.const (ahC 0)) b5 (ahC 0)) w fun b7 w =>
 mC b7
  (R b5 w)
  (gT pg pZ #[lE] w fun c0 w =>
  mC c0
   (R (ahC 20) w)
   (eY pg (jD lE) w fun c4 w =>
   eY pg (gM 64 c4 2) w fun c5 w =>
   eY pg (gJ 61 c5) w fun c6 w =>
   gT pg tY #[c6] w fun c7 w =>
   eY pg (jD lE) w fun c8 w =>
   eY pg (gM 64 c8 1) w fun c9 w =>
   eY pg (iG 61 c9 c7) w fun _u w =>
   eY pg (jD lE) w fun d0 w =>
   eY pg (gM 64 d0 3) w fun d1 w =>
   eY pg (iG 62 d1 (.slice none 0 0)) w fun _u w =>
   R (ahC 0) w))
theorem I8 (R : K1) (hr : HR EV R Q) (h : Ar R (g 0) w) : iY pg DX CY Q g w :=
 lN (kn := no) (l := []) h mH hr trivial
def I7 (a0 : ahB) (w : ahA) (R : K1) : Prop :=
 Ar R a0 w
theorem Kg {a0 : ahB} {w : ahA} {R : K1} (h : I7 a0 w R) : gT pg jJ #[a0] w R := by
 refine xB (ann := DX) Tryd.f19 CY [a0] EV 22 TrydM.mixed Tryd.func19 ?_
 exact (I8 _ _ _ R (fun _ _ h => h) h)
def CR : FA := ⟨lK, fun i => .leaf ([], []) []⟩
def Ex : List ResultVar := [.tmp 2]
noncomputable def Cf : Code := jB Tryd.f20
def yY (R : K1) (lS : ahB) (w : ahA) : Prop :=
 eY pg (gO .eql 35 (.tmp 3) (.const (.pointer none)) lS (.pointer none)) w fun b4 w =>
 mC b4
  (R (ahC 1) w)
  (eY pg (jD lS) w fun b6 w =>
  eY pg (gM 67 b6 7) w fun b7 w =>
  eY pg (gJ 29 b7) w fun b8 w =>
  R b8 w)
theorem Ig (R : K1) (hr : HR Ex R Q) (h : yY R (g 0) w) : iY pg CR Cf Q g w :=
 lN (kn := no) (l := []) h mH hr trivial
def H3 (a0 : ahB) (w : ahA) (R : K1) : Prop :=
 yY R a0 w
theorem Jp {a0 : ahB} {w : ahA} {R : K1} (h : H3 a0 w R) : gT pg lK #[a0] w R := by
 refine xB (ann := CR) Tryd.f20 Cf [a0] Ex 9 TrydM.mixed Tryd.func20 ?_
 exact (Ig _ _ _ R (fun _ _ h => h) h)
def DO : FA := ⟨rP, fun i => .leaf ([], []) []⟩
def MS : List ResultVar := []
noncomputable def CP : Code := jB Tryd.f21
def AH (kn : K0) (lE XP : ahB) (w : ahA) : Prop :=
 eY pg (gO .neq 32 (.tmp 4) (.const (.pointer none)) lE (.pointer none)) w fun b5 w =>
 mC b5
  (eY pg (mV .max #[3, 3] 3 [XP, (ahC (-1))]) w fun b8 w =>
  eY pg (jD lE) w fun b9 w =>
  eY pg (gM 64 b9 4) w fun c0 w =>
  eY pg (iG 3 c0 b8) w fun _u w =>
  kn w)
  (kn w)
theorem JB (kn : K0) (hn : N0 Q kn) (h : AH kn (g 0) (g 1) w) : iY pg DO CP Q g w :=
 lN (kr := no) (l := []) h hn mH trivial
def JR (a0 a1 : ahB) (w : ahA) (R : K1) : Prop :=
 AH (fun  w => R (.tuple #[]) w) a0 a1 w
theorem Km {a0 a1 : ahB} {w : ahA} {R : K1} (h : JR a0 a1 w R) : gT pg rP #[a0, a1] w R := by
 refine xB (ann := DO) Tryd.f21 CP [a0, a1] MS 11 TrydM.mixed Tryd.func21 ?_
 exact (JB _ _ _ (fun  w => R (.tuple #[]) w) (fun _ _ h => h) h)
def kB : FA := ⟨qE, fun i => match Nat.beq i 5 with | true => .leaf ([5], []) [(false, []), (false, []), (false, []), (false, []), (false, []), (true, [])] | false => .leaf ([], []) []⟩
def yV : List ResultVar := []
noncomputable def jR : Code := jB Tryd.f22
def sM (kn : K0) (lE : ahB) (w : ahA) : Prop :=
 eY pg (jD lE) w fun f0 w =>
 eY pg (gM 64 f0 1) w fun f1 w =>
 eY pg (gJ 61 f1) w fun f2 w =>
 gT pg tY #[f2] w fun f3 w =>
 eY pg (jD lE) w fun f4 w =>
 eY pg (gM 64 f4 2) w fun f5 w =>
 eY pg (iG 61 f5 f3) w fun _u w =>
 eY pg (jD lE) w fun f6 w =>
 eY pg (gM 64 f6 3) w fun f7 w =>
 eY pg (iG 62 f7 (.slice none 0 0)) w fun _u w =>
 eY pg (jD lE) w fun f8 w =>
 eY pg (gM 64 f8 4) w fun f9 w =>
 eY pg (iG 3 f9 (ahC (-1))) w fun _u w =>
 eY pg (jD lE) w fun i0 w =>
 eY pg (gM 64 i0 5) w fun i1 w =>
 eY pg (iG 4 i1 (.bool false)) w fun _u w =>
 kn w
theorem Im (kn : K0) (hn : N0 Q kn) (h : sM kn (g 0) w) : iY pg kB (gK 1 (gK 1 jR)) Q g w :=
 lN (kr := no) (l := []) h hn mH trivial
def sQ (kn : K5) (lE lT c1 c2 c3 : ahB) (w : ahA) : Prop :=
 eY pg (gO .add 3 iB iB c3 (ahC 1)) w fun e4 w =>
 kn lE lT c1 c2 e4 w
theorem Iy (kn : K5) (hn : N5 Q kn 0 1 11 12 13) (h : sQ kn (g 0) (g 1) (g 11) (g 12) (g 13) w) : iY pg kB (gK 3 (bI (bI (gK 1 (gX 1 (gK 1 jR)))))) Q g w :=
 lN (kr := no) (l := []) h hn mH trivial
def zA (kn : K5) (k0 : K1) (lE lT c1 c2 c3 : ahB) (w : ahA) : Prop :=
 eY pg (gO .lss 3 iB iB c3 c2) w fun c4 w =>
 mC c4
  (eY pg (iK 62 c1 c3) w fun c6 w =>
  eY pg (gJ 88 c6) w fun c7 w =>
  eY pg (lY 88) w fun o_5 w =>
  eY pg (iG 88 o_5 c7) w fun _u w =>
  eY pg (mV .len #[45] 3 [lT]) w fun d0 w =>
  eY pg (gO .lss 3 iB iB c3 d0) w fun d1 w =>
  Gd (kE d1 true) (fun K => K lT w) w fun d3 w =>
  Gd (kE d1 true) (fun K => K c3 w) w fun d4 w =>
  Gd (kE d1 true) (fun K => eY pg (iK 45 d3 d4) w K) w fun d5 w =>
  Gd (kE d1 true) (fun K => eY pg (gJ 4 d5) w K) w fun d6 w =>
  eY pg (lD d1 d6 (.bool false)) w fun d7 w =>
  mC d7
   ((dr w) = (dr w) /\
   eY pg (jD lE) (dr w) fun d9 w_ => w_ = (dr w) /\
   eY pg (gM 64 d9 1) (dr w) fun e0 w_ => w_ = (dr w) /\
   eY pg (gJ 61 e0) (dr w) fun e1 w_ => w_ = (dr w) /\
   eY pg (gJ 88 o_5) (dr w) fun e2 w_ => w_ = (dr w) /\
   gT pg sS #[e1, e2] (dr w) fun e3 aaV =>
   kn lE lT c1 c2 c3 aaV)
   (kn lE lT c1 c2 c3 w))
  (k0 lE w)
theorem IZ (kn : K5) (k0 : K1) (hn : N5 Q kn 0 1 11 12 13) (h0 : E1 Q k0 0 0) (h : zA kn k0 (g 0) (g 1) (g 11) (g 12) (g 13) w) : iY pg kB (gX 3 (bI (bI (gK 1 (gX 1 (gK 1 jR)))))) Q g w :=
 lN (kr := no) (l := [(0, fun g w => k0 (g 0) w)]) h hn mH ⟨h0, trivial⟩
def rZ (kn : K5) (k0 : K1) (lE lT c1 c2 c3 : ahB) (w : ahA) : Prop :=
 zA (fun lE lT c1 c2 c3 w => sQ kn lE lT c1 c2 c3 w) k0 lE lT c1 c2 c3 w
def xU (k0 : K1) (lE lT c1 c2 c3 : ahB) (w : ahA) : Prop :=
 kJ (fun (X : ahB -> K0) (t : ahB) (w : ahA) => rZ (fun _ _ _ _ c3 w => X c3 w) k0 lE lT c1 c2 t w) c3 w
theorem Ix (kn : K5) (k0 : K1) (hn : N5 Q kn 0 1 11 12 13) (h0 : E1 Q k0 0 0) (h : rZ kn k0 (g 0) (g 1) (g 11) (g 12) (g 13) w) : iY pg kB (bI (bI (gK 1 (gX 1 (gK 1 jR))))) Q g w :=
 sW 3 (IZ _ g w (sQ kn) k0 (fun g w h => iC (Iy _ g w kn hn h)) h0 h)
theorem IX (k0 : K1) (h0 : E1 Q k0 0 0) (h : xU k0 (g 0) (g 1) (g 11) (g 12) (g 13) w) : iY pg kB (bI (gK 1 (gX 1 (gK 1 jR)))) Q g w := by
 refine OW (fun g : Env => g 13) (fun X t w => rZ (fun _ _ _ _ c3 w => X c3 w) k0 (g 0) (g 1) (g 11) (g 12) t w) h (fun X g1 w1 ha hL => ?_)
 rw [<- qI 0 ha, <- qI 1 ha, <- qI 11 ha, <- qI 12 ha] at hL
 exact (Ix _ g1 w1 (fun _ _ _ _ c3 w => X c3 w) k0 (fun _ _ h => h) h0 hL)
def yT (kn : K1) (lE lT c1 c2 c3 : ahB) (w : ahA) : Prop :=
 xU kn lE lT c1 c2 c3 w
def yC (kn : K5) (lE lT : ahB) (w : ahA) : Prop :=
 eY pg (jD lE) w fun b9 w =>
 eY pg (gM 64 b9 3) w fun c0 w =>
 eY pg (gJ 62 c0) w fun c1 w =>
 eY pg (mV .len #[62] 3 [c1]) w fun c2 w =>
 kn lE lT c1 c2 (ahC 0) w
theorem H7 (kn : K5) (hn : N5 Q kn 0 1 11 12 13) (h : yC kn (g 0) (g 1) w) : iY pg kB (gX 1 (gX 1 (gK 1 jR))) Q g w :=
 lN (kr := no) (l := []) h hn mH trivial
def zH (kn : K1) (lE lT : ahB) (w : ahA) : Prop :=
 yC (fun lE lT c1 c2 c3 w => yT kn lE lT c1 c2 c3 w) lE lT w
def yA (kn : K0) (lE lT : ahB) (w : ahA) : Prop :=
 zH (fun lE w => sM kn lE w) lE lT w
theorem It (kn : K1) (hn : N1 Q kn 0) (h : zH kn (g 0) (g 1) w) : iY pg kB (gX 1 (gK 1 jR)) Q g w :=
 sW 1 (H7 _ g w (yT kn) (fun g w h => iC (Oq 0 (IX _ g w kn hn h))) h)
def wF (kn : K2) (R : K1) (lE lT : ahB) (w : ahA) : Prop :=
 eY pg (gO .eql 32 (.tmp 6) (.const (.pointer none)) lE (.pointer none)) w fun b7 w =>
 mC b7
  (R (.tuple #[]) w)
  (kn lE lT w)
theorem HB (kn : K2) (R : K1) (hn : N2 Q kn 0 1) (hr : HR yV R Q) (h : wF kn R (g 0) (g 1) w) : iY pg kB (gX 1 jR) Q g w :=
 lN (l := []) h hn hr trivial
def wA (kn : K0) (R : K1) (lE lT : ahB) (w : ahA) : Prop :=
 wF (fun lE lT w => yA kn lE lT w) R lE lT w
theorem GR (kn : K0) (R : K1) (hn : N0 Q kn) (hr : HR yV R Q) (h : wA kn R (g 0) (g 1) w) : iY pg kB jR Q g w :=
 sW 1 (HB _ g w (yA kn) R (fun g w h => iC (sW 1 (It _ g w (sM kn) (fun g w h => iC (Im _ g w kn hn h)) h))) hr h)
def HM (a0 a1 : ahB) (w : ahA) (R : K1) : Prop :=
 wA (fun  w => R (.tuple #[]) w) R a0 a1 w
theorem Jc {a0 a1 : ahB} {w : ahA} {R : K1} (h : HM a0 a1 w R) : gT pg qE #[a0, a1] w R := by
 refine xB (ann := kB) Tryd.f22 jR [a0, a1] yV 52 TrydM.mixed Tryd.func22 ?_
 exact (GR _ _ _ (fun  w => R (.tuple #[]) w) R (fun _ _ h => h) (fun _ _ h => h) h)
def xP : FA := ⟨sU, fun i => .leaf ([], []) []⟩
def AL : List ResultVar := [.tmp 4, .tmp 5]
noncomputable def vP : Code := jB Tryd.f23
def pD (R : K1) (S9 : ahB) (w : ahA) : Prop :=
 eY pg (gO .gtr 24 iB iB S9 (.int .u64 1024)) w fun d5 w =>
 mC d5
  (R (.tuple #[(ahC 0), (ahC 12)]) w)
  (eY pg (lL 24 3 S9) w fun d7 w =>
  R (.tuple #[d7, (ahC 0)]) w)
theorem Mf (R : K1) (hr : HR AL R Q) (h : pD R (g 6) w) : iY pg xP (gK 4 vP) Q g w :=
 lN (kn := no) (l := []) h mH hr trivial
def DT (kn : K1) (R : K1) (Lg lJ : ahB) (w : ahA) : Prop :=
 eY pg (gO .lss 3 iB iB lJ (ahC 1)) w fun b8 w =>
 Gd (kE b8 false) (fun K => K lJ w) w fun c0 w =>
 Gd (kE b8 false) (fun K => eY pg (gO .gtr 3 iB iB c0 (ahC 65536)) w K) w fun c1 w =>
 eY pg (lD b8 (.bool true) c1) w fun c2 w =>
 mC c2
  (R (.tuple #[(ahC 0), (ahC 1)]) w)
  (eY pg (lL 3 24 lJ) w fun c5 w =>
  eY pg (gO .quo 24 iB iB Lg c5) w fun c6 w =>
  eY pg (lL 3 24 lJ) w fun c9 w =>
  eY pg (gO .rem 24 iB iB Lg c9) w fun d0 w =>
  eY pg (gO .gtr 24 iB iB d0 (.int .u64 0)) w fun d1 w =>
  mC d1
   (eY pg (gO .add 24 iB iB c6 (.int .u64 1)) w fun d3 w =>
   kn d3 w)
   (kn c6 w))
theorem Mq (kn : K1) (R : K1) (hn : N1 Q kn 6) (hr : HR AL R Q) (h : DT kn R (g 0) (g 1) w) : iY pg xP (gX 4 vP) Q g w :=
 lN (l := []) h hn hr trivial
def Dt (R : K1) (Lg lJ : ahB) (w : ahA) : Prop :=
 DT (fun S9 w => pD R S9 w) R Lg lJ w
theorem LW (R : K1) (hr : HR AL R Q) (h : Dt R (g 0) (g 1) w) : iY pg xP vP Q g w :=
 sW 4 (Mq _ g w (pD R) R (fun g w h => iC (Mf _ g w R hr h)) hr h)
def NX (a0 a1 : ahB) (w : ahA) (R : K1) : Prop :=
 Dt R a0 a1 w
theorem Nj {a0 a1 : ahB} {w : ahA} {R : K1} (h : NX a0 a1 w R) : gT pg sU #[a0, a1] w R := by
 refine xB (ann := xP) Tryd.f23 vP [a0, a1] AL 28 TrydM.mixed Tryd.func23 ?_
 exact (LW _ _ _ R (fun _ _ h => h) h)
def I5 : FA := ⟨pT, fun i => .leaf ([], []) []⟩
def KI : List ResultVar := [.tmp 6, .tmp 7, .tmp 8]
noncomputable def HU : Code := jB Tryd.f24
def FO (R : K1) (Lg lJ i_2 : ahB) (w : ahA) : Prop :=
 gT pg sU #[Lg, lJ] w fun c5 w =>
 eY pg (iZ c5 0) w fun c6 w =>
 eY pg (iZ c5 1) w fun c7 w =>
 eY pg (gO .neq 29 (.tmp 19) (.const (ahC 0)) c7 (ahC 0)) w fun d0 w =>
 mC d0
  (R (.tuple #[(.int .u64 0), (ahC 0), c7]) w)
  (eY pg (gO .lss 3 iB iB i_2 (ahC 0)) w fun d4 w =>
  Gd (kE d4 false) (fun K => K i_2 w) w fun d6 w =>
  Gd (kE d4 false) (fun K => K c6 w) w fun d7 w =>
  Gd (kE d4 false) (fun K => eY pg (gO .geq 3 iB iB d6 d7) w K) w fun d8 w =>
  eY pg (lD d4 (.bool true) d8) w fun d9 w =>
  mC d9
   (R (.tuple #[(.int .u64 0), (ahC 0), (ahC 17)]) w)
   (eY pg (lL 3 24 lJ) w fun e1 w =>
   eY pg (lL 3 24 i_2) w fun e3 w =>
   eY pg (gO .mul 24 iB iB e1 e3) w fun e4 w =>
   eY pg (gO .sub 24 iB iB Lg e4) w fun e8 w =>
   eY pg (lL 3 24 lJ) w fun f0 w =>
   eY pg (mV .min #[24, 24] 24 [e8, f0]) w fun f1 w =>
   eY pg (lL 24 3 f1) w fun f2 w =>
   R (.tuple #[e4, f2, (ahC 0)]) w))
theorem Nv (R : K1) (hr : HR KI R Q) (h : FO R (g 0) (g 1) (g 2) w) : iY pg I5 HU Q g w :=
 lN (kn := no) (l := []) h mH hr trivial
def O8 (a0 a1 a2 : ahB) (w : ahA) (R : K1) : Prop :=
 FO R a0 a1 a2 w
theorem Ow {a0 a1 a2 : ahB} {w : ahA} {R : K1} (h : O8 a0 a1 a2 w R) : gT pg pT #[a0, a1, a2] w R := by
 refine xB (ann := I5) Tryd.f24 HU [a0, a1, a2] KI 43 TrydM.mixed Tryd.func24 ?_
 exact (Nv _ _ _ R (fun _ _ h => h) h)
def Ba : FA := ⟨qU, fun i => .leaf ([], []) []⟩
def Ch : List ResultVar := [.tmp 2]
noncomputable def Ax : Code := jB Tryd.f25
def uQ (R : K1) (lS : ahB) (w : ahA) : Prop :=
 eY pg (gO .eql 26 (.tmp 3) (.const (.slice none 0 0)) lS (.slice none 0 0)) w fun b4 w =>
 mC b4
  (R (.slice none 0 0) w)
  (eY pg (iL 26 0 []) w fun b5 w =>
  eY pg (mV .append #[26, 26] 26 [b5, lS]) w fun b7 w =>
  R b7 w)
theorem GO (R : K1) (hr : HR Ch R Q) (h : uQ R (g 0) w) : iY pg Ba Ax Q g w :=
 lN (kn := no) (l := []) h mH hr trivial
def ES (a0 : ahB) (w : ahA) (R : K1) : Prop :=
 uQ R a0 w
theorem Hx {a0 : ahB} {w : ahA} {R : K1} (h : ES a0 w R) : gT pg qU #[a0] w R := by
 refine xB (ann := Ba) Tryd.f25 Ax [a0] Ch 8 TrydM.mixed Tryd.func25 ?_
 exact (GO _ _ _ R (fun _ _ h => h) h)
def Cu : FA := ⟨nD, fun i => .leaf ([], []) []⟩
def C3 : List ResultVar := [.tmp 4, .tmp 5, .tmp 6]
noncomputable def Bf : Code := jB Tryd.f26
def wS (R : K1) (lS uS : ahB) (w : ahA) : Prop :=
 eY pg (jD lS) w fun c1 w =>
 eY pg (gM 67 c1 0) w fun c2 w =>
 eY pg (gJ 32 c2) w fun c3 w =>
 gT pg lU #[c3, uS] w fun c5 w =>
 eY pg (iZ c5 0) w fun c6 w =>
 eY pg (iZ c5 1) w fun c7 w =>
 eY pg (gO .eql 29 (.tmp 18) (.const (ahC 21)) c7 (ahC 21)) w fun c9 w =>
 mC c9
  (R (.tuple #[(.slice none 0 0), (.bool false), (ahC 0)]) w)
  (eY pg (gO .eql 29 (.tmp 21) (.const (ahC 0)) c7 (ahC 0)) w fun d2 w =>
  R (.tuple #[c6, d2, c7]) w)
theorem G6 (R : K1) (hr : HR C3 R Q) (h : wS R (g 0) (g 1) w) : iY pg Cu Bf Q g w :=
 lN (kn := no) (l := []) h mH hr trivial
def GF (a0 a1 : ahB) (w : ahA) (R : K1) : Prop :=
 wS R a0 a1 w
theorem IN {a0 a1 : ahB} {w : ahA} {R : K1} (h : GF a0 a1 w R) : gT pg nD #[a0, a1] w R := by
 refine xB (ann := Cu) Tryd.f26 Bf [a0, a1] C3 24 TrydM.mixed Tryd.func26 ?_
 exact (G6 _ _ _ R (fun _ _ h => h) h)
end Go.Proofs.YteelnmpbnaohpaaDoor

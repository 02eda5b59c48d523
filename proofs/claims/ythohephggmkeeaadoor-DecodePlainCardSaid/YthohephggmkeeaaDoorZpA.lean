/- Parts of the proof of DecodePlain: merged and given short names by a program of ours. -/
import Derived.Orders
import Derived.Below
import Derived.KernelRfl
import Derived.Eval
import Derived.RangeFuncRecord
import Derived.Laws.Sem
import Derived.Scope
import Derived.Test.YthohephggmkeeaaDoorRows
set_option linter.unusedVariables false
set_option linter.unusedSimpArgs false
open Array renaming getD_eq_getD_getElem? → PS, getElem?_eq_getElem → PZ, mem_of_getElem? → Q2, length_toList → QC, getElem?_eq_none → QY, getElem?_setIfInBounds_self_of_lt → Qf, getElem?_setIfInBounds_ne → Qi, all_eq_true' → Qk
open Bool renaming false_eq_true → PG, not_true → PL, and_eq_true → PO, or_eq_false_iff → Q3, or_eq_true → Qn, not_eq_true' → Qo
open List renaming mem_cons_of_mem → P2, getD_eq_getElem?_getD → P7, all_eq_true → P8, length_cons → P9, getElem?_cons_succ → PF, getElem?_eq_getElem → PT, getElem?_eq_none → QI, mem_append_right → QJ, map_cons → QO, drop_eq_getElem_cons → QS, mem_append → QT, mem_range → Qd, map_congr_left → Qm, mem_append_left → Qs, length_eq_zero_iff → Qw, mem_cons → Qz
open Nat renaming eq_of_beq_eq_true → P4, zero_add → PM, le_refl → PY, blt_eq → QE, lt_or_ge → QH, le_of_ble_eq_true → QK, add_assoc → QN, lt_of_lt_of_le → QW
open Option renaming getD_some → Q0, map_some → Qe
open Option.some renaming inj → Qj
namespace Go.En
open Go
abbrev Q6 := World
abbrev Q7 := Value
abbrev Env := Nat -> Q7
def put (g : Env) (d : Option Tmp) (v : Q7) : Env :=
 match d with
 | some d => fun i => match Nat.beq i d with | true => v | false => g i
 | none => g
def ev (g : Env) : Operand -> Q7
 | .tmp t => g t
 | .const v => v
 | .global b => .pointer (some ⟨b, 0, none⟩)
 | .func f => .func (.func f) #[] #[]
def Po (P : Program) (f : FuncId) (args : Array Q7) (w : Q6) (v : Q7) (w' : Q6) : Prop :=
 Calls P f args w fun e w'' => e = .returned v /\ w'' = w'
def fK (P : Program) (f : FuncId) (args : Array Q7) (w : Q6) (R : Q7 -> Q6 -> Prop) : Prop :=
 ∃ v w', Po P f args w v w' /\ R v w'
theorem fK.mono {P : Program} {f : FuncId} {args : Array Q7} {w : Q6} {R R' : Q7 -> Q6 -> Prop} (h : fK P f args w R)
 (hr : ∀ v w', R v w' -> R' v w') : fK P f args w R' :=
 let ⟨v, w', a, b⟩ := h; ⟨v, w', a, hr _ _ b⟩
def OX (P : Program) (l : Nat) (f : FuncId) (tmps : Array Q7) (PD bd : Code) (w : Q6) (v : Q7) (w' : Q6) : Prop :=
 RoundIn Fence.wide 0 P l f tmps PD bd w fun e w'' => e = .returned v /\ w'' = w'
def O3 (P : Program) (l : Nat) (f : FuncId) (tmps : Array Q7) (PD bd : Code) (w : Q6) (R : Q7 -> Q6 -> Prop) : Prop :=
 ∃ v w', OX P l f tmps PD bd w v w' /\ R v w'
def LP (P : Program) (r : Result Next) (K : Q7 -> Q6 -> Prop) : Prop :=
 match r with
 | .ok (.value v) w => K v w
 | .ok .skip w => K undef w
 | .ok (.enter f args) w => fK P f args w K
 | .ok (.round l f tmps PD bd) w => O3 P l f tmps PD bd w K
 | _ => False
theorem cQ (P : Program) (v : Q7) (w : Q6) (K : Q7 -> Q6 -> Prop) : LP P (.ok (.value v) w) K = K v w := Eq.trans rfl rfl
theorem stepR_skip (P : Program) (w : Q6) (K : Q7 -> Q6 -> Prop) : LP P (.ok .skip w) K = K undef w := Eq.trans rfl rfl
def dQ (P : Program) (s : Sem Next) (w : Q6) (K : Q7 -> Q6 -> Prop) : Prop := LP P (s.run P w) K
def fE (P : Program) (s : Sem Next) (v : Q7) (w : Q6) : Prop := s.run P w = .ok (.value v) w
def Gd (b : Bool) (s : (Q7 -> Q6 -> Prop) -> Prop) (w : Q6) (K : Q7 -> Q6 -> Prop) : Prop :=
 match b with
 | true => s K
 | false => K undef w
def Pw (v : Q7) : Option Bool := match v with | .bool b => some b | _ => none
def lT (v : Q7) (want : Bool) : Bool := Pw v == some want
def kA (v : Q7) (A B : Prop) : Prop :=
 match v with
 | .bool b => (match b with | true => A | false => B)
 | _ => False
def tQ (ops : Array Oper) (j : Nat) : Option Tmp := (ops[j]?).bind (·.dst)
def qK (g : Env) (t : Option Tmp) (want : Bool) : Bool := match t with | some t => lT (g t) want | none => false
def V (s : Sem Q7) : Sem Next := do pure (.value (<- s))
def U (s : Sem Unit) : Sem Next := do s; pure .skip
def xS (op : BinOp) : Bool := match op with | .eql | .neq => true | _ => false
def fD (op : BinOp) (t : TypeId) (ox oy : Operand) (x y : Q7) : Sem Next :=
 match xS op with
 | true => V (do eqGuard op t ox oy x y; binOp op t x y)
 | false => V (binOp op t x y)
def mC (b : Builtin) (ats : Array TypeId) (ty : TypeId) (args : List Q7) : Sem Next := builtin b ats ty #[] args.toArray
def Fq (f : Q7) (args : List Q7) : Sem Next := do let d <- Deferred.ofValue f args.toArray; invoke d.target d.args
def NI (fn : Fn) (first captured : List Q7) : Sem Next := V (Instr.makeFunc fn first.toArray captured.toArray)
def iB (t : TypeId) (ps : List (Nat × Q7)) : Sem Next := V (Instr.build t ps.toArray)
def iK (t : TypeId) (n : Nat) (ps : List (Nat × Q7)) : Sem Next := V (Instr.buildSlice t n ps.toArray)
def A0 (g : Env) (o : Oper) : Sem Next :=
 match o.op with
 | .binOp op t x y _ => fD op t x y (ev g x) (ev g y)
 | .makeFunc fn first captured => NI fn (first.toList.map (ev g)) (captured.toList.map (ev g))
 | .build t ps => iB t (ps.toList.map fun p => (p.1, ev g p.2))
 | .buildSlice t n ps => iK t n (ps.toList.map fun p => (p.1, ev g p.2))
 | .call c => (match c.callee with
   | .builtin b => mC b c.argTypes o.type (c.args.toList.map (ev g))
   | .value f => Fq (ev g f) (c.args.toList.map (ev g))
   | _ => execOp (ev g) o)
 | _ => execOp (ev g) o
def yR (P : Program) (g : Env) (o : Oper) (w : Q6) (K : Q7 -> Q6 -> Prop) : Prop :=
 match o.op with
 | .move x => K (ev g x) w
 | .assign x => K (ev g x) w
 | .call c => (match c.callee with
   | .value (.func f) => fK P f (c.args.toList.map (ev g)).toArray w K
   | _ => dQ P (A0 g o) w K)
 | _ => dQ P (A0 g o) w K
def xF (P : Program) (ops : Array Oper) (g : Env) (o : Oper) (w : Q6) (K : Q7 -> Q6 -> Prop) : Prop :=
 match o.guard with
 | none => yR P g o w K
 | some (j, want) => Gd (qK g (tQ ops j) want) (yR P g o w) w K
def Hb (P : Program) (ops : Array Oper) : List Oper -> Env -> Q6 -> (Env -> Q6 -> Prop) -> Prop
 | [], g, w, K => K g w
 | o :: rest, g, w, K => xF P ops g o w fun v w' => Hb P ops rest (put g o.dst v) w' K
structure Rec where
 heavy : Bool
 o : Oper
 g : Env
 w : Q6
 v : Q7
def Pc (ops : Array Oper) (o : Oper) (g : Env) : Bool := match o.guard with | none => true | some (j, want) => qK g (tQ ops j) want
def Gs (b : Bool) (p : Prop) : Prop := match b with | true => p | false => True
def DL (P : Program) (ops : Array Oper) (q : Rec) (o : Oper) (g : Env) (w' : Q6) (v : Q7) : Prop :=
 match q.heavy with
 | true => Gs (Pc ops o g) (fE P (A0 g o) v q.w)
 | false => Gs (Pc ops q.o q.g) (fE P (A0 q.g q.o) q.v w')
def Hi (i j : Nat) : List (Nat × Nat) -> Bool
 | [] => false
 | (a, b) :: r => match Nat.beq a i with
   | true => (match Nat.beq b j with | true => true | false => Hi i j r)
   | false => Hi i j r
def lI (i : Nat) : List Nat -> Bool
 | [] => false
 | a :: r => match Nat.beq a i with | true => true | false => lI i r
def IY : List Rec -> Nat -> Option Rec
 | [], _ => none
 | q :: _, 0 => some q
 | _ :: r, n + 1 => IY r n
def Np (P : Program) (ops : Array Oper) (o : Oper) (g : Env) (w' : Q6) (v : Q7) (hist : List Rec) : List Nat -> Prop
 | [] => True
 | k :: ks => (match IY hist k with
   | some q => DL P ops q o g w' v
   | none => False) /\ Np P ops o g w' v hist ks
abbrev Ky := List Nat × List (Nat × Nat)
abbrev Jl := List (Bool × List Nat)
def lW (P : Program) (ops : Array Oper) : List Oper -> Jl -> List Rec -> Env -> Q6 -> (Env -> Q6 -> Prop) -> Prop
 | [], _, _, g, w, K => K g w
 | _ :: _, [], _, _, _, _ => False
 | o :: rest, (hv, ks) :: pl, hist, g, w, K =>
   xF P ops g o w fun v w' =>
    match hv, ks with
    | true, [] => lW P ops rest pl (⟨true, o, g, w, v⟩ :: hist) (put g o.dst v) w' K
    | true, k :: ks => Np P ops o g w' v hist (k :: ks) /\ lW P ops rest pl (⟨true, o, g, w, v⟩ :: hist) (put g o.dst v) w' K
    | false, [] => w' = w /\ lW P ops rest pl (⟨false, o, g, w, v⟩ :: hist) (put g o.dst v) w K
    | false, k :: ks => w' = w /\ Np P ops o g w v hist (k :: ks) /\ lW P ops rest pl (⟨false, o, g, w, v⟩ :: hist) (put g o.dst v) w K
def iG {α : Type} (F : (α -> Q6 -> Prop) -> α -> Q6 -> Prop) (g : α) (w : Q6) : Prop :=
 ∃ I : Nat -> α -> Q6 -> Prop, (∃ n, I n g w) /\ ∀ n g w, I n g w -> F (fun g' w' => ∃ m, m < n /\ I m g' w') g w
def rC (K : Env -> Q6 -> Prop) (Q : Exit -> Env -> Q6 -> Prop) : Exit -> Env -> Q6 -> Prop :=
 fun e g w => (fun (_ : Program -> Sem Next -> Q6 -> (Q7 -> Q6 -> Prop) -> Prop) => match e with | .normal => K g w | e => Q e g w) dQ
def Nm (id : Nat) (Q : Exit -> Env -> Q6 -> Prop) : Exit -> Env -> Q6 -> Prop :=
 fun e g w => (fun (_ : Program -> Sem Next -> Q6 -> (Q7 -> Q6 -> Prop) -> Prop) => match e with | .exit i => (match Nat.beq i id with | true => Q .normal g w | false => Q (.exit i) g w) | e => Q e g w) dQ
inductive HT where
 | leaf (an : Ky) (pl : Jl)
 | perm (π : List Nat) (es : List (Nat × Nat)) (an : Ky) (pl : Jl)
 | split (a b : Nat) (x y : HT)
structure FA where
 f : FuncId
 t : Nat -> HT
def pB : List Nat -> Nat -> Nat
 | [], _ => 0
 | a :: r, i => match Nat.beq a i with | true => 0 | false => pB r i + 1
def wS (π : List Nat) (i : Nat) : List (Nat × Nat) -> List Edge
 | [] => []
 | (a, b) :: r => match Nat.beq b i with | true => ⟨pB π a, .data⟩ :: wS π i r | false => wS π i r
def Au (π : List Nat) (es : List (Nat × Nat)) (i : Nat) (o : Oper) : Oper :=
 { dst := o.dst, op := o.op, type := o.type, pos := o.pos, after := (o.after.toList.map (fun e => (⟨pB π e.on, e.ground⟩ : Edge)) ++ wS π i es).toArray,
   guard := match o.guard with | none => none | some (j, b) => some (pB π j, b) }
def Ej (π : List Nat) (es : List (Nat × Nat)) (l : List Oper) : List Nat -> List Oper
 | [] => []
 | i :: r => match l[i]? with | some o => Au π es i o :: Ej π es l r | none => Ej π es l r
def lF (π : List Nat) (es : List (Nat × Nat)) (ops : Array Oper) : Array Oper := (Ej π es ops.toList π).toArray
def On (f : FuncId) (id : Nat) (ops : Array Oper) (a b : Nat) (w : Q6) : Bool :=
 Nat.ble ((Region.schedule true ops (w.tape w.drawn (.order f id))).idxOf a) ((Region.schedule true ops (w.tape w.drawn (.order f id))).idxOf b)
def Ord (b : Bool) (A B : Prop) : Prop := match b with | true => A | false => B
def Jm (P : Program) (f : FuncId) (id : Nat) (ops : Array Oper) : HT -> Env -> Q6 -> Q6 -> (Env -> Q6 -> Prop) -> Prop
 | .leaf _ pl, g, _, w, K => lW P ops ops.toList pl [] g w K
 | .perm π es _ pl, g, _, w, K => lW P (lF π es ops) (lF π es ops).toList pl [] g w K
 | .split a b x y, g, w0, w, K => Ord (On f id ops a b w0) (Jm P f id ops x g w0 w K) (Jm P f id ops y g w0 w K)
def DS : Nat := 1000003
def JG : Q7 -> List Deferred
 | .pointer (some a) => [{ target := .collected a.block, args := #[] }]
 | _ => []
def noMark : Q7 -> Bool
 | .pointer _ => false
 | _ => true
def tmpsOf (N : Nat) (g : Env) : Array Q7 := Array.ofFn (n := N) fun i => g i.val
def Ll (P : Program) (f : FuncId) : Nat := match P.funcs[f]? with | some fn => fn.ntmps | none => 0
def OR (Q : Exit -> Env -> Q6 -> Prop) (g : Env) : Option Code -> Q6 -> Prop
 | none, w => Q .normal g w
 | some .ret, w => Q .ret g w
 | some (.exit i), w => Q (.exit i) g w
 | _, _ => False
def ON (l : Nat) (Q : Exit -> Env -> Q6 -> Prop) (g : Env) (w : Q6) : Prop :=
 ∃ r : Loop, w.heap[l]? = some (.loop r) /\ r.state ≠ .busy /\ OR Q g r.pending (w.putObj l (.loop { r with state := .exhausted }))
def O2 (f : FuncId) (N : Nat) (ps : Array Tmp) (PD bd : Code) (g : Env) (w : Q6) : Q6 :=
 (w.alloc (.deferred (some []))).alloc (.loop { state := .ready, pending := none, fn := f, tmps := tmpsOf N g, params := ps, assign := PD, body := bd, defers := w.heap.size })
def OK (P : Program) (r : Result Next) (K : Q7 -> Q6 -> Prop) : Prop :=
 match r with
 | .ok (.enter f args) w => fK P f args w K
 | _ => False
def DU (l : Nat) : Q7 := .func (.yield l) #[] #[]
def RF (P : Program) (f : FuncId) (gf : Operand) (ps : Array Tmp) (PD bd : Code) (Q : Exit -> Env -> Q6 -> Prop) (g : Env) (w : Q6) : Prop :=
 match noMark (g DS) with
 | true => OK P ((Fq (ev g gf) [DU (w.heap.size + 1)]).run P (O2 f (Ll P f) ps PD bd g w)) fun _ w3 =>
  ON (w.heap.size + 1) Q (put g (some DS) (.pointer (some ⟨w.heap.size, 0, none⟩))) w3
 | false => False
def gF (P : Program) (ann : FA) : Code -> (Exit -> Env -> Q6 -> Prop) -> Env -> Q6 -> Prop
 | .skip, Q, g, w => Q .normal g w
 | .region id ops draw, Q, g, w => match draw with
   | false => Hb P ops ops.toList g w (Q .normal)
   | true => Jm P ann.f id ops (ann.t id) g w { w with drawn := w.drawn + 1 } (Q .normal)
 | .seq x y, Q, g, w => gF P ann x (rC (fun g w => gF P ann y Q g w) Q) g w
 | .cond c x y, Q, g, w => kA (ev g c) (gF P ann x Q g w) (gF P ann y Q g w)
 | .block id c, Q, g, w => gF P ann c (Nm id Q) g w
 | .loop c, Q, g, w => iG (fun X g w => gF P ann c (rC X Q) g w) g w
 | .scope c, Q, g, w => gF P ann c Q g w
 | .label _, Q, g, w => Q .normal g w
 | .exit id, Q, g, w => Q (.exit id) g w
 | .ret, Q, g, w => Q .ret g w
 | .rangeFunc gf ps PD bd, Q, g, w => RF P ann.f gf ps PD bd Q g w
 | _, _, _, _ => False
def KF (N : Nat) (o : Oper) : Bool := match o.dst with | some d => Nat.blt d N | none => true
def Lx (b : Array Nat) (i j : Nat) : Bool := (b.getD j 0).testBit i
def looks (ops : Array Oper) (o : Oper) : List Tmp :=
 (o.op.operands.toList.filterMap fun | .tmp t => some t | _ => none) ++ (match o.guard with | some (j, _) => (tQ ops j).toList | none => [])
def L1 (ops : Array Oper) (x y : Oper) : Bool :=
 (match x.dst with | some d => (looks ops y).contains d || y.dst == some d | none => false) ||
 (match y.dst with | some d => (looks ops x).contains d | none => false)
def F0 (o : Oper) : Bool := match o.op with | .select .. => true | _ => false
def LX (o : Oper) : Bool := match o.op with | .call { callee := .value (.func _), .. } => true | _ => false
def H2 (o : Oper) : Bool := match o.op with | .defer .. => true | _ => false
def H4 : Operand -> Bool | .tmp t => Nat.blt t DS | _ => true
def GS (P : Program) (o : Oper) : Bool :=
 match o.op with
 | .call c => (match c.callee with
   | .value (.func f) => (match P.funcs[f]? with | some fn => fn.body.isSome && !(fn.name == "runtime.NumGoroutine") | none => false)
   | .builtin b => (match b with | .print | .println => false | _ => true)
   | _ => true)
 | _ => true
def sM (P : Program) (o : Oper) : Bool := GS P o && (o.op.operands.toList.all H4 && (!F0 o && !H2 o))
def Bm (o : Oper) : Bool := match o.op with | .move _ | .assign _ => true | _ => false
def Ck (ops : Array Oper) (b : Array Nat) (an : Ky) (i j : Nat) (x y : Oper) : Bool :=
 Lx b i j ||
 (!L1 ops x y &&
   match lI i an.1, lI j an.1 with
   | true, true => false
   | false, false => true
   | true, false => Bm y || Hi i j an.2
   | false, true => Bm x || Hi i j an.2)
def I6 (ops : Array Oper) (b : Array Nat) (an : Ky) : Bool :=
 (List.range ops.size).all fun j => (List.range j).all fun i =>
  match ops[i]?, ops[j]? with
  | some x, some y => Ck ops b an i j x y
  | _, _ => false
def Ih (ops : Array Oper) : Bool :=
 (List.range ops.size).all fun i => match ops[i]? with
  | some o => o.after.all fun e => !Region.binds .any e || Nat.blt e.on i
  | none => false
def Ij (ops : Array Oper) (b : Array Nat) : Bool :=
 (List.range ops.size).all fun j => (List.range ops.size).all fun i =>
  !Lx b i j || (match ops[j]? with
   | some o => o.after.any fun e => Region.binds .any e && (Nat.beq e.on i || Lx b i e.on)
   | none => false)
def Hq (ops : Array Oper) (an : Ky) : Bool :=
 Ih ops && Ij ops (Region.before ops) && I6 ops (Region.before ops) an && (ops.all fun o => !F0 o) &&
  (List.range ops.size).all fun i => match ops[i]? with | some o => !LX o || lI i an.1 | none => false
def G0 (n : Nat) (an : Ky) (pl : Jl) : Bool :=
 (List.range n).all fun i => match pl[i]? with
  | some (h, ks) => h == lI i an.1 && an.2.all fun p => !Nat.beq p.2 i || (Nat.blt p.1 i && ks.contains (i - 1 - p.1))
  | none => false
def J0 (π : List Nat) (ops : Array Oper) : Bool :=
 Nat.beq π.length ops.size && ((List.range ops.size).all fun k => match π[k]? with | some i => Nat.beq (pB π i) k && Nat.blt i ops.size | none => false) &&
  ((List.range ops.size).all fun i => match π[pB π i]? with | some j => Nat.beq j i | none => false) &&
  ((List.range ops.size).all fun i => match ops[i]? with
    | some o => (o.after.all fun e => Nat.blt e.on ops.size) && (match o.guard with | some (j, _) => Nat.blt j ops.size | none => true)
    | none => false)
def Dv (P : Program) (N : Nat) (ops : Array Oper) : List (Nat × Nat) -> HT -> Bool
 | _, .leaf an pl => Hq ops an && G0 ops.size an pl
 | path, .perm π es an pl => (es.all fun p => Hi p.1 p.2 path && Nat.blt p.1 ops.size) && J0 π ops && (lF π es ops).all (KF N) && (lF π es ops).all (sM P) &&
  Hq (lF π es ops) an && G0 (lF π es ops).size an pl
 | path, .split a b x y => !Nat.beq a b && Dv P N ops ((a, b) :: path) x && Dv P N ops ((b, a) :: path) y
def codeOk (P : Program) (N : Nat) (ann : FA) : Code -> Bool
 | .skip | .exit _ | .ret | .label _ => true
 | .scope c => codeOk P N ann c
 | .region id ops draw => ops.all (KF N) && ops.all (sM P) && (!draw || Dv P N ops [] (ann.t id))
 | .seq x y => codeOk P N ann x && codeOk P N ann y
 | .cond c x y => H4 c && (codeOk P N ann x && codeOk P N ann y)
 | .block _ c => codeOk P N ann c
 | .loop c => codeOk P N ann c
 | .rangeFunc gf _ _ _ => H4 gf
 | _ => false
def oM : Code -> Bool
 | .seq x y => oM x && oM y
 | .cond _ x y => oM x && oM y
 | .block _ c => oM c
 | .loop c => oM c
 | .scope c => oM c
 | .rangeFunc .. => false
 | _ => true
def JD : ResultVar -> Bool
 | .tmp t => Nat.blt t DS
 | .cell a _ => Nat.blt a DS
theorem AJ (g : Env) (d i : Nat) (v : Q7) : put g (some d) v i = if i = d then v else g i := by
 unfold put
 by_cases h : i = d
 .subst h; simp
 .have : Nat.beq i d = false := by
   cases hb : Nat.beq i d
   .rfl
   .exact absurd (P4 hb) h
  simp [this, h]
theorem IP {P : Program} {o : Oper} (h : sM P o = true) : GS P o = true := by
 unfold sM at h; simp only [PO] at h; exact h.1
theorem J4 {P : Program} {o : Oper} (h : sM P o = true) : ∀ x ∈ o.op.operands, H4 x = true := by
 unfold sM at h; simp only [PO] at h
 intro x hx
 exact P8.1 h.2.1 x (by simpa using hx)
theorem JW {P : Program} {o : Oper} (h : sM P o = true) : F0 o = false := by
 unfold sM at h; simp only [PO, Qo] at h; exact h.2.2.1
theorem Kd {P : Program} {o : Oper} (h : sM P o = true) : H2 o = false := by
 unfold sM at h; simp only [PO, Qo] at h; exact h.2.2.2
def DI (N : Nat) (ops : Array Oper) : Prop := ∀ (i : Nat) (o : Oper), ops[i]? = some o -> ∀ t, o.dst = some t -> t < N
structure CR (N : Nat) (g : Env) (a : Act) : Prop where
 le : N <= DS
 defers : a.defers = JG (g DS)
 size : a.tmps.size = N
 at_ : ∀ i, i ≠ DS -> a.tmps.getD i undef = g i
theorem CR.ev {N : Nat} {g : Env} {a : Act} (h : CR N g a) (x : Operand) (hx : H4 x = true) : a.eval x = ev g x := by
 cases x with
 | tmp t =>
   have : t < DS := (QE (x := t) (y := DS)) ▸ hx
   have e := h.at_ t (Nat.ne_of_lt this)
   simp [Act.eval, En.ev, <- e]
 | _ => simp [Act.eval, En.ev]
theorem CR.put {N : Nat} {g : Env} {a : Act} (h : CR N g a) (d : Option Tmp) (v : Q7) (hd : ∀ t, d = some t -> t < N) :
 CR N (put g d v) (a.put d v) := by
 cases d with
 | none => exact h
 | some t =>
   obtain ⟨h0, h1, h2, h3⟩ := h
   have ht := hd t rfl
   refine ⟨h0, ?_, by simp [Act.put, h2], fun i hne => ?_⟩
   .rw [AJ, if_neg (Nat.ne_of_gt (QW ht h0))]; exact h1
   .rw [AJ, <- h3 i hne]
    by_cases hi : i = t
    .subst hi; simp [Act.put, h2, ht]
    .have hi' : t ≠ i := fun e => hi e.symm
     simp [Act.put, hi, Qi hi']
theorem CR.wanted {N : Nat} {g : Env} {a : Act} (h : CR N g a) (ops : Array Oper) (hd : DI N ops) (o : Oper) :
 Region.wanted o (yielded ops a.tmps) = match o.guard with | none => true | some (j, want) => qK g (tQ ops j) want := by
 unfold Region.wanted
 cases o.guard with
 | none => rfl
 | some p =>
   obtain ⟨j, want⟩ := p
   simp only [yielded, qK, tQ]
   cases ho : ops[j]? with
   | none => simp
   | some o' =>
     cases hdd : o'.dst with
     | none => simp [hdd]
     | some t =>
       have hlt := hd j o' ho t hdd
       have hle := h.le
       have h3 := h.at_ t (Nat.ne_of_lt (QW hlt hle))
       simp only [hdd, Option.bind_some, lT, Pw, <- h3]
       simp only [PS]
       cases ht : a.tmps[t]? with
       | none => simp [undef]
       | some v => cases v <;> simp
def Pb (P : Program) (o : Oper) (a : Act) (next : Act -> Q6 -> Prop) : Result Next -> Prop
 | .ok (.value v) w' => next (a.put o.dst v) w'
 | .ok .skip w' => next (a.put o.dst undef) w'
 | .ok (.enter f args) w' => ∃ v w'', Po P f args w' v w'' /\ next (a.put o.dst v) w''
 | .ok (.round l f tmps PD bd) w' => ∃ v w'', OX P l f tmps PD bd w' v w'' /\ next (a.put o.dst v) w''
 | _ => False
def J8 (P : Program) (o : Oper) (a : Act) (w : Q6) (next : Act -> Q6 -> Prop) : Prop := H2 o = false /\ Pb P o a next ((execOp a.eval o).run P w)
def Co (P : Program) (ops : Array Oper) (i : Nat) (K : Act -> Q6 -> Prop) (a : Act) (w : Q6) : Prop :=
 match ops[i]? with
 | none => K a w
 | some o => if Region.wanted o (yielded ops a.tmps) then J8 P o a w K else K (a.put o.dst undef) w
def tM (P : Program) (ops : Array Oper) (Q : Act -> Q6 -> Prop) : List Nat -> Act -> Q6 -> Prop
 | [], a, w => Q a w
 | i :: rest, a, w => Co P ops i (tM P ops Q rest) a w
def Hz (P : Program) (ops : Array Oper) (Q : Act -> Q6 -> Prop) : Nat -> Array Bool -> Act -> Q6 -> Prop
 | 0, listed, a, w => Region.ready .any ops listed = [] /\ Q a w
 | fuel + 1, listed, a, w =>
   (Region.ready .any ops listed = [] -> Q a w) /\ ∀ i ∈ Region.ready .any ops listed, Co P ops i (Hz P ops Q fuel (listed.setIfInBounds i true)) a w
theorem Ic {P : Program} {o : Oper} {a : Act} {w : Q6} {K K' : Act -> Q6 -> Prop} (h : ∀ a w, K a w -> K' a w) (hh : J8 P o a w K) : J8 P o a w K' := by
 refine ⟨hh.1, ?_⟩
 have hh := hh.2
 generalize (execOp a.eval o).run P w = r at *
 cases r with
 | ok x w' =>
   cases x <;> simp only [Pb] at hh ⊢ <;> first | exact h _ _ hh | (obtain ⟨v, w'', h1, h2⟩ := hh; exact ⟨v, w'', h1, h _ _ h2⟩) | exact hh
 | halt x w' => exact hh.elim
theorem Kn {P : Program} {ops : Array Oper} {i : Nat} {a : Act} {w : Q6} {K K' : Act -> Q6 -> Prop} (h : ∀ a w, K a w -> K' a w) (hh : Co P ops i K a w) : Co P ops i K' a w := by
 unfold Co at *
 split
 .exact h _ _ (by simpa [*] using hh)
 .rename_i o ho
  simp only [ho] at hh
  split
  .rename_i hw; simp only [hw, if_true] at hh; exact Ic h hh
  .rename_i hw; simp only [hw] at hh; exact h _ _ hh
def Hw (ro : Option Nat) : Fence := { Fence.wide with round := ro }
theorem Lb {P : Program} {ops : Array Oper} {Q : Act -> Q6 -> Prop} (ro : Option Nat) : ∀ (L : List Nat) (a : Act) (w : Q6), tM P ops Q L a w →
 wpOpsIn (Hw ro) 0 P ops (fun e a w => e = .normal /\ Q a w) L a w := by
 intro L
 induction L with
 | nil => intro a w h; exact ⟨rfl, h⟩
 | cons i L ih =>
   intro a w h
   simp only [tM, Co] at h
   simp only [wpOpsIn]
   cases ho : ops[i]? with
   | none => rw [ho] at h; exact ih _ _ h
   | some o =>
     rw [ho] at h
     simp only at h ⊢
     by_cases hw : Region.wanted o (yielded ops a.tmps) = true
     .rw [if_pos hw] at h ⊢
      obtain ⟨hd, h⟩ := h
      refine ⟨fun _ _ => trivial, ?_⟩
      rw [Oper.semAt_eq _ _ _ (fun c hc => by simp [H2, hc] at hd)]
      generalize (execOp a.eval o).run P w = r at *
      cases r with
      | halt x w' => exact h.elim
      | ok x w' =>
        cases x <;> simp only [Pb] at h <;> simp only [Oper.uponIn] <;> try (exact h.elim)
        .exact ih _ _ h
        .exact ih _ _ h
        .obtain ⟨v, w'', h1, h2⟩ := h
         refine ⟨fun hn => by simp [Hw, Fence.wide] at hn, ?_⟩
         have := callsIn_wide (n := 0).2 h1
         refine CallsIn.mono (F := Hw ro) (n := 0) this ?_
         rintro e w3 ⟨rfl, rfl⟩
         exact ih _ _ h2
        .obtain ⟨v, w'', h1, h2⟩ := h
         refine ⟨fun hn => by simp [Hw, Fence.wide] at hn, ?_⟩
         refine RoundIn.mono (F := Hw ro) (n := 0) h1 ?_
         rintro e w3 ⟨rfl, rfl⟩
         exact ih _ _ h2
     .rw [if_neg hw] at h ⊢
      exact ⟨fun _ _ => trivial, ih _ _ h⟩
section
variable {P : Program} {ops : Array Oper}
def F6 (P : Program) (ops : Array Oper) (g : Env) (o : Oper) (w : Q6) (v : Q7) (w' : Q6) : Prop :=
 ∀ K : Q7 -> Q6 -> Prop, K v w' -> xF P ops g o w K
theorem Kz {s : Sem Next} {w : Q6} {K : Q7 -> Q6 -> Prop} (h : dQ P s w K) :
 ∃ v w', (∀ K' : Q7 -> Q6 -> Prop, K' v w' -> dQ P s w K') /\ K v w' := by
 unfold dQ at *
 generalize s.run P w = r at *
 match r, h with
 | .ok (.value v) w1, h => exact ⟨v, w1, fun _ h' => h', h⟩
 | .ok .skip w1, h => exact ⟨undef, w1, fun _ h' => h', h⟩
 | .ok (.enter f args) w1, h =>
   obtain ⟨v, w', hr, hk⟩ := h
   exact ⟨v, w', fun _ h' => ⟨v, w', hr, h'⟩, hk⟩
 | .ok (.round l f tmps PD bd) w1, h =>
   obtain ⟨v, w', hr, hk⟩ := h
   exact ⟨v, w', fun _ h' => ⟨v, w', hr, h'⟩, hk⟩
theorem Ia {g : Env} {o : Oper} {w : Q6} {K : Q7 -> Q6 -> Prop} (h : yR P g o w K) :
 ∃ v w', (∀ K' : Q7 -> Q6 -> Prop, K' v w' -> yR P g o w K') /\ K v w' := by
 unfold yR at *
 split at h
 .exact ⟨_, _, fun _ h' => h', h⟩
 .exact ⟨_, _, fun _ h' => h', h⟩
 .split at h
  .obtain ⟨v, w', a, b⟩ := h
   exact ⟨v, w', fun _ h' => ⟨v, w', a, h'⟩, b⟩
  .exact Kz h
 .exact Kz h
theorem Nk (op : BinOp) (t : TypeId) (ox oy : Operand) (x y : Q7) : fD op t ox oy x y = V (do eqGuard op t ox oy x y; binOp op t x y) := by
 cases op <;> simp [fD, xS, eqGuard]
theorem LM {g : Env} {o : Oper} (ho : sM P o = true) : A0 g o = execOp (ev g) o := by
 have ho := IP ho
 unfold A0
 split
 .rename_i op t x y yt hx
  simp only [execOp, hx, Nk, V]
 .rename_i fn first captured hx
  have e1 : (List.map (ev g) first.toList).toArray = first.map (ev g) := by obtain ⟨l⟩ := first; simp
  have e2 : (List.map (ev g) captured.toList).toArray = captured.map (ev g) := by obtain ⟨l⟩ := captured; simp
  simp only [execOp, hx, NI, V, e1, e2]
 .rename_i t ps hx
  have e : (List.map (fun p : Nat × Operand => (p.1, ev g p.2)) ps.toList).toArray = ps.map (fun p => (p.1, ev g p.2)) := by obtain ⟨l⟩ := ps; simp
  simp only [execOp, hx, iB, V, e]
 .rename_i t n ps hx
  have e : (List.map (fun p : Nat × Operand => (p.1, ev g p.2)) ps.toList).toArray = ps.map (fun p => (p.1, ev g p.2)) := by obtain ⟨l⟩ := ps; simp
  simp only [execOp, hx, iK, V, e]
 .rename_i c hx
  split
  .rename_i b hb
   simp only [execOp, hx, resolve, hb, pure_bind, invoke, mC]
   unfold GS at ho
   simp only [hx, hb] at ho
   have e : (List.map (ev g) c.args.toList).toArray = c.args.map (ev g) := by obtain ⟨l⟩ := c.args; simp
   rw [e]
   cases b <;> first | rfl | (cases ho)
  .rename_i f hb
   have e : (List.map (ev g) c.args.toList).toArray = c.args.map (ev g) := by obtain ⟨l⟩ := c.args; simp
   simp only [execOp, hx, resolve, hb, Fq, e]
  .rfl
 .rfl
theorem It {f : FuncId} {fn : Func} (hf : P.funcs[f]? = some fn) (hb : fn.body.isSome = true) (hn : (fn.name == "runtime.NumGoroutine") = false)
 (args : Array Q7) (w : Q6) : (callFunc f args).run P w = .ok (.enter f args) w := by
 unfold callFunc
 have hb' : fn.body.isNone = false := by cases h : fn.body <;> simp_all
 show Sem.run P (Sem.program fun p => _) w = _
 simp only [Sem.run]
 simp only [bind, Sem.bind, hf, hn, hb', PG, if_false]
 rfl
theorem BH {g : Env} {o : Oper} {w : Q6} {K : Q7 -> Q6 -> Prop} (h : xF P ops g o w K) :
 ∃ v w', F6 P ops g o w v w' /\ K v w' := by
 unfold F6
 unfold xF at *
 split at h
 .obtain ⟨v, w', h1, h2⟩ := Ia h
  exact ⟨v, w', h1, h2⟩
 .rename_i j want hg
  unfold Gd at *
  cases hb : qK g (tQ ops j) want with
  | true =>
    simp only [hb] at h
    obtain ⟨v, w', h1, h2⟩ := Ia h
    exact ⟨v, w', fun K hk => h1 K hk, h2⟩
  | false =>
    simp only [hb] at h
    exact ⟨_, _, fun K hk => hk, h⟩
theorem FQ {N i : Nat} {g : Env} {a : Act} {o : Oper} {w w' : Q6} {v : Q7} {next : Act -> Q6 -> Prop}
 (hi : ops[i]? = some o) (hc : sM P o = true) (hd : DI N ops) (hr : CR N g a) (hy : F6 P ops g o w v w') (hn : next (a.put o.dst v) w') : Co P ops i next a w := by
 have h := hy (fun v2 w2 => v2 = v /\ w2 = w') ⟨rfl, rfl⟩
 unfold Co
 rw [hi]
 simp only [hr.wanted ops hd]
 have run : yR P g o w (fun v2 w2 => v2 = v /\ w2 = w') -> J8 P o a w next := by
  intro h
  refine ⟨Kd hc, ?_⟩
  have hevs : execOp a.eval o = execOp (ev g) o := execOp_congr o (fun cs b he => by have := JW hc; simp [F0, he] at this) (fun x hx => hr.ev x (J4 hc x hx))
  have stp : dQ P (A0 g o) w (fun v2 w2 => v2 = v /\ w2 = w') -> Pb P o a next ((execOp (ev g) o).run P w) := by
   intro h
   rw [LM hc] at h
   unfold dQ at h
   generalize (execOp (ev g) o).run P w = r at *
   match r, h with
   | .ok (.value v) w1, h => obtain ⟨rfl, rfl⟩ := h; exact hn
   | .ok .skip w1, h => obtain ⟨rfl, rfl⟩ := h; exact hn
   | .ok (.enter f args) w1, h =>
     obtain ⟨v2, w2, hret, rfl, rfl⟩ := h
     exact ⟨_, _, hret, hn⟩
   | .ok (.round l f tmps PD bd) w1, h =>
     obtain ⟨v2, w2, hret, rfl, rfl⟩ := h
     exact ⟨_, _, hret, hn⟩
  rw [hevs]
  unfold yR at h
  split at h
  .rename_i x hx
   obtain ⟨rfl, rfl⟩ := h
   simp only [execOp, hx]; exact hn
  .rename_i x hx
   obtain ⟨rfl, rfl⟩ := h
   simp only [execOp, hx]; exact hn
  .rename_i c hx
   split at h
   .rename_i f hcal
    obtain ⟨v2, w2, hret, rfl, rfl⟩ := h
    have e : (execOp (ev g) o).run P w = .ok (.enter f (List.map (ev g) c.args.toList).toArray) w := by
     have hc := IP hc
     unfold GS at hc
     simp only [hx, hcal] at hc
     cases hfn : P.funcs[f]? with
     | none => rw [hfn] at hc; cases hc
     | some fn =>
       rw [hfn] at hc
       simp only [PO, Qo] at hc
       have ea : (List.map (ev g) c.args.toList).toArray = c.args.map (ev g) := by obtain ⟨l⟩ := c.args; simp
       rw [ea]
       simp only [execOp, hx, resolve, hcal, ev, Deferred.ofValue, pure_bind, invoke]
       simp only [Array.empty_append, Array.append_empty]
       exact It hfn hc.1 hc.2 _ w
    rw [e]
    exact ⟨_, _, hret, hn⟩
   .exact stp h
  .exact stp h
 unfold xF at h
 cases hg : o.guard with
 | none =>
   rw [hg] at h
   simp only [if_true]
   exact run h
 | some p =>
   obtain ⟨j, want⟩ := p
   simp only [hg] at h
   simp only
   by_cases hb : qK g (tQ ops j) want = true
   .rw [if_pos hb]
    simp only [hb, Gd] at h
    exact run h
   .rw [if_neg hb]
    have hb' : qK g (tQ ops j) want = false := by simpa using hb
    simp only [hb', Gd] at h
    obtain ⟨rfl, rfl⟩ := h
    exact hn
def EC (P : Program) (ops : Array Oper) : Prop := ∀ (i : Nat) (o : Oper), ops[i]? = some o -> sM P o = true
theorem Lm {N : Nat} (hd : DI N ops) (hca : EC P ops) {Q : Act -> Q6 -> Prop} {K : Env -> Q6 -> Prop}
 (hQ : ∀ g a w, CR N g a -> K g w -> Q a w) :
 ∀ (l : List Oper) (k : Nat) (g : Env) (a : Act) (w : Q6), (∀ j, l[j]? = ops[k + j]?) -> CR N g a -> Hb P ops l g w K →
   tM P ops Q (List.range' k l.length) a w := by
 intro l
 induction l with
 | nil => intro k g a w _ hr h; exact hQ _ _ _ hr h
 | cons o l ih =>
   intro k g a w hl hr h
   have h0 : ops[k]? = some o := by have := hl 0; simpa using this.symm
   obtain ⟨v, w', hy, hk⟩ := BH h
   rw [P9, List.range'_succ]
   show Co P ops k (tM P ops Q _) a w
   refine FQ h0 (hca k o h0) hd hr hy ?_
   refine ih (k + 1) _ _ _ (fun j => ?_) (hr.put _ _ (hd k o h0)) hk
   have := hl (j + 1)
   simp only [PF] at this
   rw [this]; congr 1; omega
def Ga (an : Ky) (O : Nat -> Oper) (G : Nat -> Env) (W : Nat -> Q6) (V : Nat -> Q7) (i : Nat) : Rec :=
 ⟨lI i an.1, O i, G i, W i, V i⟩
def KJ (P : Program) (ops : Array Oper) (an : Ky) (O : Nat -> Oper) (G : Nat -> Env) (W : Nat -> Q6) (V : Nat -> Q7) (i j : Nat) : Prop :=
 DL P ops (Ga an O G W V i) (O j) (G j) (W (j + 1)) (V j)
structure Lw (P : Program) (ops : Array Oper) (an : Ky) (g0 : Env) (w0 : Q6) (n : Nat) (O : Nat -> Oper) (G : Nat -> Env) (W : Nat -> Q6) (V : Nat -> Q7) : Prop where
 g0 : G 0 = g0
 w0 : W 0 = w0
 op : ∀ i, i < n -> ops[i]? = some (O i)
 yld : ∀ i, i < n -> F6 P ops (G i) (O i) (W i) (V i) (W (i + 1))
 light : ∀ i, i < n -> lI i an.1 = false -> W (i + 1) = W i
 env : ∀ i, i < n -> G (i + 1) = put (G i) (O i).dst (V i)
 chk : ∀ i j, i < j -> j < n -> Hi i j an.2 = true -> KJ P ops an O G W V i j
theorem JI {o : Oper} {g : Env} {w' : Q6} {v : Q7} {hist : List Rec} : ∀ {ks : List Nat}, Np P ops o g w' v hist ks -> ∀ k ∈ ks, ∃ q, IY hist k = some q /\ DL P ops q o g w' v := by
 intro ks
 induction ks with
 | nil => intro _ k hk; cases hk
 | cons a ks ih =>
   rintro ⟨h1, h2⟩ k hk
   rcases Qz.1 hk with rfl | hk
   .cases hn : IY hist k with
    | none => rw [hn] at h1; exact h1.elim
    | some q => rw [hn] at h1; exact ⟨q, rfl, h1⟩
   .exact ih h2 k hk
theorem Lo {n : Nat} {an : Ky} {pl : Jl} (h : G0 n an pl = true) {i : Nat} (hi : i < n) :
 ∃ ks, pl[i]? = some (lI i an.1, ks) /\ ∀ j, Hi j i an.2 = true -> j < i /\ (i - 1 - j) ∈ ks := by
 have := P8.1 h i (Qd.2 hi)
 cases hp : pl[i]? with
 | none => rw [hp] at this; cases this
 | some p =>
   obtain ⟨hv, ks⟩ := p
   rw [hp] at this
   simp only [PO] at this
   obtain ⟨h1, h2⟩ := this
   have h1 : hv = lI i an.1 := by simpa using h1
   refine ⟨ks, by rw [h1], fun j hj => ?_⟩
   have mm : ∀ (l : List (Nat × Nat)), Hi j i l = true -> (j, i) ∈ l := by
    intro l
    induction l with
    | nil => intro h; cases h
    | cons q r ih =>
      obtain ⟨a, b⟩ := q
      intro h
      unfold Hi at h
      cases ha : Nat.beq a j with
      | true =>
        simp only [ha] at h
        cases hb : Nat.beq b i with
        | true =>
          obtain rfl := P4 ha
          obtain rfl := P4 hb
          exact List.mem_cons_self
        | false => simp only [hb] at h; exact P2 _ (ih h)
      | false => simp only [ha] at h; exact P2 _ (ih h)
   have := P8.1 h2 (j, i) (mm _ hj)
   simp only [Nat.beq_refl, PL, Bool.false_or, PO] at this
   refine ⟨?_, by simpa using this.2⟩
   have hlt := this.1
   exact (QE (x := j) (y := i)) ▸ hlt
theorem I1 {an : Ky} {pl : Jl} {g0 : Env} {w0 : Q6} {K : Env -> Q6 -> Prop} (hpl : G0 ops.size an pl = true) :
 ∀ (l : List Oper) (m : Nat) (hist : List Rec) (O : Nat -> Oper) (G : Nat -> Env) (W : Nat -> Q6) (V : Nat -> Q7),
   (∀ j, l[j]? = ops[m + j]?) -> m + l.length = ops.size -> Lw P ops an g0 w0 m O G W V -> (∀ i, i < m -> IY hist (m - 1 - i) = some (Ga an O G W V i)) →
   lW P ops l (pl.drop m) hist (G m) (W m) K →
   ∃ (O : Nat -> Oper) (G : Nat -> Env) (W : Nat -> Q6) (V : Nat -> Q7), Lw P ops an g0 w0 (m + l.length) O G W V /\ K (G (m + l.length)) (W (m + l.length)) := by
 intro l
 induction l with
 | nil => intro m hist O G W V _ _ hr _ h; exact ⟨O, G, W, V, hr, by unfold lW at h; exact h⟩
 | cons o l ih =>
   intro m hist O G W V hl hlen hr hh h
   have h0 : ops[m]? = some o := by have := hl 0; simpa using this.symm
   have hmn : m < ops.size := by rw [P9] at hlen; omega
   obtain ⟨ks, hk1, hk2⟩ := Lo hpl hmn
   have hdrop : pl.drop m = (lI m an.1, ks) :: pl.drop (m + 1) := by
    have hlt : m < pl.length := by
     rcases QH m pl.length with h | h
     .exact h
     .rw [QI h] at hk1; cases hk1
    rw [QS hlt]
    rw [PT hlt] at hk1
    rw [Qj hk1]
   rw [hdrop] at h
   obtain ⟨v, w', hy, hk⟩ := BH h
   have key : (lI m an.1 = false -> w' = W m) /\ (∀ k ∈ ks, ∃ q, IY hist k = some q /\ DL P ops q o (G m) w' v) /\
       (lW P ops l (pl.drop (m + 1)) (⟨lI m an.1, o, G m, W m, v⟩ :: hist) (put (G m) o.dst v) w' K) := by
    have nil : ∀ w', ∀ k ∈ ([] : List Nat), ∃ q, IY hist k = some q /\ DL P ops q o (G m) w' v := fun _ k hk => (by cases hk)
    cases hm : lI m an.1 with
    | true =>
      rw [hm] at hk
      cases ks with
      | nil => exact ⟨fun e => (by cases e), nil _, hk⟩
      | cons k ks => exact ⟨fun e => (by cases e), JI hk.1, hk.2⟩
    | false =>
      rw [hm] at hk
      cases ks with
      | nil => obtain ⟨rfl, hk⟩ := hk; exact ⟨fun _ => rfl, nil _, hk⟩
      | cons k ks => obtain ⟨rfl, hc, hk⟩ := hk; exact ⟨fun _ => rfl, JI hc, hk⟩
   obtain ⟨kl, c1, c2⟩ := key
   let O' : Nat -> Oper := fun i => if i = m then o else O i
   let V' : Nat -> Q7 := fun i => if i = m then v else V i
   let G' : Nat -> Env := fun i => if i = m + 1 then put (G m) o.dst v else G i
   let W' : Nat -> Q6 := fun i => if i = m + 1 then w' else W i
   have eO : ∀ i, i < m -> O' i = O i := fun i hi => if_neg (by omega)
   have eV : ∀ i, i < m -> V' i = V i := fun i hi => if_neg (by omega)
   have eG : ∀ i, i <= m -> G' i = G i := fun i hi => if_neg (by omega)
   have eW : ∀ i, i <= m -> W' i = W i := fun i hi => if_neg (by omega)
   have oO : O' m = o := if_pos rfl
   have oV : V' m = v := if_pos rfl
   have oG : G' (m + 1) = put (G m) o.dst v := if_pos rfl
   have oW : W' (m + 1) = w' := if_pos rfl
   have eR : ∀ i, i < m -> Ga an O' G' W' V' i = Ga an O G W V i := fun i hi => by
    simp only [Ga, eO i hi, eV i hi, eG i (by omega), eW i (by omega)]
   have hr' : Lw P ops an g0 w0 (m + 1) O' G' W' V' := by
    refine ⟨by rw [eG 0 (by omega)]; exact hr.g0, by rw [eW 0 (by omega)]; exact hr.w0, fun i hi => ?_, fun i hi => ?_, fun i hi hm => ?_, fun i hi => ?_, fun i j hij hj hm => ?_⟩
    .by_cases hi' : i = m
     .subst hi'; rw [oO]; exact h0
     .rw [eO i (by omega)]; exact hr.op i (by omega)
    .by_cases hi' : i = m
     .subst hi'; rw [oO, oV, oW, eG i (by omega), eW i (by omega)]; exact hy
     .rw [eO i (by omega), eV i (by omega), eG i (by omega), eW i (by omega), eW (i + 1) (by omega)]; exact hr.yld i (by omega)
    .by_cases hi' : i = m
     .subst hi'; rw [oW, eW i (by omega)]; exact kl hm
     .rw [eW i (by omega), eW (i + 1) (by omega)]; exact hr.light i (by omega) hm
    .by_cases hi' : i = m
     .subst hi'; rw [oO, oV, oG, eG i (by omega)]
     .rw [eO i (by omega), eV i (by omega), eG i (by omega), eG (i + 1) (by omega)]; exact hr.env i (by omega)
    .unfold KJ
     by_cases hj' : j = m
     .subst hj'
      rw [eR i (by omega), oO, oV, oW, eG j (by omega)]
      obtain ⟨q, hq, hc⟩ := c1 _ (hk2 i hm).2
      rw [hh i hij] at hq
      obtain rfl := Qj hq
      exact hc
     .rw [eR i (by omega), eO j (by omega), eV j (by omega), eG j (by omega), eW (j + 1) (by omega)]
      exact hr.chk i j hij (by omega) hm
   have := ih (m + 1) (⟨lI m an.1, o, G m, W m, v⟩ :: hist) O' G' W' V' (fun j => by
       have := hl (j + 1)
       simp only [PF] at this
       rw [this]; congr 1; omega) (by rw [P9] at hlen; omega) hr' (fun i hi => by
       by_cases hi' : i = m
       .subst hi'
        rw [show i + 1 - 1 - i = 0 from by omega]
        simp only [IY, Ga, oO, oV, eG i (by omega), eW i (by omega)]
       .rw [eR i (by omega), show m + 1 - 1 - i = (m - 1 - i) + 1 from by omega]
        exact hh i (by omega)) (by rw [oG, oW]; exact c2)
   rw [P9, show m + (l.length + 1) = m + 1 + l.length from by omega]
   exact this
end
section
variable {P : Program} {ops : Array Oper} {an : Ky} {g0 : Env} {w0 : Q6} {O : Nat -> Oper} {G : Nat -> Env} {W : Nat -> Q6} {V : Nat -> Q7}
def Bw (n : Nat) (O : Nat -> Oper) (V : Nat -> Q7) (g0 : Env) (S : Nat -> Prop) (g : Env) : Prop :=
 ∀ s, (∃ j, j < n /\ S j /\ (O j).dst = some s /\ (∀ k, k < n -> S k -> (O k).dst = some s -> k <= j) /\ g s = V j) ∨
   ((∀ j, j < n -> S j -> (O j).dst ≠ some s) /\ g s = g0 s)
theorem Bw.agree {n : Nat} {S T : Nat -> Prop} {g g' : Env} (h : Bw n O V g0 S g) (h' : Bw n O V g0 T g') (s : Nat)
 (hs : ∀ j, j < n -> (O j).dst = some s -> (S j ↔ T j)) : g s = g' s := by
 rcases h s with ⟨j, h1, h2, h3, h4, h5⟩ | ⟨h1, h2⟩ <;> rcases h' s with ⟨k, k1, k2, k3, k4, k5⟩ | ⟨k1, k2⟩
 .have a := h4 k k1 ((hs k k1 k3).2 k2) k3
  have b := k4 j h1 ((hs j h1 h3).1 h2) h3
  have : j = k := by omega
  subst this; rw [h5, k5]
 .exact absurd h3 (k1 j h1 ((hs j h1 h3).1 h2))
 .exact absurd k3 (h1 k k1 ((hs k k1 k3).2 k2))
 .rw [h2, k2]
theorem Bw.step {n : Nat} {S : Nat -> Prop} {g : Env} (h : Bw n O V g0 S g) (i : Nat) (hi : i < n)
 (hw : ∀ s, (O i).dst = some s -> ∀ j, j < n -> j ≠ i -> (O j).dst = some s -> S j -> j < i) :
 Bw n O V g0 (fun j => S j ∨ j = i) (put g (O i).dst (V i)) := by
 intro s
 cases hd : (O i).dst with
 | none =>
   rcases h s with ⟨j, h1, h2, h3, h4, h5⟩ | ⟨h1, h2⟩
   .refine .inl ⟨j, h1, .inl h2, h3, fun k k1 k2 k3 => ?_, h5⟩
    rcases k2 with k2 | rfl
    .exact h4 k k1 k2 k3
    .rw [hd] at k3; cases k3
   .refine .inr ⟨fun j h3 h4 h5 => ?_, h2⟩
    rcases h4 with h4 | rfl
    .exact h1 j h3 h4 h5
    .rw [hd] at h5; cases h5
 | some t =>
   rw [AJ]
   by_cases hst : s = t
   .subst hst
    rw [if_pos rfl]
    refine .inl ⟨i, hi, .inr rfl, hd, fun k k1 k2 k3 => ?_, rfl⟩
    rcases k2 with k2 | rfl
    .by_cases hk : k = i
     .omega
     .have := hw s hd k k1 hk k3 k2; omega
    .omega
   .rw [if_neg hst]
    rcases h s with ⟨j, h1, h2, h3, h4, h5⟩ | ⟨h1, h2⟩
    .refine .inl ⟨j, h1, .inl h2, h3, fun k k1 k2 k3 => ?_, h5⟩
     rcases k2 with k2 | rfl
     .exact h4 k k1 k2 k3
     .rw [hd] at k3; exact absurd (Qj k3).symm hst
    .refine .inr ⟨fun j h3 h4 h5 => ?_, h2⟩
     rcases h4 with h4 | rfl
     .exact h1 j h3 h4 h5
     .rw [hd] at h5; exact absurd (Qj h5).symm hst
theorem Lw.envFor {n : Nat} (r : Lw P ops an g0 w0 n O G W V) : ∀ i, i <= n -> Bw n O V g0 (fun j => j < i) (G i) := by
 intro i
 induction i with
 | zero => intro _ s; exact .inr ⟨fun j _ h => absurd h (by omega), by rw [r.g0]⟩
 | succ i ih =>
   intro hi
   have h := ih (by omega)
   have := h.step (V := V) i (by omega) (fun s _ j _ _ _ hj => hj)
   rw [<- r.env i (by omega)] at this
   intro s
   rcases this s with ⟨j, h1, h2, h3, h4, h5⟩ | ⟨h1, h2⟩
   .exact .inl ⟨j, h1, by omega, h3, fun k k1 k2 k3 => h4 k k1 (by omega) k3, h5⟩
   .exact .inr ⟨fun j a b => h1 j a (by omega), h2⟩
theorem Lw.still {n : Nat} (r : Lw P ops an g0 w0 n O G W V) (i : Nat) : ∀ d, i + d <= n -> (∀ h, i <= h -> h < i + d -> lI h an.1 = false) -> W (i + d) = W i := by
 intro d
 induction d with
 | zero => intro _ _; rfl
 | succ d ih =>
   intro h1 h2
   rw [<- QN, r.light (i + d) (by omega) (h2 _ (by omega) (by omega))]
   exact ih (by omega) (fun h a b => h2 h a (by omega))
theorem Lw.still' {n : Nat} (r : Lw P ops an g0 w0 n O G W V) {i k : Nat} (hik : i <= k) (hk : k <= n) (hh : ∀ h, i <= h -> h < k -> lI h an.1 = false) : W k = W i := by
 have := r.still i (k - i) (by omega) (fun h a b => hh h a (by omega))
 rwa [show i + (k - i) = k from by omega] at this
theorem Jj {i k : Nat} : (∃ h, i <= h /\ h < k /\ lI h an.1 = true) -> ∃ h, i <= h /\ h < k /\ lI h an.1 = true /\ ∀ h', i <= h' -> h' < h -> lI h' an.1 = false := by
 rintro ⟨h, h1, h2, h3⟩
 induction h using Nat.strongRecOn with
 | _ h ih =>
   by_cases hx : ∃ h', i <= h' /\ h' < h /\ lI h' an.1 = true
   .obtain ⟨h', a, b, c⟩ := hx
    exact ih h' b a (by omega) c
   .refine ⟨h, h1, h2, h3, fun h' a b => ?_⟩
    cases hm : lI h' an.1
    .rfl
    .exact absurd ⟨h', a, b, hm⟩ hx
theorem HC {i k : Nat} : (∃ h, i <= h /\ h < k /\ lI h an.1 = true) -> ∃ h, i <= h /\ h < k /\ lI h an.1 = true /\ ∀ h', h < h' -> h' < k -> lI h' an.1 = false := by
 rintro ⟨h, h1, h2, h3⟩
 induction hd : k - h using Nat.strongRecOn generalizing h with
 | _ d ih =>
   by_cases hx : ∃ h', h < h' /\ h' < k /\ lI h' an.1 = true
   .obtain ⟨h', a, b, c⟩ := hx
    exact ih (k - h') (by omega) h' (by omega) b c rfl
   .refine ⟨h, h1, h2, h3, fun h' a b => ?_⟩
    cases hm : lI h' an.1
    .rfl
    .exact absurd ⟨h', a, b, hm⟩ hx
structure Hu (ops : Array Oper) (an : Ky) (O : Nat -> Oper) (b : Array Nat) : Prop where
 back : ∀ i, i < ops.size -> ∀ e ∈ (O i).after, Region.binds .any e = true -> e.on < i
 closed : ∀ i j, i < ops.size -> j < ops.size -> Lx b i j = true -> ∃ e ∈ (O j).after, Region.binds .any e = true /\ (e.on = i ∨ Lx b i e.on = true)
 pair : ∀ i j, i < j -> j < ops.size -> Ck ops b an i j (O i) (O j) = true
 sel : ∀ i, i < ops.size -> F0 (O i) = false
 fn : ∀ i, i < ops.size -> LX (O i) = true -> lI i an.1 = true
theorem KO (h : Hq ops an = true) (ho : ∀ i, i < ops.size -> ops[i]? = some (O i)) : Hu ops an O (Region.before ops) := by
 unfold Hq at h
 simp only [PO] at h
 obtain ⟨⟨⟨⟨h1, h2⟩, h3⟩, h5⟩, h6⟩ := h
 refine ⟨fun i hi e he hb => ?_, fun i j hi hj hb => ?_, fun i j hij hj => ?_, fun i hi => ?_, fun i hi hf => ?_⟩
 .unfold Ih at h1
  have := P8.1 h1 i (Qd.2 hi)
  rw [ho i hi] at this
  have := Qk.1 this e he
  simp only [hb, PL, Bool.false_or] at this
  exact (QE (x := e.on) (y := i)) ▸ this
 .unfold Ij at h2
  have := P8.1 (P8.1 h2 j (Qd.2 hj)) i (Qd.2 hi)
  rw [ho j hj] at this
  simp only [hb, PL, Bool.false_or] at this
  obtain ⟨e, he, h⟩ := Array.any_eq_true'.1 this
  simp only [PO, Qn] at h
  refine ⟨e, he, h.1, h.2.imp (fun h => P4 h) id⟩
 .unfold I6 at h3
  have := P8.1 (P8.1 h3 j (Qd.2 hj)) i (Qd.2 hij)
  rw [ho i (by omega), ho j hj] at this
  exact this
 .have := Qk.1 h5 (O i) (Q2 (ho i hi))
  simpa using this
 .have := P8.1 h6 i (Qd.2 hi)
  rw [ho i hi] at this
  simpa [hf] using this
theorem Mu {i j : Nat} : ∀ {l : List (Nat × Nat)}, Hi i j l = true -> (i, j) ∈ l := by
 intro l
 induction l with
 | nil => intro h; cases h
 | cons p r ih =>
   obtain ⟨a, b⟩ := p
   intro h
   unfold Hi at h
   cases ha : Nat.beq a i with
   | true =>
     simp only [ha] at h
     cases hb : Nat.beq b j with
     | true =>
       obtain rfl := P4 ha
       obtain rfl := P4 hb
       exact List.mem_cons_self
     | false => simp only [hb] at h; exact P2 _ (ih h)
   | false => simp only [ha] at h; exact P2 _ (ih h)
theorem Hu.order {b : Array Nat} (st : Hu ops an O b) {S : Nat -> Prop} {i : Nat} (hi : i < ops.size)
 (hdown : ∀ j k, j < ops.size -> k < ops.size -> S k -> Lx b j k = true -> S j) (hbi : ∀ j, j < ops.size -> Lx b j i = true -> S j) (hni : ¬ S i)
 {s : Nat} (hs : s ∈ looks ops (O i) ∨ (O i).dst = some s) {j : Nat} (hj : j < ops.size) (hji : j ≠ i) (hd : (O j).dst = some s) : S j ↔ j < i := by
 rcases QH j i with h | h
 .refine ⟨fun _ => h, fun _ => ?_⟩
  have p := st.pair j i h hi
  unfold Ck at p
  simp only [Qn, PO, Qo] at p
  rcases p with p | p
  .exact hbi j hj p
  .exfalso
   have p1 := p.1
   unfold L1 at p1
   simp only [hd, Q3] at p1
   rcases hs with hs | hs
   .have := p1.1.1; simp [hs] at this
   .have := p1.1.2; simp [hs] at this
 .have h' : i < j := by omega
  refine ⟨fun hS => ?_, fun hh => by omega⟩
  exfalso
  have p := st.pair i j h' hj
  unfold Ck at p
  simp only [Qn, PO, Qo] at p
  rcases p with p | p
  .exact hni (hdown i j hi hj hS p)
  .have p1 := p.1
   unfold L1 at p1
   simp only [hd, Q3] at p1
   rcases hs with hs | hs
   .have := p1.2; simp [hs] at this
   .have := p1.1; rw [hs] at this; simp at this
theorem AY {g g' : Env} {o : Oper} (h : ∀ s ∈ looks ops o, g s = g' s) : ∀ x ∈ o.op.operands, ev g x = ev g' x := by
 intro x hx
 cases x with
 | tmp t => exact h t (Qs _ (List.mem_filterMap.2 ⟨.tmp t, by simpa using hx, rfl⟩))
 | _ => rfl
theorem IX {g g' : Env} {o : Oper} (hs : F0 o = false) (h : ∀ s ∈ looks ops o, g s = g' s) : A0 g o = A0 g' o := by
 have e := execOp_congr o (fun cs b he => by simp [F0, he] at hs) (AY h)
 have k := AY h
 unfold A0
 split
 .rename_i op t x y yt hx
  rw [k x (by simp [hx, Op.operands]), k y (by simp [hx, Op.operands])]
 .rename_i fn first captured hx
  have e1 : List.map (ev g) first.toList = List.map (ev g') first.toList := Qm fun p hp => k p (by simp [hx, Op.operands]; exact .inl (by simpa using hp))
  have e2 : List.map (ev g) captured.toList = List.map (ev g') captured.toList := Qm fun p hp => k p (by simp [hx, Op.operands]; exact .inr (by simpa using hp))
  rw [e1, e2]
 .rename_i t ps hx
  congr 1
  refine Qm fun p hp => ?_
  rw [k p.2 (by simp [hx, Op.operands]; exact ⟨p.1, by simpa using hp⟩)]
 .rename_i t n ps hx
  congr 1
  refine Qm fun p hp => ?_
  rw [k p.2 (by simp [hx, Op.operands]; exact ⟨p.1, by simpa using hp⟩)]
 .rename_i c hx
  split
  .rename_i b hb
   congr 1
   refine Qm fun p hp => ?_
   exact k p (by simp [hx, Op.operands, Call.operands, hb]; simpa using hp)
  .rename_i f hb
   have : List.map (ev g) c.args.toList = List.map (ev g') c.args.toList := Qm fun p hp => k p (by simp [hx, Op.operands, Call.operands, hb]; exact .inr (by simpa using hp))
   rw [this, k f (by simp [hx, Op.operands, Call.operands, hb])]
  .exact e
 .exact e
theorem HK {g g' : Env} {o : Oper} {j : Nat} {want : Bool} (hg : o.guard = some (j, want)) (h : ∀ s ∈ looks ops o, g s = g' s) :
 qK g (tQ ops j) want = qK g' (tQ ops j) want := by
 cases hs : tQ ops j with
 | none => rfl
 | some t =>
   have := h t (QJ _ (by simp [hg, hs]))
   simp [qK, this]
theorem Ey {g g' : Env} {o : Oper} {w : Q6} {K : Q7 -> Q6 -> Prop} (hs : F0 o = false) (h : ∀ s ∈ looks ops o, g s = g' s)
 (hk : xF P ops g o w K) : xF P ops g' o w K := by
 have e := IX (ops := ops) hs h
 have run : yR P g o w = yR P g' o w := by
  funext K
  unfold yR
  split
  .rename_i x hx
   have := AY (ops := ops) h x (by simp [hx, Op.operands])
   rw [this]
  .rename_i x hx
   have := AY (ops := ops) h x (by simp [hx, Op.operands])
   rw [this]
  .rename_i c hx
   have k := AY h
   have : List.map (ev g) c.args.toList = List.map (ev g') c.args.toList := Qm fun p hp => k p (by simp [hx, Op.operands, Call.operands]; exact .inr (by simpa using hp))
   rw [this, e]
  .rw [e]
 unfold xF at *
 cases hg : o.guard with
 | none => rw [hg] at hk; simp only at hk ⊢; rwa [<- run]
 | some p =>
   obtain ⟨j, want⟩ := p
   simp only [hg] at hk ⊢
   rw [<- run, <- HK hg h]
   exact hk
theorem Js {n : Nat} (hn : n = ops.size) {b : Array Nat} (r : Lw P ops an g0 w0 n O G W V) (st : Hu ops an O b) {S : Nat -> Prop} {i k : Nat} (hi : i < n) (hk : k <= n)
 (hdown : ∀ j k, j < ops.size -> k < ops.size -> S k -> Lx b j k = true -> S j) (hbi : ∀ j, j < ops.size -> Lx b j i = true -> S j) (hni : ¬ S i)
 (hS : ∀ h, h < n -> lI h an.1 = true -> (S h ↔ h < k)) (hl : lI i an.1 = false) :
 F6 P ops (G i) (O i) (W k) (V i) (W k) := by
 subst hn
 have same : Gs (Pc ops (O i) (G i)) (fE P (A0 (G i) (O i)) (V i) (W k)) -> Bm (O i) = false -> F6 P ops (G i) (O i) (W k) (V i) (W k) := by
  intro hs hm K hK
  have run : fE P (A0 (G i) (O i)) (V i) (W k) -> yR P (G i) (O i) (W k) K := by
   intro hs
   unfold fE at hs
   have stp : dQ P (A0 (G i) (O i)) (W k) K := by unfold dQ; rw [hs]; exact hK
   unfold yR
   split
   .rename_i x hx; simp [Bm, hx] at hm
   .rename_i x hx; simp [Bm, hx] at hm
   .rename_i c hx
    have hf : LX (O i) = false := by
     cases hh : LX (O i)
     .rfl
     .rw [st.fn i hi hh] at hl; cases hl
    obtain ⟨cal, cargs, cats⟩ := c
    cases cal with
    | value f =>
      cases f with
      | func f => simp [LX, hx] at hf
      | _ => exact stp
    | _ => exact stp
   .exact stp
  have hy := r.yld i hi (fun v _ => v = V i) rfl
  unfold xF at hy ⊢
  unfold Pc at hs
  cases hg : (O i).guard with
  | none => rw [hg] at hs; exact run hs
  | some p =>
    obtain ⟨j, want⟩ := p
    rw [hg] at hs
    simp only [hg] at hs hy ⊢
    cases hb : qK (G i) (tQ ops j) want with
    | true => rw [hb] at hs; exact run hs
    | false =>
      rw [hb] at hy
      have : undef = V i := hy
      show K undef (W k)
      rw [this]; exact hK
 have moved : Bm (O i) = true -> F6 P ops (G i) (O i) (W k) (V i) (W k) := by
  intro hm K hK
  have hy := r.yld i hi (fun v _ => v = V i) rfl
  unfold xF at hy ⊢
  have mv : ∀ (K' : Q7 -> Q6 -> Prop) w, yR P (G i) (O i) w K' ↔ ∃ x, ((O i).op = .move x ∨ (O i).op = .assign x) /\ K' (ev (G i) x) w := by
   intro K' w
   unfold yR
   unfold Bm at hm
   split
   .rename_i x hx; constructor
    .intro h; exact ⟨x, .inl hx, h⟩
    .rintro ⟨y, h | h, h'⟩
     .rw [hx] at h; cases h; exact h'
     .rw [hx] at h; cases h
   .rename_i x hx; constructor
    .intro h; exact ⟨x, .inr hx, h⟩
    .rintro ⟨y, h | h, h'⟩
     .rw [hx] at h; cases h
     .rw [hx] at h; cases h; exact h'
   .rename_i c hx; simp [hx] at hm
   .rename_i h1 h2 _; split at hm
    .rename_i x hx; exact absurd hx (h1 x)
    .rename_i x hx; exact absurd hx (h2 x)
    .cases hm
  cases hg : (O i).guard with
  | none =>
    rw [hg] at hy
    simp only at hy ⊢
    rw [mv] at hy ⊢
    obtain ⟨x, hx, h⟩ := hy
    exact ⟨x, hx, h ▸ hK⟩
  | some p =>
    obtain ⟨j, want⟩ := p
    simp only [hg] at hy ⊢
    unfold Gd at *
    cases hb : qK (G i) (tQ ops j) want with
    | true =>
      simp only [hb] at hy ⊢
      rw [mv] at hy ⊢
      obtain ⟨x, hx, h⟩ := hy
      exact ⟨x, hx, h ▸ hK⟩
    | false =>
      simp only [hb] at hy ⊢
      rwa [hy]
 rcases Nat.le_total k i with hki | hki
 .by_cases hx : ∃ h, k <= h /\ h < i /\ lI h an.1 = true
  .obtain ⟨h, h1, h2, h3, h4⟩ := Jj hx
   have e : W h = W k := r.still' h1 (by omega) h4
   have p := st.pair h i h2 hi
   unfold Ck at p
   simp only [Qn, PO, Qo] at p
   rcases p with p | p
   .have := hbi h (by omega) p
    have := (hS h (by omega) h3).1 this
    omega
   .have p2 := p.2
    rw [h3, hl] at p2
    simp only [Qn] at p2
    cases hmv : Bm (O i) with
    | true => exact moved hmv
    | false =>
      rcases p2 with p2 | p2
      .rw [hmv] at p2; cases p2
      .refine same ?_ hmv
       have c := r.chk h i h2 hi p2
       unfold KJ DL Ga at c
       simp only [h3] at c
       rw [<- e]; exact c
  .have e : W i = W k := r.still' hki (by omega) (fun h a b => by
    cases hm : lI h an.1
    .rfl
    .exact absurd ⟨h, a, b, hm⟩ hx)
   have hy := r.yld i hi
   rw [r.light i hi hl, e] at hy
   exact hy
 .by_cases hx : ∃ h, i <= h /\ h < k /\ lI h an.1 = true
  .obtain ⟨h, h1, h2, h3, h4⟩ := HC hx
   have hne : h ≠ i := fun e => by rw [e, hl] at h3; cases h3
   have e : W k = W (h + 1) := r.still' (by omega) hk (fun h' a b => h4 h' (by omega) b)
   have p := st.pair i h (by omega) (by omega)
   unfold Ck at p
   simp only [Qn, PO, Qo] at p
   rcases p with p | p
   .exact absurd (hdown i h (by omega) (by omega) ((hS h (by omega) h3).2 h2) p) hni
   .have p2 := p.2
    rw [h3, hl] at p2
    simp only [Qn] at p2
    cases hmv : Bm (O i) with
    | true => exact moved hmv
    | false =>
      rcases p2 with p2 | p2
      .rw [hmv] at p2; cases p2
      .refine same ?_ hmv
       have c := r.chk i h (by omega) (by omega) p2
       unfold KJ DL Ga at c
       simp only [hl] at c
       rw [e]; exact c
  .have e : W k = W i := r.still' hki hk (fun h a b => by
    cases hm : lI h an.1
    .rfl
    .exact absurd ⟨h, a, b, hm⟩ hx)
   have hy := r.yld i hi
   rw [r.light i hi hl, <- e] at hy
   exact hy
def jQ (listed : Array Bool) (i : Nat) : Prop := listed.getD i false = true
theorem Md {N n : Nat} (hn : n = ops.size) (hd : DI N ops) (hca : EC P ops) {b : Array Nat} (r : Lw P ops an g0 w0 n O G W V) (st : Hu ops an O b)
 {Q : Act -> Q6 -> Prop} (hQ : ∀ a, CR N (G n) a -> Q a (W n)) :
 ∀ (fuel : Nat) (listed : Array Bool) (g : Env) (a : Act) (k : Nat), listed.size = n -> CR N g a -> k <= n →
   (∀ j, j < n -> jQ listed j -> ∀ e ∈ (O j).after, Region.binds .any e = true -> jQ listed e.on) →
   Bw n O V g0 (jQ listed) g -> (∀ h, h < n -> lI h an.1 = true -> (jQ listed h ↔ h < k)) →
   ((List.range n).filter fun i => !listed.getD i false).length <= fuel →
   Hz P ops Q fuel listed a (W k) := by
 subst hn
 have ready_iff : ∀ (listed : Array Bool), listed.size = ops.size -> ∀ i, i ∈ Region.ready .any ops listed ↔ (i < ops.size /\ ¬ jQ listed i /\ ∀ e ∈ (O i).after, Region.binds .any e = true -> jQ listed e.on) := by
  intro listed hsz i
  unfold Region.ready jQ
  rw [List.mem_filter, Qd]
  constructor
  .rintro ⟨h1, h2⟩
   rw [r.op i h1] at h2
   simp only [PO, Qe, Q0] at h2
   refine ⟨h1, ?_, fun e he hb => ?_⟩
   .have := h2.1
    rw [PS] at this ⊢
    rw [PZ (by omega)] at this ⊢
    simpa using this
   .have := Qk.1 h2.2 e he
    simpa [hb] using this
  .rintro ⟨h1, h2, h3⟩
   refine ⟨h1, ?_⟩
   rw [r.op i h1]
   simp only [PO, Qe, Q0]
   refine ⟨?_, Qk.2 fun e he => ?_⟩
   .rw [PS] at h2 ⊢
    rw [PZ (by omega)] at h2 ⊢
    simpa using h2
   .by_cases hb : Region.binds .any e = true
    .simp [hb, h3 e he hb]
    .simp [hb]
 have none_ready : ∀ (listed : Array Bool), listed.size = ops.size -> Region.ready .any ops listed = [] -> ∀ i, i < ops.size -> jQ listed i := by
  intro listed hsz hr i
  induction i using Nat.strongRecOn with
  | _ i ih =>
    intro hi
    refine Classical.byContradiction fun hl => ?_
    have : i ∈ Region.ready .any ops listed := (ready_iff listed hsz i).2 ⟨hi, hl, fun e he hb => by
     have := st.back i hi e he hb
     exact ih e.on this (by omega)⟩
    rw [hr] at this; cases this
 have all_done : ∀ (listed : Array Bool) (g : Env) (a : Act) (k : Nat), CR N g a -> k <= ops.size -> Bw ops.size O V g0 (jQ listed) g →
     (∀ h, h < ops.size -> lI h an.1 = true -> (jQ listed h ↔ h < k)) -> (∀ i, i < ops.size -> jQ listed i) -> Q a (W k) := by
  intro listed g a k hr hk he hh hall
  have e : W ops.size = W k := r.still' hk (PY _) (fun h h1 h2 => by
   cases hm : lI h an.1
   .rfl
   .have := (hh h h2 hm).1 (hall h h2); omega)
  have eg : g = G ops.size := funext fun s => he.agree (r.envFor ops.size (PY _)) s (fun j hj _ => ⟨fun _ => hj, fun _ => hall j hj⟩)
  rw [<- e]; exact hQ a (eg ▸ hr)
 intro fuel
 induction fuel with
 | zero =>
   intro listed g a k hsz hr hk hdep henv hh hc
   have hall : ∀ i, i < ops.size -> jQ listed i := by
    intro i hi
    have hnil : ((List.range ops.size).filter fun i => !listed.getD i false) = [] := Qw.1 (by omega)
    have := List.filter_eq_nil_iff.1 hnil i (Qd.2 hi)
    unfold jQ; simpa using this
   refine ⟨?_, all_done listed g a k hr hk henv hh hall⟩
   rw [List.eq_nil_iff_forall_not_mem]
   intro i hi
   have := (ready_iff listed hsz i).1 hi
   exact this.2.1 (hall i this.1)
 | succ fuel ih =>
   intro listed g a k hsz hr hk hdep henv hh hc
   refine ⟨fun hn => all_done listed g a k hr hk henv hh (none_ready listed hsz hn), fun i hi => ?_⟩
   obtain ⟨h1, h2, h3⟩ := (ready_iff listed hsz i).1 hi
   have hdown : ∀ k j, j < ops.size -> k < ops.size -> jQ listed k -> Lx b j k = true -> jQ listed j := by
    intro k
    induction k using Nat.strongRecOn with
    | _ k ihk =>
      intro j hj hk hl hb
      obtain ⟨e, he, hbi, h⟩ := st.closed j k hj hk hb
      have hle := hdep k hk hl e he hbi
      rcases h with h | h
      .exact h ▸ hle
      .have hlt := st.back k hk e he hbi
       exact ihk e.on hlt j hj (by omega) hle h
   have hbi : ∀ j, j < ops.size -> Lx b j i = true -> jQ listed j := by
    intro j hj hb
    obtain ⟨e, he, hbi, h⟩ := st.closed j i hj h1 hb
    have hle := h3 e he hbi
    rcases h with h | h
    .exact h ▸ hle
    .have hlt := st.back i h1 e he hbi
     exact hdown e.on j hj (by omega) hle h
   have hdown' : ∀ j k, j < ops.size -> k < ops.size -> jQ listed k -> Lx b j k = true -> jQ listed j := fun j k => hdown k j
   have hlooks : ∀ s ∈ looks ops (O i), (G i) s = g s := fun s hs =>
    (r.envFor i (by omega)).agree henv s (fun j hj hd => by
      by_cases hji : j = i
      .subst hji
       exact ⟨fun h => absurd h (by omega), fun h => absurd h h2⟩
      .exact (st.order h1 hdown' hbi h2 (.inl hs) hj hji hd).symm)
   have hl' : ∀ j, jQ (listed.setIfInBounds i true) j ↔ (jQ listed j ∨ j = i) := by
    intro j
    unfold jQ
    rw [PS, PS]
    by_cases hji : j = i
    .subst hji
     rw [Qf (by omega)]
     simp
    .rw [Qi (fun e => hji e.symm)]
     simp [hji]
   have next : ∀ k', k' <= ops.size -> (∀ h, h < ops.size -> lI h an.1 = true -> ((jQ listed h ∨ h = i) ↔ h < k')) -> F6 P ops g (O i) (W k) (V i) (W k') →
       Co P ops i (Hz P ops Q fuel (listed.setIfInBounds i true)) a (W k) := by
    intro k' hk' hh' hy
    refine FQ (r.op i h1) (hca i _ (r.op i h1)) hd hr hy ?_
    refine ih _ (put g (O i).dst (V i)) _ k' (by simp [hsz]) (hr.put _ _ (hd i _ (r.op i h1))) hk' ?_ ?_ ?_ ?_
    .intro j hj hlj e he hb
     rw [hl'] at hlj ⊢
     rcases hlj with hlj | rfl
     .exact .inl (hdep j hj hlj e he hb)
     .exact .inl (h3 e he hb)
    .have := henv.step i h1 (fun s hs j hj hji hd hlj => (st.order h1 hdown' hbi h2 (.inr hs) hj hji hd).1 hlj)
     intro s
     rcases this s with ⟨j, j1, j2, j3, j4, j5⟩ | ⟨j1, j2⟩
     .exact .inl ⟨j, j1, (hl' j).2 j2, j3, fun k k1 k2 k3 => j4 k k1 ((hl' k).1 k2) k3, j5⟩
     .exact .inr ⟨fun j a b => j1 j a ((hl' j).1 b), j2⟩
    .intro h a b; rw [hl']; exact hh' h a b
    .have hin : i ∈ (List.range ops.size).filter fun i => !listed.getD i false :=
      List.mem_filter.2 ⟨Qd.2 h1, by unfold jQ at h2; simpa using h2⟩
     have e1 : ((List.range ops.size).filter fun j => !(listed.setIfInBounds i true).getD j false) = ((List.range ops.size).filter fun j => !listed.getD j false).filter fun j => j != i := by
      rw [List.filter_filter]
      refine List.filter_congr fun j _ => ?_
      have := hl' j
      unfold jQ at this
      by_cases hji : j = i
      .have hh : (listed.setIfInBounds i true).getD j false = true := this.2 (.inr hji)
       rw [hh, hji]; simp
      .have hne : (j != i) = true := by simpa using hji
       rw [hne, Bool.true_and]
       cases ha : listed.getD j false with
       | true => rw [this.2 (.inl ha)]
       | false =>
         cases hb : (listed.setIfInBounds i true).getD j false with
         | false => rfl
         | true => rcases this.1 hb with h | h
                   .rw [ha] at h; cases h
                   .exact absurd h hji
     have hnd : ((List.range ops.size).filter fun j => !listed.getD j false).Nodup := List.nodup_range.filter _
     rw [e1, <- List.Nodup.erase_eq_filter hnd, List.length_erase_of_mem hin]
     omega
   cases hm : lI i an.1 with
   | true =>
     have hS : ∀ h, h < ops.size -> lI h an.1 = true -> (jQ listed h ↔ h < i) := by
      intro h hh1 hhm
      rcases Nat.lt_trichotomy h i with hlt | heq | hgt
      .refine ⟨fun _ => hlt, fun _ => ?_⟩
       have p := st.pair h i hlt h1
       unfold Ck at p
       rw [hhm, hm] at p
       simp only [Qn, PO, PG, and_false, or_false] at p
       exact hbi h hh1 p
      .subst heq; exact ⟨fun hh => absurd hh h2, fun hh => absurd hh (by omega)⟩
      .refine ⟨fun hl => ?_, fun hh => absurd hh (by omega)⟩
       have p := st.pair i h hgt hh1
       unfold Ck at p
       rw [hhm, hm] at p
       simp only [Qn, PO, PG, and_false, or_false] at p
       exact absurd (hdown h i h1 hh1 hl p) h2
     have eW : W k = W i := by
      rcases Nat.le_total k i with hki | hki
      .exact (r.still' hki (by omega) (fun h a b => by
        cases hx : lI h an.1
        .rfl
        .have := (hh h (by omega) hx).1 ((hS h (by omega) hx).2 b); omega)).symm
      .exact r.still' hki hk (fun h a b => by
        cases hx : lI h an.1
        .rfl
        .have := (hS h (by omega) hx).1 ((hh h (by omega) hx).2 b); omega)
     refine next (i + 1) (by omega) (fun h a b => ?_) ?_
     .rw [hS h a b]; omega
     .rw [eW]
      intro K hK
      exact Ey (ops := ops) (st.sel i h1) hlooks (r.yld i h1 K hK)
   | false =>
     refine next k hk (fun h a b => ?_) ?_
     .rw [<- hh h a b]
      constructor
      .rintro (h' | rfl)
       .exact h'
       .rw [hm] at b; cases b
      .exact .inl
     .intro K hK
      exact Ey (ops := ops) (st.sel i h1) hlooks (Js rfl r st h1 hk hdown' hbi h2 hh hm K hK)
end
abbrev G8 (P : Program) : Machine -> Prop := Machine.fenced P Fence.wide
def HI (P : Program) (f : FuncId) (ro : Option Nat) (c : Code) (Q : Exit -> Act -> Q6 -> Prop) (a : Act) (w : Q6) : Prop :=
 ∀ (b : Frame) (k : List Item) (cs : List Frame), b.fn = f -> b.roundOf = ro -> ∃ e a' w', Q e a' w' /\ ArrivesIn (G8 P) P (lone (b.atR a (.code c :: k)) cs w) b k cs e a' w'
section
variable {P : Program} {f : FuncId} {ro : Option Nat} {Q : Exit -> Act -> Q6 -> Prop} {a : Act} {w : Q6}
theorem A8 {m m1 : Machine} (h : step P m = .next m1) : StepsIn (G8 P) P m m1 := .one (fenced_wide P m) h
theorem BQ {m m1 m2 : Machine} (h : step P m = .next m1) (h' : StepsIn (G8 P) P m1 m2) : StepsIn (G8 P) P m m2 := .head (fenced_wide P m) h h'
theorem Mq (h : Q .normal a w) : HI P f ro .skip Q a w := fun _ _ _ _ _ => ⟨.normal, a, w, h, A8 Go.stepR_skip⟩
theorem Ln {l : Nat} (h : Q .normal a w) : HI P f ro (.label l) Q a w := fun _ _ _ _ _ => ⟨.normal, a, w, h, A8 stepR_label⟩
theorem Jb {id : Nat} (h : Q (.exit id) a w) : HI P f ro (.exit id) Q a w :=
 fun _ k _ _ _ => ⟨.exit id, a, w, h, fun _ hk => A8 (stepR_exit hk), fun _ hk => ⟨k, hk, .refl _⟩⟩
theorem KG (h : Q .ret a w) : HI P f ro .ret Q a w :=
 fun _ k _ _ _ => ⟨.ret, a, w, h, fun hn => ⟨_, A8 (stepR_ret hn)⟩, fun _ => ⟨k, .refl _⟩⟩
theorem MX {x y : Code} (h : HI P f ro x (Exit.then (HI P f ro y Q) Q) a w) : HI P f ro (.seq x y) Q a w := by
 intro b k cs hb hro
 obtain ⟨e, a1, w1, hq, har⟩ := h b (.code y :: k) cs hb hro
 cases e with
 | normal =>
   obtain ⟨e2, a2, w2, hq2, har2⟩ := hq b k cs hb hro
   exact ⟨e2, a2, w2, hq2, .of_steps (BQ stepR_seq har) har2⟩
 | _ => exact ⟨_, a1, w1, hq, .of_steps (A8 stepR_seq) (.pass (x := .code y) rfl (fun _ _ => .inl (by simp)) har)⟩
theorem LI {c : Operand} {x y : Code} {t : Bool} (hc : a.eval c = .bool t) (h : HI P f ro (if t then x else y) Q a w) : HI P f ro (.cond c x y) Q a w :=
 fun b k cs hb hro => let ⟨e, a1, w1, q, r⟩ := h b k cs hb hro; ⟨e, a1, w1, q, .of_steps (A8 (stepR_cond hc)) r⟩
theorem Ld {id : Nat} {c : Code} (h : HI P f ro c (Exit.inBlock id Q) a w) : HI P f ro (.block id c) Q a w := by
 intro b k cs hb hro
 obtain ⟨e, a1, w1, hq, har⟩ := h b (.inBlock id :: k) cs hb hro
 cases e with
 | normal => exact ⟨.normal, a1, w1, hq, BQ stepR_block (StepsIn.trans har (A8 stepR_inBlock))⟩
 | exit i =>
   by_cases hid : i = id
   .simp only [Exit.inBlock, hid, if_true] at hq
    exact ⟨.normal, a1, w1, hq, BQ stepR_block (har.1 k (by simp [exitTo, hid]))⟩
   .simp only [Exit.inBlock, hid, if_false] at hq
    have this : (id == i) = false := by simp; exact fun h => hid h.symm
    have hx : exitTo i (.inBlock id :: k) = exitTo i k := by simp [exitTo, this]
    exact ⟨.exit i, a1, w1, hq, fun k' hk => BQ stepR_block (har.1 k' (by rw [hx]; exact hk)),
     fun hr' hk => let ⟨k1, h1, h2⟩ := har.2 hr' (by rw [hx]; exact hk); ⟨k1, h1, BQ stepR_block h2⟩⟩
 | goto l =>
   have hx : gotoIn l (.inBlock id :: k) = gotoIn l k := by simp [gotoIn]
   exact ⟨_, a1, w1, hq, fun k' hk => BQ stepR_block (har.1 k' (by rw [hx]; exact hk)),
    fun hr' hk => let ⟨k1, h1, h2⟩ := har.2 hr' (by rw [hx]; exact hk); ⟨k1, h1, BQ stepR_block h2⟩⟩
 | ret => exact ⟨_, a1, w1, hq, .of_steps (A8 stepR_block) har⟩
 | panic ch => exact ⟨_, a1, w1, hq, .of_steps (A8 stepR_block) har⟩
 | outgrown => exact ⟨_, a1, w1, hq, .of_steps (A8 stepR_block) har⟩
theorem rD {b : Frame} {k : List Item} {cs : List Frame} {c : Code} :
 step P (lone (b.atR a (.code (.scope c) :: k)) cs w) = .next (lone (b.atR a (.code c :: .inScope c :: k)) cs w) :=
 step_lone_go (by simp [stepG, stepG.exec, Frame.atR])
theorem HZ {b : Frame} {k : List Item} {cs : List Frame} {c : Code} :
 step P (lone (b.atR a (.inScope c :: k)) cs w) = .next (lone (b.atR a k) cs w) :=
 step_lone_go (by simp [stepG, stepG.exec, Frame.atR])
theorem KR {c : Code} (h : HI P f ro c (Exit.noGoto Q) a w) : HI P f ro (.scope c) Q a w := by
 intro b k cs hb hro
 obtain ⟨e, a1, w1, hq, har⟩ := h b (.inScope c :: k) cs hb hro
 cases e with
 | normal => exact ⟨.normal, a1, w1, hq, BQ rD (StepsIn.trans har (A8 HZ))⟩
 | exit id =>
   have hx : exitTo id (.inScope c :: k) = exitTo id k := by simp [exitTo]
   exact ⟨.exit id, a1, w1, hq, fun k' hk => BQ rD (har.1 k' (by rw [hx]; exact hk)),
    fun hr' hk => let ⟨k1, h1, h2⟩ := har.2 hr' (by rw [hx]; exact hk); ⟨k1, h1, BQ rD h2⟩⟩
 | goto l => exact hq.elim
 | ret => exact ⟨_, a1, w1, hq, .of_steps (A8 rD) har⟩
 | panic ch => exact ⟨_, a1, w1, hq, .of_steps (A8 rD) har⟩
 | outgrown => exact ⟨_, a1, w1, hq, .of_steps (A8 rD) har⟩
theorem LA {c : Code} (I : Act -> Q6 -> Prop) (μ : Act -> Q6 -> Nat) (h0 : I a w)
 (round : ∀ a w, I a w -> HI P f ro c (Exit.then (fun a' w' => I a' w' /\ μ a' w' < μ a w) Q) a w) : HI P f ro (.loop c) Q a w := by
 intro b k cs hb hro
 have key : ∀ n a w, μ a w = n -> I a w →
     ∃ e a' w', Q e a' w' /\ ArrivesIn (G8 P) P (lone (b.atR a (.code c :: .inLoop c :: k)) cs w) b k cs e a' w' := by
  intro n
  induction n using Nat.strongRecOn with
  | _ n ih =>
    intro a w hn hI
    obtain ⟨e, a1, w1, hq, har⟩ := round a w hI b (.inLoop c :: k) cs hb hro
    cases e with
    | normal =>
      obtain ⟨hI1, hlt⟩ := hq
      obtain ⟨e2, a2, w2, hq2, har2⟩ := ih (μ a1 w1) (hn ▸ hlt) a1 w1 rfl hI1
      exact ⟨e2, a2, w2, hq2, .of_steps (StepsIn.trans har (A8 stepR_inLoop)) har2⟩
    | _ => exact ⟨_, a1, w1, hq, .pass (x := .inLoop c) rfl (fun _ _ => .inl (by simp)) har⟩
 obtain ⟨e, a', w', hq, har⟩ := key _ a w rfl h0
 exact ⟨e, a', w', hq, .of_steps (A8 stepR_loop) har⟩
theorem KB {ops : Array Oper} {L : List Nat} (h : tM P ops (Q .normal) L a w) (b : Frame) (k : List Item) (cs : List Frame) (hro : b.roundOf = ro) :
 ∃ e a' w', Q e a' w' /\ ArrivesIn (G8 P) P (lone (b.atR a (.inRegion ops L :: k)) cs w) b k cs e a' w' := by
 obtain ⟨e, a', w', ⟨rfl, hq⟩, hs⟩ := wp_opsIn (F := Hw ro) (n := 0) L a w (Lb ro L a w h) b k cs hro trivial (fun _ h => by simp [Hw, Fence.wide] at h)
 exact ⟨.normal, a', w', hq, hs⟩
theorem Ka {id : Nat} {ops : Array Oper} (h : tM P ops (Q .normal) (List.range ops.size) a w) : HI P f ro (.region id ops false) Q a w := by
 intro b k cs hb hro
 obtain ⟨e, a1, w1, q, r⟩ := KB h b k cs hro
 exact ⟨e, a1, w1, q, .of_steps (A8 stepR_region) r⟩
theorem GO (hm : P.follows .mixedOrders = true) {id : Nat} {ops : Array Oper}
 (h : tM P ops (Q .normal) (Region.schedule true ops (w.tape w.drawn (.order f id))) a { w with drawn := w.drawn + 1 }) : HI P f ro (.region id ops true) Q a w := by
 intro b k cs hb hro
 obtain ⟨e, a1, w1, q, r⟩ := KB h b k cs hro
 refine ⟨e, a1, w1, q, .of_steps (A8 ?_) r⟩
 have := @stepR_region_draw P b a k cs w ops id
 rw [hm, hb] at this
 exact this
def AI (v : Q7) (w : Q6) (K : Q6 -> Prop) : Prop :=
 match v with
 | .pointer (some a) => w.heap[a.block]? = some (.deferred (some [])) /\ K (w.putObj a.block (.deferred none))
 | _ => K w
def Lc (P : Program) (fn : Func) (R : Q7 -> Q6 -> Prop) : Exit -> Act -> Q6 -> Prop
 | .normal, a, w | .ret, a, w => ∃ m, a.defers = JG m /\ AI m w fun w' => ∃ v, (results fn a.tmps).run P w' = .ok v w' /\ R v w'
 | _, _, _ => False
theorem JA {fn : Func} {R : Q7 -> Q6 -> Prop} {fr : Frame} {cs : List Frame} (hm : fr.mode = .returning) (hf : P.funcs[fr.fn]? = some fn) (hk : fr.kind = .normal) {m : Q7} (hd : fr.defers = JG m)
 (h : AI m w fun w' => ∃ v, (results fn fr.tmps).run P w' = .ok v w' /\ R v w') :
 ∃ v w' fr', R v w' /\ Steps P (lone fr cs w) (lone fr' cs w') /\ fr'.fn = fr.fn /\ fr'.leaving P w' (.returned v) := by
 have nil : fr.defers = [] -> (∃ v, (results fn fr.tmps).run P w = .ok v w /\ R v w) →
     ∃ v w' fr', R v w' /\ Steps P (lone fr cs w) (lone fr' cs w') /\ fr'.fn = fr.fn /\ fr'.leaving P w' (.returned v) := by
  rintro hd ⟨v, hv, hR⟩
  exact ⟨v, w, fr, hR, .refl _ _, rfl, hm, hd, hk, fn, hf, hv⟩
 cases m with
 | pointer p =>
   cases p with
   | none => exact nil hd h
   | some a =>
     obtain ⟨h1, v, hv, hR⟩ := h
     have hs := step_collected (P := P) (fr := fr) (cs := cs) (w := w) (d := { target := .collected a.block, args := #[] }) (r := a.block) (ds := []) (calls := [])
      (by rw [hm]; simp) hd rfl (run_takeDeferred h1)
     exact ⟨v, _, { fr with defers := [] }, hR, .head hs (.refl _ _), rfl, hm, rfl, hk, fn, hf, hv⟩
 | _ => exact nil hd h
theorem IG {fn : Func} {c : Code} {args : Array Q7} {w : Q6} {R : Q7 -> Q6 -> Prop}
 (hf : P.funcs[f]? = some fn) (hb : fn.body = some c)
 (h : HI P f none c (Lc P fn R) { tmps := args ++ Array.replicate (fn.ntmps - args.size) undef, defers := [] } w) : Calls P f args w fun e w' => ∃ v, e = .returned v /\ R v w' := by
 intro cs
 let b : Frame := { (default : Frame) with fn := f, kind := .normal, roundOf := none }
 have henter : Frame.enter P f args .normal = b.atR { tmps := args ++ Array.replicate (fn.ntmps - args.size) undef, defers := [] } [.code c] := by
  simp [Frame.enter, Frame.atR, hf, hb, b]
 obtain ⟨e, a', w', hq, har⟩ := h b [] cs rfl rfl
 rw [<- henter] at har
 cases e with
 | normal =>
   obtain ⟨m, hd, hq⟩ := hq
   obtain ⟨v, w2, fr, hR, hs, hfn, hl⟩ := JA (P := P) (cs := cs) (fr := { b.atR a' [] with mode := .returning }) rfl hf rfl hd hq
   exact ⟨.returned v, w2, fr, ⟨v, rfl, hR⟩, (StepsIn.steps har).trans (.head (stepR_end rfl) hs), hfn, hl⟩
 | ret =>
   obtain ⟨m, hd, hq⟩ := hq
   obtain ⟨todo, hs0⟩ := har.1 rfl
   obtain ⟨v, w2, fr, hR, hs, hfn, hl⟩ := JA (P := P) (cs := cs) (fr := { b.atR a' todo with mode := .returning }) rfl hf rfl hd hq
   exact ⟨.returned v, w2, fr, ⟨v, rfl, hR⟩, (StepsIn.steps hs0).trans hs, hfn, hl⟩
 | panic chain => exact hq.elim
 | exit id => exact hq.elim
 | goto l => exact hq.elim
 | outgrown => exact hq.elim
def NN (P : Program) (f : FuncId) (Q : Exit -> Act -> Q6 -> Prop) (a : Act) (w : Q6) : Option Code -> Prop
 | none => Q .normal a w
 | some c => HI P f none c Q a w
theorem KY {gf : Operand} {ps : Array Tmp} {PD bd : Code} {d : Deferred} {g : FuncId} {args : Array Q7} {w1 : Q6} {l : Nat} {mark : List Deferred} {w2 w3 : Q6} {v : Q7}
 (he : (Instr.enterLoop f a.tmps ps PD bd none).run P w = .ok (l, mark) w1)
 (hres : (resolve a.eval (rangeCall gf l) 0).run P w1 = .ok d w1) (hinv : (invoke d.target d.args).run P w1 = .ok (.enter g args) w2)
 (hcall : Po P g args w2 v w3)
 {jump : Option Code} {w4 : Q6} (hend : (Instr.endLoop l).run P w3 = .ok jump w4)
 (hj : NN P f Q { a with defers := mark ++ a.defers } w4 jump) :
 HI P f none (.rangeFunc gf ps PD bd) Q a w := by
 intro b k cs hb hro
 rw [<- hb, <- hro] at he
 have henter := stepR_rangeFunc (P := P) (b := b) (a := a) (k := k) (cs := cs) (w := w) he hres hinv
 obtain ⟨e, w3', fr, ⟨rfl, rfl⟩, hsteps, hfn, hleave⟩ := hcall (b.atR { a with defers := mark ++ a.defers } (.inRangeFunc l :: k) :: cs)
 have sback : StepsIn (G8 P) P (lone (b.atR a (.code (.rangeFunc gf ps PD bd) :: k)) cs w) (lone (b.atR { a with defers := mark ++ a.defers } ((jump.map Item.code).toList ++ k)) cs w4) := by
  refine BQ henter (StepsIn.trans (stepsIn_wide.2 hsteps) (BQ (m1 := lone (b.atR { a with defers := mark ++ a.defers } (.endRangeFunc l :: k)) cs w3') ?_ (A8 (stepR_endRangeFunc hend))))
  rw [<- finish_atR_inRangeFunc l v]; exact step_leave_returned hleave
 cases jump with
 | none => exact ⟨.normal, _, w4, hj, sback⟩
 | some c =>
   obtain ⟨e', a'', w5, hq, harr⟩ := hj b k cs hb hro
   exact ⟨e', a'', w5, hq, .of_steps sback harr⟩
end
def IA (ops : Array Oper) : Nat -> Array Bool -> List Nat -> Prop
 | 0, _, L => L = []
 | _ + 1, listed, [] => Region.ready .any ops listed = []
 | n + 1, listed, i :: L => i ∈ Region.ready .any ops listed /\ IA ops n (listed.setIfInBounds i true) L
section
variable {P : Program} {ops : Array Oper} {Q : Act -> Q6 -> Prop}
theorem Nt : ∀ (fuel t : Nat) (listed : Array Bool), IA ops fuel listed (Region.linearise.go .any ops fuel t listed []) := by
 intro fuel
 induction fuel with
 | zero => intro t listed; simp [Region.linearise.go, IA]
 | succ fuel ih =>
   intro t listed
   simp only [Region.linearise.go]
   change IA ops (fuel + 1) listed (match (Region.ready .any ops listed)[t % (Region.ready .any ops listed).length]? with
    | some i => Region.linearise.go .any ops fuel (t / (Region.ready .any ops listed).length) (listed.setIfInBounds i true) [i]
    | none => [].reverse)
   cases hi : (Region.ready .any ops listed)[t % (Region.ready .any ops listed).length]? with
   | none =>
     have : Region.ready .any ops listed = [] := by
      cases hr : Region.ready .any ops listed with
      | nil => rfl
      | cons x xs =>
        rw [hr] at hi
        have hlt : t % (x :: xs).length < (x :: xs).length := Nat.mod_lt _ (by simp)
        rw [PT hlt] at hi
        cases hi
     simpa [IA] using this
   | some i =>
     simp only []
     rw [linearise_go_acc]
     exact ⟨List.mem_of_getElem? hi, ih _ _⟩
theorem Ev : ∀ (fuel : Nat) (listed : Array Bool) (L : List Nat) (a : Act) (w : Q6), Hz P ops Q fuel listed a w -> IA ops fuel listed L -> tM P ops Q L a w := by
 intro fuel
 induction fuel with
 | zero => intro listed L a w h hL; obtain rfl : L = [] := hL; exact h.2
 | succ fuel ih =>
   intro listed L a w h hL
   cases L with
   | nil => exact h.1 hL
   | cons i L =>
     exact Kn (fun a w hh => ih _ _ a w hh hL.2) (h.2 i hL.1)
end
structure HY (π : List Nat) (ops : Array Oper) : Prop where
 len : π.length = ops.size
 to : ∀ i, i < ops.size -> pB π i < ops.size /\ π[pB π i]? = some i
 back : ∀ k, k < ops.size -> ∃ i, π[k]? = some i /\ pB π i = k /\ i < ops.size
 after : ∀ (i : Nat) (o : Oper), ops[i]? = some o -> ∀ e ∈ o.after, e.on < ops.size
 guard : ∀ (i : Nat) (o : Oper) (j : Nat) (b : Bool), ops[i]? = some o -> o.guard = some (j, b) -> j < ops.size
theorem MQ {π : List Nat} {ops : Array Oper} (h : J0 π ops = true) : HY π ops := by
 unfold J0 at h
 simp only [PO] at h
 obtain ⟨⟨⟨h1, h2⟩, h3⟩, h4⟩ := h
 have h1 := P4 h1
 have at4 : ∀ (i : Nat) (o : Oper), ops[i]? = some o -> (o.after.all fun e => Nat.blt e.on ops.size) = true /\ (match o.guard with | some (j, _) => Nat.blt j ops.size | none => true) = true := by
  intro i o ho
  have hi : i < ops.size := by
   rcases QH i ops.size with h | h
   .exact h
   .rw [QY h] at ho; cases ho
  have := P8.1 h4 i (Qd.2 hi)
  rw [ho] at this
  simp only [PO] at this
  refine ⟨this.1, ?_⟩
  have h := this.2
  revert h
  cases o.guard <;> exact id
 refine ⟨h1, fun i hi => ?_, fun k hk => ?_, fun i o ho e he => ?_, fun i o j b ho hg => ?_⟩
 .have := P8.1 h3 i (Qd.2 hi)
  cases hp : π[pB π i]? with
  | none => rw [hp] at this; cases this
  | some j =>
    rw [hp] at this
    obtain rfl := P4 this
    refine ⟨?_, rfl⟩
    rcases QH (pB π j) π.length with h | h
    .omega
    .rw [QI h] at hp; cases hp
 .have := P8.1 h2 k (Qd.2 hk)
  cases hp : π[k]? with
  | none => rw [hp] at this; cases this
  | some i =>
    rw [hp] at this
    simp only [PO] at this
    exact ⟨i, rfl, P4 this.1, (QE (x := i) (y := ops.size)) ▸ this.2⟩
 .have := Qk.1 (at4 i o ho).1 e he
  exact (QE (x := e.on) (y := ops.size)) ▸ this
 .have := (at4 i o ho).2
  rw [hg] at this
  exact (QE (x := j) (y := ops.size)) ▸ this
theorem H6 {π : List Nat} {es : List (Nat × Nat)} {l : List Oper} : ∀ (r : List Nat), (∀ i ∈ r, i < l.length) -> (Ej π es l r).length = r.length /\ ∀ k i : Nat, r[k]? = some i -> (Ej π es l r)[k]? = (l[i]?).map (Au π es i) := by
 intro r
 induction r with
 | nil => intro _; exact ⟨rfl, fun k i h => by simp at h⟩
 | cons j r ih =>
   intro h
   obtain ⟨h1, h2⟩ := ih fun i hi => h i (P2 _ hi)
   have hj : j < l.length := h j (by simp)
   simp only [Ej, PT hj]
   refine ⟨by simp [h1], fun k i hk => ?_⟩
   cases k with
   | zero => simp at hk; subst hk; simp [PT hj]
   | succ k => simp at hk ⊢; exact h2 k i hk
section
variable {P : Program} {ops : Array Oper} {Q : Act -> Q6 -> Prop} {π : List Nat} {es : List (Nat × Nat)}
theorem HY.mem (p : HY π ops) : ∀ i ∈ π, i < ops.toList.length := by
 intro i hi
 obtain ⟨k, hk, e⟩ := List.getElem_of_mem hi
 obtain ⟨j, h1, _, h2⟩ := p.back k (by rw [<- p.len]; exact hk)
 rw [PT hk] at h1
 cases h1
 rw [<- e]; simpa using h2
theorem HY.size (p : HY π ops) : (lF π es ops).size = ops.size := by
 unfold lF
 rw [List.size_toArray, (H6 (es := es) (π := π) π p.mem).1, p.len]
theorem HY.get (p : HY π ops) {i : Nat} (hi : i < ops.size) : (lF π es ops)[pB π i]? = (ops[i]?).map (Au π es i) := by
 unfold lF
 have := (H6 (es := es) (π := π) π p.mem).2 (pB π i) i (p.to i hi).2
 rw [Array.getElem?_toList] at this
 simpa using this
theorem JY {i : Nat} {o : Oper} {a : Act} {w : Q6} {K : Act -> Q6 -> Prop} : J8 P (Au π es i o) a w K ↔ J8 P o a w K := by
 unfold J8
 have h1 : execOp a.eval (Au π es i o) = execOp a.eval o := by
  obtain ⟨d, op, ty, ps, af, g⟩ := o
  cases op <;> rfl
 have h2 : H2 (Au π es i o) = H2 o := rfl
 rw [h1, h2]
 generalize (execOp a.eval o).run P w = r
 cases r with
 | ok n w => cases n <;> exact Iff.rfl
 | halt x w => exact Iff.rfl
theorem I0 (p : HY π ops) {i : Nat} {o : Oper} (ho : ops[i]? = some o) (tmps : Array Q7) :
 Region.wanted (Au π es i o) (yielded (lF π es ops) tmps) = Region.wanted o (yielded ops tmps) := by
 unfold Region.wanted Au
 simp only
 cases hg : o.guard with
 | none => rfl
 | some q =>
   obtain ⟨j, b⟩ := q
   simp only
   have hj := p.guard i o j b ho hg
   have : (lF π es ops)[pB π j]?.bind (·.dst) = (ops[j]?).bind (·.dst) := by
    rw [p.get hj]
    cases ops[j]? <;> rfl
   unfold yielded
   rw [this]
theorem Kh (p : HY π ops) : ∀ (L : List Nat), (∀ i ∈ L, i < ops.size) -> ∀ (a : Act) (w : Q6), tM P (lF π es ops) Q (L.map (pB π)) a w -> tM P ops Q L a w := by
 intro L
 induction L with
 | nil => intro _ a w h; exact h
 | cons i L ih =>
   intro hL a w h
   rw [QO] at h
   simp only [tM] at h ⊢
   have hi := hL i (by simp)
   have ih := ih fun i hi => hL i (P2 _ hi)
   unfold Co at h ⊢
   rw [p.get hi] at h
   rw [PZ hi] at h ⊢
   simp only [Qe] at h
   rw [I0 p (PZ hi)] at h
   simp only
   split
   .rename_i hw
    rw [if_pos hw, JY] at h
    exact Ic (fun a w => ih a w) h
   .rename_i hw
    rw [if_neg hw] at h
    exact ih _ _ h
theorem CW {ops : Array Oper} {listed : Array Bool} (hsz : listed.size = ops.size) (i : Nat) :
 i ∈ Region.ready .any ops listed ↔ (i < ops.size /\ listed.getD i false = false /\ ∀ o, ops[i]? = some o -> ∀ e ∈ o.after, Region.binds .any e = true -> listed.getD e.on false = true) := by
 unfold Region.ready
 rw [List.mem_filter, Qd]
 constructor
 .rintro ⟨h1, h2⟩
  rw [PZ h1] at h2
  simp only [PO, Qe, Q0] at h2
  refine ⟨h1, ?_, fun o ho e he hb => ?_⟩
  .have := h2.1
   rw [PS] at this ⊢
   rw [PZ (by omega)] at this ⊢
   simpa using this
  .rw [PZ h1] at ho
   cases ho
   have := Qk.1 h2.2 e he
   simpa [hb] using this
 .rintro ⟨h1, h2, h3⟩
  refine ⟨h1, ?_⟩
  rw [PZ h1]
  simp only [PO, Qe, Q0]
  refine ⟨?_, Qk.2 fun e he => ?_⟩
  .rw [PS] at h2 ⊢
   rw [PZ (by omega)] at h2 ⊢
   simpa using h2
  .by_cases hb : Region.binds .any e = true
   .simp [hb, h3 _ (PZ h1) e he hb]
   .simp [hb]
theorem Ml {π : List Nat} {i : Nat} : ∀ {es : List (Nat × Nat)} {e : Edge}, e ∈ wS π i es -> ∃ a, (a, i) ∈ es /\ e.on = pB π a := by
 intro es
 induction es with
 | nil => intro e h; simp [wS] at h
 | cons q r ih =>
   obtain ⟨a, b⟩ := q
   intro e h
   simp only [wS] at h
   cases hb : Nat.beq b i with
   | true =>
     rw [hb] at h
     obtain rfl := P4 hb
     rcases Qz.1 h with rfl | h
     .exact ⟨a, by simp, rfl⟩
     .obtain ⟨a, h1, h2⟩ := ih h; exact ⟨a, P2 _ h1, h2⟩
   | false => rw [hb] at h; obtain ⟨a, h1, h2⟩ := ih h; exact ⟨a, P2 _ h1, h2⟩
theorem Lu (p : HY π ops) {L0 : List Nat} (hes : ∀ q ∈ es, L0.idxOf q.1 <= L0.idxOf q.2 /\ q.1 ≠ q.2 /\ q.1 < ops.size) :
 ∀ (fuel : Nat) (listed listed' : Array Bool) (pre L : List Nat), L0 = pre ++ L -> listed.size = ops.size -> listed'.size = ops.size →
   (∀ j, j < ops.size -> listed'.getD (pB π j) false = listed.getD j false) -> (∀ j ∈ pre, listed.getD j false = true) -> (∀ j, listed.getD j false = true -> j ∈ pre) →
   IA ops fuel listed L -> IA (lF π es ops) fuel listed' (L.map (pB π)) /\ ∀ i ∈ L, i < ops.size := by
 intro fuel
 induction fuel with
 | zero => intro listed listed' pre L _ _ _ _ _ _ h; obtain rfl : L = [] := h; exact ⟨rfl, by simp⟩
 | succ fuel ih =>
   intro listed listed' pre L hL0 hs hs' hrel hpre hpre' h
   have hsz : (lF π es ops).size = ops.size := p.size
   cases L with
   | nil =>
     refine ⟨?_, by simp⟩
     show Region.ready .any (lF π es ops) listed' = []
     rw [List.eq_nil_iff_forall_not_mem]
     intro k hk
     obtain ⟨h1, h2, h3⟩ := (CW (by omega) k).1 hk
     obtain ⟨i, hi1, hi2, hi3⟩ := p.back k (by omega)
     have : i ∈ Region.ready .any ops listed := by
      refine (CW hs i).2 ⟨hi3, ?_, fun o ho e he hb => ?_⟩
      .rw [<- hrel i hi3, hi2]; exact h2
      .have g := p.get (es := es) hi3
       rw [hi2, ho] at g
       have hon := p.after i o ho e he
       have := h3 _ g ⟨pB π e.on, e.ground⟩ (by
        simp only [Au, List.mem_toArray, QT, List.mem_map]
        exact .inl ⟨e, by simpa using he, rfl⟩) (by unfold Region.binds at hb ⊢; exact hb)
       rw [<- hrel e.on hon]; exact this
     rw [show Region.ready .any ops listed = [] from h] at this
     cases this
   | cons i L =>
     obtain ⟨h1, h2⟩ := h
     obtain ⟨r1, r2, r3⟩ := (CW hs i).1 h1
     have hnot : i ∉ pre := fun hm => by rw [hpre i hm] at r2; cases r2
     have hidx : L0.idxOf i = pre.length := by
      rw [hL0, List.idxOf_append, if_neg hnot]; simp
     have ready' : pB π i ∈ Region.ready .any (lF π es ops) listed' := by
      refine (CW (by omega) _).2 ⟨by rw [hsz]; exact (p.to i r1).1, by rw [hrel i r1]; exact r2, fun o' ho' e' he' hb => ?_⟩
      rw [p.get r1, PZ r1] at ho'
      simp only [Qe, Option.some.injEq] at ho'
      subst ho'
      simp only [Au, List.mem_toArray, QT, List.mem_map] at he'
      rcases he' with ⟨e, he, rfl⟩ | he'
      .have ho := PZ r1
       have he2 : e ∈ ops[i].after := by simpa using he
       rw [hrel e.on (p.after i _ ho e he2)]
       exact r3 _ ho e he2 (by unfold Region.binds at hb ⊢; exact hb)
      .obtain ⟨a, ha, hon⟩ := Ml he'
       obtain ⟨q1, q2, q3⟩ := hes _ ha
       simp only at q1 q2 q3
       rw [hon, hrel a q3]
       refine hpre a ?_
       rw [hidx] at q1
       rw [hL0, List.idxOf_append] at q1
       by_cases hm : a ∈ pre
       .exact hm
       .rw [if_neg hm] at q1
        exfalso
        have hz : (i :: L).idxOf a = 0 := by omega
        rw [List.idxOf_cons] at hz
        cases hb : (i == a) with
        | true => exact q2 (by simpa using (beq_iff_eq.1 hb).symm)
        | false => rw [hb] at hz; simp at hz
     have hlen' : listed'.size = ops.size := hs'
     obtain ⟨k1, k2⟩ := ih (listed.setIfInBounds i true) (listed'.setIfInBounds (pB π i) true) (pre ++ [i]) L (by rw [hL0]; simp) (by simp [hs]) (by simp [hs'])
      (fun j hj => by
       by_cases hji : j = i
       .subst hji
        rw [PS, PS, Qf (by rw [hs']; exact (p.to j hj).1), Qf (by omega)]
       .have hne : pB π i ≠ pB π j := fun e => by
         have a1 := (p.to i r1).2
         have a2 := (p.to j hj).2
         rw [e] at a1
         rw [a1] at a2
         exact hji (Qj a2).symm
        have := hrel j hj
        rw [PS, PS] at this ⊢
        rw [Qi hne, Qi (fun e => hji e.symm)]
        exact this)
      (fun j hj => by
       rw [PS]
       rcases QT.1 hj with hj | hj
       .by_cases hji : j = i
        .subst hji; rw [Qf (by omega)] <;> rfl
        .rw [Qi (fun e => hji e.symm), <- PS]; exact hpre j hj
       .have : j = i := by simpa using hj
        subst this
        rw [Qf (by omega)] <;> rfl)
      (fun j hj => by
       by_cases hji : j = i
       .subst hji; simp
       .rw [PS, Qi (fun e => hji e.symm), <- PS] at hj
        exact Qs _ (hpre' j hj))
      h2
     exact ⟨⟨ready', k1⟩, fun j hj => (Qz.1 hj).elim (fun e => e ▸ r1) (k2 j)⟩
end
section
variable {P : Program} {ops : Array Oper}
theorem FO {N : Nat} {an : Ky} {pl : Jl} (hok : Hq ops an = true) (hpl : G0 ops.size an pl = true) (hd : DI N ops) (hca : EC P ops)
 {K : Env -> Q6 -> Prop} {Q : Act -> Q6 -> Prop} (hQ : ∀ g a w, CR N g a -> K g w -> Q a w) {g : Env} {a : Act} {w : Q6} (hr : CR N g a)
 (h : lW P ops ops.toList pl [] g w K) : Hz P ops Q ops.size (Array.replicate ops.size false) a w := by
 have r0 : Lw P ops an g w 0 (fun _ => default) (fun _ => g) (fun _ => w) (fun _ => undef) :=
  ⟨rfl, rfl, fun i hi => by omega, fun i hi => by omega, fun i hi => by omega, fun i hi => by omega, fun i j _ hj => by omega⟩
 obtain ⟨O, G, W, V, r, hk⟩ := I1 hpl ops.toList 0 [] _ _ _ _ (fun j => by simp) (by simp) r0 (fun i hi => by omega) h
 simp only [PM, QC] at r hk
 have st := KO hok r.op
 have := Md (Q := Q) (n := ops.size) rfl hd hca r st (fun a hra => hQ _ a _ hra hk) ops.size (Array.replicate ops.size false) g a 0 (by simp) hr (by omega)
  (fun j hj hl => by unfold jQ at hl; simp [PS, hj] at hl)
  (fun s => .inr ⟨fun j hj hl => by unfold jQ at hl; simp [PS, hj] at hl, rfl⟩)
  (fun h hh _ => ⟨fun hl => by unfold jQ at hl; simp [PS, hh] at hl, fun hl => by omega⟩)
  (Nat.le_trans (List.length_filter_le _ _) (by simp))
 rw [r.w0] at this
 exact this
theorem EX {N : Nat} {ops : Array Oper} (h : ops.all (KF N) = true) : DI N ops := by
 intro i o ho t ht
 have := Qk.1 h o (Q2 ho)
 unfold KF at this
 rw [ht] at this
 exact (QE (x := t) (y := N)) ▸ this
theorem GY {ops : Array Oper} (h : ops.all (sM P) = true) : EC P ops :=
 fun _ o ho => Qk.1 h o (Q2 ho)
theorem Kk {N : Nat} {f : FuncId} {id : Nat} (hd : DI N ops) (hca : EC P ops)
 {K : Env -> Q6 -> Prop} {Q : Act -> Q6 -> Prop} (hQ : ∀ g a w, CR N g a -> K g w -> Q a w) {g : Env} {a : Act} {w0 w : Q6} (hr : CR N g a) :
 ∀ (T : HT) (path : List (Nat × Nat)), Dv P N ops path T = true →
   (∀ q ∈ path, (Region.schedule true ops (w0.tape w0.drawn (.order f id))).idxOf q.1 <= (Region.schedule true ops (w0.tape w0.drawn (.order f id))).idxOf q.2 /\ q.1 ≠ q.2) →
   Jm P f id ops T g w0 w K -> tM P ops Q (Region.schedule true ops (w0.tape w0.drawn (.order f id))) a w := by
 have lin : IA ops ops.size (Array.replicate ops.size false) (Region.schedule true ops (w0.tape w0.drawn (.order f id))) := by
  unfold Region.schedule
  simp only [Bool.true_or, if_true]
  exact Nt _ _ _
 generalize hL : Region.schedule true ops (w0.tape w0.drawn (.order f id)) = L at lin ⊢
 intro T
 induction T with
 | leaf an pl =>
   intro path hok _ h
   simp only [Dv, PO] at hok
   exact Ev _ _ _ _ _ (FO hok.1 hok.2 hd hca hQ hr h) lin
 | perm π es an pl =>
   intro path hok hpath h
   simp only [Dv, PO] at hok
   obtain ⟨⟨⟨⟨⟨h1, h2⟩, h3⟩, h4⟩, h5⟩, h6⟩ := hok
   have p := MQ h2
   have hes : ∀ q ∈ es, L.idxOf q.1 <= L.idxOf q.2 /\ q.1 ≠ q.2 /\ q.1 < ops.size := fun q hq => by
    have := P8.1 h1 q hq
    simp only [PO] at this
    have hp := hpath q (Mu this.1)
    exact ⟨hp.1, hp.2, (QE (x := q.1) (y := ops.size)) ▸ this.2⟩
   obtain ⟨k1, k2⟩ := Lu (es := es) p hes ops.size (Array.replicate ops.size false) (Array.replicate ops.size false) [] L rfl (by simp) (by simp)
    (fun j hj => by simp [PS, hj, (p.to j hj).1]) (by simp)
    (fun j hj => by rw [PS] at hj; by_cases hh : j < ops.size <;> simp [hh] at hj) lin
   have hw := FO h5 h6 (EX h3) (GY h4) hQ hr h
   rw [p.size] at hw
   exact Kh (es := es) p L k2 a w (Ev _ _ _ _ _ hw k1)
 | split x y A B ihA ihB =>
   intro path hok hpath h
   simp only [Dv, PO] at hok
   have hne : x ≠ y := by
    intro e
    have := hok.1.1
    rw [e] at this
    simp at this
   simp only [Jm] at h
   unfold Ord On at h
   rw [hL] at h
   cases hb : Nat.ble (L.idxOf x) (L.idxOf y) with
   | true =>
     rw [hb] at h
     refine ihA _ hok.1.2 (fun q hq => ?_) h
     rcases Qz.1 hq with rfl | hq
     .exact ⟨QK hb, hne⟩
     .exact hpath q hq
   | false =>
     rw [hb] at h
     refine ihB _ hok.2 (fun q hq => ?_) h
     rcases Qz.1 hq with rfl | hq
     .refine ⟨?_, hne.symm⟩
      simp only
      rcases QH (L.idxOf y) (L.idxOf x) with hh | hh
      .omega
      .have := Nat.ble_eq_true_of_le hh; rw [this] at hb; cases hb
     .exact hpath q hq
end
section
variable {P : Program} {ann : FA}
def kM : List Oper -> List Nat
 | [] => []
 | o :: r => match o.dst with | some d => d :: kM r | none => kM r
def C4 : Code -> List Nat
 | .region _ ops _ => kM ops.toList
 | .seq x y => C4 x ++ C4 y
 | .cond _ x y => C4 x ++ C4 y
 | .block _ c => C4 c
 | .scope c => C4 c
 | .loop c => C4 c
 | .rangeFunc .. => [DS]
 | _ => []
def jO (l : List Nat) (g g' : Env) : Prop := ∀ s, s ∉ l -> g' s = g s
theorem jO.refl (l : List Nat) (g : Env) : jO l g g := fun _ _ => rfl
theorem jO.trans {l l1 l2 : List Nat} {a b c : Env} (h : jO l1 a b) (k : jO l2 b c) (h1 : ∀ s, s ∈ l1 -> s ∈ l) (h2 : ∀ s, s ∈ l2 -> s ∈ l) : jO l a c :=
 fun s hs => (k s fun h => hs (h2 s h)).trans (h s fun h => hs (h1 s h))
theorem jO.mono {l l1 : List Nat} {a b : Env} (h : jO l1 a b) (h1 : ∀ s, s ∈ l1 -> s ∈ l) : jO l a b := fun s hs => h s fun hh => hs (h1 s hh)
theorem jO.put {l : List Nat} {a : Env} (d : Option Tmp) (v : Q7) (h : ∀ t, d = some t -> t ∈ l) : jO l a (put a d v) := by
 intro s hs
 cases d with
 | none => rfl
 | some t =>
   rw [AJ, if_neg (fun e => hs (by rw [e]; exact h t rfl))]
theorem Kl {ops : Array Oper} {K : Env -> Q6 -> Prop} : ∀ (l : List Oper) (g : Env) (w : Q6), Hb P ops l g w K →
 ∃ g' w', K g' w' /\ jO (kM l) g g' /\ ∀ K' : Env -> Q6 -> Prop, K' g' w' -> Hb P ops l g w K' := by
 intro l
 induction l with
 | nil => intro g w h; exact ⟨g, w, h, jO.refl _ _, fun _ h => h⟩
 | cons o l ih =>
   intro g w h
   obtain ⟨v, w1, hy, h1⟩ := BH h
   obtain ⟨g', w', hk, ha, hall⟩ := ih _ _ h1
   refine ⟨g', w', hk, ?_, fun K' hk' => hy _ (hall K' hk')⟩
   refine jO.trans (jO.put o.dst v (l := kM (o :: l)) fun t ht => by simp [kM, ht]) ha (fun _ h => h) (fun s hs => ?_)
   unfold kM
   split
   .exact P2 _ hs
   .exact hs
theorem FK {ops : Array Oper} {K : Env -> Q6 -> Prop} : ∀ (l : List Oper) (pl : Jl) (hist : List Rec) (g : Env) (w : Q6), lW P ops l pl hist g w K →
 ∃ g' w', K g' w' /\ jO (kM l) g g' /\ ∀ K' : Env -> Q6 -> Prop, K' g' w' -> lW P ops l pl hist g w K' := by
 intro l
 induction l with
 | nil => intro pl hist g w h; unfold lW at h; exact ⟨g, w, h, jO.refl _ _, fun _ h => (by unfold lW; exact h)⟩
 | cons o l ih =>
   intro pl hist g w h
   cases pl with
   | nil => exact h.elim
   | cons p pl =>
     obtain ⟨hv, ks⟩ := p
     obtain ⟨v, w1, hy, h1⟩ := BH h
     have tail : ∀ (w2 : Q6) (hist' : List Rec), lW P ops l pl hist' (put g o.dst v) w2 K →
         ∃ g' w', K g' w' /\ jO (kM (o :: l)) g g' /\ ∀ K' : Env -> Q6 -> Prop, K' g' w' -> lW P ops l pl hist' (put g o.dst v) w2 K' := by
      intro w2 hist' c2
      obtain ⟨g', w', hk, ha, hall⟩ := ih _ _ _ _ c2
      refine ⟨g', w', hk, ?_, hall⟩
      refine jO.trans (jO.put o.dst v (l := kM (o :: l)) fun t ht => by simp [kM, ht]) ha (fun _ h => h) (fun s hs => ?_)
      unfold kM
      split
      .exact P2 _ hs
      .exact hs
     cases hv with
     | true =>
       cases ks with
       | nil =>
         obtain ⟨g', w', hk, ha, hall⟩ := tail w1 _ h1
         exact ⟨g', w', hk, ha, fun K' hk' => hy _ (hall K' hk')⟩
       | cons k ks =>
         obtain ⟨hc, h1⟩ := h1
         obtain ⟨g', w', hk, ha, hall⟩ := tail w1 _ h1
         exact ⟨g', w', hk, ha, fun K' hk' => hy _ ⟨hc, hall K' hk'⟩⟩
     | false =>
       cases ks with
       | nil =>
         obtain ⟨rfl, h1⟩ := h1
         obtain ⟨g', w', hk, ha, hall⟩ := tail w1 _ h1
         exact ⟨g', w', hk, ha, fun K' hk' => hy _ ⟨rfl, hall K' hk'⟩⟩
       | cons k ks =>
         obtain ⟨rfl, hc, h1⟩ := h1
         obtain ⟨g', w', hk, ha, hall⟩ := tail w1 _ h1
         exact ⟨g', w', hk, ha, fun K' hk' => hy _ ⟨rfl, hc, hall K' hk'⟩⟩
theorem zA {l : List Oper} {s : Nat} : s ∈ kM l ↔ ∃ o ∈ l, o.dst = some s := by
 induction l with
 | nil => simp [kM]
 | cons o l ih =>
   unfold kM
   cases hd : o.dst with
   | none => simp [ih, hd]
   | some d => simp [ih, hd, eq_comm]
theorem Kq {π : List Nat} {es : List (Nat × Nat)} {l : List Oper} {s : Nat} : ∀ (r : List Nat), s ∈ kM (Ej π es l r) -> s ∈ kM l := by
 intro r
 induction r with
 | nil => intro h; simp [Ej, kM] at h
 | cons i r ih =>
   intro h
   simp only [Ej] at h
   cases ho : l[i]? with
   | none => rw [ho] at h; exact ih h
   | some o =>
     rw [ho] at h
     obtain ⟨o', h1, h2⟩ := zA.1 h
     rcases Qz.1 h1 with rfl | h1
     .exact zA.2 ⟨o, List.mem_of_getElem? ho, h2⟩
     .exact ih (zA.2 ⟨o', h1, h2⟩)
theorem Mn {f : FuncId} {id : Nat} {ops : Array Oper} {K : Env -> Q6 -> Prop} {g : Env} {w0 : Q6} : ∀ (T : HT) (w : Q6), Jm P f id ops T g w0 w K →
 ∃ g' w', K g' w' /\ jO (kM ops.toList) g g' /\ ∀ K' : Env -> Q6 -> Prop, K' g' w' -> Jm P f id ops T g w0 w K' := by
 intro T
 induction T with
 | leaf an pl => intro w h; exact FK _ _ _ _ _ h
 | perm π es an pl =>
   intro w h
   obtain ⟨g', w', a, b, c⟩ := FK _ _ _ _ _ h
   exact ⟨g', w', a, b.mono (fun s hs => Kq π (by simpa [lF] using hs)), c⟩
 | split x y A B ihA ihB =>
   intro w h
   simp only [Jm, Ord] at h ⊢
   cases hb : On f id ops x y w0 with
   | true => rw [hb] at h; exact ihA w h
   | false => rw [hb] at h; exact ihB w h
theorem iG.head {α : Type} {F : (α -> Q6 -> Prop) -> α -> Q6 -> Prop} (hmono : ∀ X Y g w, (∀ g w, X g w -> Y g w) -> F X g w -> F Y g w)
 {g : α} {w : Q6} (h : F (fun g' w' => iG F g' w') g w) (hdet : ∃ g' w', iG F g' w' /\ ∀ X : α -> Q6 -> Prop, X g' w' -> F X g w) : iG F g w := by
 obtain ⟨g1, w1, ⟨I, ⟨n1, h1⟩, hI⟩, hF⟩ := hdet
 refine ⟨fun n g' w' => I n g' w' ∨ (n = n1 + 1 /\ g' = g /\ w' = w), ⟨n1 + 1, .inr ⟨rfl, rfl, rfl⟩⟩, ?_⟩
 rintro n g' w' (h | ⟨rfl, rfl, rfl⟩)
 .exact hmono _ _ _ _ (fun _ _ ⟨m, hm, hh⟩ => ⟨m, hm, .inl hh⟩) (hI _ _ _ h)
 .exact hF _ ⟨n1, by omega, .inl h1⟩
theorem Od {f : FuncId} {gf : Operand} {ps : Array Tmp} {PD bd : Code} {Q : Exit -> Env -> Q6 -> Prop} {g : Env} {w : Q6} (h : RF P f gf ps PD bd Q g w) :
 ∃ e g' w', Q e g' w' /\ jO [DS] g g' /\ ∀ Q' : Exit -> Env -> Q6 -> Prop, Q' e g' w' -> RF P f gf ps PD bd Q' g w := by
 unfold RF at h ⊢
 cases hn : noMark (g DS) with
 | false => rw [hn] at h; exact h.elim
 | true =>
   rw [hn] at h
   simp only at h ⊢
   generalize (Fq (ev g gf) [DU (w.heap.size + 1)]).run P (O2 f (Ll P f) ps PD bd g w) = r at *
   match r, h with
   | .ok (.enter f2 args) w1, h =>
     obtain ⟨v, w3, hret, r, h1, h2, h3⟩ := h
     have ha : jO [DS] g (put g (some DS) (.pointer (some ⟨w.heap.size, 0, none⟩))) := jO.put _ _ (fun t ht => by cases ht; simp)
     cases hp : r.pending with
     | none =>
       rw [hp] at h3
       exact ⟨.normal, _, _, h3, ha, fun Q' h => ⟨v, w3, hret, r, h1, h2, by rw [hp]; exact h⟩⟩
     | some c =>
       rw [hp] at h3
       cases c <;> first
        | exact h3.elim
        | exact ⟨.ret, _, _, h3, ha, fun Q' h => ⟨v, w3, hret, r, h1, h2, by rw [hp]; exact h⟩⟩
        | exact ⟨.exit _, _, _, h3, ha, fun Q' h => ⟨v, w3, hret, r, h1, h2, by rw [hp]; exact h⟩⟩
theorem KA : ∀ (c : Code) (Q : Exit -> Env -> Q6 -> Prop) (g : Env) (w : Q6), gF P ann c Q g w →
 ∃ e g' w', Q e g' w' /\ jO (C4 c) g g' /\ ∀ Q' : Exit -> Env -> Q6 -> Prop, Q' e g' w' -> gF P ann c Q' g w := by
 intro c
 induction c with
 | skip => intro Q g w h; exact ⟨_, _, _, h, jO.refl _ _, fun _ h => h⟩
 | region id ops draw =>
   intro Q g w h
   cases draw with
   | false =>
     obtain ⟨g', w', a, b, c⟩ := Kl _ _ _ h
     exact ⟨.normal, g', w', a, b, fun Q' h => c _ h⟩
   | true =>
     obtain ⟨g', w', a, b, c⟩ := Mn _ _ h
     exact ⟨.normal, g', w', a, b, fun Q' h => c _ h⟩
 | seq x y ihx ihy =>
   intro Q g w h
   obtain ⟨e, g1, w1, a, b, c⟩ := ihx _ _ _ h
   cases e with
   | normal =>
     obtain ⟨e2, g2, w2, a2, b2, c2⟩ := ihy _ _ _ a
     exact ⟨e2, g2, w2, a2, b.trans b2 (fun s h => Qs _ h) (fun s h => QJ _ h), fun Q' h => c _ (c2 _ h)⟩
   | _ => exact ⟨_, g1, w1, a, b.mono (fun s h => Qs _ h), fun Q' h => c _ h⟩
 | cond c x y ihx ihy =>
   intro Q g w h
   simp only [gF] at h ⊢
   unfold kA at h ⊢
   cases hc : ev g c with
   | bool b =>
     rw [hc] at h
     cases b with
     | true =>
       obtain ⟨e, g', w', a, b, c⟩ := ihx _ _ _ h
       exact ⟨e, g', w', a, b.mono (fun s h => Qs _ h), c⟩
     | false =>
       obtain ⟨e, g', w', a, b, c⟩ := ihy _ _ _ h
       exact ⟨e, g', w', a, b.mono (fun s h => QJ _ h), c⟩
   | _ => rw [hc] at h; exact h.elim
 | block id c ih =>
   intro Q g w h
   obtain ⟨e, g', w', a, b, c⟩ := ih _ _ _ h
   cases e with
   | exit i =>
     simp only [Nm] at a
     cases hb : Nat.beq i id with
     | true =>
       simp only [hb] at a
       refine ⟨.normal, g', w', a, b, fun Q' h => c _ ?_⟩
       simp only [Nm, hb]; exact h
     | false =>
       simp only [hb] at a
       refine ⟨.exit i, g', w', a, b, fun Q' h => c _ ?_⟩
       simp only [Nm, hb]; exact h
   | _ => exact ⟨_, g', w', a, b, fun Q' h => c _ h⟩
 | loop c ih =>
   intro Q g w h
   have hmono : ∀ (Q : Exit -> Env -> Q6 -> Prop) (X Y : Env -> Q6 -> Prop) g w, (∀ g w, X g w -> Y g w) -> gF P ann c (rC X Q) g w -> gF P ann c (rC Y Q) g w := by
    intro Q X Y g w hxy h
    obtain ⟨e, g', w', a, _, k⟩ := ih _ _ _ h
    refine k _ ?_
    cases e with
    | normal => exact hxy _ _ a
    | _ => exact a
   obtain ⟨I, ⟨n, h0⟩, hI⟩ := h
   have key : ∀ n g w, I n g w -> ∃ e g' w', Q e g' w' /\ jO (C4 c) g g' /\ ∀ Q' : Exit -> Env -> Q6 -> Prop, Q' e g' w' -> iG (fun X g w => gF P ann c (rC X Q') g w) g w := by
    intro n
    induction n using Nat.strongRecOn with
    | _ n ih2 =>
      intro g w hg
      obtain ⟨e, g1, w1, a, b, k⟩ := ih _ _ _ (hI n g w hg)
      have once : ∀ (Q' : Exit -> Env -> Q6 -> Prop), (∀ X : Env -> Q6 -> Prop, gF P ann c (rC X Q') g w) -> iG (fun X g w => gF P ann c (rC X Q') g w) g w := by
       intro Q' h
       refine ⟨fun n g' w' => g' = g /\ w' = w, ⟨0, rfl, rfl⟩, ?_⟩
       rintro _ g' w' ⟨rfl, rfl⟩
       exact h _
      cases e with
      | normal =>
        obtain ⟨m, hm, hIm⟩ := a
        obtain ⟨e2, g2, w2, a2, b2, k2⟩ := ih2 m hm g1 w1 hIm
        refine ⟨e2, g2, w2, a2, b.trans b2 (fun _ h => h) (fun _ h => h), fun Q' h => ?_⟩
        have hl := k2 Q' h
        exact iG.head (hmono Q') (k _ hl) ⟨g1, w1, hl, fun X hx => k _ hx⟩
      | _ => exact ⟨_, g1, w1, a, b, fun Q' h => once Q' fun X => k _ h⟩
   exact key n g w h0
 | exit id => intro Q g w h; exact ⟨_, _, _, h, jO.refl _ _, fun _ h => h⟩
 | label l => intro Q g w h; exact ⟨_, _, _, h, jO.refl _ _, fun _ h => h⟩
 | scope c ih => intro Q g w h; exact ih Q g w h
 | ret => intro Q g w h; exact ⟨_, _, _, h, jO.refl _ _, fun _ h => h⟩
 | rangeFunc gf ps PD bd => intro Q g w h; exact Od h
 | _ => intro Q g w h; exact h.elim
theorem uO {c : Code} {Q Q' : Exit -> Env -> Q6 -> Prop} {g : Env} {w : Q6} (h : gF P ann c Q g w)
 (hq : ∀ e g' w', jO (C4 c) g g' -> Q e g' w' -> Q' e g' w') : gF P ann c Q' g w :=
 let ⟨_, _, _, a, b, k⟩ := KA c Q g w h
 k _ (hq _ _ _ b a)
def NZ (Q : Exit -> Env -> Q6 -> Prop) : Exit -> Env -> Q6 -> Prop
 | .goto _, _, _ => False
 | e, g, w => Q e g w
theorem JU : ∀ (c : Code) (Q : Exit -> Env -> Q6 -> Prop) (g : Env) (w : Q6), gF P ann c Q g w -> gF P ann c (NZ Q) g w := by
 intro c
 induction c with
 | skip => intro Q g w h; exact h
 | region id ops draw => intro Q g w h; cases draw <;> exact h
 | seq x y ihx ihy =>
   intro Q g w h
   show gF P ann x (rC (fun g w => gF P ann y (NZ Q) g w) (NZ Q)) g w
   refine uO (ihx _ _ _ h) (fun e g' w' _ hq => ?_)
   cases e with
   | normal => exact ihy _ _ _ hq
   | goto l => exact hq.elim
   | _ => exact hq
 | cond c x y ihx ihy =>
   intro Q g w h
   simp only [gF] at h ⊢
   unfold kA at h ⊢
   cases hc : ev g c with
   | bool b =>
     rw [hc] at h
     cases b with
     | true => exact ihx _ _ _ h
     | false => exact ihy _ _ _ h
   | _ => rw [hc] at h; exact h.elim
 | block id c ih =>
   intro Q g w h
   show gF P ann c (Nm id (NZ Q)) g w
   refine uO (ih _ _ _ h) (fun e g' w' _ hq => ?_)
   cases e with
   | exit i =>
     simp only [NZ, Nm] at hq ⊢
     cases hb : Nat.beq i id with
     | true => rw [hb] at hq; exact hq
     | false => rw [hb] at hq; exact hq
   | goto l => exact hq.elim
   | _ => exact hq
 | loop c ih =>
   intro Q g w h
   obtain ⟨I, h0, hI⟩ := h
   refine ⟨I, h0, fun n g w hi => ?_⟩
   refine uO (ih _ _ _ (hI n g w hi)) (fun e g' w' _ hq => ?_)
   cases e with
   | normal => exact hq
   | goto l => exact hq.elim
   | _ => exact hq
 | exit id => intro Q g w h; exact h
 | label l => intro Q g w h; exact h
 | scope c ih => intro Q g w h; exact ih Q g w h
 | ret => intro Q g w h; exact h
 | rangeFunc gf ps PD bd =>
   intro Q g w h
   have h : RF P ann.f gf ps PD bd Q g w := h
   show RF P ann.f gf ps PD bd (NZ Q) g w
   unfold RF at h ⊢
   cases hn : noMark (g DS) with
   | false => rw [hn] at h; exact h.elim
   | true =>
     rw [hn] at h
     simp only at h ⊢
     generalize (Fq (ev g gf) [DU (w.heap.size + 1)]).run P (O2 ann.f (Ll P ann.f) ps PD bd g w) = r at *
     match r, h with
     | .ok (.enter f2 args) w1, h =>
       obtain ⟨v, w3, hret, r, h1, h2, h3⟩ := h
       refine ⟨v, w3, hret, r, h1, h2, ?_⟩
       cases hp : r.pending with
       | none => rw [hp] at h3; exact h3
       | some c => rw [hp] at h3; cases c <;> exact h3
 | _ => intro Q g w h; exact h.elim
theorem GX {N : Nat} {g : Env} {a : Act} (h : CR N g a) : a.tmps = tmpsOf N g := by
 refine Array.ext (by simp [tmpsOf, h.size]) fun i h1 h2 => ?_
 have hi : i < N := by rw [<- h.size]; exact h1
 have := h.at_ i (Nat.ne_of_lt (QW hi h.le))
 rw [PS, PZ h1] at this
 simp [tmpsOf] at this ⊢
 exact this
theorem MK {v : Q7} (h : noMark v = true) : JG v = [] := by cases v <;> first | rfl | cases h
theorem KW {N : Nat} (hm : P.follows .mixedOrders = true) {ro : Option Nat} (hN : Ll P ann.f = N) : ∀ (c : Code), codeOk P N ann c = true -> ro = none ∨ oM c = true →
 ∀ (Q : Exit -> Env -> Q6 -> Prop) (QA : Exit -> Act -> Q6 -> Prop) (g : Env) (a : Act) (w : Q6), CR N g a →
   (∀ e g a w, CR N g a -> Q e g w -> QA e a w) -> gF P ann c Q g w -> HI P ann.f ro c QA a w := by
 intro c
 induction c with
 | skip => intro _ _ Q QA g a w hr hq h; exact Mq (hq _ _ _ _ hr h)
 | region id ops draw =>
   intro hok _ Q QA g a w hr hq h
   simp only [codeOk, PO, Qn, Qo] at hok
   have hd := EX hok.1.1
   have hca := GY hok.1.2
   cases draw with
   | false =>
     refine Ka ?_
     have := Lm hd hca (P := P) (Q := QA .normal) (K := Q .normal) (fun g a w => hq .normal g a w) ops.toList 0 g a w (fun j => by simp) hr h
     rw [List.range_eq_range']
     simpa using this
   | true =>
     rcases hok.2 with h1 | h1
     .cases h1
     .exact GO hm (Kk hd hca (fun g a w => hq .normal g a w) hr _ [] h1 (by simp) h)
 | seq x y ihx ihy =>
   intro hok hfl Q QA g a w hr hq h
   simp only [codeOk, PO] at hok
   have hfx : ro = none ∨ oM x = true := hfl.imp id fun h => by simp only [oM, PO] at h; exact h.1
   have hfy : ro = none ∨ oM y = true := hfl.imp id fun h => by simp only [oM, PO] at h; exact h.2
   refine MX (ihx hok.1 hfx _ _ g a w hr (fun e g a w hr h => ?_) h)
   cases e with
   | normal => exact ihy hok.2 hfy _ _ g a w hr hq h
   | _ => exact hq _ _ _ _ hr h
 | cond c x y ihx ihy =>
   intro hok hfl Q QA g a w hr hq h
   simp only [codeOk, PO] at hok
   have hfx : ro = none ∨ oM x = true := hfl.imp id fun h => by simp only [oM, PO] at h; exact h.1
   have hfy : ro = none ∨ oM y = true := hfl.imp id fun h => by simp only [oM, PO] at h; exact h.2
   simp only [gF] at h
   unfold kA at h
   have he := hr.ev c hok.1
   cases hc : ev g c with
   | bool b =>
     rw [hc] at h he
     refine LI he ?_
     cases b with
     | true => exact ihx hok.2.1 hfx _ _ g a w hr hq h
     | false => exact ihy hok.2.2 hfy _ _ g a w hr hq h
   | _ => rw [hc] at h; exact h.elim
 | block id c ih =>
   intro hok hfl Q QA g a w hr hq h
   refine Ld (ih hok hfl _ _ g a w hr (fun e g a w hr h => ?_) h)
   cases e with
   | exit i =>
     unfold Exit.inBlock
     simp only [Nm] at h
     by_cases hi : i = id
     .subst hi
      simp only [if_true]
      simp only [Nat.beq_refl] at h
      exact hq _ _ _ _ hr h
     .simp only [hi, if_false]
      have : Nat.beq i id = false := by
       cases hb : Nat.beq i id
       .rfl
       .exact absurd (P4 hb) hi
      simp only [this] at h
      exact hq _ _ _ _ hr h
   | _ => exact hq _ _ _ _ hr h
 | loop c ih =>
   intro hok hfl Q QA g a w hr hq h
   obtain ⟨I, h0, hround⟩ := h
   have hex : ∀ a w, (∃ n g, CR N g a /\ I n g w) -> ∃ n, (∃ g, CR N g a /\ I n g w) /\ ∀ m, (∃ g, CR N g a /\ I m g w) -> n <= m := by
    rintro a w ⟨n, hn⟩
    induction n using Nat.strongRecOn with
    | _ n ih2 =>
      by_cases hx : ∃ m, m < n /\ ∃ g, CR N g a /\ I m g w
      .obtain ⟨m, hm, h⟩ := hx; exact ih2 m hm h
      .exact ⟨n, hn, fun m hm => Nat.le_of_not_lt fun hlt => hx ⟨m, hlt, hm⟩⟩
   have hdec : ∀ a w, Decidable (∃ n g, CR N g a /\ I n g w) := fun a w => Classical.propDecidable _
   let μ : Act -> Q6 -> Nat := fun a w => if hh : ∃ n g, CR N g a /\ I n g w then Classical.choose (hex a w hh) else 0
   have hμ : ∀ a w n g, CR N g a -> I n g w -> μ a w <= n /\ ∃ g, CR N g a /\ I (μ a w) g w := by
    intro a w n g hr hI
    have hh : ∃ n g, CR N g a /\ I n g w := ⟨n, g, hr, hI⟩
    have e : μ a w = Classical.choose (hex a w hh) := dif_pos hh
    have s := Classical.choose_spec (hex a w hh)
    rw [e]
    exact ⟨s.2 n ⟨g, hr, hI⟩, s.1⟩
   obtain ⟨n0, h0⟩ := h0
   refine LA (fun a w => ∃ n g, CR N g a /\ I n g w) μ ⟨n0, g, hr, h0⟩ ?_
   rintro a w ⟨n, g, hr, hI⟩
   obtain ⟨_, g', hr', hI'⟩ := hμ a w n g hr hI
   refine ih hok hfl _ _ g' a w hr' (fun e g1 a1 w1 hr1 h => ?_) (hround _ _ _ hI')
   cases e with
   | normal =>
     obtain ⟨m, hm, hIm⟩ := h
     have := hμ a1 w1 m g1 hr1 hIm
     exact ⟨⟨m, g1, hr1, hIm⟩, by omega⟩
   | _ => exact hq _ _ _ _ hr1 h
 | label l => intro _ _ Q QA g a w hr hq h; exact Ln (hq _ _ _ _ hr h)
 | scope c ih =>
   intro hok hfl Q QA g a w hr hq h
   refine KR (ih hok hfl (NZ Q) _ g a w hr (fun e g a w hr h => ?_) (JU c _ g w h))
   cases e with
   | goto l => exact h.elim
   | _ => exact hq _ _ _ _ hr h
 | exit id => intro _ _ Q QA g a w hr hq h; exact Jb (hq _ _ _ _ hr h)
 | ret => intro _ _ Q QA g a w hr hq h; exact KG (hq _ _ _ _ hr h)
 | rangeFunc gf ps PD bd =>
   intro hok hfl Q QA g a w hr hq h
   have hro : ro = none := hfl.resolve_right (by simp [oM])
   subst hro
   have hok : H4 gf = true := hok
   have h : RF P ann.f gf ps PD bd Q g w := h
   unfold RF at h
   cases hn : noMark (g DS) with
   | false => rw [hn] at h; exact h.elim
   | true =>
     rw [hn] at h
     simp only [hN] at h
     have ed : a.defers = [] := by rw [hr.defers, MK hn]
     have er := run_enterLoop_outer (P := P) (w := w) ann.f a.tmps ps PD bd
     rw [GX hr] at er
     have er : (Instr.enterLoop ann.f a.tmps ps PD bd none).run P w = .ok (w.heap.size + 1, [{ target := .collected w.heap.size, args := #[] }]) (O2 ann.f N ps PD bd g w) := by rw [GX hr]; exact er
     generalize O2 ann.f N ps PD bd g w = w1 at *
     have ee := hr.ev gf hok
     unfold Fq at h
     have hres : resolve a.eval (rangeCall gf (w.heap.size + 1)) 0 = Deferred.ofValue (ev g gf) #[DU (w.heap.size + 1)] := by
      have : resolve a.eval (rangeCall gf (w.heap.size + 1)) 0 = Deferred.ofValue (a.eval gf) #[DU (w.heap.size + 1)] := by
       simp only [resolve, List.map_toArray, QO, List.map_nil]; rfl
      rw [this, ee]
     rw [show ([DU (w.heap.size + 1)] : List Q7).toArray = #[DU (w.heap.size + 1)] from rfl, <- hres, Sem.run_bind] at h
     cases hv : (resolve a.eval (rangeCall gf (w.heap.size + 1)) 0).run P w1 with
     | halt x wx => rw [hv] at h; exact h.elim
     | ok d wx =>
       have hwx : wx = w1 := by
        rw [hres] at hv
        unfold Deferred.ofValue at hv
        split at hv <;> first | (simp only [Sem.run_pure] at hv; cases hv; rfl) | (simp [stuck] at hv)
       subst hwx
       rw [hv] at h
       simp only [Result.andThen] at h
       cases hi : (invoke d.target d.args).run P wx with
       | halt x w2 => rw [hi] at h; exact h.elim
       | ok nx w2 =>
         rw [hi] at h
         cases nx <;> try (exact h.elim)
         obtain ⟨v, w3, hret, r, h1, h2, h3⟩ := h
         have hrel : ∀ w, CR N (put g (some DS) (.pointer (some ⟨w, 0, none⟩))) { a with defers := [{ target := .collected w, args := #[] }] ++ a.defers } := fun w => by
          refine ⟨hr.le, ?_, hr.size, fun i hi => ?_⟩
          .rw [AJ, if_pos rfl, ed] <;> rfl
          .rw [AJ, if_neg hi]; exact hr.at_ i hi
         have key : ∀ (j : Option Code) (w5 : Q6), OR Q (put g (some DS) (.pointer (some ⟨w.heap.size, 0, none⟩))) j w5 →
             NN P ann.f QA { a with defers := [{ target := .collected w.heap.size, args := #[] }] ++ a.defers } w5 j := by
          intro j w5 h
          cases j with
          | none => exact hq _ _ _ _ (hrel _) h
          | some c =>
            cases c <;> first
             | exact h.elim
             | exact KG (hq _ _ _ _ (hrel _) h)
             | exact Jb (hq _ _ _ _ (hrel _) h)
         exact KY er hv hi hret (run_endLoop h1 h2) (key _ _ h3)
 | _ => intro hok; simp [codeOk] at hok
def lV (P : Program) : List ResultVar -> Env -> Q6 -> (List Q7 -> Prop) -> Prop
 | [], _, _, K => K []
 | .tmp t :: r, g, w, K => lV P r g w fun vs => K (g t :: vs)
 | .cell a t :: r, g, w, K => ∃ v, (do loadVar t (<- asAddr (g a)) : Sem Q7).run P w = .ok v w /\ lV P r g w fun vs => K (v :: vs)
def HL : List Q7 -> Q7
 | [v] => v
 | vs => .tuple vs.toArray
def O7 (P : Program) (rs : List ResultVar) (R : Q7 -> Q6 -> Prop) : Exit -> Env -> Q6 -> Prop
 | .normal, g, w => lV P rs g w fun vs => R (HL vs) w
 | .ret, g, w => lV P rs g w fun vs => R (HL vs) w
 | _, _, _ => False
theorem IM {N : Nat} {g : Env} {a : Act} {w : Q6} (hr : CR N g a) : ∀ (rs : List ResultVar), rs.all JD = true -> ∀ (K : List Q7 -> Prop), lV P rs g w K →
 ∃ vs, K vs /\ (rs.mapM fun | .tmp t => pure (a.tmps.getD t undef) | .cell b t => do loadVar t (<- asAddr (a.tmps.getD b undef)) : Sem (List Q7)).run P w = .ok vs w := by
 have ne : ∀ t : Nat, Nat.blt t DS = true -> a.tmps.getD t undef = g t := fun t h => hr.at_ t (Nat.ne_of_lt ((QE (x := t) (y := DS)) ▸ h))
 intro rs
 induction rs with
 | nil => intro _ K h; exact ⟨[], h, by simp⟩
 | cons r rs ih =>
   intro hok K h
   simp only [List.all_cons, PO] at hok
   cases r with
   | tmp t =>
     obtain ⟨vs, h1, h2⟩ := ih hok.2 _ h
     refine ⟨_, h1, ?_⟩
     rw [List.mapM_cons]
     rw [pure_bind, Sem.run_bind]
     simp only [h2, Result.andThen, Sem.run_pure, ne t hok.1]
   | cell b t =>
     obtain ⟨v, hv, h⟩ := h
     obtain ⟨vs, h1, h2⟩ := ih hok.2 _ h
     refine ⟨_, h1, ?_⟩
     rw [List.mapM_cons]
     rw [<- ne b hok.1] at hv
     rw [Sem.run_bind]
     simp only [hv, Result.andThen]
     rw [Sem.run_bind]
     simp only [h2, Result.andThen]
     rfl
theorem Ok (vs : Array Q7) : (if h : vs.size = 1 then vs[0] else Value.tuple vs) = HL vs.toList := by
 obtain ⟨l⟩ := vs
 match l with
 | [] => rfl
 | [v] => rfl
 | a :: b :: r => simp [HL]
theorem Ju {N : Nat} {g : Env} {a : Act} {w : Q6} (fn : Func) {rs : List ResultVar} (hok : rs.all JD = true) (hrs : fn.results = rs.toArray) (hr : CR N g a) {R : Q7 -> Q6 -> Prop}
 (h : lV P rs g w fun vs => R (HL vs) w) : ∃ v, (results fn a.tmps).run P w = .ok v w /\ R v w := by
 obtain ⟨vs, h1, h2⟩ := IM hr rs hok _ h
 refine ⟨HL vs, ?_, h1⟩
 unfold results
 rw [hrs, Array.mapM_eq_mapM_toList, List.toList_toArray]
 simp only [bind_assoc, map_eq_pure_bind]
 rw [Sem.run_bind]
 refine Eq.trans (congrArg (fun r => Result.andThen r _) h2) ?_
 simp only [Result.andThen]
 simp only [pure_bind, Sem.run_pure, Ok]
def HE (args : List Q7) : Env := fun i => args.getD i undef
def OQ (P : Program) (rs : List ResultVar) (R : Q7 -> Q6 -> Prop) : Exit -> Env -> Q6 -> Prop
 | .normal, g, w => AI (g DS) w fun w => lV P rs g w fun vs => R (HL vs) w
 | .ret, g, w => AI (g DS) w fun w => lV P rs g w fun vs => R (HL vs) w
 | _, _, _ => False
theorem Je {g : Env} {w : Q6} : ∀ (rs : List ResultVar) (K : List Q7 -> Prop), lV P rs g w K -> ∃ vs, K vs /\ ∀ K' : List Q7 -> Prop, K' vs -> lV P rs g w K' := by
 intro rs
 induction rs with
 | nil => intro K h; exact ⟨_, h, fun _ h => h⟩
 | cons r rs ih =>
   intro K h
   cases r with
   | tmp t =>
     obtain ⟨vs, a, b⟩ := ih _ h
     exact ⟨_, a, fun K' h => b _ h⟩
   | cell b t =>
     obtain ⟨v, hv, h⟩ := h
     obtain ⟨vs, a, b⟩ := ih _ h
     exact ⟨_, a, fun K' h => ⟨v, hv, b _ h⟩⟩
theorem Ik {v : Q7} {w : Q6} {K : Q6 -> Prop} (h : AI v w K) : ∃ w', K w' /\ ∀ K' : Q6 -> Prop, K' w' -> AI v w K' := by
 cases v with
 | pointer p =>
   cases p with
   | none => exact ⟨_, h, fun _ h => h⟩
   | some a => exact ⟨_, h.2, fun _ h' => ⟨h.1, h'⟩⟩
 | _ => exact ⟨_, h, fun _ h => h⟩
theorem J7 {v : Q7} {w : Q6} {K K' : Q6 -> Prop} (h : AI v w K) (hk : ∀ w, K w -> K' w) : AI v w K' :=
 let ⟨w', a, b⟩ := Ik h; b _ (hk w' a)
theorem Jp {args : List Q7} {N i : Nat} (hle : args.length <= N) (hi : N <= i) : HE args i = undef := by
 unfold HE
 rw [P7, QI (by omega)] <;> rfl
theorem Ir {f : FuncId} {fn : Func} {c : Code} {args : List Q7} {w : Q6} {rs : List ResultVar} {R : Q7 -> Q6 -> Prop} (hm : P.follows .mixedOrders = true) (hAf : ann.f = f)
 (hf : P.funcs[f]? = some fn) (hb : fn.body = some c) (hrs : fn.results = rs.toArray) {N : Nat} (hN : fn.ntmps = N) (hle : args.length <= N)
 (hok : codeOk P N ann c = true) (hro : rs.all JD = true) (hND : Nat.ble N DS = true) (h : gF P ann c (OQ P rs R) (HE args) w) : fK P f args.toArray w R := by
 obtain ⟨e, g', w', hq, _, hall⟩ := KA _ _ _ _ h
 have hND := QK hND
 have hNt : Ll P ann.f = N := by unfold Ll; rw [hAf, hf]; exact hN
 have hrv : AI (g' DS) w' fun w => lV P rs g' w fun vs => R (HL vs) w := by cases e <;> first | exact hq | exact hq.elim
 obtain ⟨w2, hrv2, hsh⟩ := Ik hrv
 obtain ⟨vs, hv, hrest⟩ := Je _ _ hrv2
 refine ⟨HL vs, w2, ?_, hv⟩
 have hrel : CR N (HE args) { tmps := args.toArray ++ Array.replicate (fn.ntmps - args.toArray.size) undef, defers := [] } := by
  refine ⟨hND, by rw [Jp hle hND] <;> rfl, by simp [hN]; omega, fun i _ => ?_⟩
  simp only [HE, PS, P7]
  by_cases hi : i < args.length
  .simp [Array.getElem?_append, hi]
  .simp only [Array.getElem?_append, List.size_toArray, hi, if_false, Array.getElem?_replicate]
   rw [QI (by omega)]
   split <;> rfl
 have key := IG (P := P) (f := f) hf hb (R := fun v3 w3 => v3 = HL vs /\ w3 = w2) (args := args.toArray) (w := w)
  (hAf ▸ KW hm hNt c hok (.inl rfl) (OQ P rs fun v3 w3 => v3 = HL vs /\ w3 = w2) _ _ _ _ hrel (fun e g a w hr h => ?_) (hall _ ?_))
 .refine Calls.mono key ?_
  rintro e w3 ⟨v, rfl, rfl, rfl⟩
  exact ⟨rfl, rfl⟩
 .have hx : ∀ {w}, (AI (g DS) w fun w => lV P rs g w fun vs' => HL vs' = HL vs /\ w = w2) -> ∃ m, a.defers = JG m /\ AI m w fun w' => ∃ v, (results fn a.tmps).run P w' = .ok v w' /\ (v = HL vs /\ w' = w2) := by
   intro w h
   exact ⟨_, hr.defers, J7 h fun w h => Ju fn hro hrs hr (R := fun v3 w3 => v3 = HL vs /\ w3 = w2) h⟩
  cases e with
  | normal => exact hx h
  | ret => exact hx h
  | _ => exact h.elim
 .have := hsh (fun w => lV P rs g' w fun vs' => HL vs' = HL vs /\ w = w2) (hrest _ ⟨rfl, rfl⟩)
  cases e <;> first | exact this | exact hq.elim
theorem MP {N : Nat} : ∀ (c : Code), codeOk P N ann c = true -> oM c = true -> ∀ s ∈ C4 c, s < N := by
 intro c
 induction c with
 | region id ops draw =>
   intro hok _ s hs
   simp only [codeOk, PO] at hok
   obtain ⟨o, h1, h2⟩ := zA.1 hs
   obtain ⟨i, hi, rfl⟩ := List.getElem_of_mem h1
   exact EX hok.1.1 i _ (by simp at hi ⊢) s h2
 | seq x y ihx ihy =>
   intro hok hfl s hs
   simp only [codeOk, oM, PO] at hok hfl
   rcases QT.1 hs with hs | hs
   .exact ihx hok.1 hfl.1 s hs
   .exact ihy hok.2 hfl.2 s hs
 | cond c x y ihx ihy =>
   intro hok hfl s hs
   simp only [codeOk, oM, PO] at hok hfl
   rcases QT.1 hs with hs | hs
   .exact ihx hok.2.1 hfl.1 s hs
   .exact ihy hok.2.2 hfl.2 s hs
 | block id c ih => intro hok hfl s hs; exact ih hok hfl s hs
 | loop c ih => intro hok hfl s hs; exact ih hok hfl s hs
 | scope c ih => intro hok hfl s hs; exact ih hok hfl s hs
 | rangeFunc => intro _ hfl; simp [oM] at hfl
 | _ => intro _ _ s hs; simp [C4] at hs
theorem I5 {f : FuncId} {fn : Func} {c : Code} {args : List Q7} {w : Q6} {rs : List ResultVar} {R : Q7 -> Q6 -> Prop} (hm : P.follows .mixedOrders = true) (hAf : ann.f = f)
 (hf : P.funcs[f]? = some fn) (hb : fn.body = some c) (hrs : fn.results = rs.toArray) {N : Nat} (hN : fn.ntmps = N) (hle : args.length <= N)
 (hok : codeOk P N ann c = true) (hro : rs.all JD = true) (hND : Nat.ble N DS = true) (hfl : oM c = true) (h : gF P ann c (O7 P rs R) (HE args) w) : fK P f args.toArray w R := by
 refine Ir hm hAf hf hb hrs hN hle hok hro hND (uO h fun e g' w' ha hq => ?_)
 have hND := QK hND
 have : g' DS = undef := by
  rw [ha DS (fun hd => absurd (MP c hok hfl DS hd) (Nat.not_lt.2 hND)), Jp hle hND]
 cases e with
 | normal => show AI (g' DS) w' (fun w => lV P rs g' w fun vs => R (HL vs) w); rw [this]; exact hq
 | ret => show AI (g' DS) w' (fun w => lV P rs g' w fun vs => R (HL vs) w); rw [this]; exact hq
 | _ => exact hq.elim
theorem HU {f : FuncId} {args : Array Q7} {w : Q6} {R : Q7 -> Q6 -> Prop} (h : fK P f args w R) :
 Calls P f args w fun e w' => ∃ v, e = .returned v /\ R v w' := by
 obtain ⟨v, w', hr, hR⟩ := h
 refine Calls.mono hr ?_
 rintro e w'' ⟨rfl, rfl⟩
 exact ⟨v, rfl, hR⟩
end
def sA : Code -> Code | .seq a _ => a | c => c
def cT : Code -> Code | .cond _ a _ => a | c => c
def cE : Code -> Code | .cond _ _ b => b | c => c
def bI : Code -> Code | .block _ c => c | .loop c => c | .scope c => c | c => c
def iD (f : Func) : Code := match f.body with | some c => c | none => .skip
def fI : Nat -> Code -> Code
 | 0, c => c
 | 1, c => sA c
 | n + 1, .seq a b => .seq a (fI n b)
 | _, c => c
def dX : Nat -> Code -> Code
 | 0, c => c
 | n + 1, .seq _ b => dX n b
 | _, c => c
def J6 : Nat -> Code -> Bool
 | 1, .seq _ _ => true
 | n + 1, .seq _ b => J6 n b
 | _, _ => false
def dr (w : Q6) : Q6 := { w with drawn := w.drawn + 1 }
def Fm (P : Program) (t : TypeId) (a : Q7) (w : Q6) (K : Q7 -> Prop) : Prop := ∃ v, (do loadVar t (<- asAddr a) : Sem Q7).run P w = .ok v w /\ K v
def O9 : List (Nat × (Env -> Q6 -> Prop)) -> Nat -> Env -> Q6 -> Prop
 | [], _, _, _ => False
 | (j, k) :: r, i, g, w => match Nat.beq i j with | true => k g w | false => O9 r i g w
def Pv (kn kr : Env -> Q6 -> Prop) (l : List (Nat × (Env -> Q6 -> Prop))) : Exit -> Env -> Q6 -> Prop
 | .normal, g, w => kn g w
 | .ret, g, w => kr g w
 | .exit i, g, w => O9 l i g w
 | _, _, _ => False
def Kx (Q : Exit -> Env -> Q6 -> Prop) : List (Nat × (Env -> Q6 -> Prop)) -> Prop
 | [] => True
 | (i, k) :: r => (∀ g w, k g w -> Q (.exit i) g w) /\ Kx Q r
def nI (c a b : Q7) : Sem Next := do pure (.value (if <- asBool c then a else b))
def lH (t : TypeId) : Sem Next := V (Instr.alloc t true (.tuple #[]))
def Iy (t : TypeId) (x : Q7) : Sem Next := V (Instr.box t x)
def fM (t : TypeId) (a : Q7) : Sem Next := V (Instr.loadAt t a)
def fQ (t : TypeId) (a x : Q7) : Sem Next := U (Instr.storeAt t a x)
def jJ (x : Q7) : Sem Next := execOp (fun _ => x) ⟨none, .nilCheck (.tmp 0), 0, default, #[], none⟩
def Mi (op : UnOp) (x : Q7) : Sem Next := V (Op.unary op x)
def iO (s d : TypeId) (x : Q7) : Sem Next := V (convert s d x)
def Mz (t : TypeId) (x : Q7) : Sem Next := V (Instr.makeInterface t x)
def Cf (t : TypeId) (l c : Q7) : Sem Next := V (Instr.makeSlice t l c)
def hE (t : TypeId) (x : Q7) (lo hi mx : Option Q7) : Sem Next := V (Instr.sliceAt t x lo hi mx)
def fJ (t : TypeId) (x : Q7) (f : Nat) : Sem Next := V (Instr.fieldAt t x f)
def iW (t : TypeId) (x i : Q7) : Sem Next := V (Instr.indexAt t x i)
def D0 (t : TypeId) (x i : Q7) : Sem Next := V (Instr.index t x i)
def hY (t : Q7) (i : Nat) : Sem Next := V (Instr.extract t i)
section
variable {P : Program} {ann : FA}
theorem NR {Q : Exit -> Env -> Q6 -> Prop} : ∀ {l : List (Nat × (Env -> Q6 -> Prop))}, Kx Q l -> ∀ {i : Nat} {g : Env} {w : Q6}, O9 l i g w -> Q (.exit i) g w := by
 intro l
 induction l with
 | nil => intro _ i g w h; exact h.elim
 | cons p r ih =>
   obtain ⟨j, k⟩ := p
   rintro ⟨h1, h2⟩ i g w h
   simp only [O9] at h
   cases hb : Nat.beq i j with
   | true =>
     simp only [hb] at h
     obtain rfl := P4 hb
     exact h1 _ _ h
   | false => simp only [hb] at h; exact ih h2 h
theorem Nb {c : Code} {kn kr : Env -> Q6 -> Prop} {l : List (Nat × (Env -> Q6 -> Prop))} {Q : Exit -> Env -> Q6 -> Prop} {g : Env} {w : Q6} {A : Prop}
 (e : A = gF P ann c (Pv kn kr l) g w) (h : A) (hn : ∀ g w, kn g w -> Q .normal g w) (hr : ∀ g w, kr g w -> Q .ret g w) (hl : Kx Q l) : gF P ann c Q g w := by
 rw [e] at h
 refine uO h (fun e g' w' _ hq => ?_)
 cases e with
 | normal => exact hn _ _ hq
 | ret => exact hr _ _ hq
 | exit i => exact NR hl hq
 | _ => exact hq.elim
theorem KX {x y z : Code} {Q : Exit -> Env -> Q6 -> Prop} {g : Env} {w : Q6} (h : gF P ann (.seq (.seq x y) z) Q g w) : gF P ann (.seq x (.seq y z)) Q g w := by
 show gF P ann x (rC (fun g w => gF P ann y (rC (fun g w => gF P ann z Q g w) Q) g w) Q) g w
 have h : gF P ann x (rC (fun g w => gF P ann y (rC (fun g w => gF P ann z Q g w) Q) g w) (rC (fun g w => gF P ann z Q g w) Q)) g w := h
 refine uO h (fun e g' w' _ hq => ?_)
 cases e <;> exact hq
theorem fL {K : Env -> Q6 -> Prop} {Q : Exit -> Env -> Q6 -> Prop} {g : Env} {w : Q6} (h : K g w) : rC K Q .normal g w := h
theorem Lr {Q : Exit -> Env -> Q6 -> Prop} : ∀ (n : Nat) (c : Code) (g : Env) (w : Q6), J6 n c = true -> gF P ann (.seq (fI n c) (dX n c)) Q g w -> gF P ann c Q g w := by
 intro n
 induction n with
 | zero => intro c g w h; simp [J6] at h
 | succ n ih =>
   intro c g w h hd
   cases c with
   | seq a b =>
     cases n with
     | zero => exact hd
     | succ n =>
       have hb : J6 (n + 1) b = true := by simpa [J6] using h
       have hd' : gF P ann (.seq (.seq a (fI (n + 1) b)) (dX (n + 1) b)) Q g w := hd
       have := KX hd'
       show gF P ann a (rC (fun g w => gF P ann b Q g w) Q) g w
       have h2 : gF P ann a (rC (fun g w => gF P ann (.seq (fI (n + 1) b) (dX (n + 1) b)) Q g w) Q) g w := this
       refine uO h2 (fun e g' w' _ hq => ?_)
       cases e with
       | normal => exact ih b g' w' hb hq
       | _ => exact hq
   | _ => cases n <;> simp [J6] at h
def NA (id : Nat) : Code -> Bool | .block i _ => Nat.beq i id | _ => false
def Mo : Code -> Bool | .loop _ => true | _ => false
def Mv : Code -> Option Operand | .cond o _ _ => some o | _ => none
theorem MZ {Q : Exit -> Env -> Q6 -> Prop} (id : Nat) (c : Code) (g : Env) (w : Q6) (h : NA id c = true) (hd : gF P ann (bI c) (Nm id Q) g w) : gF P ann c Q g w := by
 cases c with
 | block i c =>
   obtain rfl := P4 (show Nat.beq i id = true from h)
   exact hd
 | _ => cases h
def NP : Code -> Bool | .scope _ => true | _ => false
theorem M8 {Q : Exit -> Env -> Q6 -> Prop} (c : Code) (g : Env) (w : Q6) (h : NP c = true) (hd : gF P ann (bI c) Q g w) : gF P ann c Q g w := by
 cases c with
 | scope c => exact hd
 | _ => cases h
theorem MV {Q : Exit -> Env -> Q6 -> Prop} (o : Operand) (c : Code) (g : Env) (w : Q6) (h : Mv c = some o)
 (hd : kA (ev g o) (gF P ann (cT c) Q g w) (gF P ann (cE c) Q g w)) : gF P ann c Q g w := by
 cases c with
 | cond o' a b => obtain rfl := Qj h; exact hd
 | _ => cases h
theorem L4 {v : Q7} {A B A' B' : Prop} (ha : A -> A') (hb : B -> B') (h : kA v A B) : kA v A' B' := by
 unfold kA at *
 cases v with
 | bool b => cases b <;> first | exact ha h | exact hb h
 | _ => exact h
theorem LO {T : Type} (proj : Env -> T) (F : (T -> Q6 -> Prop) -> T -> Q6 -> Prop) {c : Code} {Q : Exit -> Env -> Q6 -> Prop} {g : Env} {w : Q6}
 (hF : ∀ (X : T -> Q6 -> Prop) g' w', jO (C4 c) g g' -> F X (proj g') w' -> gF P ann c (rC (fun g'' w'' => X (proj g'') w'') Q) g' w')
 (h : iG F (proj g) w) : gF P ann (.loop c) Q g w := by
 obtain ⟨I, ⟨n, h0⟩, hI⟩ := h
 refine ⟨fun n g' w' => jO (C4 c) g g' /\ I n (proj g') w', ⟨n, jO.refl _ _, h0⟩, ?_⟩
 rintro n g' w' ⟨ha, hi⟩
 have := hF _ g' w' ha (hI n _ _ hi)
 refine uO this (fun e g2 w2 ha2 hq => ?_)
 cases e with
 | normal =>
   obtain ⟨m, hm, hh⟩ := hq
   exact ⟨m, hm, ha.trans ha2 (fun _ h => h) (fun _ h => h), hh⟩
 | _ => exact hq
theorem Le {T : Type} (proj : Env -> T) (F : (T -> Q6 -> Prop) -> T -> Q6 -> Prop) (c : Code) {Q : Exit -> Env -> Q6 -> Prop} {g : Env} {w : Q6} (hl : Mo c = true)
 (h : iG F (proj g) w)
 (hF : ∀ (X : T -> Q6 -> Prop) g' w', jO (C4 (bI c)) g g' -> F X (proj g') w' -> gF P ann (bI c) (rC (fun g'' w'' => X (proj g'') w'') Q) g' w') : gF P ann c Q g w := by
 cases c with
 | loop c => exact LO proj F hF h
 | _ => cases hl
theorem Kg {l : List Nat} {s : Nat} (hs : lI s l = false) : s ∉ l := by
 induction l with
 | nil => simp
 | cons a r ih =>
   unfold lI at hs
   cases hb : Nat.beq a s with
   | true => simp only [hb] at hs; cases hs
   | false =>
     simp only [hb] at hs
     intro hm
     rcases Qz.1 hm with e | hm
     .subst e; simp at hb
     .exact ih hs hm
theorem L5 {l : List Nat} {g g' : Env} (h : jO l g g') {s : Nat} (hs : lI s l = false) : g' s = g s := h s (Kg hs)
theorem iG.rule {α : Type} {F : (α -> Q6 -> Prop) -> α -> Q6 -> Prop} (I : Nat -> α -> Q6 -> Prop) {g : α} {w : Q6} (n : Nat) (h0 : I n g w)
 (hr : ∀ n g w, I n g w -> F (fun g' w' => ∃ m, m < n /\ I m g' w') g w) : iG F g w := ⟨I, ⟨n, h0⟩, hr⟩
theorem dI (A B : Prop) : kA (.bool true) A B = A := Eq.trans rfl rfl
theorem cY (A B : Prop) : kA (.bool false) A B = B := Eq.trans rfl rfl
theorem dN (s : (Q7 -> Q6 -> Prop) -> Prop) (w : Q6) (K : Q7 -> Q6 -> Prop) : Gd true s w K = s K := Eq.trans rfl rfl
theorem dK (s : (Q7 -> Q6 -> Prop) -> Prop) (w : Q6) (K : Q7 -> Q6 -> Prop) : Gd false s w K = K undef w := Eq.trans rfl rfl
theorem dP (p : Prop) : Gs true p = p := Eq.trans rfl rfl
theorem dM (p : Prop) : Gs false p = True := Eq.trans rfl rfl
theorem dS : lT (.bool true) true = true := Eq.trans rfl rfl
theorem dT : lT (.bool true) false = false := Eq.trans rfl rfl
theorem dU : lT (.bool false) true = false := Eq.trans rfl rfl
theorem dV : lT (.bool false) false = true := Eq.trans rfl rfl
def fH : Operand := .tmp 0
theorem jV {c : Code} {kn kr : Env -> Q6 -> Prop} {l : List (Nat × (Env -> Q6 -> Prop))} {Q : Exit -> Env -> Q6 -> Prop} {g : Env} {w : Q6} {A : Prop}
 (h : A) (hn : ∀ g w, kn g w -> Q .normal g w) (hr : ∀ g w, kr g w -> Q .ret g w) (hl : Kx Q l) (e : A = gF P ann c (Pv kn kr l) g w := by kernel_rfl) : gF P ann c Q g w := Nb e h hn hr hl
theorem pE {Q : Exit -> Env -> Q6 -> Prop} (n : Nat) {c : Code} {g : Env} {w : Q6}
 (hd : gF P ann (fI n c) (rC (fun g w => gF P ann (dX n c) Q g w) Q) g w) (h : J6 n c = true := by kernel_rfl) : gF P ann c Q g w := Lr n c g w h hd
theorem G1 {Q : Exit -> Env -> Q6 -> Prop} (id : Nat) {c : Code} {g : Env} {w : Q6} (hd : gF P ann (bI c) (Nm id Q) g w) (h : NA id c = true := by kernel_rfl) : gF P ann c Q g w := MZ id c g w h hd
theorem PA {Q : Exit -> Env -> Q6 -> Prop} {c : Code} {g : Env} {w : Q6} (hd : gF P ann (bI c) Q g w) (h : NP c = true := by kernel_rfl) : gF P ann c Q g w := M8 c g w h hd
theorem Pq {Q : Exit -> Env -> Q6 -> Prop} (o : Operand) {c : Code} {g : Env} {w : Q6} {A B : Prop} (ha : A -> gF P ann (cT c) Q g w) (hb : B -> gF P ann (cE c) Q g w) (hd : kA (ev g o) A B) (h : Mv c = some o := by kernel_rfl) : gF P ann c Q g w :=
 MV o c g w h (L4 ha hb hd)
theorem Ix {T : Type} (proj : Env -> T) (F : (T -> Q6 -> Prop) -> T -> Q6 -> Prop) {c : Code} {Q : Exit -> Env -> Q6 -> Prop} {g : Env} {w : Q6}
 (h : iG F (proj g) w)
 (hF : ∀ (X : T -> Q6 -> Prop) g' w', jO (C4 (bI c)) g g' -> F X (proj g') w' -> gF P ann (bI c) (rC (fun g'' w'' => X (proj g'') w'') Q) g' w') (hl : Mo c = true := by kernel_rfl) : gF P ann c Q g w := Le proj F c hl h hF
theorem CS {l : List Nat} {g g' : Env} (s : Nat) (h : jO l g g') (hs : lI s l = false := by kernel_rfl) : g' s = g s := L5 h hs
theorem AQ {ann : FA} (fn : Func) (c : Code) (args : List Q7) (rs : List ResultVar) (N : Nat) {f : FuncId} {w : Q6} {R : Q7 -> Q6 -> Prop} (hm : P.follows .mixedOrders = true)
 (hf : P.funcs[f]? = some fn) (h : gF P ann c (O7 P rs R) (HE args) w) (hAf : ann.f = f := by kernel_rfl) (hb : fn.body = some c := by kernel_rfl) (hrs : fn.results = rs.toArray := by kernel_rfl) (hN : fn.ntmps = N := by kernel_rfl) (hle : Nat.ble args.length N = true := by kernel_rfl)
 (hok : codeOk P N ann c = true := by kernel_rfl) (hro : rs.all JD = true := by kernel_rfl) (hND : Nat.ble N DS = true := by kernel_rfl) (hfl : oM c = true := by kernel_rfl) : fK P f args.toArray w R :=
 I5 hm hAf hf hb hrs hN (QK hle) hok hro hND hfl h
end
end Go.En
namespace Go.Proofs.YthohephggmkeeaaDoor
open Go Go.En
noncomputable abbrev pg : Program := Tryd.prog
theorem TrydM.mixed : pg.follows .mixedOrders = true := Tryd.checked.mixed
abbrev K0 := Q6 -> Prop
abbrev K1 := Q7 -> K0
abbrev K2 := Q7 -> K1
abbrev K3 := Q7 -> K2
abbrev K4 := Q7 -> K3
abbrev K5 := Q7 -> K4
abbrev K6 := Q7 -> K5
abbrev K7 := Q7 -> K6
abbrev K8 := Q7 -> K7
abbrev HR (rs : List ResultVar) (R : K1) (Q : Exit -> Env -> Q6 -> Prop) : Prop := ∀ g w, (lV pg rs g w fun vs => R (HL vs) w) -> Q .ret g w
abbrev no : Env -> Q6 -> Prop := fun _ _ => False
theorem kK {Q : Env -> Q6 -> Prop} : ∀ g w, no g w -> Q g w := fun _ _ h => h.elim
abbrev pO : FuncId := 3
abbrev tW : FuncId := 7
abbrev tU : FuncId := 8
abbrev iH : FuncId := 9
abbrev qE : FuncId := 10
abbrev qC : FuncId := 11
abbrev BD : FuncId := 12
abbrev pI : FuncId := 13
abbrev kC : FuncId := 14
abbrev nK : FuncId := 15
abbrev tC : FuncId := 16
abbrev jI : FuncId := 17
abbrev iR : FuncId := 18
abbrev iF : FuncId := 19
abbrev fT : FuncId := 20
abbrev gP : FuncId := 21
abbrev lL : FuncId := 22
abbrev lY : FuncId := 23
abbrev rY : FuncId := 24
abbrev lX : FuncId := 25
abbrev kB : FuncId := 26
abbrev iX : FuncId := 27
abbrev wI : FuncId := 28
abbrev nG : FuncId := 29
abbrev lO : FuncId := 30
abbrev jW : FuncId := 31
abbrev wO : FuncId := 32
abbrev rZ : FuncId := 33
abbrev jE : FuncId := 34
abbrev oK : FuncId := 35
abbrev lN : FuncId := 36
abbrev Gn : FuncId := 37
abbrev Ci : FuncId := 38
abbrev qH : FuncId := 39
abbrev CV : FuncId := 43
abbrev pK : FuncId := 44
abbrev rU : FuncId := 45
abbrev Ea : FuncId := 46
abbrev oL : FuncId := 47
abbrev rH : FuncId := 60
abbrev pG : FuncId := 61
abbrev oH : FuncId := 62
abbrev gW : FuncId := 63
abbrev N0 (Q : Exit -> Env -> Q6 -> Prop) (k : K0) : Prop := ∀ g w, k w -> Q .normal g w
abbrev E0 (Q : Exit -> Env -> Q6 -> Prop) (k : K0) (x0 : Nat) : Prop := ∀ g w, k w -> Q (.exit x0) g w
abbrev N1 (Q : Exit -> Env -> Q6 -> Prop) (k : K1) (a_ : Nat) : Prop := ∀ g w, k (g a_) w -> Q .normal g w
abbrev E1 (Q : Exit -> Env -> Q6 -> Prop) (k : K1) (x0 : Nat) (a_ : Nat) : Prop := ∀ g w, k (g a_) w -> Q (.exit x0) g w
abbrev N2 (Q : Exit -> Env -> Q6 -> Prop) (k : K2) (a_ b_ : Nat) : Prop := ∀ g w, k (g a_) (g b_) w -> Q .normal g w
abbrev E2 (Q : Exit -> Env -> Q6 -> Prop) (k : K2) (x0 : Nat) (a_ b_ : Nat) : Prop := ∀ g w, k (g a_) (g b_) w -> Q (.exit x0) g w
abbrev N3 (Q : Exit -> Env -> Q6 -> Prop) (k : K3) (a_ b_ c_ : Nat) : Prop := ∀ g w, k (g a_) (g b_) (g c_) w -> Q .normal g w
abbrev E3 (Q : Exit -> Env -> Q6 -> Prop) (k : K3) (x0 : Nat) (a_ b_ c_ : Nat) : Prop := ∀ g w, k (g a_) (g b_) (g c_) w -> Q (.exit x0) g w
abbrev N4 (Q : Exit -> Env -> Q6 -> Prop) (k : K4) (a_ b_ c_ d_ : Nat) : Prop := ∀ g w, k (g a_) (g b_) (g c_) (g d_) w -> Q .normal g w
abbrev N5 (Q : Exit -> Env -> Q6 -> Prop) (k : K5) (a_ b_ c_ d_ e_ : Nat) : Prop := ∀ g w, k (g a_) (g b_) (g c_) (g d_) (g e_) w -> Q .normal g w
abbrev N6 (Q : Exit -> Env -> Q6 -> Prop) (k : K6) (a_ b_ c_ d_ e_ f_ : Nat) : Prop := ∀ g w, k (g a_) (g b_) (g c_) (g d_) (g e_) (g f_) w -> Q .normal g w
abbrev N7 (Q : Exit -> Env -> Q6 -> Prop) (k : K7) (a_ b_ c_ d_ e_ f_ g_ : Nat) : Prop := ∀ g w, k (g a_) (g b_) (g c_) (g d_) (g e_) (g f_) (g g_) w -> Q .normal g w
abbrev N8 (Q : Exit -> Env -> Q6 -> Prop) (k : K8) (a_ b_ c_ d_ e_ f_ g_ h_ : Nat) : Prop := ∀ g w, k (g a_) (g b_) (g c_) (g d_) (g e_) (g f_) (g g_) (g h_) w -> Q .normal g w
abbrev Q8 (n_ : Int) : Q7 := .int .i64 n_
end Go.Proofs.YthohephggmkeeaaDoor
namespace Go.Proofs.YthohephggmkeeaaDoor
open Go Go.En
set_option maxRecDepth 20000
attribute [local irreducible] Go.En.gF
variable (Q : Exit -> Env -> Q6 -> Prop) (g : Env) (w : Q6)
def sW : FA := ⟨pO, fun i => .leaf ([], []) []⟩
def uJ : List ResultVar := [.tmp 10]
noncomputable def sE : Code := iD Tryd.f3
def oP (R : K1) (hJ fR gE OG II : Q7) (w : Q6) : Prop :=
 fK pg tW #[] w fun c9 w =>
 dQ pg (Mi .not c9) w fun d1 w =>
 kA d1
  (R (.bool false) w)
  (dQ pg (mC .len #[22] 3 [hJ]) w fun d3 w =>
  dQ pg (fD .gtr 3 fH fH d3 (Q8 2000)) w fun d4 w =>
  kA d4
   (R (.bool true) w)
   (dQ pg (iO 5 3 fR) w fun d7 w =>
   dQ pg (fD .add 3 fH fH d7 (Q8 1)) w fun d8 w =>
   fK pg tU #[hJ, d8, gE] w fun e0 w =>
   dQ pg (iO 23 3 II) w fun e4 w =>
   fK pg iH #[e0, (Q8 20), e4] w fun e5 w =>
   dQ pg (hY e5 0) w fun e6 w =>
   dQ pg (hY e5 1) w fun e7 w =>
   dQ pg (iO 23 3 II) w fun e9 w =>
   dQ pg (mC .len #[22] 3 [hJ]) w fun f1 w =>
   dQ pg (fD .lss 3 fH fH e9 f1) w fun f2 w =>
   kA f2
    (dQ pg (fD .eql 26 (.tmp 43) (.const (Q8 12)) e7 (Q8 12)) w fun f4 w =>
    Gd (lT f4 true) (fun K => K e6 w) w fun f6 w =>
    Gd (lT f4 true) (fun K => dQ pg (mC .len #[22] 3 [f6]) w K) w fun f7 w =>
    Gd (lT f4 true) (fun K => dQ pg (fD .eql 3 (.tmp 47) (.const (Q8 0)) f7 (Q8 0)) w K) w fun f8 w =>
    dQ pg (nI f4 f8 (.bool false)) w fun f9 w =>
    R f9 w)
    (dQ pg (iO 23 3 OG) w fun i3 w =>
    dQ pg (mC .len #[22] 3 [e0]) w fun i5 w =>
    dQ pg (fD .sub 3 fH fH i5 (Q8 1)) w fun i6 w =>
    dQ pg (fD .rem 3 fH fH i3 i6) w fun i7 w =>
    dQ pg (fD .add 3 fH fH (Q8 1) i7) w fun i8 w =>
    dQ pg (hE 22 e0 none (some i8) none) w fun i9 w =>
    dQ pg (iO 23 3 II) w fun j1 w =>
    fK pg iH #[i9, (Q8 20), j1] w fun j2 w =>
    dQ pg (hY j2 0) w fun j3 w =>
    dQ pg (hY j2 1) w fun j4 w =>
    dQ pg (fD .neq 26 (.tmp 65) (.const (Q8 0)) e7 (Q8 0)) w fun j6 w =>
    Gd (lT j6 false) (fun K => K e6 w) w fun j8 w =>
    Gd (lT j6 false) (fun K => dQ pg (iO 22 9 j8) w K) w fun j9 w =>
    Gd (lT j6 false) (fun K => K hJ w) w fun l0 w =>
    Gd (lT j6 false) (fun K => dQ pg (iO 22 9 l0) w K) w fun l1 w =>
    Gd (lT j6 false) (fun K => dQ pg (fD .neq 9 (.tmp 69) (.tmp 71) j9 l1) w K) w fun l2 w =>
    dQ pg (nI j6 (.bool true) l2) w fun l3 w =>
    Gd (lT l3 false) (fun K => K j4 w) w fun l5 w =>
    Gd (lT l3 false) (fun K => dQ pg (fD .eql 26 (.tmp 75) (.const (Q8 0)) l5 (Q8 0)) w K) w fun l6 w =>
    dQ pg (nI l3 (.bool true) l6) w fun l7 w =>
    Gd (lT l7 false) (fun K => K j3 w) w fun l9 w =>
    Gd (lT l7 false) (fun K => dQ pg (mC .len #[22] 3 [l9]) w K) w fun m0 w =>
    Gd (lT l7 false) (fun K => dQ pg (fD .neq 3 (.tmp 80) (.const (Q8 0)) m0 (Q8 0)) w K) w fun m1 w =>
    dQ pg (nI l7 (.bool true) m1) w fun m2 w =>
    kA m2
     (R (.bool false) w)
     (dQ pg (Mi .not gE) w fun m4 w =>
     kA m4
      (R (.bool true) w)
      (dQ pg (mC .len #[22] 3 [e0]) w fun m7 w =>
      dQ pg (fD .sub 3 fH fH m7 (Q8 1)) w fun m8 w =>
      dQ pg (fD .and 23 fH fH OG (.int .u16 3)) w fun n0 w =>
      dQ pg (iO 23 3 n0) w fun n1 w =>
      dQ pg (fD .sub 3 fH fH m8 n1) w fun n2 w =>
      dQ pg (iW 22 e0 n2) w fun n3 w =>
      dQ pg (fM 5 n3) w fun n4 w =>
      dQ pg (fD .xor 5 fH fH n4 (.int .u8 1)) w fun n5 w =>
      dQ pg (iW 22 e0 n2) w fun n6 w =>
      dQ pg (fQ 5 n6 n5) w fun _u w =>
      dQ pg (iO 23 3 II) w fun o0 w =>
      fK pg iH #[e0, (Q8 20), o0] w fun o1 w =>
      dQ pg (hY o1 0) w fun o2 w =>
      dQ pg (hY o1 1) w fun o3 w =>
      dQ pg (fD .eql 26 (.tmp 104) (.const (Q8 13)) o3 (Q8 13)) w fun o5 w =>
      R o5 w)))))
theorem AA (R : K1) (hr : HR uJ R Q) (h : oP R (g 0) (g 1) (g 2) (g 3) (g 4) w) : gF pg sW sE Q g w :=
 jV (kn := no) (l := []) h kK hr trivial
def zG (a0 a1 a2 a3 a4 : Q7) (w : Q6) (R : K1) : Prop :=
 oP R a0 a1 a2 a3 a4 w
theorem A2 {a0 a1 a2 a3 a4 : Q7} {w : Q6} {R : K1} (h : zG a0 a1 a2 a3 a4 w R) : fK pg pO #[a0, a1, a2, a3, a4] w R := by
 refine AQ (ann := sW) Tryd.f3 sE [a0, a1, a2, a3, a4] uJ 106 TrydM.mixed Tryd.func3 ?_
 exact (AA _ _ _ R (fun _ _ h => h) h)
def BS : FA := ⟨tW, fun i => .leaf ([], []) []⟩
def CM : List ResultVar := [.tmp 0]
noncomputable def AZ : Code := iD Tryd.f7
def yC (R : K1)  (w : Q6) : Prop :=
 dQ pg (iK 22 11 [(0, (.int .u8 40)), (1, (.int .u8 181)), (2, (.int .u8 47)), (3, (.int .u8 253)), (4, (.int .u8 32)), (5, (.int .u8 2)), (6, (.int .u8 17)), (7, (.int .u8 0)), (8, (.int .u8 0)), (9, (.int .u8 7)), (10, (.int .u8 8))]) w fun c1 w =>
 dQ pg (iO 22 22 c1) w fun c2 w =>
 fK pg iH #[c2, (Q8 20), (Q8 100)] w fun c3 w =>
 dQ pg (hY c3 0) w fun c4 w =>
 dQ pg (hY c3 1) w fun c5 w =>
 dQ pg (iK 22 3 [(0, (.int .u8 1)), (1, (.int .u8 2)), (2, (.int .u8 3))]) w fun c7 w =>
 fK pg iH #[c7, (Q8 20), (Q8 100)] w fun c8 w =>
 dQ pg (hY c8 0) w fun c9 w =>
 dQ pg (hY c8 1) w fun d0 w =>
 fK pg iH #[(.slice none 0 0), (Q8 9), (Q8 100)] w fun d2 w =>
 dQ pg (hY d2 0) w fun d3 w =>
 dQ pg (hY d2 1) w fun d4 w =>
 dQ pg (iK 22 9 [(0, (.int .u8 80)), (1, (.int .u8 42)), (2, (.int .u8 77)), (3, (.int .u8 24)), (4, (.int .u8 1)), (5, (.int .u8 0)), (6, (.int .u8 0)), (7, (.int .u8 0)), (8, (.int .u8 9))]) w fun d6 w =>
 dQ pg (iO 22 22 d6) w fun d7 w =>
 fK pg qE #[d7, (Q8 20), (Q8 100)] w fun d8 w =>
 dQ pg (hY d8 0) w fun d9 w =>
 dQ pg (hY d8 1) w fun e0 w =>
 dQ pg (hY d8 2) w fun e1 w =>
 dQ pg (iO 22 9 c4) w fun e3 w =>
 dQ pg (fD .eql 9 (.tmp 33) (.const (.string ⟨#[7, 8]⟩)) e3 (.string ⟨#[7, 8]⟩)) w fun e4 w =>
 Gd (lT e4 true) (fun K => K c5 w) w fun e6 w =>
 Gd (lT e4 true) (fun K => dQ pg (fD .eql 26 (.tmp 36) (.const (Q8 0)) e6 (Q8 0)) w K) w fun e7 w =>
 dQ pg (nI e4 e7 (.bool false)) w fun e8 w =>
 Gd (lT e8 true) (fun K => K d0 w) w fun f0 w =>
 Gd (lT e8 true) (fun K => dQ pg (fD .eql 26 (.tmp 40) (.const (Q8 10)) f0 (Q8 10)) w K) w fun f1 w =>
 dQ pg (nI e8 f1 (.bool false)) w fun f2 w =>
 Gd (lT f2 true) (fun K => K d4 w) w fun f4 w =>
 Gd (lT f2 true) (fun K => dQ pg (fD .eql 26 (.tmp 44) (.const (Q8 1)) f4 (Q8 1)) w K) w fun f5 w =>
 dQ pg (nI f2 f5 (.bool false)) w fun f6 w =>
 Gd (lT f6 true) (fun K => K d9 w) w fun f8 w =>
 Gd (lT f6 true) (fun K => dQ pg (fD .eql 3 (.tmp 48) (.const (Q8 0)) f8 (Q8 0)) w K) w fun f9 w =>
 dQ pg (nI f6 f9 (.bool false)) w fun i0 w =>
 Gd (lT i0 true) (fun K => K e0 w) w fun i2 w =>
 Gd (lT i0 true) (fun K => dQ pg (fD .eql 3 (.tmp 52) (.const (Q8 1)) i2 (Q8 1)) w K) w fun i3 w =>
 dQ pg (nI i0 i3 (.bool false)) w fun i4 w =>
 Gd (lT i4 true) (fun K => K e1 w) w fun i6 w =>
 Gd (lT i4 true) (fun K => dQ pg (fD .eql 26 (.tmp 56) (.const (Q8 0)) i6 (Q8 0)) w K) w fun i7 w =>
 dQ pg (nI i4 i7 (.bool false)) w fun i8 w =>
 R i8 w
theorem Ek (R : K1) (hr : HR CM R Q) (h : yC R w) : gF pg BS AZ Q g w :=
 jV (kn := no) (l := []) h kK hr trivial
def FL (w : Q6) (R : K1) : Prop :=
 yC R w
theorem Fp {w : Q6} {R : K1} (h : FL w R) : fK pg tW #[] w R := by
 refine AQ (ann := BS) Tryd.f7 AZ [] CM 59 TrydM.mixed Tryd.func7 ?_
 exact (Ek _ _ _ R (fun _ _ h => h) h)
def gS : FA := ⟨tU, fun i => .leaf ([], []) []⟩
def xB : List ResultVar := [.tmp 6]
noncomputable def gM : Code := iD Tryd.f8
def oX (R : K1) (fS : Q7) (w : Q6) : Prop :=
 R fS w
theorem Eu (R : K1) (hr : HR xB R Q) (h : oX R (g 7) w) : gF pg gS (dX 1 (dX 1 (dX 3 gM))) Q g w :=
 jV (kn := no) (l := []) h kK hr trivial
def yA (kn : K1) (hJ gE fS : Q7) (w : Q6) : Prop :=
 kA gE
  (dQ pg (iO 22 9 hJ) w fun l4 w =>
  fK pg BD #[l4] w fun l5 w =>
  dQ pg (iO 40 5 l5) w fun l8 w =>
  dQ pg (fD .shr 40 fH fH l5 (.int .u64 8)) w fun m0 w =>
  dQ pg (iO 40 5 m0) w fun m1 w =>
  dQ pg (fD .shr 40 fH fH l5 (.int .u64 16)) w fun m3 w =>
  dQ pg (iO 40 5 m3) w fun m4 w =>
  dQ pg (fD .shr 40 fH fH l5 (.int .u64 24)) w fun m6 w =>
  dQ pg (iO 40 5 m6) w fun m7 w =>
  dQ pg (iK 22 4 [(0, l8), (1, m1), (2, m4), (3, m7)]) w fun m8 w =>
  dQ pg (mC .append #[22, 22] 22 [fS, m8]) w fun m9 w =>
  kn m9 w)
  (kn fS w)
theorem Ew (kn : K1) (hn : N1 Q kn 7) (h : yA kn (g 0) (g 2) (g 7) w) : gF pg gS (fI 1 (dX 1 (dX 3 gM))) Q g w :=
 jV (kr := no) (l := []) h hn kK trivial
def kZ (R : K1) (hJ gE fS : Q7) (w : Q6) : Prop :=
 yA (fun fS w => oX R fS w) hJ gE fS w
def mN (kn : K6) (hJ fR gE fS iQ nC : Q7) (w : Q6) : Prop :=
 dQ pg (fD .add 3 fH fH nC (Q8 1)) w fun d4 w =>
 kn hJ fR gE fS iQ d4 w
theorem Em (kn : K6) (hn : N6 Q kn 0 1 2 7 8 9) (h : mN kn (g 0) (g 1) (g 2) (g 7) (g 8) (g 9) w) : gF pg gS (dX 1 (dX 1 (bI (bI (dX 1 (fI 1 (dX 3 gM))))))) Q g w :=
 jV (kr := no) (l := []) h hn kK trivial
def oR (kn : K6) (k0 : K3) (hJ fR gE fS iQ nC CA JQ : Q7) (w : Q6) : Prop :=
 dQ pg (iO 3 5 JQ) w fun f8 w =>
 dQ pg (fD .quo 3 fH fH JQ (Q8 256)) w fun i0 w =>
 dQ pg (iO 3 5 i0) w fun i1 w =>
 dQ pg (fD .quo 3 fH fH JQ (Q8 65536)) w fun i3 w =>
 dQ pg (iO 3 5 i3) w fun i4 w =>
 dQ pg (iK 22 3 [(0, f8), (1, i1), (2, i4)]) w fun i5 w =>
 dQ pg (mC .append #[22, 22] 22 [fS, i5]) w fun i6 w =>
 dQ pg (fD .add 3 fH fH iQ CA) w fun j2 w =>
 dQ pg (hE 22 hJ (some iQ) (some j2) none) w fun j3 w =>
 dQ pg (mC .append #[22, 22] 22 [i6, j3]) w fun j4 w =>
 dQ pg (fD .add 3 fH fH iQ CA) w fun j7 w =>
 dQ pg (mC .len #[22] 3 [hJ]) w fun l0 w =>
 dQ pg (fD .eql 3 (.tmp 68) (.tmp 70) j7 l0) w fun l1 w =>
 kA l1
  (k0 hJ gE j4 w)
  (kn hJ fR gE j4 j7 nC w)
theorem Eh (kn : K6) (k0 : K3) (hn : N6 Q kn 0 1 2 7 8 9) (h0 : E3 Q k0 0 0 2 7) (h : oR kn k0 (g 0) (g 1) (g 2) (g 7) (g 8) (g 9) (g 10) (g 11) w) : gF pg gS (dX 2 (dX 2 (bI (fI 1 (dX 1 (bI (bI (dX 1 (fI 1 (dX 3 gM)))))))))) Q g w :=
 jV (kr := no) (l := [(0, fun g w => k0 (g 0) (g 2) (g 7) w)]) h hn kK ⟨h0, trivial⟩
def xC (kn : K8) (hJ fR gE fS iQ nC CA : Q7) (w : Q6) : Prop :=
 dQ pg (fD .mul 3 fH fH (Q8 8) CA) w fun e7 w =>
 dQ pg (fD .add 3 fH fH iQ CA) w fun f0 w =>
 dQ pg (mC .len #[22] 3 [hJ]) w fun f2 w =>
 dQ pg (fD .eql 3 (.tmp 40) (.tmp 42) f0 f2) w fun f3 w =>
 kA f3
  (dQ pg (fD .add 3 fH fH e7 (Q8 1)) w fun f5 w =>
  kn hJ fR gE fS iQ nC CA f5 w)
  (kn hJ fR gE fS iQ nC CA e7 w)
theorem Eg (kn : K8) (hn : N8 Q kn 0 1 2 7 8 9 10 11) (h : xC kn (g 0) (g 1) (g 2) (g 7) (g 8) (g 9) (g 10) w) : gF pg gS (fI 2 (dX 2 (bI (fI 1 (dX 1 (bI (bI (dX 1 (fI 1 (dX 3 gM)))))))))) Q g w :=
 jV (kr := no) (l := []) h hn kK trivial
def rV (kn : K6) (k0 : K3) (hJ fR gE fS iQ nC CA : Q7) (w : Q6) : Prop :=
 xC (fun hJ fR gE fS iQ nC CA JQ w => oR kn k0 hJ fR gE fS iQ nC CA JQ w) hJ fR gE fS iQ nC CA w
def yG (kn : K7) (hJ fR gE fS iQ nC : Q7) (w : Q6) : Prop :=
 dQ pg (mC .len #[22] 3 [hJ]) w fun d8 w =>
 dQ pg (fD .sub 3 fH fH d8 iQ) w fun e0 w =>
 dQ pg (fD .gtr 3 fH fH fR e0) w fun e1 w =>
 kA e1
  (dQ pg (mC .len #[22] 3 [hJ]) w fun e3 w =>
  dQ pg (fD .sub 3 fH fH e3 iQ) w fun e5 w =>
  kn hJ fR gE fS iQ nC e5 w)
  (kn hJ fR gE fS iQ nC fR w)
theorem EL (kn : K7) (hn : N7 Q kn 0 1 2 7 8 9 10) (h : yG kn (g 0) (g 1) (g 2) (g 7) (g 8) (g 9) w) : gF pg gS (fI 2 (bI (fI 1 (dX 1 (bI (bI (dX 1 (fI 1 (dX 3 gM))))))))) Q g w :=
 jV (kr := no) (l := []) h hn kK trivial
def Cx (kn : K6) (k0 : K3) (hJ fR gE fS iQ nC : Q7) (w : Q6) : Prop :=
 yG (fun hJ fR gE fS iQ nC CA w => rV kn k0 hJ fR gE fS iQ nC CA w) hJ fR gE fS iQ nC w
def vP (kn : K6) (k0 : K3) (hJ fR gE fS iQ nC : Q7) (w : Q6) : Prop :=
 Cx kn k0 hJ fR gE fS iQ nC w
def vF (kn : K6) (k0 : K3) (hJ fR gE fS iQ nC : Q7) (w : Q6) : Prop :=
 vP (fun hJ fR gE fS iQ nC w => mN kn hJ fR gE fS iQ nC w) k0 hJ fR gE fS iQ nC w
theorem Dx (kn : K6) (k0 : K3) (hn : N6 Q kn 0 1 2 7 8 9) (h0 : E3 Q k0 0 0 2 7) (h : vP kn k0 (g 0) (g 1) (g 2) (g 7) (g 8) (g 9) w) : gF pg gS (fI 1 (dX 1 (bI (bI (dX 1 (fI 1 (dX 3 gM))))))) Q g w :=
 G1 1 (pE 2 (EL _ g w (rV kn k0) (fun g w h => fL (pE 2 (Eg _ g w (oR kn k0) (fun g w h => fL (Eh _ g w kn k0 hn h0 h)) h))) h))
def vN (kn : K6) (k0 : K3) (hJ fR gE fS iQ nC : Q7) (w : Q6) : Prop :=
 dQ pg (mC .len #[22] 3 [hJ]) w fun d1 w =>
 dQ pg (fD .leq 3 fH fH nC d1) w fun d2 w =>
 kA d2
  (kn hJ fR gE fS iQ nC w)
  (k0 hJ gE fS w)
theorem D5 (kn : K6) (k0 : K3) (hn : N6 Q kn 0 1 2 7 8 9) (h0 : E3 Q k0 0 0 2 7) (h : vN kn k0 (g 0) (g 1) (g 2) (g 7) (g 8) (g 9) w) : gF pg gS (fI 1 (bI (bI (dX 1 (fI 1 (dX 3 gM)))))) Q g w :=
 jV (kr := no) (l := [(0, fun g w => k0 (g 0) (g 2) (g 7) w)]) h hn kK ⟨h0, trivial⟩
def nD (kn : K6) (k0 : K3) (hJ fR gE fS iQ nC : Q7) (w : Q6) : Prop :=
 vN (fun hJ fR gE fS iQ nC w => vF kn k0 hJ fR gE fS iQ nC w) k0 hJ fR gE fS iQ nC w
def vH (k0 : K3) (hJ fR gE fS iQ nC : Q7) (w : Q6) : Prop :=
 iG (fun (X : (Q7 × Q7 × Q7) -> K0) (t : Q7 × Q7 × Q7) (w : Q6) => nD (fun _ _ _ fS iQ nC w => X (fS, iQ, nC) w) k0 hJ fR gE t.1 t.2.1 t.2.2 w) (fS, iQ, nC) w
theorem DT (kn : K6) (k0 : K3) (hn : N6 Q kn 0 1 2 7 8 9) (h0 : E3 Q k0 0 0 2 7) (h : nD kn k0 (g 0) (g 1) (g 2) (g 7) (g 8) (g 9) w) : gF pg gS (bI (bI (dX 1 (fI 1 (dX 3 gM))))) Q g w :=
 pE 1 (D5 _ g w (vF kn k0) k0 (fun g w h => fL (pE 1 (Dx _ g w (mN kn) k0 (fun g w h => fL (Em _ g w kn hn h)) h0 h))) h0 h)
theorem Dp (k0 : K3) (h0 : E3 Q k0 0 0 2 7) (h : vH k0 (g 0) (g 1) (g 2) (g 7) (g 8) (g 9) w) : gF pg gS (bI (dX 1 (fI 1 (dX 3 gM)))) Q g w := by
 refine Ix (fun g : Env => (g 7, g 8, g 9)) (fun X t w => nD (fun _ _ _ fS iQ nC w => X (fS, iQ, nC) w) k0 (g 0) (g 1) (g 2) t.1 t.2.1 t.2.2 w) h (fun X g1 w1 ha hL => ?_)
 rw [<- CS 0 ha, <- CS 1 ha, <- CS 2 ha] at hL
 exact (DT _ g1 w1 (fun _ _ _ fS iQ nC w => X (fS, iQ, nC) w) k0 (fun _ _ h => h) h0 hL)
def uZ (kn : K3) (hJ fR gE fS iQ nC : Q7) (w : Q6) : Prop :=
 vH kn hJ fR gE fS iQ nC w
def vS (kn : K6) (hJ fR gE fS iQ : Q7) (w : Q6) : Prop :=
 kn hJ fR gE fS iQ (Q8 0) w
theorem Dr (kn : K6) (hn : N6 Q kn 0 1 2 7 8 9) (h : vS kn (g 0) (g 1) (g 2) (g 7) (g 8) w) : gF pg gS (fI 1 (fI 1 (dX 3 gM))) Q g w :=
 jV (kr := no) (l := []) h hn kK trivial
def vL (kn : K3) (hJ fR gE fS iQ : Q7) (w : Q6) : Prop :=
 vS (fun hJ fR gE fS iQ nC w => uZ kn hJ fR gE fS iQ nC w) hJ fR gE fS iQ w
def nF (R : K1) (hJ fR gE fS iQ : Q7) (w : Q6) : Prop :=
 vL (fun hJ gE fS w => kZ R hJ gE fS w) hJ fR gE fS iQ w
theorem DV (kn : K3) (hn : N3 Q kn 0 2 7) (h : vL kn (g 0) (g 1) (g 2) (g 7) (g 8) w) : gF pg gS (fI 1 (dX 3 gM)) Q g w :=
 pE 1 (Dr _ g w (uZ kn) (fun g w h => fL (G1 0 (Dp _ g w kn hn h))) h)
def vC (kn : K5) (hJ fR gE : Q7) (w : Q6) : Prop :=
 dQ pg (mC .len #[22] 3 [hJ]) w fun c4 w =>
 dQ pg (iO 3 40 c4) w fun c5 w =>
 fK pg qC #[c5, gE] w fun c7 w =>
 dQ pg (iO 9 22 c7) w fun c8 w =>
 kn hJ fR gE c8 (Q8 0) w
theorem DB (kn : K5) (hn : N5 Q kn 0 1 2 7 8) (h : vC kn (g 0) (g 1) (g 2) w) : gF pg gS (fI 3 gM) Q g w :=
 jV (kr := no) (l := []) h hn kK trivial
def vE (R : K1) (hJ fR gE : Q7) (w : Q6) : Prop :=
 vC (fun hJ fR gE fS iQ w => nF R hJ fR gE fS iQ w) hJ fR gE w
theorem D6 (R : K1) (hr : HR xB R Q) (h : vE R (g 0) (g 1) (g 2) w) : gF pg gS gM Q g w :=
 pE 3 (DB _ g w (nF R) (fun g w h => fL (pE 1 (DV _ g w (kZ R) (fun g w h => fL (pE 1 (Ew _ g w (oX R) (fun g w h => fL (Eu _ g w R hr h)) h))) h))) h)
def F7 (a0 a1 a2 : Q7) (w : Q6) (R : K1) : Prop :=
 vE R a0 a1 a2 w
theorem Fg {a0 a1 a2 : Q7} {w : Q6} {R : K1} (h : F7 a0 a1 a2 w R) : fK pg tU #[a0, a1, a2] w R := by
 refine AQ (ann := gS) Tryd.f8 gM [a0, a1, a2] xB 91 TrydM.mixed Tryd.func8 ?_
 exact (D6 _ _ _ R (fun _ _ h => h) h)
def yS : FA := ⟨iH, fun i => .leaf ([], []) []⟩
def AK : List ResultVar := [.tmp 6, .tmp 7]
noncomputable def xJ : Code := iD Tryd.f9
def mJ (R : K1) (hJ Dg Cd : Q7) (w : Q6) : Prop :=
 fK pg pI #[hJ, Dg, Cd] w fun c4 w =>
 dQ pg (hY c4 0) w fun c5 w =>
 dQ pg (hY c4 1) w fun c6 w =>
 dQ pg (fD .neq 26 (.tmp 17) (.const (Q8 0)) c6 (Q8 0)) w fun c8 w =>
 kA c8
  (R (.tuple #[(.slice none 0 0), c6]) w)
  (dQ pg (jJ c5) w fun d1 w =>
  dQ pg (fJ 47 d1 3) w fun d2 w =>
  dQ pg (fM 22 d2) w fun d3 w =>
  R (.tuple #[d3, (Q8 0)]) w)
theorem C7 (R : K1) (hr : HR AK R Q) (h : mJ R (g 0) (g 1) (g 2) w) : gF pg yS xJ Q g w :=
 jV (kn := no) (l := []) h kK hr trivial
def tV (a0 a1 a2 : Q7) (w : Q6) (R : K1) : Prop :=
 mJ R a0 a1 a2 w
theorem qU {a0 a1 a2 : Q7} {w : Q6} {R : K1} (h : tV a0 a1 a2 w R) : fK pg iH #[a0, a1, a2] w R := by
 refine AQ (ann := yS) Tryd.f9 xJ [a0, a1, a2] AK 24 TrydM.mixed Tryd.func9 ?_
 exact (C7 _ _ _ R (fun _ _ h => h) h)
def zB : FA := ⟨qE, fun i => match Nat.beq i 4 with | true => .leaf ([], []) [(false, []), (false, []), (false, []), (false, []), (false, []), (false, []), (false, []), (false, []), (false, []), (false, []), (false, [])] | false => .leaf ([], []) []⟩
def Az : List ResultVar := [.tmp 6, .tmp 7, .tmp 8]
noncomputable def wU : Code := iD Tryd.f10
def tR (R : K1) (hJ Dg Cd : Q7) (w : Q6) : Prop :=
 fK pg pI #[hJ, Dg, Cd] w fun c5 w =>
 dQ pg (hY c5 0) w fun c6 w =>
 dQ pg (hY c5 1) w fun c7 w =>
 dQ pg (fD .neq 26 (.tmp 18) (.const (Q8 0)) c7 (Q8 0)) w fun c9 w =>
 kA c9
  (R (.tuple #[(Q8 0), (Q8 0), c7]) w)
  ((dr w) = (dr w) /\
  dQ pg (jJ c6) (dr w) fun d2 w_ => w_ = (dr w) /\
  dQ pg (fJ 47 d2 4) (dr w) fun d3 w_ => w_ = (dr w) /\
  dQ pg (fM 3 d3) (dr w) fun d4 w_ => w_ = (dr w) /\
  (dr w) = (dr w) /\
  dQ pg (jJ c6) (dr w) fun d6 w_ => w_ = (dr w) /\
  dQ pg (fJ 47 d6 5) (dr w) fun d7 w_ => w_ = (dr w) /\
  dQ pg (fM 3 d7) (dr w) fun d8 w_ => w_ = (dr w) /\
  (dr w) = (dr w) /\
  (dr w) = (dr w) /\
  (dr w) = (dr w) /\
  R (.tuple #[d4, d8, (Q8 0)]) (dr w))
theorem Da (R : K1) (hr : HR Az R Q) (h : tR R (g 0) (g 1) (g 2) w) : gF pg zB wU Q g w :=
 jV (kn := no) (l := []) h kK hr trivial
def Dn (a0 a1 a2 : Q7) (w : Q6) (R : K1) : Prop :=
 tR R a0 a1 a2 w
theorem DG {a0 a1 a2 : Q7} {w : Q6} {R : K1} (h : Dn a0 a1 a2 w R) : fK pg qE #[a0, a1, a2] w R := by
 refine AQ (ann := zB) Tryd.f10 wU [a0, a1, a2] Az 29 TrydM.mixed Tryd.func10 ?_
 exact (Da _ _ _ R (fun _ _ h => h) h)
def qF : FA := ⟨qC, fun i => .leaf ([], []) []⟩
def yE : List ResultVar := [.tmp 4]
noncomputable def pF : Code := iD Tryd.f11
def oN (R : K1) (pP Nx : Q7) (w : Q6) : Prop :=
 dQ pg (fD .lss 40 fH fH pP (.int .u64 256)) w fun c1 w =>
 kA c1
  (fK pg kC #[Nx, (Q8 1)] w fun c4 w =>
  dQ pg (fD .add 9 fH fH (.string ⟨#[40, 181, 47, 253]⟩) c4) w fun c5 w =>
  fK pg kC #[pP, (Q8 1)] w fun c7 w =>
  dQ pg (fD .add 9 fH fH c5 c7) w fun c8 w =>
  R c8 w)
  (dQ pg (fD .lss 40 fH fH pP (.int .u64 65792)) w fun d0 w =>
  kA d0
   (dQ pg (fD .add 40 fH fH Nx (.int .u64 64)) w fun d3 w =>
   fK pg kC #[d3, (Q8 1)] w fun d4 w =>
   dQ pg (fD .add 9 fH fH (.string ⟨#[40, 181, 47, 253]⟩) d4) w fun d5 w =>
   dQ pg (fD .sub 40 fH fH pP (.int .u64 256)) w fun d7 w =>
   fK pg kC #[d7, (Q8 2)] w fun d8 w =>
   dQ pg (fD .add 9 fH fH d5 d8) w fun d9 w =>
   R d9 w)
   (dQ pg (fD .lss 40 fH fH pP (.int .u64 4294967296)) w fun e1 w =>
   kA e1
    (dQ pg (fD .add 40 fH fH Nx (.int .u64 128)) w fun e4 w =>
    fK pg kC #[e4, (Q8 1)] w fun e5 w =>
    dQ pg (fD .add 9 fH fH (.string ⟨#[40, 181, 47, 253]⟩) e5) w fun e6 w =>
    fK pg kC #[pP, (Q8 4)] w fun e8 w =>
    dQ pg (fD .add 9 fH fH e6 e8) w fun e9 w =>
    R e9 w)
    (dQ pg (fD .add 40 fH fH Nx (.int .u64 192)) w fun f2 w =>
    fK pg kC #[f2, (Q8 1)] w fun f3 w =>
    dQ pg (fD .add 9 fH fH (.string ⟨#[40, 181, 47, 253]⟩) f3) w fun f4 w =>
    fK pg kC #[pP, (Q8 8)] w fun f6 w =>
    dQ pg (fD .add 9 fH fH f4 f6) w fun f7 w =>
    R f7 w)))
theorem Er (R : K1) (hr : HR yE R Q) (h : oN R (g 0) (g 5) w) : gF pg qF (dX 3 pF) Q g w :=
 jV (kn := no) (l := []) h kK hr trivial
def wT (kn : K2) (pP Ma : Q7) (w : Q6) : Prop :=
 kA Ma
  (dQ pg (fD .add 40 fH fH (.int .u64 32) (.int .u64 4)) w fun b9 w =>
  kn pP b9 w)
  (kn pP (.int .u64 32) w)
theorem EA (kn : K2) (hn : N2 Q kn 0 5) (h : wT kn (g 0) (g 1) w) : gF pg qF (fI 3 pF) Q g w :=
 jV (kr := no) (l := []) h hn kK trivial
def wY (R : K1) (pP Ma : Q7) (w : Q6) : Prop :=
 wT (fun pP Nx w => oN R pP Nx w) pP Ma w
theorem EF (R : K1) (hr : HR yE R Q) (h : wY R (g 0) (g 1) w) : gF pg qF pF Q g w :=
 pE 3 (EA _ g w (oN R) (fun g w h => fL (Er _ g w R hr h)) h)
def F2 (a0 a1 : Q7) (w : Q6) (R : K1) : Prop :=
 wY R a0 a1 w
theorem Fo {a0 a1 : Q7} {w : Q6} {R : K1} (h : F2 a0 a1 w R) : fK pg qC #[a0, a1] w R := by
 refine AQ (ann := qF) Tryd.f11 pF [a0, a1] yE 48 TrydM.mixed Tryd.func11 ?_
 exact (EF _ _ _ R (fun _ _ h => h) h)
def fP : FA := ⟨BD, fun i => match Nat.beq i 10 with | true => .leaf ([9, 10, 12], [(2, 9), (3, 9)]) [(false, []), (false, []), (false, []), (false, []), (false, []), (false, []), (false, []), (false, []), (false, []), (true, [5, 6]), (true, []), (false, []), (true, [])] | false => match Nat.beq i 12 with | true => .leaf ([2, 5, 9, 13], [(2, 3), (2, 4), (2, 7), (2, 8), (2, 11), (2, 12), (5, 7), (5, 8), (5, 11), (5, 12), (6, 9), (6, 13), (9, 11), (9, 12), (10, 13)]) [(false, []), (false, []), (true, []), (false, [0]), (false, [1]), (true, []), (false, []), (false, [1, 4]), (false, [2, 5]), (true, [2]), (false, []), (false, [1, 5, 8]), (false, [2, 6, 9]), (true, [2, 6]), (false, []), (false, [])] | false => .leaf ([], []) []⟩
def Cm : List ResultVar := [.tmp 2]
noncomputable def fN : Code := iD Tryd.f12
def yY (R : K1) (kR : Q7) (w : Q6) : Prop :=
 dQ pg (fD .shr 40 fH fH kR (.int .u64 33)) w fun q5 w =>
 dQ pg (fD .xor 40 fH fH kR q5) w fun q6 w =>
 dQ pg (fD .mul 40 fH fH q6 (.int .u64 14029467366897019727)) w fun q7 w =>
 dQ pg (fD .shr 40 fH fH q7 (.int .u64 29)) w fun s0 w =>
 dQ pg (fD .xor 40 fH fH q7 s0) w fun s1 w =>
 dQ pg (fD .mul 40 fH fH s1 (.int .u64 1609587929392839161)) w fun s2 w =>
 dQ pg (fD .shr 40 fH fH s2 (.int .u64 32)) w fun s5 w =>
 dQ pg (fD .xor 40 fH fH s2 s5) w fun s6 w =>
 R s6 w
theorem Hd (R : K1) (hr : HR Cm R Q) (h : yY R (g 3) w) : gF pg fP (dX 1 (dX 1 (dX 1 (dX 1 (dX 1 (dX 3 fN)))))) Q g w :=
 jV (kn := no) (l := []) h kK hr trivial
def uF (kn : K3) (k8 : K1) (gH kR iJ : Q7) (w : Q6) : Prop :=
 dQ pg (mC .len #[9] 3 [gH]) w fun o9 w =>
 dQ pg (fD .lss 3 fH fH iJ o9) w fun p0 w =>
 kA p0
  (dQ pg (D0 9 gH iJ) w fun p3 w =>
  dQ pg (iO 5 40 p3) w fun p4 w =>
  dQ pg (fD .mul 40 fH fH p4 (.int .u64 2870177450012600261)) w fun p5 w =>
  dQ pg (fD .xor 40 fH fH kR p5) w fun p8 w =>
  fK pg jI #[p8, (.int .u64 11)] w fun p9 w =>
  dQ pg (fD .mul 40 fH fH p9 (.int .u64 11400714785074694791)) w fun q0 w =>
  dQ pg (fD .add 3 fH fH iJ (Q8 1)) w fun q2 w =>
  kn gH q0 q2 w)
  (k8 kR w)
theorem G4 (kn : K3) (k8 : K1) (hn : N3 Q kn 0 3 4) (h8 : E1 Q k8 8 3) (h : uF kn k8 (g 0) (g 3) (g 4) w) : gF pg fP (bI (bI (fI 1 (dX 1 (dX 1 (dX 1 (dX 1 (dX 3 fN)))))))) Q g w :=
 jV (kr := no) (l := [(8, fun g w => k8 (g 3) w)]) h hn kK ⟨h8, trivial⟩
def CP (k8 : K1) (gH kR iJ : Q7) (w : Q6) : Prop :=
 iG (fun (X : (Q7 × Q7) -> K0) (t : Q7 × Q7) (w : Q6) => uF (fun _ kR iJ w => X (kR, iJ) w) k8 gH t.1 t.2 w) (kR, iJ) w
theorem G5 (k8 : K1) (h8 : E1 Q k8 8 3) (h : CP k8 (g 0) (g 3) (g 4) w) : gF pg fP (bI (fI 1 (dX 1 (dX 1 (dX 1 (dX 1 (dX 3 fN))))))) Q g w := by
 refine Ix (fun g : Env => (g 3, g 4)) (fun X t w => uF (fun _ kR iJ w => X (kR, iJ) w) k8 (g 0) t.1 t.2 w) h (fun X g1 w1 ha hL => ?_)
 rw [<- CS 0 ha] at hL
 exact (G4 _ g1 w1 (fun _ kR iJ w => X (kR, iJ) w) k8 (fun _ _ h => h) h8 hL)
def CI (kn : K1) (gH kR iJ : Q7) (w : Q6) : Prop :=
 CP kn gH kR iJ w
def zC (R : K1) (gH kR iJ : Q7) (w : Q6) : Prop :=
 CI (fun kR w => yY R kR w) gH kR iJ w
theorem G6 (kn : K1) (hn : N1 Q kn 3) (h : CI kn (g 0) (g 3) (g 4) w) : gF pg fP (fI 1 (dX 1 (dX 1 (dX 1 (dX 1 (dX 3 fN)))))) Q g w :=
 G1 8 (G5 _ g w kn hn h)
def Cg (kn : K3) (gH kR iJ : Q7) (w : Q6) : Prop :=
 dQ pg (fD .add 3 fH fH iJ (Q8 4)) w fun n1 w =>
 dQ pg (mC .len #[9] 3 [gH]) w fun n3 w =>
 dQ pg (fD .leq 3 fH fH n1 n3) w fun n4 w =>
 kA n4
  (fK pg tC #[gH, iJ, (Q8 4)] w fun n7 w =>
  dQ pg (fD .mul 40 fH fH n7 (.int .u64 11400714785074694791)) w fun n8 w =>
  dQ pg (fD .xor 40 fH fH kR n8) w fun o1 w =>
  fK pg jI #[o1, (.int .u64 23)] w fun o2 w =>
  dQ pg (fD .mul 40 fH fH o2 (.int .u64 14029467366897019727)) w fun o3 w =>
  dQ pg (fD .add 40 fH fH o3 (.int .u64 1609587929392839161)) w fun o4 w =>
  dQ pg (fD .add 3 fH fH iJ (Q8 4)) w fun o6 w =>
  kn gH o4 o6 w)
  (kn gH kR iJ w)
theorem Hg (kn : K3) (hn : N3 Q kn 0 3 4) (h : Cg kn (g 0) (g 3) (g 4) w) : gF pg fP (fI 1 (dX 1 (dX 1 (dX 1 (dX 3 fN))))) Q g w :=
 jV (kr := no) (l := []) h hn kK trivial
def CO (R : K1) (gH kR iJ : Q7) (w : Q6) : Prop :=
 Cg (fun gH kR iJ w => zC R gH kR iJ w) gH kR iJ w
def uN (kn : K3) (k6 : K3) (gH kR iJ : Q7) (w : Q6) : Prop :=
 dQ pg (fD .add 3 fH fH iJ (Q8 8)) w fun l5 w =>
 dQ pg (mC .len #[9] 3 [gH]) w fun l7 w =>
 dQ pg (fD .leq 3 fH fH l5 l7) w fun l8 w =>
 kA l8
  (fK pg tC #[gH, iJ, (Q8 8)] w fun m2 w =>
  fK pg nK #[(.int .u64 0), m2] w fun m3 w =>
  dQ pg (fD .xor 40 fH fH kR m3) w fun m4 w =>
  fK pg jI #[m4, (.int .u64 27)] w fun m5 w =>
  dQ pg (fD .mul 40 fH fH m5 (.int .u64 11400714785074694791)) w fun m6 w =>
  dQ pg (fD .add 40 fH fH m6 (.int .u64 9650029242287828579)) w fun m7 w =>
  dQ pg (fD .add 3 fH fH iJ (Q8 8)) w fun m9 w =>
  kn gH m7 m9 w)
  (k6 gH kR iJ w)
theorem GW (kn : K3) (k6 : K3) (hn : N3 Q kn 0 3 4) (h6 : E3 Q k6 6 0 3 4) (h : uN kn k6 (g 0) (g 3) (g 4) w) : gF pg fP (bI (bI (fI 1 (dX 1 (dX 1 (dX 3 fN)))))) Q g w :=
 jV (kr := no) (l := [(6, fun g w => k6 (g 0) (g 3) (g 4) w)]) h hn kK ⟨h6, trivial⟩
def CL (k6 : K3) (gH kR iJ : Q7) (w : Q6) : Prop :=
 iG (fun (X : (Q7 × Q7) -> K0) (t : Q7 × Q7) (w : Q6) => uN (fun _ kR iJ w => X (kR, iJ) w) k6 gH t.1 t.2 w) (kR, iJ) w
theorem HD (k6 : K3) (h6 : E3 Q k6 6 0 3 4) (h : CL k6 (g 0) (g 3) (g 4) w) : gF pg fP (bI (fI 1 (dX 1 (dX 1 (dX 3 fN))))) Q g w := by
 refine Ix (fun g : Env => (g 3, g 4)) (fun X t w => uN (fun _ kR iJ w => X (kR, iJ) w) k6 (g 0) t.1 t.2 w) h (fun X g1 w1 ha hL => ?_)
 rw [<- CS 0 ha] at hL
 exact (GW _ g1 w1 (fun _ kR iJ w => X (kR, iJ) w) k6 (fun _ _ h => h) h6 hL)
def Br (kn : K3) (gH kR iJ : Q7) (w : Q6) : Prop :=
 CL kn gH kR iJ w
def wB (R : K1) (gH kR iJ : Q7) (w : Q6) : Prop :=
 Br (fun gH kR iJ w => CO R gH kR iJ w) gH kR iJ w
theorem Gr (kn : K3) (hn : N3 Q kn 0 3 4) (h : Br kn (g 0) (g 3) (g 4) w) : gF pg fP (fI 1 (dX 1 (dX 1 (dX 3 fN)))) Q g w :=
 G1 6 (HD _ g w kn hn h)
def wA (kn : K3) (gH kR iJ : Q7) (w : Q6) : Prop :=
 dQ pg (mC .len #[9] 3 [gH]) w fun l1 w =>
 dQ pg (iO 3 40 l1) w fun l2 w =>
 dQ pg (fD .add 40 fH fH kR l2) w fun l3 w =>
 kn gH l3 iJ w
theorem GC (kn : K3) (hn : N3 Q kn 0 3 4) (h : wA kn (g 0) (g 3) (g 4) w) : gF pg fP (fI 1 (dX 1 (dX 3 fN))) Q g w :=
 jV (kr := no) (l := []) h hn kK trivial
def wP (R : K1) (gH kR iJ : Q7) (w : Q6) : Prop :=
 wA (fun gH kR iJ w => wB R gH kR iJ w) gH kR iJ w
def sC (kn : K5) (k4 : K3) (gH kR iJ nB Jn : Q7) (w : Q6) : Prop :=
 dQ pg (fD .lss 3 fH fH Jn (Q8 4)) w fun i8 w =>
 kA i8
  (dQ pg (iW 49 nB Jn) w fun j3 w =>
  dQ pg (fM 40 j3) w fun j4 w =>
  fK pg nK #[(.int .u64 0), j4] w fun j5 w =>
  dQ pg (fD .xor 40 fH fH kR j5) w fun j6 w =>
  dQ pg (fD .mul 40 fH fH j6 (.int .u64 11400714785074694791)) w fun j7 w =>
  dQ pg (fD .add 40 fH fH j7 (.int .u64 9650029242287828579)) w fun j8 w =>
  dQ pg (fD .add 3 fH fH Jn (Q8 1)) w fun j0 w =>
  kn gH j8 iJ nB j0 w)
  (k4 gH kR iJ w)
theorem Gg (kn : K5) (k4 : K3) (hn : N5 Q kn 0 3 4 6 8) (h4 : E3 Q k4 4 0 3 4) (h : sC kn k4 (g 0) (g 3) (g 4) (g 6) (g 8) w) : gF pg fP (bI (bI (dX 2 (dX 1 (dX 2 (cT (dX 1 (fI 1 (dX 3 fN))))))))) Q g w :=
 jV (kr := no) (l := [(4, fun g w => k4 (g 0) (g 3) (g 4) w)]) h hn kK ⟨h4, trivial⟩
def Bj (k4 : K3) (gH kR iJ nB Jn : Q7) (w : Q6) : Prop :=
 iG (fun (X : (Q7 × Q7) -> K0) (t : Q7 × Q7) (w : Q6) => sC (fun _ kR _ _ Jn w => X (kR, Jn) w) k4 gH t.1 iJ nB t.2 w) (kR, Jn) w
theorem Gk (k4 : K3) (h4 : E3 Q k4 4 0 3 4) (h : Bj k4 (g 0) (g 3) (g 4) (g 6) (g 8) w) : gF pg fP (bI (dX 2 (dX 1 (dX 2 (cT (dX 1 (fI 1 (dX 3 fN)))))))) Q g w := by
 refine Ix (fun g : Env => (g 3, g 8)) (fun X t w => sC (fun _ kR _ _ Jn w => X (kR, Jn) w) k4 (g 0) t.1 (g 4) (g 6) t.2 w) h (fun X g1 w1 ha hL => ?_)
 rw [<- CS 0 ha, <- CS 4 ha, <- CS 6 ha] at hL
 exact (Gg _ g1 w1 (fun _ kR _ _ Jn w => X (kR, Jn) w) k4 (fun _ _ h => h) h4 hL)
def Bl (kn : K3) (gH kR iJ nB Jn : Q7) (w : Q6) : Prop :=
 Bj kn gH kR iJ nB Jn w
def BF (kn : K5) (gH iJ nB : Q7) (w : Q6) : Prop :=
 dQ pg (iW 49 nB (Q8 0)) (dr w) fun f2 w_ => w_ = (dr w) /\
 dQ pg (fM 40 f2) (dr w) fun f3 w_ => w_ = (dr w) /\
 fK pg jI #[f3, (.int .u64 1)] (dr w) fun f4 Ef =>
 dQ pg (iW 49 nB (Q8 1)) Ef fun f5 w_ => w_ = Ef /\
 (fE pg (iW 49 nB (Q8 1)) f5 (dr w) /\ True) /\
 dQ pg (fM 40 f5) Ef fun f6 w_ => w_ = Ef /\
 (fE pg (fM 40 f5) f6 (dr w) /\ True) /\
 fK pg jI #[f6, (.int .u64 7)] Ef fun f7 ED =>
 dQ pg (fD .add 40 fH fH f4 f7) ED fun f8 w_ => w_ = ED /\
 dQ pg (iW 49 nB (Q8 2)) ED fun f9 w_ => w_ = ED /\
 (fE pg (iW 49 nB (Q8 2)) f9 Ef /\ fE pg (iW 49 nB (Q8 2)) f9 (dr w) /\ True) /\
 dQ pg (fM 40 f9) ED fun i0 w_ => w_ = ED /\
 (fE pg (fM 40 f9) i0 Ef /\ fE pg (fM 40 f9) i0 (dr w) /\ True) /\
 fK pg jI #[i0, (.int .u64 12)] ED fun i1 FV =>
 (fE pg (fD .add 40 fH fH f4 f7) f8 FV /\ True) /\
 dQ pg (fD .add 40 fH fH f8 i1) FV fun i2 w_ => w_ = FV /\
 dQ pg (iW 49 nB (Q8 3)) FV fun i3 w_ => w_ = FV /\
 (fE pg (iW 49 nB (Q8 3)) i3 ED /\ fE pg (iW 49 nB (Q8 3)) i3 Ef /\ fE pg (iW 49 nB (Q8 3)) i3 (dr w) /\ True) /\
 dQ pg (fM 40 i3) FV fun i4 w_ => w_ = FV /\
 (fE pg (fM 40 i3) i4 ED /\ fE pg (fM 40 i3) i4 Ef /\ fE pg (fM 40 i3) i4 (dr w) /\ True) /\
 fK pg jI #[i4, (.int .u64 18)] FV fun i5 DY =>
 (fE pg (fD .add 40 fH fH f8 i1) i2 DY /\ fE pg (fD .add 40 fH fH f4 f7) f8 DY /\ True) /\
 dQ pg (fD .add 40 fH fH i2 i5) DY fun i6 w_ => w_ = DY /\
 DY = DY /\
 kn gH i6 iJ nB (Q8 0) DY
theorem GP (kn : K5) (hn : N5 Q kn 0 3 4 6 8) (h : BF kn (g 0) (g 4) (g 6) w) : gF pg fP (fI 2 (dX 1 (dX 2 (cT (dX 1 (fI 1 (dX 3 fN))))))) Q g w :=
 jV (kr := no) (l := []) h hn kK trivial
def wF (kn : K3) (gH iJ nB : Q7) (w : Q6) : Prop :=
 BF (fun gH kR iJ nB Jn w => Bl kn gH kR iJ nB Jn w) gH iJ nB w
def wL (kn : K3) (gH iJ nB : Q7) (w : Q6) : Prop :=
 dQ pg (fD .add 3 fH fH iJ (Q8 32)) w fun f1 w =>
 kn gH f1 nB w
theorem Gb (kn : K3) (hn : N3 Q kn 0 4 6) (h : wL kn (g 0) (g 4) (g 6) w) : gF pg fP (dX 1 (bI (dX 1 (bI (bI (fI 1 (dX 2 (cT (dX 1 (fI 1 (dX 3 fN))))))))))) Q g w :=
 jV (kr := no) (l := []) h hn kK trivial
def sL (kn : K4) (k2 : K3) (gH iJ nB H5 : Q7) (w : Q6) : Prop :=
 dQ pg (fD .lss 3 fH fH H5 (Q8 4)) w fun d5 w =>
 kA d5
  ((dr w) = (dr w) /\
  (dr w) = (dr w) /\
  dQ pg (iW 49 nB H5) (dr w) fun e0 w_ => w_ = (dr w) /\
  dQ pg (fM 40 e0) (dr w) fun e1 w_ => w_ = (dr w) /\
  (dr w) = (dr w) /\
  (dr w) = (dr w) /\
  (dr w) = (dr w) /\
  dQ pg (fD .mul 3 fH fH (Q8 8) H5) (dr w) fun e5 w_ => w_ = (dr w) /\
  dQ pg (fD .add 3 fH fH iJ e5) (dr w) fun e6 w_ => w_ = (dr w) /\
  fK pg tC #[gH, e6, (Q8 8)] (dr w) fun e7 Mm =>
  (fE pg (fM 40 e0) e1 Mm /\ fE pg (iW 49 nB H5) e0 Mm /\ True) /\
  fK pg nK #[e1, e7] Mm fun e8 Ks =>
  dQ pg (iW 49 nB H5) Ks fun e9 w_ => w_ = Ks /\
  dQ pg (fQ 40 e9 e8) Ks fun _u12 Ol =>
  dQ pg (fD .add 3 fH fH H5 (Q8 1)) Ol fun d7 w =>
  kn gH iJ nB d7 w)
  (k2 gH iJ nB w)
theorem Gm (kn : K4) (k2 : K3) (hn : N4 Q kn 0 4 6 7) (h2 : E3 Q k2 2 0 4 6) (h : sL kn k2 (g 0) (g 4) (g 6) (g 7) w) : gF pg fP (bI (bI (dX 1 (fI 1 (bI (dX 1 (bI (bI (fI 1 (dX 2 (cT (dX 1 (fI 1 (dX 3 fN)))))))))))))) Q g w :=
 jV (kr := no) (l := [(2, fun g w => k2 (g 0) (g 4) (g 6) w)]) h hn kK ⟨h2, trivial⟩
def wE (k2 : K3) (gH iJ nB H5 : Q7) (w : Q6) : Prop :=
 iG (fun (X : Q7 -> K0) (t : Q7) (w : Q6) => sL (fun _ _ _ H5 w => X H5 w) k2 gH iJ nB t w) H5 w
theorem GH (k2 : K3) (h2 : E3 Q k2 2 0 4 6) (h : wE k2 (g 0) (g 4) (g 6) (g 7) w) : gF pg fP (bI (dX 1 (fI 1 (bI (dX 1 (bI (bI (fI 1 (dX 2 (cT (dX 1 (fI 1 (dX 3 fN))))))))))))) Q g w := by
 refine Ix (fun g : Env => g 7) (fun X t w => sL (fun _ _ _ H5 w => X H5 w) k2 (g 0) (g 4) (g 6) t w) h (fun X g1 w1 ha hL => ?_)
 rw [<- CS 0 ha, <- CS 4 ha, <- CS 6 ha] at hL
 exact (Gm _ g1 w1 (fun _ _ _ H5 w => X H5 w) k2 (fun _ _ h => h) h2 hL)
def wH (kn : K3) (gH iJ nB H5 : Q7) (w : Q6) : Prop :=
 wE kn gH iJ nB H5 w
def wN (kn : K4) (gH iJ nB : Q7) (w : Q6) : Prop :=
 kn gH iJ nB (Q8 0) w
theorem Gt (kn : K4) (hn : N4 Q kn 0 4 6 7) (h : wN kn (g 0) (g 4) (g 6) w) : gF pg fP (fI 1 (fI 1 (bI (dX 1 (bI (bI (fI 1 (dX 2 (cT (dX 1 (fI 1 (dX 3 fN)))))))))))) Q g w :=
 jV (kr := no) (l := []) h hn kK trivial
def vZ (kn : K3) (gH iJ nB : Q7) (w : Q6) : Prop :=
 wN (fun gH iJ nB H5 w => wH kn gH iJ nB H5 w) gH iJ nB w
def A7 (kn : K3) (gH iJ nB : Q7) (w : Q6) : Prop :=
 vZ (fun gH iJ nB w => wL kn gH iJ nB w) gH iJ nB w
theorem GG (kn : K3) (hn : N3 Q kn 0 4 6) (h : vZ kn (g 0) (g 4) (g 6) w) : gF pg fP (fI 1 (bI (dX 1 (bI (bI (fI 1 (dX 2 (cT (dX 1 (fI 1 (dX 3 fN))))))))))) Q g w :=
 pE 1 (Gt _ g w (wH kn) (fun g w h => fL (G1 2 (GH _ g w kn hn h))) h)
def wM (kn : K3) (gH iJ nB : Q7) (w : Q6) : Prop :=
 A7 kn gH iJ nB w
def wK (kn : K3) (k0 : K3) (gH iJ nB : Q7) (w : Q6) : Prop :=
 dQ pg (fD .add 3 fH fH iJ (Q8 32)) w fun d0 w =>
 dQ pg (mC .len #[9] 3 [gH]) w fun d2 w =>
 dQ pg (fD .leq 3 fH fH d0 d2) w fun d3 w =>
 kA d3
  (kn gH iJ nB w)
  (k0 gH iJ nB w)
theorem GB (kn : K3) (k0 : K3) (hn : N3 Q kn 0 4 6) (h0 : E3 Q k0 0 0 4 6) (h : wK kn k0 (g 0) (g 4) (g 6) w) : gF pg fP (fI 1 (bI (bI (fI 1 (dX 2 (cT (dX 1 (fI 1 (dX 3 fN))))))))) Q g w :=
 jV (kr := no) (l := [(0, fun g w => k0 (g 0) (g 4) (g 6) w)]) h hn kK ⟨h0, trivial⟩
def sG (kn : K3) (k0 : K3) (gH iJ nB : Q7) (w : Q6) : Prop :=
 wK (fun gH iJ nB w => wM kn gH iJ nB w) k0 gH iJ nB w
def A5 (k0 : K3) (gH iJ nB : Q7) (w : Q6) : Prop :=
 iG (fun (X : Q7 -> K0) (t : Q7) (w : Q6) => sG (fun _ iJ _ w => X iJ w) k0 gH t nB w) iJ w
theorem Gx (kn : K3) (k0 : K3) (hn : N3 Q kn 0 4 6) (h0 : E3 Q k0 0 0 4 6) (h : sG kn k0 (g 0) (g 4) (g 6) w) : gF pg fP (bI (bI (fI 1 (dX 2 (cT (dX 1 (fI 1 (dX 3 fN)))))))) Q g w :=
 pE 1 (GB _ g w (wM kn) k0 (fun g w h => fL (G1 1 (pE 1 (GG _ g w (wL kn) (fun g w h => fL (Gb _ g w kn hn h)) h)))) h0 h)
theorem GL (k0 : K3) (h0 : E3 Q k0 0 0 4 6) (h : A5 k0 (g 0) (g 4) (g 6) w) : gF pg fP (bI (fI 1 (dX 2 (cT (dX 1 (fI 1 (dX 3 fN))))))) Q g w := by
 refine Ix (fun g : Env => g 4) (fun X t w => sG (fun _ iJ _ w => X iJ w) k0 (g 0) t (g 6) w) h (fun X g1 w1 ha hL => ?_)
 rw [<- CS 0 ha, <- CS 6 ha] at hL
 exact (Gx _ g1 w1 (fun _ iJ _ w => X iJ w) k0 (fun _ _ h => h) h0 hL)
def wG (kn : K3) (gH iJ nB : Q7) (w : Q6) : Prop :=
 A5 kn gH iJ nB w
def A4 (kn : K3) (gH iJ nB : Q7) (w : Q6) : Prop :=
 wG (fun gH iJ nB w => wF kn gH iJ nB w) gH iJ nB w
theorem GD (kn : K3) (hn : N3 Q kn 0 4 6) (h : wG kn (g 0) (g 4) (g 6) w) : gF pg fP (fI 1 (dX 2 (cT (dX 1 (fI 1 (dX 3 fN)))))) Q g w :=
 G1 0 (GL _ g w kn hn h)
def BA (kn : K3) (gH iJ : Q7) (w : Q6) : Prop :=
 dQ pg (fD .add 40 fH fH (.int .u64 11400714785074694791) (.int .u64 14029467366897019727)) w fun c5 w =>
 dQ pg (fD .sub 40 fH fH (.int .u64 0) (.int .u64 11400714785074694791)) w fun c7 w =>
 dQ pg (iB 49 [(0, c5), (1, (.int .u64 14029467366897019727)), (2, (.int .u64 0)), (3, c7)]) w fun c8 w =>
 dQ pg (lH 49) w fun nB w =>
 dQ pg (fQ 49 nB c8) w fun _u w =>
 kn gH iJ nB w
theorem Gz (kn : K3) (hn : N3 Q kn 0 4 6) (h : BA kn (g 0) (g 4) w) : gF pg fP (fI 2 (cT (dX 1 (fI 1 (dX 3 fN))))) Q g w :=
 jV (kr := no) (l := []) h hn kK trivial
def Ed (kn : K3) (gH iJ : Q7) (w : Q6) : Prop :=
 BA (fun gH iJ nB w => A4 kn gH iJ nB w) gH iJ w
def Bn (kn : K3) (gH kR iJ : Q7) (w : Q6) : Prop :=
 kn gH kR iJ w
theorem GM (kn : K3) (hn : N3 Q kn 0 3 4) (h : Bn kn (g 0) (g 3) (g 4) w) : gF pg fP (cE (dX 1 (fI 1 (dX 3 fN)))) Q g w :=
 jV (kr := no) (l := []) h hn kK trivial
def A3 (kn : K3) (gH kR iJ c3 : Q7) (w : Q6) : Prop :=
 kA c3 (Ed kn gH iJ w) (Bn kn gH kR iJ w)
def Bc (kn : K4) (gH kR iJ : Q7) (w : Q6) : Prop :=
 dQ pg (mC .len #[9] 3 [gH]) w fun c2 w =>
 dQ pg (fD .geq 3 fH fH c2 (Q8 32)) w fun c3 w =>
 kn gH kR iJ c3 w
theorem Gq (kn : K4) (hn : N4 Q kn 0 3 4 13) (h : Bc kn (g 0) (g 3) (g 4) w) : gF pg fP (fI 1 (fI 1 (dX 3 fN))) Q g w :=
 jV (kr := no) (l := []) h hn kK trivial
def Bu (kn : K3) (gH kR iJ : Q7) (w : Q6) : Prop :=
 Bc (fun gH kR iJ c3 w => A3 kn gH kR iJ c3 w) gH kR iJ w
def Bk (R : K1) (gH kR iJ : Q7) (w : Q6) : Prop :=
 Bu (fun gH kR iJ w => wP R gH kR iJ w) gH kR iJ w
theorem GN (kn : K3) (hn : N3 Q kn 0 3 4) (h : Bu kn (g 0) (g 3) (g 4) w) : gF pg fP (fI 1 (dX 3 fN)) Q g w :=
 pE 1 (Gq _ g w (A3 kn) (fun g w h => fL (Pq (.tmp 13) (fun h => (pE 2 (Gz _ g w (A4 kn) (fun g w h => fL (pE 1 (GD _ g w (wF kn) (fun g w h => fL (pE 2 (GP _ g w (Bl kn) (fun g w h => fL (G1 4 (Gk _ g w kn hn h))) h))) h))) h))) (fun h => (GM _ g w kn hn h)) h)) h)
def BB (kn : K3) (gH : Q7) (w : Q6) : Prop :=
 kn gH (.int .u64 2870177450012600261) (Q8 0) w
theorem Gw (kn : K3) (hn : N3 Q kn 0 3 4) (h : BB kn (g 0) w) : gF pg fP (fI 3 fN) Q g w :=
 jV (kr := no) (l := []) h hn kK trivial
def Bp (R : K1) (gH : Q7) (w : Q6) : Prop :=
 BB (fun gH kR iJ w => Bk R gH kR iJ w) gH w
theorem GA (R : K1) (hr : HR Cm R Q) (h : Bp R (g 0) w) : gF pg fP fN Q g w :=
 pE 3 (Gw _ g w (Bk R) (fun g w h => fL (pE 1 (GN _ g w (wP R) (fun g w h => fL (pE 1 (GC _ g w (wB R) (fun g w h => fL (pE 1 (Gr _ g w (CO R) (fun g w h => fL (pE 1 (Hg _ g w (zC R) (fun g w h => fL (pE 1 (G6 _ g w (yY R) (fun g w h => fL (Hd _ g w R hr h)) h))) h))) h))) h))) h))) h)
def JE (a0 : Q7) (w : Q6) (R : K1) : Prop :=
 Bp R a0 w
theorem HS {a0 : Q7} {w : Q6} {R : K1} (h : JE a0 w R) : fK pg BD #[a0] w R := by
 refine AQ (ann := fP) Tryd.f12 fN [a0] Cm 137 TrydM.mixed Tryd.func12 ?_
 exact (GA _ _ _ R (fun _ _ h => h) h)
def iZ : FA := ⟨pI, fun i => match Nat.beq i 3 with | true => .leaf ([1, 6], [(1, 3)]) [(false, []), (true, []), (false, []), (false, [1]), (false, []), (false, []), (true, []), (false, [])] | false => .leaf ([], []) []⟩
def jY : List ResultVar := [.tmp 6, .tmp 7]
noncomputable def iS : Code := iD Tryd.f13
def uC (R : K1) (yW : Q7) (w : Q6) : Prop :=
 R (.tuple #[yW, (Q8 0)]) w
theorem FJ (R : K1) (hr : HR jY R Q) (h : uC R (g 8) w) : gF pg iZ (dX 1 (dX 3 iS)) Q g w :=
 jV (kn := no) (l := []) h kK hr trivial
def nJ (kn : K1) (R : K1) (yW KL : Q7) (w : Q6) : Prop :=
 dQ pg (fD .neq 26 (.tmp 64) (.const (Q8 0)) KL (Q8 0)) w fun j5 w =>
 kA j5
  (R (.tuple #[(.pointer none), KL]) w)
  (kn yW w)
theorem FI (kn : K1) (R : K1) (hn : N1 Q kn 8) (hr : HR jY R Q) (h : nJ kn R (g 8) (g 10) w) : gF pg iZ (dX 4 (bI (dX 1 (bI (bI (fI 1 (dX 3 iS))))))) Q g w :=
 jV (l := []) h hn hr trivial
def Ad (kn : K2) (R : K1) (yW : Q7) (w : Q6) : Prop :=
 dQ pg (jJ yW) w fun e5 w =>
 dQ pg (fJ 47 e5 0) w fun e6 w =>
 dQ pg (fM 45 e6) w fun e7 w =>
 fK pg fT #[e7, (Q8 4)] w fun e8 w =>
 dQ pg (jJ yW) w fun f0 w =>
 dQ pg (fJ 47 f0 0) w fun f1 w =>
 dQ pg (fM 45 f1) w fun f2 w =>
 fK pg gP #[f2] w fun f3 w =>
 dQ pg (fD .neq 26 (.tmp 43) (.const (Q8 0)) f3 (Q8 0)) w fun f4 w =>
 kA f4
  (dQ pg (jJ yW) w fun f6 w =>
  dQ pg (fJ 47 f6 0) w fun f7 w =>
  dQ pg (fM 45 f7) w fun f8 w =>
  fK pg gP #[f8] w fun f9 w =>
  R (.tuple #[(.pointer none), f9]) w)
  (dQ pg (fD .eql 40 (.tmp 51) (.const (.int .u64 4247762216)) e8 (.int .u64 4247762216)) w fun i2 w =>
  kA i2
   (fK pg lL #[yW] w fun i4 w =>
   kn yW i4 w)
   (dQ pg (fD .geq 40 fH fH e8 (.int .u64 407710288)) w fun i7 w =>
   Gd (lT i7 true) (fun K => K e8 w) w fun i9 w =>
   Gd (lT i7 true) (fun K => dQ pg (fD .lss 40 fH fH i9 (.int .u64 407710304)) w K) w fun j0 w =>
   dQ pg (nI i7 j0 (.bool false)) w fun j1 w =>
   kA j1
    (fK pg lY #[yW] w fun j3 w =>
    kn yW j3 w)
    (kn yW (Q8 11) w)))
theorem ET (kn : K2) (R : K1) (hn : N2 Q kn 8 10) (hr : HR jY R Q) (h : Ad kn R (g 8) w) : gF pg iZ (fI 4 (bI (dX 1 (bI (bI (fI 1 (dX 3 iS))))))) Q g w :=
 jV (l := []) h hn hr trivial
def Dk (kn : K1) (R : K1) (yW : Q7) (w : Q6) : Prop :=
 Ad (fun yW KL w => nJ kn R yW KL w) R yW w
def Ak (kn : K1) (R : K1) (yW : Q7) (w : Q6) : Prop :=
 Dk kn R yW w
def zJ (kn : K1) (k0 : K1) (yW : Q7) (w : Q6) : Prop :=
 dQ pg (jJ yW) w fun d9 w =>
 dQ pg (fJ 47 d9 0) w fun e0 w =>
 dQ pg (fM 45 e0) w fun e1 w =>
 fK pg iF #[e1] w fun e2 w =>
 dQ pg (fD .gtr 3 fH fH e2 (Q8 0)) w fun e3 w =>
 kA e3
  (kn yW w)
  (k0 yW w)
theorem Fy (kn : K1) (k0 : K1) (hn : N1 Q kn 8) (h0 : E1 Q k0 0 8) (h : zJ kn k0 (g 8) w) : gF pg iZ (fI 1 (bI (bI (fI 1 (dX 3 iS))))) Q g w :=
 jV (kr := no) (l := [(0, fun g w => k0 (g 8) w)]) h hn kK ⟨h0, trivial⟩
def tT (kn : K1) (k0 : K1) (R : K1) (yW : Q7) (w : Q6) : Prop :=
 zJ (fun yW w => Ak kn R yW w) k0 yW w
def zO (k0 : K1) (R : K1) (yW : Q7) (w : Q6) : Prop :=
 iG (fun (X : Unit -> K0) (t : Unit) (w : Q6) => tT (fun _ w => X () w) k0 R yW w) () w
theorem Fj (kn : K1) (k0 : K1) (R : K1) (hn : N1 Q kn 8) (h0 : E1 Q k0 0 8) (hr : HR jY R Q) (h : tT kn k0 R (g 8) w) : gF pg iZ (bI (bI (fI 1 (dX 3 iS)))) Q g w :=
 pE 1 (Fy _ g w (Ak kn R) k0 (fun g w h => fL (G1 1 (pE 4 (ET _ g w (nJ kn R) R (fun g w h => fL (FI _ g w kn R hn hr h)) hr h)))) h0 h)
theorem Fl (k0 : K1) (R : K1) (h0 : E1 Q k0 0 8) (hr : HR jY R Q) (h : zO k0 R (g 8) w) : gF pg iZ (bI (fI 1 (dX 3 iS))) Q g w := by
 refine Ix (fun _ : Env => ()) (fun X t w => tT (fun _ w => X () w) k0 R (g 8) w) h (fun X g1 w1 ha hL => ?_)
 rw [<- CS 8 ha] at hL
 exact (Fj _ g1 w1 (fun _ w => X () w) k0 R (fun _ _ h => h) h0 hr hL)
def Aq (kn : K1) (R : K1) (yW : Q7) (w : Q6) : Prop :=
 zO kn R yW w
def sK (R : K1) (yW : Q7) (w : Q6) : Prop :=
 Aq (fun yW w => uC R yW w) R yW w
theorem FB (kn : K1) (R : K1) (hn : N1 Q kn 8) (hr : HR jY R Q) (h : Aq kn R (g 8) w) : gF pg iZ (fI 1 (dX 3 iS)) Q g w :=
 G1 0 (Fl _ g w kn R hn hr h)
def sI (kn : K1) (R : K1) (hJ Dg Cd : Q7) (w : Q6) : Prop :=
 dQ pg (fD .lss 3 fH fH Dg (Q8 10)) w fun c2 w =>
 Gd (lT c2 false) (fun K => K Dg w) w fun c4 w =>
 Gd (lT c2 false) (fun K => dQ pg (fD .gtr 3 fH fH c4 (Q8 22)) w K) w fun c5 w =>
 dQ pg (nI c2 (.bool true) c5) w fun c6 w =>
 Gd (lT c6 false) (fun K => K Cd w) w fun c8 w =>
 Gd (lT c6 false) (fun K => dQ pg (fD .lss 3 fH fH c8 (Q8 0)) w K) w fun c9 w =>
 dQ pg (nI c6 (.bool true) c9) w fun d0 w =>
 kA d0
  (R (.tuple #[(.pointer none), (Q8 1)]) w)
  ((dr w) = (dr w) /\
  fK pg iR #[hJ] (dr w) fun d2 mG =>
  mG = mG /\
  dQ pg (fD .shl 40 fH fH (.int .u64 1) Dg) mG fun d4 w_ => w_ = mG /\
  (fE pg (fD .shl 40 fH fH (.int .u64 1) Dg) d4 (dr w) /\ True) /\
  mG = mG /\
  dQ pg (iB 47 [(0, d2), (1, d4), (2, Cd)]) mG fun d6 w_ => w_ = mG /\
  dQ pg (Iy 47 d6) mG fun d7 OD =>
  OD = OD /\
  kn d7 OD)
theorem Ep (kn : K1) (R : K1) (hn : N1 Q kn 8) (hr : HR jY R Q) (h : sI kn R (g 0) (g 1) (g 2) w) : gF pg iZ (fI 3 iS) Q g w :=
 jV (l := []) h hn hr trivial
def rX (R : K1) (hJ Dg Cd : Q7) (w : Q6) : Prop :=
 sI (fun yW w => sK R yW w) R hJ Dg Cd w
theorem EN (R : K1) (hr : HR jY R Q) (h : rX R (g 0) (g 1) (g 2) w) : gF pg iZ iS Q g w :=
 pE 3 (Ep _ g w (sK R) R (fun g w h => fL (pE 1 (FB _ g w (uC R) R (fun g w h => fL (FJ _ g w R hr h)) hr h))) hr h)
def DA (a0 a1 a2 : Q7) (w : Q6) (R : K1) : Prop :=
 rX R a0 a1 a2 w
theorem BL {a0 a1 a2 : Q7} {w : Q6} {R : K1} (h : DA a0 a1 a2 w R) : fK pg pI #[a0, a1, a2] w R := by
 refine AQ (ann := iZ) Tryd.f13 iS [a0, a1, a2] jY 68 TrydM.mixed Tryd.func13 ?_
 exact (EN _ _ _ R (fun _ _ h => h) h)
def kO : FA := ⟨kC, fun i => .leaf ([], []) []⟩
def wJ : List ResultVar := [.tmp 4]
noncomputable def kD : Code := iD Tryd.f14
def wD (R : K1) (kN : Q7) (w : Q6) : Prop :=
 dQ pg (iO 22 9 kN) w fun d3 w =>
 R d3 w
theorem Gv (R : K1) (hr : HR wJ R Q) (h : wD R (g 5) w) : gF pg kO (dX 1 (dX 3 kD)) Q g w :=
 jV (kn := no) (l := []) h kK hr trivial
def rL (kn : K4) (k0 : K1) (pT nR kN JK : Q7) (w : Q6) : Prop :=
 dQ pg (fD .lss 3 fH fH JK nR) w fun c1 w =>
 kA c1
  (dQ pg (fD .rem 40 fH fH pT (.int .u64 256)) w fun c6 w =>
  dQ pg (iO 40 5 c6) w fun c7 w =>
  dQ pg (iK 22 1 [(0, c7)]) w fun c8 w =>
  dQ pg (mC .append #[22, 22] 22 [kN, c8]) w fun c9 w =>
  dQ pg (fD .quo 40 fH fH pT (.int .u64 256)) w fun d1 w =>
  dQ pg (fD .add 3 fH fH JK (Q8 1)) w fun c3 w =>
  kn d1 nR c9 c3 w)
  (k0 kN w)
theorem Gy (kn : K4) (k0 : K1) (hn : N4 Q kn 0 1 5 6) (h0 : E1 Q k0 0 5) (h : rL kn k0 (g 0) (g 1) (g 5) (g 6) w) : gF pg kO (bI (bI (dX 1 (fI 1 (dX 3 kD))))) Q g w :=
 jV (kr := no) (l := [(0, fun g w => k0 (g 5) w)]) h hn kK ⟨h0, trivial⟩
def Bi (k0 : K1) (pT nR kN JK : Q7) (w : Q6) : Prop :=
 iG (fun (X : (Q7 × Q7 × Q7) -> K0) (t : Q7 × Q7 × Q7) (w : Q6) => rL (fun pT _ kN JK w => X (pT, kN, JK) w) k0 t.1 nR t.2.1 t.2.2 w) (pT, kN, JK) w
theorem Gj (k0 : K1) (h0 : E1 Q k0 0 5) (h : Bi k0 (g 0) (g 1) (g 5) (g 6) w) : gF pg kO (bI (dX 1 (fI 1 (dX 3 kD)))) Q g w := by
 refine Ix (fun g : Env => (g 0, g 5, g 6)) (fun X t w => rL (fun pT _ kN JK w => X (pT, kN, JK) w) k0 t.1 (g 1) t.2.1 t.2.2 w) h (fun X g1 w1 ha hL => ?_)
 rw [<- CS 1 ha] at hL
 exact (Gy _ g1 w1 (fun pT _ kN JK w => X (pT, kN, JK) w) k0 (fun _ _ h => h) h0 hL)
def A6 (kn : K1) (pT nR kN JK : Q7) (w : Q6) : Prop :=
 Bi kn pT nR kN JK w
def Bo (kn : K4) (pT nR kN : Q7) (w : Q6) : Prop :=
 kn pT nR kN (Q8 0) w
theorem GQ (kn : K4) (hn : N4 Q kn 0 1 5 6) (h : Bo kn (g 0) (g 1) (g 5) w) : gF pg kO (fI 1 (fI 1 (dX 3 kD))) Q g w :=
 jV (kr := no) (l := []) h hn kK trivial
def Bd (kn : K1) (pT nR kN : Q7) (w : Q6) : Prop :=
 Bo (fun pT nR kN JK w => A6 kn pT nR kN JK w) pT nR kN w
def BC (R : K1) (pT nR kN : Q7) (w : Q6) : Prop :=
 Bd (fun kN w => wD R kN w) pT nR kN w
theorem GK (kn : K1) (hn : N1 Q kn 5) (h : Bd kn (g 0) (g 1) (g 5) w) : gF pg kO (fI 1 (dX 3 kD)) Q g w :=
 pE 1 (GQ _ g w (A6 kn) (fun g w h => fL (G1 0 (Gj _ g w kn hn h))) h)
def By (kn : K3) (R : K1) (pT nR : Q7) (w : Q6) : Prop :=
 dQ pg (fD .gtr 3 fH fH nR (Q8 8)) w fun b8 w =>
 kA b8
  (R (.string ⟨#[]⟩) w)
  (kn pT nR (.slice none 0 0) w)
theorem GI (kn : K3) (R : K1) (hn : N3 Q kn 0 1 5) (hr : HR wJ R Q) (h : By kn R (g 0) (g 1) w) : gF pg kO (fI 3 kD) Q g w :=
 jV (l := []) h hn hr trivial
def Bf (R : K1) (pT nR : Q7) (w : Q6) : Prop :=
 By (fun pT nR kN w => BC R pT nR kN w) R pT nR w
theorem Gf (R : K1) (hr : HR wJ R Q) (h : Bf R (g 0) (g 1) w) : gF pg kO kD Q g w :=
 pE 3 (GI _ g w (BC R) R (fun g w h => fL (pE 1 (GK _ g w (wD R) (fun g w h => fL (Gv _ g w R hr h)) h))) hr h)
def Ie (a0 a1 : Q7) (w : Q6) (R : K1) : Prop :=
 Bf R a0 a1 w
theorem Hv {a0 a1 : Q7} {w : Q6} {R : K1} (h : Ie a0 a1 w R) : fK pg kC #[a0, a1] w R := by
 refine AQ (ann := kO) Tryd.f14 kD [a0, a1] wJ 24 TrydM.mixed Tryd.func14 ?_
 exact (Gf _ _ _ R (fun _ _ h => h) h)
def BP : FA := ⟨nK, fun i => .leaf ([], []) []⟩
def Cq : List ResultVar := [.tmp 4]
noncomputable def A1 : Code := iD Tryd.f15
def xR (R : K1) (Pd Pe : Q7) (w : Q6) : Prop :=
 dQ pg (fD .mul 40 fH fH Pe (.int .u64 14029467366897019727)) w fun b8 w =>
 dQ pg (fD .add 40 fH fH Pd b8) w fun b9 w =>
 fK pg jI #[b9, (.int .u64 31)] w fun c1 w =>
 dQ pg (fD .mul 40 fH fH c1 (.int .u64 11400714785074694791)) w fun c2 w =>
 R c2 w
theorem Es (R : K1) (hr : HR Cq R Q) (h : xR R (g 0) (g 1) w) : gF pg BP A1 Q g w :=
 jV (kn := no) (l := []) h kK hr trivial
def F1 (a0 a1 : Q7) (w : Q6) (R : K1) : Prop :=
 xR R a0 a1 w
theorem EZ {a0 a1 : Q7} {w : Q6} {R : K1} (h : F1 a0 a1 w R) : fK pg nK #[a0, a1] w R := by
 refine AQ (ann := BP) Tryd.f15 A1 [a0, a1] Cq 13 TrydM.mixed Tryd.func15 ?_
 exact (Es _ _ _ R (fun _ _ h => h) h)
def Ez : FA := ⟨tC, fun i => .leaf ([], []) []⟩
def FU : List ResultVar := [.tmp 6]
noncomputable def Db : Code := iD Tryd.f16
def CF (R : K1) (gH Py PC : Q7) (w : Q6) : Prop :=
 dQ pg (hE 9 gH (some Py) none none) w fun c2 w =>
 dQ pg (iB 58 [(0, c2)]) w fun c3 w =>
 fK pg rY #[c3, PC] w fun c5 w =>
 dQ pg (hY c5 0) w fun c6 w =>
 dQ pg (hY c5 1) w fun c7 w =>
 dQ pg (lH 58) w fun b7 w =>
 dQ pg (fQ 58 b7 c6) w fun _u w =>
 R c7 w
theorem HB (R : K1) (hr : HR FU R Q) (h : CF R (g 0) (g 1) (g 2) w) : gF pg Ez Db Q g w :=
 jV (kn := no) (l := []) h kK hr trivial
def Jt (a0 a1 a2 : Q7) (w : Q6) (R : K1) : Prop :=
 CF R a0 a1 a2 w
theorem HM {a0 a1 a2 : Q7} {w : Q6} {R : K1} (h : Jt a0 a1 a2 w R) : fK pg tC #[a0, a1, a2] w R := by
 refine AQ (ann := Ez) Tryd.f16 Db [a0, a1, a2] FU 19 TrydM.mixed Tryd.func16 ?_
 exact (HB _ _ _ R (fun _ _ h => h) h)
def CE : FA := ⟨jI, fun i => .leaf ([], []) []⟩
def Dc : List ResultVar := [.tmp 4]
noncomputable def BN : Code := iD Tryd.f17
def Ap (R : K1) (pT nR : Q7) (w : Q6) : Prop :=
 dQ pg (fD .shl 40 fH fH pT nR) w fun b7 w =>
 dQ pg (fD .sub 35 fH fH (.int .u64 64) nR) w fun c0 w =>
 dQ pg (fD .shr 40 fH fH pT c0) w fun c1 w =>
 dQ pg (fD .or 40 fH fH b7 c1) w fun c2 w =>
 R c2 w
theorem EY (R : K1) (hr : HR Dc R Q) (h : Ap R (g 0) (g 1) w) : gF pg CE BN Q g w :=
 jV (kn := no) (l := []) h kK hr trivial
def Hj (a0 a1 : Q7) (w : Q6) (R : K1) : Prop :=
 Ap R a0 a1 w
theorem Gl {a0 a1 : Q7} {w : Q6} {R : K1} (h : Hj a0 a1 w R) : fK pg jI #[a0, a1] w R := by
 refine AQ (ann := CE) Tryd.f17 BN [a0, a1] Dc 13 TrydM.mixed Tryd.func17 ?_
 exact (EY _ _ _ R (fun _ _ h => h) h)
def uK : FA := ⟨iR, fun i => .leaf ([], []) []⟩
def vT : List ResultVar := [.tmp 2]
noncomputable def sX : Code := iD Tryd.f18
def pS (R : K1) (hJ : Q7) (w : Q6) : Prop :=
 fK pg lX #[hJ] w fun b4 w =>
 dQ pg (iB 63 [(0, b4)]) w fun b5 w =>
 dQ pg (Iy 63 b5) w fun b6 w =>
 R b6 w
theorem Bh (R : K1) (hr : HR vT R Q) (h : pS R (g 0) w) : gF pg uK sX Q g w :=
 jV (kn := no) (l := []) h kK hr trivial
def AR (a0 : Q7) (w : Q6) (R : K1) : Prop :=
 pS R a0 w
theorem B9 {a0 : Q7} {w : Q6} {R : K1} (h : AR a0 w R) : fK pg iR #[a0] w R := by
 refine AQ (ann := uK) Tryd.f18 sX [a0] vT 7 TrydM.mixed Tryd.func18 ?_
 exact (Bh _ _ _ R (fun _ _ h => h) h)
def rM : FA := ⟨iF, fun i => .leaf ([], []) []⟩
def sQ : List ResultVar := [.tmp 2]
noncomputable def rE : Code := iD Tryd.f19
def nP (R : K1) (BZ : Q7) (w : Q6) : Prop :=
 dQ pg (fD .eql 45 (.tmp 3) (.const (.pointer none)) BZ (.pointer none)) w fun b4 w =>
 kA b4
  (R (Q8 0) w)
  (dQ pg (jJ BZ) w fun b6 w =>
  dQ pg (fJ 63 b6 0) w fun b7 w =>
  dQ pg (fM 22 b7) w fun b8 w =>
  dQ pg (mC .len #[22] 3 [b8]) w fun b9 w =>
  R b9 w)
theorem Aw (R : K1) (hr : HR sQ R Q) (h : nP R (g 0) w) : gF pg rM rE Q g w :=
 jV (kn := no) (l := []) h kK hr trivial
def xE (a0 : Q7) (w : Q6) (R : K1) : Prop :=
 nP R a0 w
theorem AW {a0 : Q7} {w : Q6} {R : K1} (h : xE a0 w R) : fK pg iF #[a0] w R := by
 refine AQ (ann := rM) Tryd.f19 rE [a0] sQ 10 TrydM.mixed Tryd.func19 ?_
 exact (Aw _ _ _ R (fun _ _ h => h) h)
def gX : FA := ⟨fT, fun i => .leaf ([], []) []⟩
def kG : List ResultVar := [.tmp 4]
noncomputable def gT : Code := iD Tryd.f20
def kJ (R : K1) (Dj : Q7) (w : Q6) : Prop :=
 R Dj w
theorem xQ (R : K1) (hr : HR kG R Q) (h : kJ R (g 5) w) : gF pg gX (dX 1 (dX 3 gT)) Q g w :=
 jV (kn := no) (l := []) h kK hr trivial
def kF (kn : K4) (k0 : K1) (Dj c8 c9 d0 : Q7) (w : Q6) : Prop :=
 dQ pg (fD .lss 3 fH fH d0 c9) w fun d1 w =>
 kA d1
  (dQ pg (iW 22 c8 d0) w fun d3 w =>
  dQ pg (fM 5 d3) w fun d4 w =>
  dQ pg (iO 5 40 d4) w fun d7 w =>
  dQ pg (fD .mul 3 fH fH (Q8 8) d0) w fun d9 w =>
  dQ pg (iO 3 35 d9) w fun e0 w =>
  dQ pg (fD .shl 40 fH fH d7 e0) w fun e1 w =>
  dQ pg (fD .or 40 fH fH Dj e1) w fun e2 w =>
  dQ pg (fD .add 3 fH fH d0 (Q8 1)) w fun e3 w =>
  kn e2 c8 c9 e3 w)
  (k0 Dj w)
theorem wV (kn : K4) (k0 : K1) (hn : N4 Q kn 5 18 19 20) (h0 : E1 Q k0 0 5) (h : kF kn k0 (g 5) (g 18) (g 19) (g 20) w) : gF pg gX (bI (bI (dX 1 (fI 1 (dX 3 gT))))) Q g w :=
 jV (kr := no) (l := [(0, fun g w => k0 (g 5) w)]) h hn kK ⟨h0, trivial⟩
def mB (k0 : K1) (Dj c8 c9 d0 : Q7) (w : Q6) : Prop :=
 iG (fun (X : (Q7 × Q7) -> K0) (t : Q7 × Q7) (w : Q6) => kF (fun Dj _ _ d0 w => X (Dj, d0) w) k0 t.1 c8 c9 t.2 w) (Dj, d0) w
theorem wW (k0 : K1) (h0 : E1 Q k0 0 5) (h : mB k0 (g 5) (g 18) (g 19) (g 20) w) : gF pg gX (bI (dX 1 (fI 1 (dX 3 gT)))) Q g w := by
 refine Ix (fun g : Env => (g 5, g 20)) (fun X t w => kF (fun Dj _ _ d0 w => X (Dj, d0) w) k0 t.1 (g 18) (g 19) t.2 w) h (fun X g1 w1 ha hL => ?_)
 rw [<- CS 18 ha, <- CS 19 ha] at hL
 exact (wV _ g1 w1 (fun Dj _ _ d0 w => X (Dj, d0) w) k0 (fun _ _ h => h) h0 hL)
def mH (kn : K1) (Dj c8 c9 d0 : Q7) (w : Q6) : Prop :=
 mB kn Dj c8 c9 d0 w
def mP (kn : K4) (BZ nR Dj : Q7) (w : Q6) : Prop :=
 dQ pg (fD .geq 3 fH fH nR (Q8 1)) w fun c3 w =>
 Gd (lT c3 true) (fun K => K nR w) w fun c5 w =>
 Gd (lT c3 true) (fun K => dQ pg (fD .leq 3 fH fH c5 (Q8 8)) w K) w fun c6 w =>
 dQ pg (nI c3 c6 (.bool false)) w fun c7 w =>
 fK pg kB #[BZ, nR, c7] w fun c8 w =>
 dQ pg (mC .len #[22] 3 [c8]) w fun c9 w =>
 kn Dj c8 c9 (Q8 0) w
theorem xW (kn : K4) (hn : N4 Q kn 5 18 19 20) (h : mP kn (g 0) (g 1) (g 5) w) : gF pg gX (fI 1 (fI 1 (dX 3 gT))) Q g w :=
 jV (kr := no) (l := []) h hn kK trivial
def mL (kn : K1) (BZ nR Dj : Q7) (w : Q6) : Prop :=
 mP (fun Dj c8 c9 d0 w => mH kn Dj c8 c9 d0 w) BZ nR Dj w
def mI (R : K1) (BZ nR Dj : Q7) (w : Q6) : Prop :=
 mL (fun Dj w => kJ R Dj w) BZ nR Dj w
theorem xZ (kn : K1) (hn : N1 Q kn 5) (h : mL kn (g 0) (g 1) (g 5) w) : gF pg gX (fI 1 (dX 3 gT)) Q g w :=
 pE 1 (xW _ g w (mH kn) (fun g w h => fL (G1 0 (wW _ g w kn hn h))) h)
def mK (kn : K3) (R : K1) (BZ nR : Q7) (w : Q6) : Prop :=
 dQ pg (fD .eql 45 (.tmp 8) (.const (.pointer none)) BZ (.pointer none)) w fun b9 w =>
 kA b9
  (R (.int .u64 0) w)
  (kn BZ nR (.int .u64 0) w)
theorem xO (kn : K3) (R : K1) (hn : N3 Q kn 0 1 5) (hr : HR kG R Q) (h : mK kn R (g 0) (g 1) w) : gF pg gX (fI 3 gT) Q g w :=
 jV (l := []) h hn hr trivial
def mF (R : K1) (BZ nR : Q7) (w : Q6) : Prop :=
 mK (fun BZ nR Dj w => mI R BZ nR Dj w) R BZ nR w
theorem xU (R : K1) (hr : HR kG R Q) (h : mF R (g 0) (g 1) w) : gF pg gX gT Q g w :=
 pE 3 (xO _ g w (mI R) R (fun g w h => fL (pE 1 (xZ _ g w (kJ R) (fun g w h => fL (xQ _ g w R hr h)) h))) hr h)
def uT (a0 a1 : Q7) (w : Q6) (R : K1) : Prop :=
 mF R a0 a1 w
theorem yN {a0 a1 : Q7} {w : Q6} {R : K1} (h : uT a0 a1 w R) : fK pg fT #[a0, a1] w R := by
 refine AQ (ann := gX) Tryd.f20 gT [a0, a1] kG 35 TrydM.mixed Tryd.func20 ?_
 exact (xU _ _ _ R (fun _ _ h => h) h)
def sZ : FA := ⟨gP, fun i => .leaf ([], []) []⟩
def uL : List ResultVar := [.tmp 2]
noncomputable def sD : Code := iD Tryd.f21
def pC (R : K1) (BZ : Q7) (w : Q6) : Prop :=
 dQ pg (fD .eql 45 (.tmp 3) (.const (.pointer none)) BZ (.pointer none)) w fun b4 w =>
 kA b4
  (R (Q8 1) w)
  (dQ pg (jJ BZ) w fun b6 w =>
  dQ pg (fJ 63 b6 1) w fun b7 w =>
  dQ pg (fM 26 b7) w fun b8 w =>
  R b8 w)
theorem AU (R : K1) (hr : HR uL R Q) (h : pC R (g 0) w) : gF pg sZ sD Q g w :=
 jV (kn := no) (l := []) h kK hr trivial
def yX (a0 : Q7) (w : Q6) (R : K1) : Prop :=
 pC R a0 w
theorem Bv {a0 : Q7} {w : Q6} {R : K1} (h : yX a0 w R) : fK pg gP #[a0] w R := by
 refine AQ (ann := sZ) Tryd.f21 sD [a0] uL 9 TrydM.mixed Tryd.func21 ?_
 exact (AU _ _ _ R (fun _ _ h => h) h)
def gV : FA := ⟨lL, fun i => match Nat.beq i 1 with | true => .leaf ([8, 9], [(1, 8), (2, 8), (3, 8)]) [(false, []), (false, []), (false, []), (false, []), (false, []), (false, []), (false, []), (false, []), (true, [4, 5, 6]), (true, []), (false, [])] | false => match Nat.beq i 6 with | true => .leaf ([], []) [(false, []), (false, []), (false, []), (false, []), (false, []), (false, []), (false, []), (false, []), (false, []), (false, []), (false, []), (false, []), (false, []), (false, []), (false, []), (false, []), (false, []), (false, []), (false, []), (false, []), (false, []), (false, []), (false, []), (false, []), (false, []), (false, []), (false, [])] | false => .leaf ([], []) []⟩
def hZ : List ResultVar := [.tmp 2]
noncomputable def gQ : Code := iD Tryd.f22
def iM (R : K1) (gH kH : Q7) (w : Q6) : Prop :=
 dQ pg (jJ gH) w fun p1 w =>
 dQ pg (fJ 47 p1 3) w fun p2 w =>
 dQ pg (fM 22 p2) w fun p3 w =>
 dQ pg (mC .append #[22, 22] 22 [p3, kH]) w fun p5 w =>
 dQ pg (jJ gH) w fun p6 w =>
 dQ pg (fJ 47 p6 3) w fun p7 w =>
 dQ pg (fQ 22 p7 p5) w fun _u w =>
 dQ pg (jJ gH) w fun p9 w =>
 dQ pg (fJ 47 p9 4) w fun q0 w =>
 dQ pg (fM 3 q0) w fun q1 w =>
 dQ pg (fD .add 3 fH fH q1 (Q8 1)) w fun q2 w =>
 dQ pg (jJ gH) w fun q3 w =>
 dQ pg (fJ 47 q3 4) w fun q4 w =>
 dQ pg (fQ 3 q4 q2) w fun _u w =>
 R (Q8 0) w
theorem zL (R : K1) (hr : HR hZ R Q) (h : iM R (g 0) (g 8) w) : gF pg gV (dX 2 (dX 1 (dX 8 (bI (dX 1 gQ))))) Q g w :=
 jV (kn := no) (l := []) h kK hr trivial
def oD (kn : K2) (R : K1) (gH Dw kH : Q7) (w : Q6) : Prop :=
 dQ pg (fJ 67 Dw 2) w fun n1 w =>
 dQ pg (fM 4 n1) w fun n2 w =>
 Gd (lT n2 true) (fun K => K kH w) w fun n4 w =>
 Gd (lT n2 true) (fun K => dQ pg (mC .len #[22] 3 [n4]) w K) w fun n5 w =>
 Gd (lT n2 true) (fun K => dQ pg (iO 3 40 n5) w K) w fun n6 w =>
 Gd (lT n2 true) (fun K => dQ pg (fJ 67 Dw 1) w K) w fun n7 w =>
 Gd (lT n2 true) (fun K => dQ pg (fM 40 n7) w K) w fun n8 w =>
 Gd (lT n2 true) (fun K => dQ pg (fD .neq 40 (.tmp 96) (.tmp 98) n6 n8) w K) w fun n9 w =>
 dQ pg (nI n2 n9 (.bool false)) w fun o0 w =>
 kA o0
  (R (Q8 11) w)
  (dQ pg (fJ 67 Dw 3) w fun o1 w =>
  dQ pg (fM 4 o1) w fun o2 w =>
  kA o2
   (fK pg jW #[gH, kH] w fun o5 w =>
   dQ pg (fD .neq 26 (.tmp 106) (.const (Q8 0)) o5 (Q8 0)) w fun o7 w =>
   kA o7
    (R o5 w)
    (kn gH kH w))
   (kn gH kH w))
theorem Ab (kn : K2) (R : K1) (hn : N2 Q kn 0 8) (hr : HR hZ R Q) (h : oD kn R (g 0) (g 4) (g 8) w) : gF pg gV (fI 2 (dX 1 (dX 8 (bI (dX 1 gQ))))) Q g w :=
 jV (l := []) h hn hr trivial
def jU (R : K1) (gH Dw kH : Q7) (w : Q6) : Prop :=
 oD (fun gH kH w => iM R gH kH w) R gH Dw kH w
def lD (kn : K4) (k0 : K3) (R : K1) (gH Dw Is kH : Q7) (w : Q6) : Prop :=
 dQ pg (fM 80 Is) w fun j9 w =>
 dQ pg (fJ 67 Dw 0) w fun l0 w =>
 dQ pg (fM 40 l0) w fun l1 w =>
 fK pg lO #[gH, kH, j9, l1] w fun l2 w =>
 dQ pg (hY l2 0) w fun l3 w =>
 dQ pg (hY l2 1) w fun l4 w =>
 dQ pg (hY l2 2) w fun l5 w =>
 dQ pg (hY l2 3) w fun l6 w =>
 dQ pg (fQ 80 Is l4) w fun _u w =>
 dQ pg (fD .neq 26 (.tmp 77) (.const (Q8 0)) l6 (Q8 0)) w fun l8 w =>
 kA l8
  (R l6 w)
  (dQ pg (fJ 67 Dw 2) w fun m0 w =>
  dQ pg (fM 4 m0) w fun m1 w =>
  Gd (lT m1 true) (fun K => K l3 w) w fun m3 w =>
  Gd (lT m1 true) (fun K => dQ pg (mC .len #[22] 3 [m3]) w K) w fun m4 w =>
  Gd (lT m1 true) (fun K => dQ pg (iO 3 40 m4) w K) w fun m5 w =>
  Gd (lT m1 true) (fun K => dQ pg (fJ 67 Dw 1) w K) w fun m6 w =>
  Gd (lT m1 true) (fun K => dQ pg (fM 40 m6) w K) w fun m7 w =>
  Gd (lT m1 true) (fun K => dQ pg (fD .gtr 40 fH fH m5 m7) w K) w fun m8 w =>
  dQ pg (nI m1 m8 (.bool false)) w fun m9 w =>
  kA m9
   (R (Q8 11) w)
   (kA l5
    (k0 gH Dw l3 w)
    (kn gH Dw Is l3 w)))
theorem zZ (kn : K4) (k0 : K3) (R : K1) (hn : N4 Q kn 0 4 7 8) (h0 : E3 Q k0 0 0 4 8) (hr : HR hZ R Q) (h : lD kn k0 R (g 0) (g 4) (g 7) (g 8) w) : gF pg gV (bI (bI (fI 1 (dX 8 (bI (dX 1 gQ)))))) Q g w :=
 jV (l := [(0, fun g w => k0 (g 0) (g 4) (g 8) w)]) h hn hr ⟨h0, trivial⟩
def nM (k0 : K3) (R : K1) (gH Dw Is kH : Q7) (w : Q6) : Prop :=
 iG (fun (X : Q7 -> K0) (t : Q7) (w : Q6) => lD (fun _ _ _ kH w => X kH w) k0 R gH Dw Is t w) kH w
theorem Ag (k0 : K3) (R : K1) (h0 : E3 Q k0 0 0 4 8) (hr : HR hZ R Q) (h : nM k0 R (g 0) (g 4) (g 7) (g 8) w) : gF pg gV (bI (fI 1 (dX 8 (bI (dX 1 gQ))))) Q g w := by
 refine Ix (fun g : Env => g 8) (fun X t w => lD (fun _ _ _ kH w => X kH w) k0 R (g 0) (g 4) (g 7) t w) h (fun X g1 w1 ha hL => ?_)
 rw [<- CS 0 ha, <- CS 4 ha, <- CS 7 ha] at hL
 exact (zZ _ g1 w1 (fun _ _ _ kH w => X kH w) k0 R (fun _ _ h => h) h0 hr hL)
def nL (kn : K3) (R : K1) (gH Dw Is kH : Q7) (w : Q6) : Prop :=
 nM kn R gH Dw Is kH w
def jT (R : K1) (gH Dw Is kH : Q7) (w : Q6) : Prop :=
 nL (fun gH Dw kH w => jU R gH Dw kH w) R gH Dw Is kH w
theorem zM (kn : K3) (R : K1) (hn : N3 Q kn 0 4 8) (hr : HR hZ R Q) (h : nL kn R (g 0) (g 4) (g 7) (g 8) w) : gF pg gV (fI 1 (dX 8 (bI (dX 1 gQ)))) Q g w :=
 G1 0 (Ag _ g w kn R hn hr h)
def oB (kn : K4) (R : K1) (gH : Q7) (w : Q6) : Prop :=
 (dr w) = (dr w) /\
 dQ pg (jJ gH) (dr w) fun c2 w_ => w_ = (dr w) /\
 dQ pg (fJ 47 c2 0) (dr w) fun c3 w_ => w_ = (dr w) /\
 dQ pg (fM 45 c3) (dr w) fun c4 w_ => w_ = (dr w) /\
 (dr w) = (dr w) /\
 dQ pg (jJ gH) (dr w) fun c6 w_ => w_ = (dr w) /\
 dQ pg (fJ 47 c6 0) (dr w) fun c7 w_ => w_ = (dr w) /\
 dQ pg (fM 45 c7) (dr w) fun c8 w_ => w_ = (dr w) /\
 fK pg iF #[c8] (dr w) fun c9 Nu =>
 (fE pg (fM 45 c3) c4 Nu /\ fE pg (fJ 47 c2 0) c3 Nu /\ fE pg (jJ gH) c2 Nu /\ True) /\
 fK pg iX #[c4, c9] Nu fun d0 Oh =>
 Oh = Oh /\
 fK pg wI #[d0] Oh fun d3 w =>
 dQ pg (hY d3 0) w fun d4 w =>
 dQ pg (hY d3 1) w fun d5 w =>
 dQ pg (hY d3 2) w fun d6 w =>
 dQ pg (lH 67) w fun Dw w =>
 dQ pg (fQ 67 Dw d4) w fun _u w =>
 dQ pg (fD .neq 26 (.tmp 27) (.const (Q8 0)) d6 (Q8 0)) w fun d8 w =>
 kA d8
  (R d6 w)
  (dQ pg (hE 22 d0 (some d5) none none) w fun e3 w =>
  fK pg iR #[e3] w fun e4 w =>
  dQ pg (jJ gH) w fun e5 w =>
  dQ pg (fJ 47 e5 0) w fun e6 w =>
  dQ pg (fQ 45 e6 e4) w fun _u w =>
  dQ pg (fJ 67 Dw 0) (dr w) fun e7 w_ => w_ = (dr w) /\
  dQ pg (fM 40 e7) (dr w) fun e8 w_ => w_ = (dr w) /\
  (dr w) = (dr w) /\
  dQ pg (jJ gH) (dr w) fun f0 w_ => w_ = (dr w) /\
  dQ pg (fJ 47 f0 1) (dr w) fun f1 w_ => w_ = (dr w) /\
  dQ pg (fM 40 f1) (dr w) fun f2 w_ => w_ = (dr w) /\
  dQ pg (fD .gtr 40 fH fH e8 f2) (dr w) fun f3 w_ => w_ = (dr w) /\
  (dr w) = (dr w) /\
  Gd (lT f3 false) (fun K => dQ pg (fJ 67 Dw 2) (dr w) K) (dr w) fun f5 w_ => w_ = (dr w) /\
  Gd (lT f3 false) (fun K => dQ pg (fM 4 f5) (dr w) K) (dr w) fun f6 w_ => w_ = (dr w) /\
  Gd (lT f3 false) (fun K => K f6 (dr w)) (dr w) fun f7 w_ => w_ = (dr w) /\
  Gd (lT f7 true) (fun K => dQ pg (fJ 67 Dw 1) (dr w) K) (dr w) fun f8 w_ => w_ = (dr w) /\
  Gd (lT f7 true) (fun K => dQ pg (fM 40 f8) (dr w) K) (dr w) fun f9 w_ => w_ = (dr w) /\
  Gd (lT f7 true) (fun K => K gH (dr w)) (dr w) fun i0 w_ => w_ = (dr w) /\
  Gd (lT f7 true) (fun K => dQ pg (jJ i0) (dr w) K) (dr w) fun i1 w_ => w_ = (dr w) /\
  Gd (lT f7 true) (fun K => dQ pg (fJ 47 i1 2) (dr w) K) (dr w) fun i2 w_ => w_ = (dr w) /\
  Gd (lT f7 true) (fun K => dQ pg (fM 3 i2) (dr w) K) (dr w) fun i3 w_ => w_ = (dr w) /\
  Gd (lT f7 true) (fun K => K gH (dr w)) (dr w) fun i4 w_ => w_ = (dr w) /\
  Gd (lT f7 true) (fun K => dQ pg (jJ i4) (dr w) K) (dr w) fun i5 w_ => w_ = (dr w) /\
  Gd (lT f7 true) (fun K => dQ pg (fJ 47 i5 3) (dr w) K) (dr w) fun i6 w_ => w_ = (dr w) /\
  Gd (lT f7 true) (fun K => dQ pg (fM 22 i6) (dr w) K) (dr w) fun i7 w_ => w_ = (dr w) /\
  Gd (lT f7 true) (fun K => dQ pg (mC .len #[22] 3 [i7]) (dr w) K) (dr w) fun i8 w_ => w_ = (dr w) /\
  Gd (lT f7 true) (fun K => dQ pg (fD .sub 3 fH fH i3 i8) (dr w) K) (dr w) fun i9 w_ => w_ = (dr w) /\
  Gd (lT f7 true) (fun K => dQ pg (iO 3 40 i9) (dr w) K) (dr w) fun j0 w_ => w_ = (dr w) /\
  Gd (lT f7 true) (fun K => dQ pg (fD .gtr 40 fH fH f9 j0) (dr w) K) (dr w) fun j1 w_ => w_ = (dr w) /\
  Gd (lT f3 false) (fun K => dQ pg (nI f7 j1 (.bool false)) (dr w) K) (dr w) fun j2 w_ => w_ = (dr w) /\
  dQ pg (nI f3 (.bool true) j2) (dr w) fun j3 w_ => w_ = (dr w) /\
  kA j3
   (R (Q8 12) (dr w))
   (fK pg nG #[] (dr w) fun j4 w =>
   dQ pg (iB 80 [(2, j4)]) w fun j5 w =>
   dQ pg (lH 80) w fun Is w =>
   dQ pg (fQ 80 Is j5) w fun _u w =>
   kn gH Dw Is (.slice none 0 0) w))
theorem Aa (kn : K4) (R : K1) (hn : N4 Q kn 0 4 7 8) (hr : HR hZ R Q) (h : oB kn R (g 0) w) : gF pg gV (fI 8 (bI (dX 1 gQ))) Q g w :=
 jV (l := []) h hn hr trivial
def sP (R : K1) (gH : Q7) (w : Q6) : Prop :=
 oB (fun gH Dw Is kH w => jT R gH Dw Is kH w) R gH w
def mW (R : K1) (gH : Q7) (w : Q6) : Prop :=
 sP R gH w
def mT (kn : K1) (gH : Q7) (w : Q6) : Prop :=
 kn gH w
theorem yO (kn : K1) (hn : N1 Q kn 0) (h : mT kn (g 0) w) : gF pg gV (fI 1 gQ) Q g w :=
 jV (kr := no) (l := []) h hn kK trivial
def mX (R : K1) (gH : Q7) (w : Q6) : Prop :=
 mT (fun gH w => mW R gH w) gH w
theorem yI (R : K1) (hr : HR hZ R Q) (h : mX R (g 0) w) : gF pg gV gQ Q g w :=
 pE 1 (yO _ g w (mW R) (fun g w h => fL (PA (pE 8 (Aa _ g w (jT R) R (fun g w h => fL (pE 1 (zM _ g w (jU R) R (fun g w h => fL (pE 2 (Ab _ g w (iM R) R (fun g w h => fL (zL _ g w R hr h)) hr h))) hr h))) hr h)))) h)
def xL (a0 : Q7) (w : Q6) (R : K1) : Prop :=
 mX R a0 w
theorem AN {a0 : Q7} {w : Q6} {R : K1} (h : xL a0 w R) : fK pg lL #[a0] w R := by
 refine AQ (ann := gV) Tryd.f22 gQ [a0] hZ 125 TrydM.mixed Tryd.func22 ?_
 exact (yI _ _ _ R (fun _ _ h => h) h)
def sV : FA := ⟨lY, fun i => .leaf ([], []) []⟩
def uH : List ResultVar := [.tmp 2]
noncomputable def rO : Code := iD Tryd.f23
def pA (R : K1) (gH : Q7) (w : Q6) : Prop :=
 dQ pg (jJ gH) w fun b5 w =>
 dQ pg (fJ 47 b5 0) w fun b6 w =>
 dQ pg (fM 45 b6) w fun b7 w =>
 fK pg fT #[b7, (Q8 4)] w fun b8 w =>
 dQ pg (jJ gH) w fun c0 w =>
 dQ pg (fJ 47 c0 0) w fun c1 w =>
 dQ pg (fM 45 c1) w fun c2 w =>
 fK pg gP #[c2] w fun c3 w =>
 dQ pg (fD .neq 26 (.tmp 13) (.const (Q8 0)) c3 (Q8 0)) w fun c4 w =>
 Gd (lT c4 false) (fun K => K b8 w) w fun c6 w =>
 Gd (lT c4 false) (fun K => K gH w) w fun c7 w =>
 Gd (lT c4 false) (fun K => dQ pg (jJ c7) w K) w fun c8 w =>
 Gd (lT c4 false) (fun K => dQ pg (fJ 47 c8 0) w K) w fun c9 w =>
 Gd (lT c4 false) (fun K => dQ pg (fM 45 c9) w K) w fun d0 w =>
 Gd (lT c4 false) (fun K => fK pg iF #[d0] w K) w fun d1 w =>
 Gd (lT c4 false) (fun K => dQ pg (iO 3 40 d1) w K) w fun d2 w =>
 Gd (lT c4 false) (fun K => dQ pg (fD .gtr 40 fH fH c6 d2) w K) w fun d3 w =>
 dQ pg (nI c4 (.bool true) d3) w fun d4 w =>
 kA d4
  (R (Q8 10) w)
  (dQ pg (jJ gH) w fun d6 w =>
  dQ pg (fJ 47 d6 0) w fun d7 w =>
  dQ pg (fM 45 d7) w fun d8 w =>
  dQ pg (iO 40 3 b8) w fun e0 w =>
  fK pg iX #[d8, e0] w fun e1 w =>
  dQ pg (jJ gH) w fun e3 w =>
  dQ pg (fJ 47 e3 5) w fun e4 w =>
  dQ pg (fM 3 e4) w fun e5 w =>
  dQ pg (fD .add 3 fH fH e5 (Q8 1)) w fun e6 w =>
  dQ pg (jJ gH) w fun e7 w =>
  dQ pg (fJ 47 e7 5) w fun e8 w =>
  dQ pg (fQ 3 e8 e6) w fun _u w =>
  R (Q8 0) w)
theorem AT (R : K1) (hr : HR uH R Q) (h : pA R (g 0) w) : gF pg sV rO Q g w :=
 jV (kn := no) (l := []) h kK hr trivial
def zD (a0 : Q7) (w : Q6) (R : K1) : Prop :=
 pA R a0 w
theorem Ba {a0 : Q7} {w : Q6} {R : K1} (h : zD a0 w R) : fK pg lY #[a0] w R := by
 refine AQ (ann := sV) Tryd.f23 rO [a0] uH 39 TrydM.mixed Tryd.func23 ?_
 exact (AT _ _ _ R (fun _ _ h => h) h)
def iV : FA := ⟨rY, fun i => .leaf ([], []) []⟩
def vB : List ResultVar := [.cell 4 58, .tmp 5]
noncomputable def iP : Code := iD Tryd.f24
def qM (R : K1) (uI b4 Di : Q7) (w : Q6) : Prop :=
 dQ pg (fM 58 uI) w fun f4 w =>
 dQ pg (fQ 58 b4 f4) w fun _u w =>
 Fm pg 58 b4 w fun r0 => R (.tuple #[r0, Di]) w
theorem DJ (R : K1) (hr : HR vB R Q) (h : qM R (g 2) (g 4) (g 7) w) : gF pg iV (dX 1 (dX 3 (dX 2 iP))) Q g w :=
 jV (kn := no) (l := []) h kK hr trivial
def nH (kn : K6) (k0 : K3) (uI b4 HX Di F5 nC : Q7) (w : Q6) : Prop :=
 dQ pg (mC .len #[9] 3 [HX]) w fun e0 w =>
 dQ pg (fD .lss 3 fH fH nC e0) w fun e1 w =>
 kA e1
  (dQ pg (D0 9 HX nC) w fun e7 w =>
  dQ pg (iO 5 40 e7) w fun e8 w =>
  dQ pg (fD .mul 40 fH fH e8 F5) w fun f0 w =>
  dQ pg (fD .add 40 fH fH Di f0) w fun f1 w =>
  dQ pg (fD .mul 40 fH fH F5 (.int .u64 256)) w fun f3 w =>
  dQ pg (fD .add 3 fH fH nC (Q8 1)) w fun e3 w =>
  kn uI b4 HX f1 f3 e3 w)
  (k0 uI b4 Di w)
theorem DF (kn : K6) (k0 : K3) (hn : N6 Q kn 2 4 6 7 8 9) (h0 : E3 Q k0 0 2 4 7) (h : nH kn k0 (g 2) (g 4) (g 6) (g 7) (g 8) (g 9) w) : gF pg iV (bI (bI (dX 1 (fI 1 (dX 3 (dX 2 iP)))))) Q g w :=
 jV (kr := no) (l := [(0, fun g w => k0 (g 2) (g 4) (g 7) w)]) h hn kK ⟨h0, trivial⟩
def uY (k0 : K3) (uI b4 HX Di F5 nC : Q7) (w : Q6) : Prop :=
 iG (fun (X : (Q7 × Q7 × Q7) -> K0) (t : Q7 × Q7 × Q7) (w : Q6) => nH (fun _ _ _ Di F5 nC w => X (Di, F5, nC) w) k0 uI b4 HX t.1 t.2.1 t.2.2 w) (Di, F5, nC) w
theorem D1 (k0 : K3) (h0 : E3 Q k0 0 2 4 7) (h : uY k0 (g 2) (g 4) (g 6) (g 7) (g 8) (g 9) w) : gF pg iV (bI (dX 1 (fI 1 (dX 3 (dX 2 iP))))) Q g w := by
 refine Ix (fun g : Env => (g 7, g 8, g 9)) (fun X t w => nH (fun _ _ _ Di F5 nC w => X (Di, F5, nC) w) k0 (g 2) (g 4) (g 6) t.1 t.2.1 t.2.2 w) h (fun X g1 w1 ha hL => ?_)
 rw [<- CS 2 ha, <- CS 4 ha, <- CS 6 ha] at hL
 exact (DF _ g1 w1 (fun _ _ _ Di F5 nC w => X (Di, F5, nC) w) k0 (fun _ _ h => h) h0 hL)
def uW (kn : K3) (uI b4 HX Di F5 nC : Q7) (w : Q6) : Prop :=
 uY kn uI b4 HX Di F5 nC w
def vJ (kn : K6) (uI b4 HX Di F5 : Q7) (w : Q6) : Prop :=
 kn uI b4 HX Di F5 (Q8 0) w
theorem Dt (kn : K6) (hn : N6 Q kn 2 4 6 7 8 9) (h : vJ kn (g 2) (g 4) (g 6) (g 7) (g 8) w) : gF pg iV (fI 1 (fI 1 (dX 3 (dX 2 iP)))) Q g w :=
 jV (kr := no) (l := []) h hn kK trivial
def vD (kn : K3) (uI b4 HX Di F5 : Q7) (w : Q6) : Prop :=
 vJ (fun uI b4 HX Di F5 nC w => uW kn uI b4 HX Di F5 nC w) uI b4 HX Di F5 w
def vG (R : K1) (uI b4 HX Di F5 : Q7) (w : Q6) : Prop :=
 vD (fun uI b4 Di w => qM R uI b4 Di w) uI b4 HX Di F5 w
theorem DW (kn : K3) (hn : N3 Q kn 2 4 7) (h : vD kn (g 2) (g 4) (g 6) (g 7) (g 8) w) : gF pg iV (fI 1 (dX 3 (dX 2 iP))) Q g w :=
 pE 1 (Dt _ g w (uW kn) (fun g w h => fL (G1 0 (D1 _ g w kn hn h))) h)
def vR (kn : K5) (nR uI b4 : Q7) (w : Q6) : Prop :=
 dQ pg (fM 58 uI) w fun d3 w =>
 fK pg wO #[d3, nR] w fun d5 w =>
 dQ pg (hY d5 0) w fun d6 w =>
 dQ pg (hY d5 1) w fun d7 w =>
 dQ pg (fQ 58 uI d6) w fun _u w =>
 kn uI b4 d7 (.int .u64 0) (.int .u64 1) w
theorem Ds (kn : K5) (hn : N5 Q kn 2 4 6 7 8) (h : vR kn (g 1) (g 2) (g 4) w) : gF pg iV (fI 3 (dX 2 iP)) Q g w :=
 jV (kr := no) (l := []) h hn kK trivial
def vI (R : K1) (nR uI b4 : Q7) (w : Q6) : Prop :=
 vR (fun uI b4 HX Di F5 w => vG R uI b4 HX Di F5 w) nR uI b4 w
def tO (kn : K3) (BZ nR : Q7) (w : Q6) : Prop :=
 dQ pg (Iy 58 BZ) w fun uI w =>
 dQ pg (lH 58) w fun b4 w =>
 dQ pg (fJ 58 uI 1) w fun c0 w =>
 dQ pg (fM 26 c0) w fun c1 w =>
 dQ pg (fD .eql 26 (.tmp 11) (.const (Q8 0)) c1 (Q8 0)) w fun c2 w =>
 Gd (lT c2 true) (fun K => K nR w) w fun c4 w =>
 Gd (lT c2 true) (fun K => dQ pg (fD .lss 3 fH fH c4 (Q8 1)) w K) w fun c5 w =>
 Gd (lT c2 true) (fun K => K c5 w) w fun c6 w =>
 Gd (lT c6 false) (fun K => K nR w) w fun c7 w =>
 Gd (lT c6 false) (fun K => dQ pg (fD .gtr 3 fH fH c7 (Q8 8)) w K) w fun c8 w =>
 Gd (lT c2 true) (fun K => dQ pg (nI c6 (.bool true) c8) w K) w fun c9 w =>
 dQ pg (nI c2 c9 (.bool false)) w fun d0 w =>
 kA d0
  (dQ pg (fJ 58 uI 1) w fun d1 w =>
  dQ pg (fQ 26 d1 (Q8 1)) w fun _u w =>
  kn nR uI b4 w)
  (kn nR uI b4 w)
theorem C0 (kn : K3) (hn : N3 Q kn 1 2 4) (h : tO kn (g 0) (g 1) w) : gF pg iV (fI 2 iP) Q g w :=
 jV (kr := no) (l := []) h hn kK trivial
def tE (R : K1) (BZ nR : Q7) (w : Q6) : Prop :=
 tO (fun nR uI b4 w => vI R nR uI b4 w) BZ nR w
theorem CZ (R : K1) (hr : HR vB R Q) (h : tE R (g 0) (g 1) w) : gF pg iV iP Q g w :=
 pE 2 (C0 _ g w (vI R) (fun g w h => fL (pE 3 (Ds _ g w (vG R) (fun g w h => fL (pE 1 (DW _ g w (qM R) (fun g w h => fL (DJ _ g w R hr h)) h))) h))) h)
def EP (a0 a1 : Q7) (w : Q6) (R : K1) : Prop :=
 tE R a0 a1 w
theorem Eo {a0 a1 : Q7} {w : Q6} {R : K1} (h : EP a0 a1 w R) : fK pg rY #[a0, a1] w R := by
 refine AQ (ann := iV) Tryd.f24 iP [a0, a1] vB 46 TrydM.mixed Tryd.func24 ?_
 exact (CZ _ _ _ R (fun _ _ h => h) h)
def sS : FA := ⟨lX, fun i => .leaf ([], []) []⟩
def uS : List ResultVar := [.tmp 2]
noncomputable def rW : Code := iD Tryd.f25
def oS (R : K1) (gH : Q7) (w : Q6) : Prop :=
 dQ pg (fD .eql 22 (.tmp 3) (.const (.slice none 0 0)) gH (.slice none 0 0)) w fun b4 w =>
 kA b4
  (R (.slice none 0 0) w)
  (dQ pg (iK 22 0 []) w fun b5 w =>
  dQ pg (mC .append #[22, 22] 22 [b5, gH]) w fun b7 w =>
  R b7 w)
theorem AD (R : K1) (hr : HR uS R Q) (h : oS R (g 0) w) : gF pg sS rW Q g w :=
 jV (kn := no) (l := []) h kK hr trivial
def yP (a0 : Q7) (w : Q6) (R : K1) : Prop :=
 oS R a0 w
theorem Bq {a0 : Q7} {w : Q6} {R : K1} (h : yP a0 w R) : fK pg lX #[a0] w R := by
 refine AQ (ann := sS) Tryd.f25 rW [a0] uS 8 TrydM.mixed Tryd.func25 ?_
 exact (AD _ _ _ R (fun _ _ h => h) h)
def sH : FA := ⟨kB, fun i => .leaf ([], []) []⟩
def sU : List ResultVar := [.tmp 6]
noncomputable def rB : Code := iD Tryd.f26
def nW (R : K1) (BZ nR OY : Q7) (w : Q6) : Prop :=
 dQ pg (jJ BZ) w fun c0 w =>
 dQ pg (fJ 63 c0 1) w fun c1 w =>
 dQ pg (fM 26 c1) w fun c2 w =>
 dQ pg (fD .neq 26 (.tmp 12) (.const (Q8 0)) c2 (Q8 0)) w fun c3 w =>
 kA c3
  (R (.slice none 0 0) w)
  (dQ pg (Mi .not OY) w fun c6 w =>
  kA c6
   (dQ pg (jJ BZ) w fun c8 w =>
   dQ pg (fJ 63 c8 1) w fun c9 w =>
   dQ pg (fQ 26 c9 (Q8 1)) w fun _u w =>
   R (.slice none 0 0) w)
   (dQ pg (jJ BZ) w fun d3 w =>
   dQ pg (fJ 63 d3 0) w fun d4 w =>
   dQ pg (fM 22 d4) w fun d5 w =>
   dQ pg (mC .len #[22] 3 [d5]) w fun d6 w =>
   dQ pg (fD .gtr 3 fH fH nR d6) w fun d7 w =>
   kA d7
    (dQ pg (jJ BZ) w fun d9 w =>
    dQ pg (fJ 63 d9 1) w fun e0 w =>
    dQ pg (fQ 26 e0 (Q8 10)) w fun _u w =>
    R (.slice none 0 0) w)
    (dQ pg (jJ BZ) w fun e2 w =>
    dQ pg (fJ 63 e2 0) w fun e3 w =>
    dQ pg (fM 22 e3) w fun e4 w =>
    dQ pg (hE 22 e4 none (some nR) (some nR)) w fun e7 w =>
    dQ pg (jJ BZ) w fun f0 w =>
    dQ pg (fJ 63 f0 0) w fun f1 w =>
    dQ pg (fM 22 f1) w fun f2 w =>
    dQ pg (hE 22 f2 (some nR) none none) w fun f4 w =>
    dQ pg (jJ BZ) w fun f5 w =>
    dQ pg (fJ 63 f5 0) w fun f6 w =>
    dQ pg (fQ 22 f6 f4) w fun _u w =>
    R e7 w)))
theorem zV (R : K1) (hr : HR sU R Q) (h : nW R (g 0) (g 1) (g 2) w) : gF pg sH rB Q g w :=
 jV (kn := no) (l := []) h kK hr trivial
def wZ (a0 a1 a2 : Q7) (w : Q6) (R : K1) : Prop :=
 nW R a0 a1 a2 w
theorem AV {a0 a1 a2 : Q7} {w : Q6} {R : K1} (h : wZ a0 a1 a2 w R) : fK pg kB #[a0, a1, a2] w R := by
 refine AQ (ann := sH) Tryd.f26 rB [a0, a1, a2] sU 48 TrydM.mixed Tryd.func26 ?_
 exact (zV _ _ _ R (fun _ _ h => h) h)
def rG : FA := ⟨iX, fun i => .leaf ([], []) []⟩
def rT : List ResultVar := [.tmp 4]
noncomputable def qA : Code := iD Tryd.f27
def mV (R : K1) (BZ nR : Q7) (w : Q6) : Prop :=
 dQ pg (fD .eql 45 (.tmp 5) (.const (.pointer none)) BZ (.pointer none)) w fun b6 w =>
 kA b6
  (R (.slice none 0 0) w)
  (dQ pg (fD .geq 3 fH fH nR (Q8 0)) w fun c0 w =>
  fK pg kB #[BZ, nR, c0] w fun c1 w =>
  R c1 w)
theorem yL (R : K1) (hr : HR rT R Q) (h : mV R (g 0) (g 1) w) : gF pg rG qA Q g w :=
 jV (kn := no) (l := []) h kK hr trivial
def vU (a0 a1 : Q7) (w : Q6) (R : K1) : Prop :=
 mV R a0 a1 w
theorem Ao {a0 a1 : Q7} {w : Q6} {R : K1} (h : vU a0 a1 w R) : fK pg iX #[a0, a1] w R := by
 refine AQ (ann := rG) Tryd.f27 qA [a0, a1] rT 12 TrydM.mixed Tryd.func27 ?_
 exact (yL _ _ _ R (fun _ _ h => h) h)
def jL : FA := ⟨wI, fun i => match Nat.beq i 28 with | true => .leaf ([4, 6], [(0, 4), (2, 4), (2, 6), (5, 6)]) [(false, []), (false, []), (false, []), (false, []), (true, [1, 3]), (false, []), (true, [0, 3]), (false, []), (false, [])] | false => .leaf ([], []) []⟩
def uB : List ResultVar := [.cell 2 67, .tmp 3, .tmp 4]
noncomputable def jC : Code := iD Tryd.f28
def pW (R : K1) (hJ b2 uA rJ iA : Q7) (w : Q6) : Prop :=
 fK pg gP #[uA] w fun l9 w =>
 dQ pg (fD .neq 26 (.tmp 79) (.const (Q8 0)) l9 (Q8 0)) w fun m0 w =>
 kA m0
  (dQ pg (iB 67 []) w fun m1 w =>
  fK pg gP #[uA] w fun m3 w =>
  dQ pg (fQ 67 b2 m1) w fun _u w =>
  Fm pg 67 b2 w fun r0 => R (.tuple #[r0, (Q8 0), m3]) w)
  (dQ pg (fD .neq 40 (.tmp 85) (.const (.int .u64 0)) iA (.int .u64 0)) w fun m6 w =>
  kA m6
   (dQ pg (iB 67 []) w fun m7 w =>
   dQ pg (fQ 67 b2 m7) w fun _u w =>
   Fm pg 67 b2 w fun r0 => R (.tuple #[r0, (Q8 0), (Q8 14)]) w)
   (dQ pg (fM 67 rJ) (dr w) fun m8 w_ => w_ = (dr w) /\
   (dr w) = (dr w) /\
   dQ pg (mC .len #[22] 3 [hJ]) (dr w) fun n0 w_ => w_ = (dr w) /\
   (dr w) = (dr w) /\
   fK pg iF #[uA] (dr w) fun n2 Jz =>
   (fE pg (mC .len #[22] 3 [hJ]) n0 Jz /\ fE pg (fM 67 rJ) m8 Jz /\ True) /\
   dQ pg (fD .sub 3 fH fH n0 n2) Jz fun n3 w_ => w_ = Jz /\
   dQ pg (fQ 67 b2 m8) Jz fun _u6 F8 =>
   (fE pg (fD .sub 3 fH fH n0 n2) n3 F8 /\ fE pg (mC .len #[22] 3 [hJ]) n0 F8 /\ True) /\
   F8 = F8 /\
   F8 = F8 /\
   Fm pg 67 b2 F8 fun r0 => R (.tuple #[r0, n3, (Q8 0)]) F8))
theorem FG (R : K1) (hr : HR uB R Q) (h : pW R (g 0) (g 2) (g 5) (g 7) (g 9) w) : gF pg jL (dX 1 (dX 1 (dX 1 (dX 2 (dX 2 (dX 7 jC)))))) Q g w :=
 jV (kn := no) (l := []) h kK hr trivial
def Ar (kn : K5) (hJ b2 uA rJ iT iA : Q7) (w : Q6) : Prop :=
 kA iT
  (dQ pg (fJ 67 rJ 1) w fun l4 w =>
  dQ pg (fM 40 l4) w fun l5 w =>
  dQ pg (fJ 67 rJ 0) w fun l6 w =>
  dQ pg (fQ 40 l6 l5) w fun _u w =>
  kn hJ b2 uA rJ iA w)
  (kn hJ b2 uA rJ iA w)
theorem Fc (kn : K5) (hn : N5 Q kn 0 2 5 7 9) (h : Ar kn (g 0) (g 2) (g 5) (g 7) (g 8) (g 9) w) : gF pg jL (fI 1 (dX 1 (dX 1 (dX 2 (dX 2 (dX 7 jC)))))) Q g w :=
 jV (kr := no) (l := []) h hn kK trivial
def tS (R : K1) (hJ b2 uA rJ iT iA : Q7) (w : Q6) : Prop :=
 Ar (fun hJ b2 uA rJ iA w => pW R hJ b2 uA rJ iA w) hJ b2 uA rJ iT iA w
def zR (kn : K6) (hJ b2 uA rJ iT iA BY : Q7) (w : Q6) : Prop :=
 dQ pg (fD .eql 3 (.tmp 67) (.const (Q8 2)) BY (Q8 2)) w fun j8 w =>
 kA j8
  (dQ pg (fJ 67 rJ 1) w fun j9 w =>
  dQ pg (fM 40 j9) w fun l0 w =>
  dQ pg (fD .add 40 fH fH l0 (.int .u64 256)) w fun l1 w =>
  dQ pg (fJ 67 rJ 1) w fun l2 w =>
  dQ pg (fQ 40 l2 l1) w fun _u w =>
  kn hJ b2 uA rJ iT iA w)
  (kn hJ b2 uA rJ iT iA w)
theorem Fx (kn : K6) (hn : N6 Q kn 0 2 5 7 8 9) (h : zR kn (g 0) (g 2) (g 5) (g 7) (g 8) (g 9) (g 11) w) : gF pg jL (fI 1 (dX 1 (dX 2 (dX 2 (dX 7 jC))))) Q g w :=
 jV (kr := no) (l := []) h hn kK trivial
def uD (R : K1) (hJ b2 uA rJ iT iA BY : Q7) (w : Q6) : Prop :=
 zR (fun hJ b2 uA rJ iT iA w => tS R hJ b2 uA rJ iT iA w) hJ b2 uA rJ iT iA BY w
def Ae (kn : K7) (hJ b2 uA rJ iT iA BY : Q7) (w : Q6) : Prop :=
 dQ pg (fD .gtr 3 fH fH BY (Q8 0)) w fun j1 w =>
 kA j1
  (fK pg fT #[uA, BY] w fun j4 w =>
  dQ pg (fJ 67 rJ 1) w fun j5 w =>
  dQ pg (fQ 40 j5 j4) w fun _u w =>
  dQ pg (fJ 67 rJ 2) w fun j6 w =>
  dQ pg (fQ 4 j6 (.bool true)) w fun _u w =>
  kn hJ b2 uA rJ iT iA BY w)
  (kn hJ b2 uA rJ iT iA BY w)
theorem Fs (kn : K7) (hn : N7 Q kn 0 2 5 7 8 9 11) (h : Ae kn (g 0) (g 2) (g 5) (g 7) (g 8) (g 9) (g 11) w) : gF pg jL (fI 1 (dX 2 (dX 2 (dX 7 jC)))) Q g w :=
 jV (kr := no) (l := []) h hn kK trivial
def pV (R : K1) (hJ b2 uA rJ iT iA BY : Q7) (w : Q6) : Prop :=
 Ae (fun hJ b2 uA rJ iT iA BY w => uD R hJ b2 uA rJ iT iA BY w) hJ b2 uA rJ iT iA BY w
def zP (kn : K7) (hJ b2 uA Ja rJ iT iA : Q7) (w : Q6) : Prop :=
 dQ pg (iB 87 [(0, (Q8 0)), (1, (Q8 2)), (2, (Q8 4)), (3, (Q8 8))]) w fun i1 w =>
 dQ pg (fD .shr 3 fH fH Ja (.int .u64 6)) w fun i3 w =>
 dQ pg (D0 87 i1 i3) w fun i4 w =>
 Gd (lT iT true) (fun K => K i4 w) w fun i7 w =>
 Gd (lT iT true) (fun K => dQ pg (fD .eql 3 (.tmp 57) (.const (Q8 0)) i7 (Q8 0)) w K) w fun i8 w =>
 dQ pg (nI iT i8 (.bool false)) w fun i9 w =>
 kA i9
  (kn hJ b2 uA rJ iT iA (Q8 1) w)
  (kn hJ b2 uA rJ iT iA i4 w)
theorem Fu (kn : K7) (hn : N7 Q kn 0 2 5 7 8 9 11) (h : zP kn (g 0) (g 2) (g 5) (g 6) (g 7) (g 8) (g 9) w) : gF pg jL (fI 2 (dX 2 (dX 7 jC))) Q g w :=
 jV (kr := no) (l := []) h hn kK trivial
def qB (R : K1) (hJ b2 uA Ja rJ iT iA : Q7) (w : Q6) : Prop :=
 zP (fun hJ b2 uA rJ iT iA BY w => pV R hJ b2 uA rJ iT iA BY w) hJ b2 uA Ja rJ iT iA w
def yD (kn : K7) (hJ b2 uA Ja rJ iT : Q7) (w : Q6) : Prop :=
 dQ pg (iB 87 [(0, (Q8 0)), (1, (Q8 1)), (2, (Q8 2)), (3, (Q8 4))]) w fun f2 w =>
 dQ pg (fD .and 3 fH fH Ja (Q8 3)) w fun f4 w =>
 dQ pg (D0 87 f2 f4) w fun f5 w =>
 dQ pg (fD .gtr 3 fH fH f5 (Q8 0)) w fun f7 w =>
 kA f7
  (fK pg fT #[uA, f5] w fun i0 w =>
  kn hJ b2 uA Ja rJ iT i0 w)
  (kn hJ b2 uA Ja rJ iT (.int .u64 0) w)
theorem Ee (kn : K7) (hn : N7 Q kn 0 2 5 6 7 8 9) (h : yD kn (g 0) (g 2) (g 5) (g 6) (g 7) (g 8) w) : gF pg jL (fI 2 (dX 7 jC)) Q g w :=
 jV (kr := no) (l := []) h hn kK trivial
def rN (R : K1) (hJ b2 uA Ja rJ iT : Q7) (w : Q6) : Prop :=
 yD (fun hJ b2 uA Ja rJ iT iA w => qB R hJ b2 uA Ja rJ iT iA w) hJ b2 uA Ja rJ iT w
def xA (kn : K6) (R : K1) (hJ : Q7) (w : Q6) : Prop :=
 dQ pg (lH 67) w fun b2 w =>
 fK pg iR #[hJ] w fun c3 w =>
 fK pg fT #[c3, (Q8 1)] w fun c5 w =>
 dQ pg (iO 40 3 c5) w fun c6 w =>
 fK pg gP #[c3] w fun c9 w =>
 dQ pg (fD .neq 26 (.tmp 19) (.const (Q8 0)) c9 (Q8 0)) w fun d0 w =>
 kA d0
  (dQ pg (iB 67 []) w fun d1 w =>
  fK pg gP #[c3] w fun d3 w =>
  dQ pg (fQ 67 b2 d1) w fun _u w =>
  Fm pg 67 b2 w fun r0 => R (.tuple #[r0, (Q8 0), d3]) w)
  (dQ pg (fD .and 3 fH fH c6 (Q8 8)) w fun d6 w =>
  dQ pg (fD .neq 3 (.tmp 26) (.const (Q8 0)) d6 (Q8 0)) w fun d7 w =>
  kA d7
   (dQ pg (iB 67 []) w fun d8 w =>
   dQ pg (fQ 67 b2 d8) w fun _u w =>
   Fm pg 67 b2 w fun r0 => R (.tuple #[r0, (Q8 0), (Q8 11)]) w)
   (dQ pg (fD .and 3 fH fH c6 (Q8 4)) w fun e0 w =>
   dQ pg (fD .neq 3 (.tmp 30) (.const (Q8 0)) e0 (Q8 0)) w fun e1 w =>
   dQ pg (iB 67 [(3, e1)]) w fun e2 w =>
   dQ pg (lH 67) w fun rJ w =>
   dQ pg (fQ 67 rJ e2) w fun _u w =>
   dQ pg (fD .and 3 fH fH c6 (Q8 32)) w fun e4 w =>
   dQ pg (fD .neq 3 (.tmp 34) (.const (Q8 0)) e4 (Q8 0)) w fun e5 w =>
   dQ pg (Mi .not e5) w fun e7 w =>
   kA e7
    (fK pg fT #[c3, (Q8 1)] w fun e9 w =>
    fK pg rZ #[e9] w fun f0 w =>
    dQ pg (fJ 67 rJ 0) w fun f1 w =>
    dQ pg (fQ 40 f1 f0) w fun _u w =>
    kn hJ b2 c3 c6 rJ e5 w)
    (kn hJ b2 c3 c6 rJ e5 w)))
theorem Ei (kn : K6) (R : K1) (hn : N6 Q kn 0 2 5 6 7 8) (hr : HR uB R Q) (h : xA kn R (g 0) w) : gF pg jL (fI 7 jC) Q g w :=
 jV (l := []) h hn hr trivial
def xD (R : K1) (hJ : Q7) (w : Q6) : Prop :=
 xA (fun hJ b2 uA Ja rJ iT w => rN R hJ b2 uA Ja rJ iT w) R hJ w
theorem Ex (R : K1) (hr : HR uB R Q) (h : xD R (g 0) w) : gF pg jL jC Q g w :=
 pE 7 (Ei _ g w (rN R) R (fun g w h => fL (pE 2 (Ee _ g w (qB R) (fun g w h => fL (pE 2 (Fu _ g w (pV R) (fun g w h => fL (pE 1 (Fs _ g w (uD R) (fun g w h => fL (pE 1 (Fx _ g w (tS R) (fun g w h => fL (pE 1 (Fc _ g w (pW R) (fun g w h => fL (FG _ g w R hr h)) h))) h))) h))) h))) h))) hr h)
def G9 (a0 : Q7) (w : Q6) (R : K1) : Prop :=
 xD R a0 w
theorem Gc {a0 : Q7} {w : Q6} {R : K1} (h : G9 a0 w R) : fK pg wI #[a0] w R := by
 refine AQ (ann := jL) Tryd.f28 jC [a0] uB 94 TrydM.mixed Tryd.func28 ?_
 exact (Ex _ _ _ R (fun _ _ h => h) h)
def zE : FA := ⟨nG, fun i => .leaf ([], []) []⟩
def AX : List ResultVar := [.cell 0 72]
noncomputable def xG : Code := iD Tryd.f29
def tI (R : K1)  (w : Q6) : Prop :=
 dQ pg (lH 72) w fun b0 w =>
 dQ pg (iB 72 [(0, (.int .u32 1)), (1, (.int .u32 4)), (2, (.int .u32 8))]) w fun b1 w =>
 dQ pg (fQ 72 b0 b1) w fun _u w =>
 Fm pg 72 b0 w fun r0 => R r0 w
theorem C9 (R : K1) (hr : HR AX R Q) (h : tI R w) : gF pg zE xG Q g w :=
 jV (kn := no) (l := []) h kK hr trivial
def Dh (w : Q6) (R : K1) : Prop :=
 tI R w
theorem Du {w : Q6} {R : K1} (h : Dh w R) : fK pg nG #[] w R := by
 refine AQ (ann := zE) Tryd.f29 xG [] AX 2 TrydM.mixed Tryd.func29 ?_
 exact (C9 _ _ _ R (fun _ _ h => h) h)
def jK : FA := ⟨lO, fun i => match Nat.beq i 24 with | true => .leaf ([], []) [(false, []), (false, []), (false, []), (false, []), (false, []), (false, []), (false, []), (false, []), (false, []), (false, []), (false, []), (false, []), (false, [])] | false => match Nat.beq i 26 with | true => .leaf ([5], [(2, 5), (3, 5)]) [(false, []), (false, []), (false, []), (false, []), (false, []), (true, [1, 2]), (false, []), (false, [])] | false => .leaf ([], []) []⟩
def jS : List ResultVar := [.tmp 8, .cell 9 80, .tmp 10, .tmp 11]
noncomputable def jG : Code := iD Tryd.f30
def iY (R : K1) (gH oQ Ii b9 vA : Q7) (w : Q6) : Prop :=
 (dr w) = (dr w) /\
 dQ pg (jJ gH) (dr w) fun m8 w_ => w_ = (dr w) /\
 dQ pg (fJ 47 m8 3) (dr w) fun m9 w_ => w_ = (dr w) /\
 dQ pg (fM 22 m9) (dr w) fun n0 w_ => w_ = (dr w) /\
 dQ pg (mC .len #[22] 3 [n0]) (dr w) fun n1 w_ => w_ = (dr w) /\
 (dr w) = (dr w) /\
 dQ pg (mC .len #[22] 3 [oQ]) (dr w) fun n3 w_ => w_ = (dr w) /\
 dQ pg (fD .add 3 fH fH n1 n3) (dr w) fun n4 w_ => w_ = (dr w) /\
 (dr w) = (dr w) /\
 dQ pg (jJ gH) (dr w) fun n6 w_ => w_ = (dr w) /\
 dQ pg (fJ 47 n6 2) (dr w) fun n7 w_ => w_ = (dr w) /\
 dQ pg (fM 3 n7) (dr w) fun n8 w_ => w_ = (dr w) /\
 dQ pg (fD .gtr 3 fH fH n4 n8) (dr w) fun n9 w_ => w_ = (dr w) /\
 kA n9
  (dQ pg (iB 80 []) (dr w) fun o0 w =>
  dQ pg (fQ 80 b9 o0) w fun _u w =>
  Fm pg 80 b9 w fun r1 => R (.tuple #[(.slice none 0 0), r1, (.bool false), (Q8 12)]) w)
  ((dr (dr w)) = (dr (dr w)) /\
  dQ pg (fM 80 Ii) (dr (dr w)) fun o2 w_ => w_ = (dr (dr w)) /\
  dQ pg (fJ 90 vA 0) (dr (dr w)) fun o3 w_ => w_ = (dr (dr w)) /\
  dQ pg (fM 4 o3) (dr (dr w)) fun o4 w_ => w_ = (dr (dr w)) /\
  (dr (dr w)) = (dr (dr w)) /\
  dQ pg (fQ 80 b9 o2) (dr (dr w)) fun _u5 FX =>
  (fE pg (fM 4 o3) o4 FX /\ fE pg (fJ 90 vA 0) o3 FX /\ True) /\
  FX = FX /\
  FX = FX /\
  Fm pg 80 b9 FX fun r1 => R (.tuple #[oQ, r1, o4, (Q8 0)]) FX)
theorem Ax (R : K1) (hr : HR jS R Q) (h : iY R (g 0) (g 1) (g 6) (g 9) (g 15) w) : gF pg jK (dX 2 (dX 9 jG)) Q g w :=
 jV (kn := no) (l := []) h kK hr trivial
def nQ (kn : K5) (R : K1) (gH oQ mE Ii b9 xY vA Kp : Q7) (w : Q6) : Prop :=
 fK pg jE #[gH, Kp] w fun i1 w =>
 dQ pg (hY i1 0) w fun i2 w =>
 dQ pg (hY i1 1) w fun i3 w =>
 dQ pg (fD .neq 26 (.tmp 54) (.const (Q8 0)) i3 (Q8 0)) w fun i5 w =>
 kA i5
  (dQ pg (iB 80 []) w fun i6 w =>
  dQ pg (fQ 80 b9 i6) w fun _u w =>
  Fm pg 80 b9 w fun r1 => R (.tuple #[(.slice none 0 0), r1, (.bool false), i3]) w)
  (dQ pg (fJ 90 vA 1) w fun i8 w =>
  dQ pg (fM 3 i8) w fun i9 w =>
  dQ pg (fD .eql 3 (.tmp 59) (.const (Q8 0)) i9 (Q8 0)) w fun l5 w =>
  kA l5
   (dQ pg (mC .append #[22, 22] 22 [oQ, i2]) w fun l8 w =>
   kn gH l8 Ii b9 vA w)
   (dQ pg (fD .eql 3 (.tmp 59) (.const (Q8 1)) i9 (Q8 1)) w fun m0 w =>
   kA m0
    (dQ pg (fJ 90 vA 2) w fun m3 w =>
    dQ pg (fM 3 m3) w fun m4 w =>
    fK pg lN #[i2, m4] w fun m5 w =>
    dQ pg (mC .append #[22, 22] 22 [oQ, m5]) w fun m6 w =>
    kn gH m6 Ii b9 vA w)
    (dQ pg (fM 80 Ii) w fun j3 w =>
    fK pg Gn #[i2, oQ, j3, mE, xY] w fun j6 w =>
    dQ pg (hY j6 0) w fun j7 w =>
    dQ pg (hY j6 1) w fun j8 w =>
    dQ pg (hY j6 2) w fun j9 w =>
    dQ pg (fQ 80 Ii j8) w fun _u w =>
    dQ pg (fD .neq 26 (.tmp 70) (.const (Q8 0)) j9 (Q8 0)) w fun l1 w =>
    kA l1
     (dQ pg (iB 80 []) w fun l2 w =>
     dQ pg (fQ 80 b9 l2) w fun _u w =>
     Fm pg 80 b9 w fun r1 => R (.tuple #[(.slice none 0 0), r1, (.bool false), j9]) w)
     (kn gH j7 Ii b9 vA w))))
theorem zT (kn : K5) (R : K1) (hn : N5 Q kn 0 1 6 9 15) (hr : HR jS R Q) (h : nQ kn R (g 0) (g 1) (g 3) (g 6) (g 9) (g 12) (g 15) (g 16) w) : gF pg jK (fI 2 (dX 9 jG)) Q g w :=
 jV (l := []) h hn hr trivial
def jR (R : K1) (gH oQ mE Ii b9 xY vA Kp : Q7) (w : Q6) : Prop :=
 nQ (fun gH oQ Ii b9 vA w => iY R gH oQ Ii b9 vA w) R gH oQ mE Ii b9 xY vA Kp w
def nS (kn : K8) (R : K1) (gH oQ Ph mE : Q7) (w : Q6) : Prop :=
 dQ pg (Iy 80 Ph) w fun Ii w =>
 dQ pg (lH 80) w fun b9 w =>
 dQ pg (mC .min #[40, 40] 40 [mE, (.int .u64 131072)]) w fun c8 w =>
 dQ pg (iO 40 3 c8) w fun c9 w =>
 fK pg jE #[gH, (Q8 3)] w fun d2 w =>
 dQ pg (hY d2 0) w fun d3 w =>
 dQ pg (hY d2 1) w fun d4 w =>
 dQ pg (fD .neq 26 (.tmp 25) (.const (Q8 0)) d4 (Q8 0)) w fun d6 w =>
 kA d6
  (dQ pg (iB 80 []) w fun d7 w =>
  dQ pg (fQ 80 b9 d7) w fun _u w =>
  Fm pg 80 b9 w fun r1 => R (.tuple #[(.slice none 0 0), r1, (.bool false), d4]) w)
  (fK pg oK #[d3] w fun e1 w =>
  dQ pg (hY e1 0) w fun e2 w =>
  dQ pg (hY e1 1) w fun e3 w =>
  dQ pg (lH 90) w fun vA w =>
  dQ pg (fQ 90 vA e2) w fun _u w =>
  dQ pg (fD .neq 26 (.tmp 34) (.const (Q8 0)) e3 (Q8 0)) w fun e5 w =>
  kA e5
   (dQ pg (iB 80 []) w fun e6 w =>
   dQ pg (fQ 80 b9 e6) w fun _u w =>
   Fm pg 80 b9 w fun r1 => R (.tuple #[(.slice none 0 0), r1, (.bool false), e3]) w)
   (dQ pg (fJ 90 vA 2) w fun e8 w =>
   dQ pg (fM 3 e8) w fun e9 w =>
   dQ pg (fD .gtr 3 fH fH e9 c9) w fun f1 w =>
   kA f1
    (dQ pg (iB 80 []) w fun f2 w =>
    dQ pg (fQ 80 b9 f2) w fun _u w =>
    Fm pg 80 b9 w fun r1 => R (.tuple #[(.slice none 0 0), r1, (.bool false), (Q8 12)]) w)
    (dQ pg (fJ 90 vA 2) w fun f3 w =>
    dQ pg (fM 3 f3) w fun f4 w =>
    dQ pg (fJ 90 vA 1) w fun f5 w =>
    dQ pg (fM 3 f5) w fun f6 w =>
    dQ pg (fD .eql 3 (.tmp 46) (.const (Q8 1)) f6 (Q8 1)) w fun f7 w =>
    kA f7
     (kn gH oQ mE Ii b9 c9 vA (Q8 1) w)
     (kn gH oQ mE Ii b9 c9 vA f4 w))))
theorem Al (kn : K8) (R : K1) (hn : N8 Q kn 0 1 3 6 9 12 15 16) (hr : HR jS R Q) (h : nS kn R (g 0) (g 1) (g 2) (g 3) w) : gF pg jK (fI 9 jG) Q g w :=
 jV (l := []) h hn hr trivial
def nO (R : K1) (gH oQ Ph mE : Q7) (w : Q6) : Prop :=
 nS (fun gH oQ mE Ii b9 xY vA Kp w => jR R gH oQ mE Ii b9 xY vA Kp w) R gH oQ Ph mE w
theorem zW (R : K1) (hr : HR jS R Q) (h : nO R (g 0) (g 1) (g 2) (g 3) w) : gF pg jK jG Q g w :=
 pE 9 (Al _ g w (jR R) R (fun g w h => fL (pE 2 (zT _ g w (iY R) R (fun g w h => fL (Ax _ g w R hr h)) hr h))) hr h)
def xV (a0 a1 a2 a3 : Q7) (w : Q6) (R : K1) : Prop :=
 nO R a0 a1 a2 a3 w
theorem AL {a0 a1 a2 a3 : Q7} {w : Q6} {R : K1} (h : xV a0 a1 a2 a3 w R) : fK pg lO #[a0, a1, a2, a3] w R := by
 refine AQ (ann := jK) Tryd.f30 jG [a0, a1, a2, a3] jS 105 TrydM.mixed Tryd.func30 ?_
 exact (zW _ _ _ R (fun _ _ h => h) h)
def rF : FA := ⟨jW, fun i => .leaf ([], []) []⟩
def sF : List ResultVar := [.tmp 4]
noncomputable def pX : Code := iD Tryd.f31
def mZ (R : K1) (gH oQ : Q7) (w : Q6) : Prop :=
 fK pg jE #[gH, (Q8 4)] w fun c0 w =>
 dQ pg (hY c0 0) w fun c1 w =>
 dQ pg (hY c0 1) w fun c2 w =>
 dQ pg (fD .neq 26 (.tmp 13) (.const (Q8 0)) c2 (Q8 0)) w fun c4 w =>
 kA c4
  (R c2 w)
  (fK pg iR #[c1] w fun c7 w =>
  fK pg fT #[c7, (Q8 4)] w fun c8 w =>
  fK pg Ci #[oQ] w fun d1 w =>
  dQ pg (fD .and 40 fH fH d1 (.int .u64 4294967295)) w fun d2 w =>
  dQ pg (fD .neq 40 (.tmp 19) (.tmp 22) c8 d2) w fun d3 w =>
  kA d3
   (R (Q8 13) w)
   (R (Q8 0) w))
theorem yJ (R : K1) (hr : HR sF R Q) (h : mZ R (g 0) (g 1) w) : gF pg rF pX Q g w :=
 jV (kn := no) (l := []) h kK hr trivial
def vV (a0 a1 : Q7) (w : Q6) (R : K1) : Prop :=
 mZ R a0 a1 w
theorem Ah {a0 a1 : Q7} {w : Q6} {R : K1} (h : vV a0 a1 w R) : fK pg jW #[a0, a1] w R := by
 refine AQ (ann := rF) Tryd.f31 pX [a0, a1] sF 24 TrydM.mixed Tryd.func31 ?_
 exact (yJ _ _ _ R (fun _ _ h => h) h)
def Ce : FA := ⟨wO, fun i => .leaf ([], []) []⟩
def Dl : List ResultVar := [.cell 4 58, .tmp 5]
noncomputable def BI : Code := iD Tryd.f32
def zK (R : K1) (BZ nR : Q7) (w : Q6) : Prop :=
 dQ pg (Iy 58 BZ) w fun uI w =>
 dQ pg (lH 58) w fun b4 w =>
 dQ pg (fJ 58 uI 1) w fun b7 w =>
 dQ pg (fM 26 b7) w fun b8 w =>
 dQ pg (fD .neq 26 (.tmp 8) (.const (Q8 0)) b8 (Q8 0)) w fun b9 w =>
 kA b9
  (dQ pg (fM 58 uI) w fun c0 w =>
  dQ pg (fQ 58 b4 c0) w fun _u w =>
  Fm pg 58 b4 w fun r0 => R (.tuple #[r0, (.string ⟨#[]⟩)]) w)
  (dQ pg (fD .lss 3 fH fH nR (Q8 0)) w fun c2 w =>
  kA c2
   (dQ pg (fJ 58 uI 1) w fun c3 w =>
   dQ pg (fQ 26 c3 (Q8 1)) w fun _u w =>
   dQ pg (fM 58 uI) w fun c4 w =>
   dQ pg (fQ 58 b4 c4) w fun _u w =>
   Fm pg 58 b4 w fun r0 => R (.tuple #[r0, (.string ⟨#[]⟩)]) w)
   (dQ pg (fJ 58 uI 0) w fun c6 w =>
   dQ pg (fM 9 c6) w fun c7 w =>
   dQ pg (mC .len #[9] 3 [c7]) w fun c8 w =>
   dQ pg (fD .gtr 3 fH fH nR c8) w fun c9 w =>
   kA c9
    (dQ pg (fJ 58 uI 1) w fun d0 w =>
    dQ pg (fQ 26 d0 (Q8 10)) w fun _u w =>
    dQ pg (fM 58 uI) w fun d1 w =>
    dQ pg (fQ 58 b4 d1) w fun _u w =>
    Fm pg 58 b4 w fun r0 => R (.tuple #[r0, (.string ⟨#[]⟩)]) w)
    (dQ pg (fJ 58 uI 0) w fun d2 w =>
    dQ pg (fM 9 d2) w fun d3 w =>
    dQ pg (hE 9 d3 none (some nR) none) w fun d5 w =>
    dQ pg (fJ 58 uI 0) w fun d6 w =>
    dQ pg (fM 9 d6) w fun d7 w =>
    dQ pg (hE 9 d7 (some nR) none none) w fun d9 w =>
    dQ pg (fJ 58 uI 0) w fun e0 w =>
    dQ pg (fQ 9 e0 d9) w fun _u w =>
    dQ pg (fM 58 uI) w fun e1 w =>
    dQ pg (fQ 58 b4 e1) w fun _u w =>
    Fm pg 58 b4 w fun r0 => R (.tuple #[r0, d5]) w)))
theorem Fi (R : K1) (hr : HR Dl R Q) (h : zK R (g 0) (g 1) w) : gF pg Ce BI Q g w :=
 jV (kn := no) (l := []) h kK hr trivial
def GZ (a0 a1 : Q7) (w : Q6) (R : K1) : Prop :=
 zK R a0 a1 w
theorem Gh {a0 a1 : Q7} {w : Q6} {R : K1} (h : GZ a0 a1 w R) : fK pg wO #[a0, a1] w R := by
 refine AQ (ann := Ce) Tryd.f32 BI [a0, a1] Dl 33 TrydM.mixed Tryd.func32 ?_
 exact (Fi _ _ _ R (fun _ _ h => h) h)
def AH : FA := ⟨rZ, fun i => .leaf ([], []) []⟩
def BU : List ResultVar := [.tmp 2]
noncomputable def yT : Code := iD Tryd.f33
def uX (R : K1) (Pt : Q7) (w : Q6) : Prop :=
 dQ pg (fD .shr 40 fH fH Pt (.int .u64 3)) w fun b5 w =>
 dQ pg (fD .add 40 fH fH (.int .u64 10) b5) w fun b6 w =>
 dQ pg (fD .shl 40 fH fH (.int .u64 1) b6) w fun b7 w =>
 dQ pg (fD .quo 40 fH fH b7 (.int .u64 8)) w fun c0 w =>
 dQ pg (fD .and 40 fH fH Pt (.int .u64 7)) w fun c2 w =>
 dQ pg (fD .mul 40 fH fH c0 c2) w fun c3 w =>
 dQ pg (fD .add 40 fH fH b7 c3) w fun c4 w =>
 R c4 w
theorem D2 (R : K1) (hr : HR BU R Q) (h : uX R (g 0) w) : gF pg AH yT Q g w :=
 jV (kn := no) (l := []) h kK hr trivial
def EJ (a0 : Q7) (w : Q6) (R : K1) : Prop :=
 uX R a0 w
theorem Eb {a0 : Q7} {w : Q6} {R : K1} (h : EJ a0 w R) : fK pg rZ #[a0] w R := by
 refine AQ (ann := AH) Tryd.f33 yT [a0] BU 15 TrydM.mixed Tryd.func33 ?_
 exact (D2 _ _ _ R (fun _ _ h => h) h)
def rQ : FA := ⟨jE, fun i => .leaf ([], []) []⟩
def sY : List ResultVar := [.tmp 4, .tmp 5]
noncomputable def rK : Code := iD Tryd.f34
def nU (R : K1) (gH nR : Q7) (w : Q6) : Prop :=
 dQ pg (jJ gH) w fun b8 w =>
 dQ pg (fJ 47 b8 0) w fun b9 w =>
 dQ pg (fM 45 b9) w fun c0 w =>
 fK pg iF #[c0] w fun c1 w =>
 dQ pg (fD .gtr 3 fH fH nR c1) w fun c2 w =>
 kA c2
  (R (.tuple #[(.slice none 0 0), (Q8 10)]) w)
  (dQ pg (jJ gH) w fun c4 w =>
  dQ pg (fJ 47 c4 0) w fun c5 w =>
  dQ pg (fM 45 c5) w fun c6 w =>
  fK pg iX #[c6, nR] w fun c8 w =>
  R (.tuple #[c8, (Q8 0)]) w)
theorem zH (R : K1) (hr : HR sY R Q) (h : nU R (g 0) (g 1) w) : gF pg rQ rK Q g w :=
 jV (kn := no) (l := []) h kK hr trivial
def wX (a0 a1 : Q7) (w : Q6) (R : K1) : Prop :=
 nU R a0 a1 w
theorem AO {a0 a1 : Q7} {w : Q6} {R : K1} (h : wX a0 a1 w R) : fK pg jE #[a0, a1] w R := by
 refine AQ (ann := rQ) Tryd.f34 rK [a0, a1] sY 19 TrydM.mixed Tryd.func34 ?_
 exact (zH _ _ _ R (fun _ _ h => h) h)
def vW : FA := ⟨oK, fun i => .leaf ([], []) []⟩
def xX : List ResultVar := [.cell 2 90, .tmp 3]
noncomputable def uG : Code := iD Tryd.f35
def qP (R : K1) (hJ : Q7) (w : Q6) : Prop :=
 dQ pg (lH 90) w fun b2 w =>
 fK pg iR #[hJ] w fun b7 w =>
 fK pg fT #[b7, (Q8 3)] w fun b9 w =>
 dQ pg (iO 40 3 b9) w fun c0 w =>
 fK pg gP #[b7] w fun c3 w =>
 dQ pg (fD .neq 26 (.tmp 13) (.const (Q8 0)) c3 (Q8 0)) w fun c4 w =>
 kA c4
  (dQ pg (iB 90 []) w fun c5 w =>
  fK pg gP #[b7] w fun c7 w =>
  dQ pg (fQ 90 b2 c5) w fun _u w =>
  Fm pg 90 b2 w fun r0 => R (.tuple #[r0, c7]) w)
  (dQ pg (fD .shr 3 fH fH c0 (.int .u64 1)) w fun d0 w =>
  dQ pg (fD .and 3 fH fH d0 (Q8 3)) w fun d1 w =>
  dQ pg (fD .gtr 3 fH fH d1 (Q8 2)) w fun d2 w =>
  kA d2
   (dQ pg (iB 90 []) w fun d3 w =>
   dQ pg (fQ 90 b2 d3) w fun _u w =>
   Fm pg 90 b2 w fun r0 => R (.tuple #[r0, (Q8 11)]) w)
   (dQ pg (fD .and 3 fH fH c0 (Q8 1)) w fun d5 w =>
   dQ pg (fD .eql 3 (.tmp 25) (.const (Q8 1)) d5 (Q8 1)) w fun d6 w =>
   dQ pg (fD .shr 3 fH fH c0 (.int .u64 1)) w fun d8 w =>
   dQ pg (fD .and 3 fH fH d8 (Q8 3)) w fun d9 w =>
   dQ pg (fD .shr 3 fH fH c0 (.int .u64 3)) w fun e1 w =>
   dQ pg (iB 90 [(0, d6), (1, d9), (2, e1)]) w fun e2 w =>
   dQ pg (fQ 90 b2 e2) w fun _u w =>
   Fm pg 90 b2 w fun r0 => R (.tuple #[r0, (Q8 0)]) w))
theorem B6 (R : K1) (hr : HR xX R Q) (h : qP R (g 0) w) : gF pg vW uG Q g w :=
 jV (kn := no) (l := []) h kK hr trivial
def BT (a0 : Q7) (w : Q6) (R : K1) : Prop :=
 qP R a0 w
theorem Cz {a0 : Q7} {w : Q6} {R : K1} (h : BT a0 w R) : fK pg oK #[a0] w R := by
 refine AQ (ann := vW) Tryd.f35 uG [a0] xX 33 TrydM.mixed Tryd.func35 ?_
 exact (B6 _ _ _ R (fun _ _ h => h) h)
def gU : FA := ⟨lN, fun i => match Nat.beq i 9 with | true => .leaf ([7], []) [(false, []), (false, []), (false, []), (false, []), (false, []), (false, []), (false, []), (true, []), (false, []), (false, [])] | false => .leaf ([], []) []⟩
def nV : List ResultVar := [.tmp 4]
noncomputable def gR : Code := iD Tryd.f36
def lA (R : K1) (hU : Q7) (w : Q6) : Prop :=
 R hU w
theorem zX (R : K1) (hr : HR nV R Q) (h : lA R (g 7) w) : gF pg gU (dX 1 (dX 2 (dX 2 (dX 2 gR)))) Q g w :=
 jV (kn := no) (l := []) h kK hr trivial
def lB (kn : K2) (k0 : K1) (hU H3 : Q7) (w : Q6) : Prop :=
 dQ pg (mC .len #[22] 3 [hU]) w fun e6 w =>
 dQ pg (fD .lss 3 fH fH H3 e6) w fun e7 w =>
 kA e7
  ((dr w) = (dr w) /\
  (dr w) = (dr w) /\
  (dr w) = (dr w) /\
  dQ pg (hE 22 hU (some H3) none none) (dr w) fun f1 w_ => w_ = (dr w) /\
  (dr w) = (dr w) /\
  (dr w) = (dr w) /\
  dQ pg (hE 22 hU none (some H3) none) (dr w) fun f4 w_ => w_ = (dr w) /\
  dQ pg (mC .copy #[22, 22] 3 [f1, f4]) (dr w) fun f5 MB =>
  dQ pg (fD .add 3 fH fH H3 f5) MB fun f6 w_ => w_ = MB /\
  MB = MB /\
  kn hU f6 MB)
  (k0 hU w)
theorem zN (kn : K2) (k0 : K1) (hn : N2 Q kn 7 8) (h0 : E1 Q k0 0 7) (h : lB kn k0 (g 7) (g 8) w) : gF pg gU (bI (bI (fI 1 (dX 2 (dX 2 (dX 2 gR)))))) Q g w :=
 jV (kr := no) (l := [(0, fun g w => k0 (g 7) w)]) h hn kK ⟨h0, trivial⟩
def nZ (k0 : K1) (hU H3 : Q7) (w : Q6) : Prop :=
 iG (fun (X : Q7 -> K0) (t : Q7) (w : Q6) => lB (fun _ H3 w => X H3 w) k0 hU t w) H3 w
theorem zY (k0 : K1) (h0 : E1 Q k0 0 7) (h : nZ k0 (g 7) (g 8) w) : gF pg gU (bI (fI 1 (dX 2 (dX 2 (dX 2 gR))))) Q g w := by
 refine Ix (fun g : Env => g 8) (fun X t w => lB (fun _ H3 w => X H3 w) k0 (g 7) t w) h (fun X g1 w1 ha hL => ?_)
 rw [<- CS 7 ha] at hL
 exact (zN _ g1 w1 (fun _ H3 w => X H3 w) k0 (fun _ _ h => h) h0 hL)
def nN (kn : K1) (hU H3 : Q7) (w : Q6) : Prop :=
 nZ kn hU H3 w
def lG (R : K1) (hU H3 : Q7) (w : Q6) : Prop :=
 nN (fun hU w => lA R hU w) hU H3 w
theorem Aj (kn : K1) (hn : N1 Q kn 7) (h : nN kn (g 7) (g 8) w) : gF pg gU (fI 1 (dX 2 (dX 2 (dX 2 gR)))) Q g w :=
 G1 0 (zY _ g w kn hn h)
def oA (kn : K2) (pT J5 : Q7) (w : Q6) : Prop :=
 dQ pg (iO 35 3 J5) w fun d9 w =>
 dQ pg (Cf 22 d9 d9) w fun e0 w =>
 dQ pg (mC .copy #[22, 22] 3 [e0, pT]) w fun e3 w =>
 kn e0 e3 w
theorem Am (kn : K2) (hn : N2 Q kn 7 8) (h : oA kn (g 0) (g 6) w) : gF pg gU (fI 2 (dX 2 (dX 2 gR))) Q g w :=
 jV (kr := no) (l := []) h hn kK trivial
def nT (R : K1) (pT J5 : Q7) (w : Q6) : Prop :=
 oA (fun hU H3 w => lG R hU H3 w) pT J5 w
def nX (kn : K2) (pT pJ : Q7) (w : Q6) : Prop :=
 dQ pg (mC .len #[22] 3 [pT]) w fun c4 w =>
 dQ pg (iO 3 35 c4) w fun c5 w =>
 dQ pg (iO 3 35 pJ) w fun c7 w =>
 fK pg qH #[c5, c7] w fun c8 w =>
 dQ pg (hY c8 0) w fun c9 w =>
 dQ pg (hY c8 1) w fun d0 w =>
 dQ pg (fD .gtr 35 fH fH c9 (.int .u64 0)) w fun d2 w =>
 Gd (lT d2 false) (fun K => K d0 w) w fun d4 w =>
 Gd (lT d2 false) (fun K => dQ pg (fD .gtr 35 fH fH d4 (.int .u64 9223372036854775807)) w K) w fun d5 w =>
 dQ pg (nI d2 (.bool true) d5) w fun d6 w =>
 kA d6
  (dQ pg (Mz 9 (.string ⟨#[116, 104, 101, 32, 114, 101, 115, 117, 108, 116, 32, 111, 102, 32, 40, 108, 101, 110, 40, 120, 41, 32, 42, 32, 99, 111, 117, 110, 116, 41, 32, 111, 118, 101, 114, 102, 108, 111, 119, 115]⟩)) w fun d7 w =>
  dQ pg (V (Instr.panic d7)) w fun _u w =>
  kn pT d0 w)
  (kn pT d0 w)
theorem zS (kn : K2) (hn : N2 Q kn 0 6) (h : nX kn (g 0) (g 1) w) : gF pg gU (fI 2 (dX 2 gR)) Q g w :=
 jV (kr := no) (l := []) h hn kK trivial
def nY (R : K1) (pT pJ : Q7) (w : Q6) : Prop :=
 nX (fun pT J5 w => nT R pT J5 w) pT pJ w
def mU (kn : K2) (pT pJ : Q7) (w : Q6) : Prop :=
 dQ pg (fD .lss 3 fH fH pJ (Q8 0)) w fun c0 w =>
 kA c0
  (dQ pg (Mz 9 (.string ⟨#[99, 97, 110, 110, 111, 116, 32, 98, 101, 32, 110, 101, 103, 97, 116, 105, 118, 101]⟩)) w fun c1 w =>
  dQ pg (V (Instr.panic c1)) w fun _u w =>
  kn pT pJ w)
  (kn pT pJ w)
theorem yK (kn : K2) (hn : N2 Q kn 0 1) (h : mU kn (g 0) (g 1) w) : gF pg gU (fI 2 gR) Q g w :=
 jV (kr := no) (l := []) h hn kK trivial
def mQ (R : K1) (pT pJ : Q7) (w : Q6) : Prop :=
 mU (fun pT pJ w => nY R pT pJ w) pT pJ w
theorem yM (R : K1) (hr : HR nV R Q) (h : mQ R (g 0) (g 1) w) : gF pg gU gR Q g w :=
 pE 2 (yK _ g w (nY R) (fun g w h => fL (pE 2 (zS _ g w (nT R) (fun g w h => fL (pE 2 (Am _ g w (lG R) (fun g w h => fL (pE 1 (Aj _ g w (lA R) (fun g w h => fL (zX _ g w R hr h)) h))) h))) h))) h)
def yF (a0 a1 : Q7) (w : Q6) (R : K1) : Prop :=
 mQ R a0 a1 w
theorem AE {a0 a1 : Q7} {w : Q6} {R : K1} (h : yF a0 a1 w R) : fK pg lN #[a0, a1] w R := by
 refine AQ (ann := gU) Tryd.f36 gR [a0, a1] nV 48 TrydM.mixed Tryd.func36 ?_
 exact (yM _ _ _ R (fun _ _ h => h) h)
def G2 : FA := ⟨Ci, fun i => .leaf ([], []) []⟩
def Il : List ResultVar := [.tmp 2]
noncomputable def FN : Code := iD Tryd.f38
def Fb (R : K1) (hJ : Q7) (w : Q6) : Prop :=
 fK pg CV #[] w fun b4 w =>
 fK pg pK #[b4, hJ] w fun b7 w =>
 fK pg rU #[b4] w fun b9 w =>
 R b9 w
theorem Iz (R : K1) (hr : HR Il R Q) (h : Fb R (g 0) w) : gF pg G2 FN Q g w :=
 jV (kn := no) (l := []) h kK hr trivial
def LN (a0 : Q7) (w : Q6) (R : K1) : Prop :=
 Fb R a0 w
theorem IZ {a0 : Q7} {w : Q6} {R : K1} (h : LN a0 w R) : fK pg Ci #[a0] w R := by
 refine AQ (ann := G2) Tryd.f38 FN [a0] Il 10 TrydM.mixed Tryd.func38 ?_
 exact (Iz _ _ _ R (fun _ _ h => h) h)
def zF : FA := ⟨qH, fun i => .leaf ([], []) []⟩
def AB : List ResultVar := [.tmp 4, .tmp 5]
noncomputable def xT : Code := iD Tryd.f39
def tH (R : K1) (pT OF : Q7) (w : Q6) : Prop :=
 kA (.bool false)
  (dQ pg (iO 35 70 pT) w fun c2 w =>
  dQ pg (iO 35 70 OF) w fun c4 w =>
  fK pg Ea #[c2, c4] w fun c5 w =>
  dQ pg (hY c5 0) w fun c6 w =>
  dQ pg (hY c5 1) w fun c7 w =>
  dQ pg (iO 70 35 c6) w fun c9 w =>
  dQ pg (iO 70 35 c7) w fun d1 w =>
  R (.tuple #[c9, d1]) w)
  (fK pg oL #[pT, OF] w fun d5 w =>
  dQ pg (hY d5 0) w fun d6 w =>
  dQ pg (hY d5 1) w fun d7 w =>
  R (.tuple #[d6, d7]) w)
theorem CX (R : K1) (hr : HR AB R Q) (h : tH R (g 0) (g 1) w) : gF pg zF xT Q g w :=
 jV (kn := no) (l := []) h kK hr trivial
def Df (a0 a1 : Q7) (w : Q6) (R : K1) : Prop :=
 tH R a0 a1 w
theorem DN {a0 a1 : Q7} {w : Q6} {R : K1} (h : Df a0 a1 w R) : fK pg qH #[a0, a1] w R := by
 refine AQ (ann := zF) Tryd.f39 xT [a0, a1] AB 30 TrydM.mixed Tryd.func39 ?_
 exact (CX _ _ _ R (fun _ _ h => h) h)
def F9 : FA := ⟨CV, fun i => .leaf ([], []) []⟩
def Hm : List ResultVar := [.tmp 0]
noncomputable def Ec : Code := iD Tryd.f43
def DE (R : K1)  (w : Q6) : Prop :=
 dQ pg (fD .add 40 fH fH (.int .u64 11400714785074694791) (.int .u64 14029467366897019727)) w fun b3 w =>
 dQ pg (Mi .neg (.int .u64 11400714785074694791)) w fun b5 w =>
 dQ pg (iB 49 [(0, b3), (1, (.int .u64 14029467366897019727)), (2, (.int .u64 0)), (3, b5)]) w fun b6 w =>
 dQ pg (iB 138 [(0, b6)]) w fun b7 w =>
 dQ pg (Iy 138 b7) w fun b8 w =>
 R b8 w
theorem HG (R : K1) (hr : HR Hm R Q) (h : DE R w) : gF pg F9 Ec Q g w :=
 jV (kn := no) (l := []) h kK hr trivial
def KK (w : Q6) (R : K1) : Prop :=
 DE R w
theorem Iu {w : Q6} {R : K1} (h : KK w R) : fK pg CV #[] w R := by
 refine AQ (ann := F9) Tryd.f43 Ec [] Hm 9 TrydM.mixed Tryd.func43 ?_
 exact (HG _ _ _ R (fun _ _ h => h) h)
def gN : FA := ⟨pK, fun i => match Nat.beq i 3 with | true => .leaf ([9], []) [(false, []), (false, []), (false, []), (false, []), (false, []), (false, []), (false, []), (false, []), (false, []), (true, []), (false, [])] | false => match Nat.beq i 10 with | true => .leaf ([17, 18, 22], [(4, 17), (5, 17), (6, 17), (7, 17), (17, 19), (17, 20), (18, 19), (18, 20)]) [(false, []), (false, []), (false, []), (false, []), (false, []), (false, []), (false, []), (false, []), (false, []), (false, []), (false, []), (false, []), (false, []), (false, []), (false, []), (false, []), (false, []), (true, [9, 10, 11, 12]), (true, []), (false, [0, 1]), (false, [1, 2]), (false, []), (true, [])] | false => .leaf ([], []) []⟩
def sB : List ResultVar := []
noncomputable def gG : Code := iD Tryd.f44
def kI (kn : K2) (jM pU : Q7) (w : Q6) : Prop :=
 dQ pg (jJ jM) w fun l4 w =>
 dQ pg (fJ 138 l4 2) w fun l5 w =>
 dQ pg (fQ 3 l5 (Q8 0)) w fun _u w =>
 kn jM pU w
theorem CH (kn : K2) (hn : N2 Q kn 0 1) (h : kI kn (g 0) (g 1) w) : gF pg gN (dX 1 (cT (dX 4 (bI (dX 1 (bI (bI (dX 2 gG)))))))) Q g w :=
 jV (kr := no) (l := []) h hn kK trivial
def lM (kn : K3) (k2 : K2) (jM pU f7 : Q7) (w : Q6) : Prop :=
 dQ pg (fD .lss 3 fH fH f7 (Q8 4)) w fun f8 w =>
 kA f8
  ((dr w) = (dr w) /\
  (dr w) = (dr w) /\
  (dr w) = (dr w) /\
  (dr w) = (dr w) /\
  dQ pg (jJ jM) (dr w) fun i4 w_ => w_ = (dr w) /\
  dQ pg (fJ 138 i4 0) (dr w) fun i5 w_ => w_ = (dr w) /\
  dQ pg (iW 49 i5 f7) (dr w) fun i6 w_ => w_ = (dr w) /\
  dQ pg (fM 40 i6) (dr w) fun i7 w_ => w_ = (dr w) /\
  (dr w) = (dr w) /\
  dQ pg (jJ jM) (dr w) fun i9 w_ => w_ = (dr w) /\
  dQ pg (fJ 138 i9 1) (dr w) fun j0 w_ => w_ = (dr w) /\
  (dr w) = (dr w) /\
  dQ pg (fD .mul 3 fH fH (Q8 8) f7) (dr w) fun j2 w_ => w_ = (dr w) /\
  (dr w) = (dr w) /\
  dQ pg (fD .mul 3 fH fH (Q8 8) f7) (dr w) fun j4 w_ => w_ = (dr w) /\
  dQ pg (fD .add 3 fH fH j4 (Q8 8)) (dr w) fun j5 w_ => w_ = (dr w) /\
  dQ pg (hE 136 j0 (some j2) (some j5) none) (dr w) fun j6 w_ => w_ = (dr w) /\
  fK pg pG #[j6] (dr w) fun j7 DQ =>
  (fE pg (fM 40 i6) i7 DQ /\ fE pg (iW 49 i5 f7) i6 DQ /\ fE pg (fJ 138 i4 0) i5 DQ /\ fE pg (jJ jM) i4 DQ /\ True) /\
  fK pg rH #[i7, j7] DQ fun j8 DP =>
  dQ pg (jJ jM) DP fun j9 w_ => w_ = DP /\
  (fE pg (jJ jM) j9 DQ /\ fE pg (jJ jM) j9 (dr w) /\ True) /\
  dQ pg (fJ 138 j9 0) DP fun l0 w_ => w_ = DP /\
  (fE pg (fJ 138 j9 0) l0 DQ /\ fE pg (fJ 138 j9 0) l0 (dr w) /\ True) /\
  dQ pg (iW 49 l0 f7) DP fun l1 w_ => w_ = DP /\
  dQ pg (fQ 40 l1 j8) DP fun _u22 Ot =>
  dQ pg (fD .add 3 fH fH f7 (Q8 1)) Ot fun l2 w =>
  kn jM pU l2 w)
  (k2 jM pU w)
theorem Cu (kn : K3) (k2 : K2) (hn : N3 Q kn 0 1 47) (h2 : E2 Q k2 2 0 1) (h : lM kn k2 (g 0) (g 1) (g 47) w) : gF pg gN (bI (bI (dX 1 (fI 1 (cT (dX 4 (bI (dX 1 (bI (bI (dX 2 gG))))))))))) Q g w :=
 jV (kr := no) (l := [(2, fun g w => k2 (g 0) (g 1) w)]) h hn kK ⟨h2, trivial⟩
def rR (k2 : K2) (jM pU f7 : Q7) (w : Q6) : Prop :=
 iG (fun (X : Q7 -> K0) (t : Q7) (w : Q6) => lM (fun _ _ f7 w => X f7 w) k2 jM pU t w) f7 w
theorem Cv (k2 : K2) (h2 : E2 Q k2 2 0 1) (h : rR k2 (g 0) (g 1) (g 47) w) : gF pg gN (bI (dX 1 (fI 1 (cT (dX 4 (bI (dX 1 (bI (bI (dX 2 gG)))))))))) Q g w := by
 refine Ix (fun g : Env => g 47) (fun X t w => lM (fun _ _ f7 w => X f7 w) k2 (g 0) (g 1) t w) h (fun X g1 w1 ha hL => ?_)
 rw [<- CS 0 ha, <- CS 1 ha] at hL
 exact (Cu _ g1 w1 (fun _ _ f7 w => X f7 w) k2 (fun _ _ h => h) h2 hL)
def sJ (kn : K2) (jM pU f7 : Q7) (w : Q6) : Prop :=
 rR kn jM pU f7 w
def rS (kn : K3) (jM pU : Q7) (w : Q6) : Prop :=
 kn jM pU (Q8 0) w
theorem Cp (kn : K3) (hn : N3 Q kn 0 1 47) (h : rS kn (g 0) (g 1) w) : gF pg gN (fI 1 (fI 1 (cT (dX 4 (bI (dX 1 (bI (bI (dX 2 gG))))))))) Q g w :=
 jV (kr := no) (l := []) h hn kK trivial
def oE (kn : K2) (jM pU : Q7) (w : Q6) : Prop :=
 rS (fun jM pU f7 w => sJ kn jM pU f7 w) jM pU w
def oI (kn : K2) (jM pU : Q7) (w : Q6) : Prop :=
 oE (fun jM pU w => kI kn jM pU w) jM pU w
theorem Cr (kn : K2) (hn : N2 Q kn 0 1) (h : oE kn (g 0) (g 1) w) : gF pg gN (fI 1 (cT (dX 4 (bI (dX 1 (bI (bI (dX 2 gG)))))))) Q g w :=
 pE 1 (Cp _ g w (sJ kn) (fun g w h => fL (G1 2 (Cv _ g w kn hn h))) h)
def lP (kn : K2) (jM pU : Q7) (w : Q6) : Prop :=
 kn jM pU w
theorem CD (kn : K2) (hn : N2 Q kn 0 1) (h : lP kn (g 0) (g 1) w) : gF pg gN (cE (dX 4 (bI (dX 1 (bI (bI (dX 2 gG))))))) Q g w :=
 jV (kr := no) (l := []) h hn kK trivial
def lS (kn : K2) (jM pU f6 : Q7) (w : Q6) : Prop :=
 kA f6 (oI kn jM pU w) (lP kn jM pU w)
def kT (kn : K3) (jM pU : Q7) (w : Q6) : Prop :=
 (dr w) = (dr w) /\
 dQ pg (jJ jM) (dr w) fun d2 w_ => w_ = (dr w) /\
 dQ pg (fJ 138 d2 1) (dr w) fun d3 w_ => w_ = (dr w) /\
 (dr w) = (dr w) /\
 dQ pg (jJ jM) (dr w) fun d5 w_ => w_ = (dr w) /\
 dQ pg (fJ 138 d5 2) (dr w) fun d6 w_ => w_ = (dr w) /\
 dQ pg (fM 3 d6) (dr w) fun d7 w_ => w_ = (dr w) /\
 dQ pg (hE 136 d3 (some d7) none none) (dr w) fun d8 w_ => w_ = (dr w) /\
 (dr w) = (dr w) /\
 dQ pg (mC .copy #[22, 22] 3 [d8, pU]) (dr w) fun e0 Oz =>
 Oz = Oz /\
 dQ pg (jJ jM) Oz fun e2 w =>
 dQ pg (fJ 138 e2 2) w fun e3 w =>
 dQ pg (fM 3 e3) w fun e4 w =>
 dQ pg (fD .add 3 fH fH e4 e0) w fun e6 w =>
 dQ pg (jJ jM) w fun e7 w =>
 dQ pg (fJ 138 e7 2) w fun e8 w =>
 dQ pg (fQ 3 e8 e6) w fun _u w =>
 dQ pg (hE 22 pU (some e0) none none) w fun f1 w =>
 dQ pg (jJ jM) w fun f3 w =>
 dQ pg (fJ 138 f3 2) w fun f4 w =>
 dQ pg (fM 3 f4) w fun f5 w =>
 dQ pg (fD .eql 3 (.tmp 45) (.const (Q8 32)) f5 (Q8 32)) w fun f6 w =>
 kn jM f1 f6 w
theorem B5 (kn : K3) (hn : N3 Q kn 0 1 46) (h : kT kn (g 0) (g 1) w) : gF pg gN (fI 4 (bI (dX 1 (bI (bI (dX 2 gG)))))) Q g w :=
 jV (kr := no) (l := []) h hn kK trivial
def mS (kn : K2) (jM pU : Q7) (w : Q6) : Prop :=
 kT (fun jM pU f6 w => lS kn jM pU f6 w) jM pU w
def kX (kn : K2) (jM pU : Q7) (w : Q6) : Prop :=
 mS kn jM pU w
def kW (kn : K2) (k0 : K0) (jM pU : Q7) (w : Q6) : Prop :=
 dQ pg (mC .len #[22] 3 [pU]) w fun c9 w =>
 dQ pg (fD .gtr 3 fH fH c9 (Q8 0)) w fun d0 w =>
 kA d0
  (kn jM pU w)
  (k0 w)
theorem Cc (kn : K2) (k0 : K0) (hn : N2 Q kn 0 1) (h0 : E0 Q k0 0) (h : kW kn k0 (g 0) (g 1) w) : gF pg gN (fI 1 (bI (bI (dX 2 gG)))) Q g w :=
 jV (kr := no) (l := [(0, fun g w => k0 w)]) h hn kK ⟨h0, trivial⟩
def jX (kn : K2) (k0 : K0) (jM pU : Q7) (w : Q6) : Prop :=
 kW (fun jM pU w => kX kn jM pU w) k0 jM pU w
def mY (k0 : K0) (jM pU : Q7) (w : Q6) : Prop :=
 iG (fun (X : Q7 -> K0) (t : Q7) (w : Q6) => jX (fun _ pU w => X pU w) k0 jM t w) pU w
theorem B7 (kn : K2) (k0 : K0) (hn : N2 Q kn 0 1) (h0 : E0 Q k0 0) (h : jX kn k0 (g 0) (g 1) w) : gF pg gN (bI (bI (dX 2 gG))) Q g w :=
 pE 1 (Cc _ g w (kX kn) k0 (fun g w h => fL (G1 1 (pE 4 (B5 _ g w (lS kn) (fun g w h => fL (Pq (.tmp 46) (fun h => (pE 1 (Cr _ g w (kI kn) (fun g w h => fL (CH _ g w kn hn h)) h))) (fun h => (CD _ g w kn hn h)) h)) h)))) h0 h)
theorem B3 (k0 : K0) (h0 : E0 Q k0 0) (h : mY k0 (g 0) (g 1) w) : gF pg gN (bI (dX 2 gG)) Q g w := by
 refine Ix (fun g : Env => g 1) (fun X t w => jX (fun _ pU w => X pU w) k0 (g 0) t w) h (fun X g1 w1 ha hL => ?_)
 rw [<- CS 0 ha] at hL
 exact (B7 _ g1 w1 (fun _ pU w => X pU w) k0 (fun _ _ h => h) h0 hL)
def qX (kn : K0) (jM pU : Q7) (w : Q6) : Prop :=
 mY kn jM pU w
def qS (kn : K2) (R : K1) (jM pU : Q7) (w : Q6) : Prop :=
 dQ pg (fD .eql 106 (.tmp 6) (.const (.pointer none)) jM (.pointer none)) w fun b7 w =>
 kA b7
  (R (.tuple #[]) w)
  (dQ pg (jJ jM) w fun b9 w =>
  dQ pg (fJ 138 b9 3) w fun c0 w =>
  dQ pg (fM 40 c0) w fun c1 w =>
  dQ pg (mC .len #[22] 3 [pU]) w fun c3 w =>
  dQ pg (iO 3 40 c3) w fun c4 w =>
  dQ pg (fD .add 40 fH fH c1 c4) w fun c5 w =>
  dQ pg (jJ jM) w fun c6 w =>
  dQ pg (fJ 138 c6 3) w fun c7 w =>
  dQ pg (fQ 40 c7 c5) w fun _u w =>
  kn jM pU w)
theorem Cb (kn : K2) (R : K1) (hn : N2 Q kn 0 1) (hr : HR sB R Q) (h : qS kn R (g 0) (g 1) w) : gF pg gN (fI 2 gG) Q g w :=
 jV (l := []) h hn hr trivial
def qR (kn : K0) (R : K1) (jM pU : Q7) (w : Q6) : Prop :=
 qS (fun jM pU w => qX kn jM pU w) R jM pU w
theorem BW (kn : K0) (R : K1) (hn : N0 Q kn) (hr : HR sB R Q) (h : qR kn R (g 0) (g 1) w) : gF pg gN gG Q g w :=
 pE 2 (Cb _ g w (qX kn) R (fun g w h => fL (G1 0 (B3 _ g w kn hn h))) hr h)
def CN (a0 a1 : Q7) (w : Q6) (R : K1) : Prop :=
 qR (fun  w => R (.tuple #[]) w) R a0 a1 w
theorem C6 {a0 a1 : Q7} {w : Q6} {R : K1} (h : CN a0 a1 w R) : fK pg pK #[a0, a1] w R := by
 refine AQ (ann := gN) Tryd.f44 gG [a0, a1] sB 76 TrydM.mixed Tryd.func44 ?_
 exact (BW _ _ _ (fun  w => R (.tuple #[]) w) R (fun _ _ h => h) (fun _ _ h => h) h)
def hG : FA := ⟨rU, fun i => match Nat.beq i 3 with | true => .leaf ([1], [(1, 3), (1, 4), (1, 5)]) [(false, []), (true, []), (false, []), (false, [1]), (false, [2]), (false, [3]), (false, []), (false, [])] | false => match Nat.beq i 4 with | true => .leaf ([], []) [(false, []), (false, []), (false, []), (false, []), (false, []), (false, []), (false, []), (false, []), (false, [])] | false => .leaf ([], []) []⟩
def qO : List ResultVar := [.tmp 2]
noncomputable def gY : Code := iD Tryd.f45
def qG (R : K1) (iI : Q7) (w : Q6) : Prop :=
 dQ pg (fD .shr 40 fH fH iI (.int .u64 33)) w fun j9 w =>
 dQ pg (fD .xor 40 fH fH iI j9) w fun l0 w =>
 dQ pg (fD .mul 40 fH fH l0 (.int .u64 14029467366897019727)) w fun l1 w =>
 dQ pg (fD .shr 40 fH fH l1 (.int .u64 29)) w fun l4 w =>
 dQ pg (fD .xor 40 fH fH l1 l4) w fun l5 w =>
 dQ pg (fD .mul 40 fH fH l5 (.int .u64 1609587929392839161)) w fun l6 w =>
 dQ pg (fD .shr 40 fH fH l6 (.int .u64 32)) w fun l9 w =>
 dQ pg (fD .xor 40 fH fH l6 l9) w fun m0 w =>
 R m0 w
theorem D3 (R : K1) (hr : HR qO R Q) (h : qG R (g 3) w) : gF pg hG (dX 1 (dX 1 (dX 1 (dX 4 gY)))) Q g w :=
 jV (kn := no) (l := []) h kK hr trivial
def nE (kn : K4) (k2 : K1) (iI i3 i4 i5 : Q7) (w : Q6) : Prop :=
 dQ pg (fD .lss 3 fH fH i5 i4) w fun i6 w =>
 kA i6
  (dQ pg (iW 22 i3 i5) w fun i7 w =>
  dQ pg (fM 5 i7) w fun i8 w =>
  dQ pg (iO 5 40 i8) w fun j1 w =>
  dQ pg (fD .mul 40 fH fH j1 (.int .u64 2870177450012600261)) w fun j2 w =>
  dQ pg (fD .xor 40 fH fH iI j2) w fun j3 w =>
  fK pg gW #[j3, (Q8 11)] w fun j4 w =>
  dQ pg (fD .mul 40 fH fH j4 (.int .u64 11400714785074694791)) w fun j5 w =>
  dQ pg (fD .add 3 fH fH i5 (Q8 1)) w fun j6 w =>
  kn j5 i3 i4 j6 w)
  (k2 iI w)
theorem DX (kn : K4) (k2 : K1) (hn : N4 Q kn 3 53 54 55) (h2 : E1 Q k2 2 3) (h : nE kn k2 (g 3) (g 53) (g 54) (g 55) w) : gF pg hG (bI (bI (dX 1 (fI 1 (dX 1 (dX 1 (dX 4 gY))))))) Q g w :=
 jV (kr := no) (l := [(2, fun g w => k2 (g 3) w)]) h hn kK ⟨h2, trivial⟩
def vM (k2 : K1) (iI i3 i4 i5 : Q7) (w : Q6) : Prop :=
 iG (fun (X : (Q7 × Q7) -> K0) (t : Q7 × Q7) (w : Q6) => nE (fun iI _ _ i5 w => X (iI, i5) w) k2 t.1 i3 i4 t.2 w) (iI, i5) w
theorem D7 (k2 : K1) (h2 : E1 Q k2 2 3) (h : vM k2 (g 3) (g 53) (g 54) (g 55) w) : gF pg hG (bI (dX 1 (fI 1 (dX 1 (dX 1 (dX 4 gY)))))) Q g w := by
 refine Ix (fun g : Env => (g 3, g 55)) (fun X t w => nE (fun iI _ _ i5 w => X (iI, i5) w) k2 t.1 (g 53) (g 54) t.2 w) h (fun X g1 w1 ha hL => ?_)
 rw [<- CS 53 ha, <- CS 54 ha] at hL
 exact (DX _ g1 w1 (fun iI _ _ i5 w => X (iI, i5) w) k2 (fun _ _ h => h) h2 hL)
def vO (kn : K1) (iI i3 i4 i5 : Q7) (w : Q6) : Prop :=
 vM kn iI i3 i4 i5 w
def vQ (kn : K4) (iI Ay : Q7) (w : Q6) : Prop :=
 dQ pg (mC .len #[22] 3 [Ay]) w fun i4 w =>
 kn iI Ay i4 (Q8 0) w
theorem Dq (kn : K4) (hn : N4 Q kn 3 53 54 55) (h : vQ kn (g 3) (g 4) w) : gF pg hG (fI 1 (fI 1 (dX 1 (dX 1 (dX 4 gY))))) Q g w :=
 jV (kr := no) (l := []) h hn kK trivial
def vK (kn : K1) (iI Ay : Q7) (w : Q6) : Prop :=
 vQ (fun iI i3 i4 i5 w => vO kn iI i3 i4 i5 w) iI Ay w
def qD (R : K1) (iI Ay : Q7) (w : Q6) : Prop :=
 vK (fun iI w => qG R iI w) iI Ay w
theorem DZ (kn : K1) (hn : N1 Q kn 3) (h : vK kn (g 3) (g 4) w) : gF pg hG (fI 1 (dX 1 (dX 1 (dX 4 gY)))) Q g w :=
 pE 1 (Dq _ g w (vO kn) (fun g w h => fL (G1 2 (D7 _ g w kn hn h))) h)
def qJ (kn : K2) (iI Ay : Q7) (w : Q6) : Prop :=
 dQ pg (mC .len #[22] 3 [Ay]) w fun f0 w =>
 dQ pg (fD .geq 3 fH fH f0 (Q8 4)) w fun f1 w =>
 kA f1
  (dQ pg (hE 22 Ay none (some (Q8 4)) none) w fun f4 w =>
  fK pg pG #[f4] w fun f5 w =>
  dQ pg (fD .mul 40 fH fH f5 (.int .u64 11400714785074694791)) w fun f6 w =>
  dQ pg (fD .xor 40 fH fH iI f6) w fun f7 w =>
  fK pg gW #[f7, (Q8 23)] w fun f8 w =>
  dQ pg (fD .mul 40 fH fH f8 (.int .u64 14029467366897019727)) w fun f9 w =>
  dQ pg (fD .add 40 fH fH f9 (.int .u64 1609587929392839161)) w fun i0 w =>
  dQ pg (hE 22 Ay (some (Q8 4)) none none) w fun i2 w =>
  kn i0 i2 w)
  (kn iI Ay w)
theorem DC (kn : K2) (hn : N2 Q kn 3 4) (h : qJ kn (g 3) (g 4) w) : gF pg hG (fI 1 (dX 1 (dX 4 gY))) Q g w :=
 jV (kr := no) (l := []) h hn kK trivial
def qI (R : K1) (iI Ay : Q7) (w : Q6) : Prop :=
 qJ (fun iI Ay w => qD R iI Ay w) iI Ay w
def mM (kn : K2) (k0 : K2) (iI Ay : Q7) (w : Q6) : Prop :=
 dQ pg (mC .len #[22] 3 [Ay]) w fun d6 w =>
 dQ pg (fD .geq 3 fH fH d6 (Q8 8)) w fun d7 w =>
 kA d7
  (dQ pg (hE 22 Ay none (some (Q8 8)) none) w fun e0 w =>
  fK pg pG #[e0] w fun e1 w =>
  fK pg rH #[(.int .u64 0), e1] w fun e2 w =>
  dQ pg (fD .xor 40 fH fH iI e2) w fun e3 w =>
  fK pg gW #[e3, (Q8 27)] w fun e4 w =>
  dQ pg (fD .mul 40 fH fH e4 (.int .u64 11400714785074694791)) w fun e5 w =>
  dQ pg (fD .add 40 fH fH e5 (.int .u64 9650029242287828579)) w fun e6 w =>
  dQ pg (hE 22 Ay (some (Q8 8)) none none) w fun e8 w =>
  kn e6 e8 w)
  (k0 iI Ay w)
theorem C1 (kn : K2) (k0 : K2) (hn : N2 Q kn 3 4) (h0 : E2 Q k0 0 3 4) (h : mM kn k0 (g 3) (g 4) w) : gF pg hG (bI (bI (fI 1 (dX 4 gY)))) Q g w :=
 jV (kr := no) (l := [(0, fun g w => k0 (g 3) (g 4) w)]) h hn kK ⟨h0, trivial⟩
def tA (k0 : K2) (iI Ay : Q7) (w : Q6) : Prop :=
 iG (fun (X : (Q7 × Q7) -> K0) (t : Q7 × Q7) (w : Q6) => mM (fun iI Ay w => X (iI, Ay) w) k0 t.1 t.2 w) (iI, Ay) w
theorem C5 (k0 : K2) (h0 : E2 Q k0 0 3 4) (h : tA k0 (g 3) (g 4) w) : gF pg hG (bI (fI 1 (dX 4 gY))) Q g w := by
 refine Ix (fun g : Env => (g 3, g 4)) (fun X t w => mM (fun iI Ay w => X (iI, Ay) w) k0 t.1 t.2 w) h (fun X g1 w1 ha hL => ?_)
 exact (C1 _ g1 w1 (fun iI Ay w => X (iI, Ay) w) k0 (fun _ _ h => h) h0 hL)
def tF (kn : K2) (iI Ay : Q7) (w : Q6) : Prop :=
 tA kn iI Ay w
def pH (R : K1) (iI Ay : Q7) (w : Q6) : Prop :=
 tF (fun iI Ay w => qI R iI Ay w) iI Ay w
theorem C8 (kn : K2) (hn : N2 Q kn 3 4) (h : tF kn (g 3) (g 4) w) : gF pg hG (fI 1 (dX 4 gY)) Q g w :=
 G1 0 (C5 _ g w kn hn h)
def tG (kn : K2) (R : K1) (jM : Q7) (w : Q6) : Prop :=
 dQ pg (fD .eql 106 (.tmp 7) (.const (.pointer none)) jM (.pointer none)) w fun b8 w =>
 kA b8
  (fK pg Ci #[(.slice none 0 0)] w fun b9 w =>
  R b9 w)
  ((dr w) = (dr w) /\
  fK pg oH #[jM] (dr w) fun c1 mG =>
  mG = mG /\
  dQ pg (jJ jM) mG fun c3 w_ => w_ = mG /\
  (fE pg (jJ jM) c3 (dr w) /\ True) /\
  dQ pg (fJ 138 c3 3) mG fun c4 w_ => w_ = mG /\
  (fE pg (fJ 138 c3 3) c4 (dr w) /\ True) /\
  dQ pg (fM 40 c4) mG fun c5 w_ => w_ = mG /\
  (fE pg (fM 40 c4) c5 (dr w) /\ True) /\
  dQ pg (fD .add 40 fH fH c1 c5) mG fun c6 w_ => w_ = mG /\
  mG = mG /\
  (dr mG) = (dr mG) /\
  dQ pg (jJ jM) (dr mG) fun c8 w_ => w_ = (dr mG) /\
  dQ pg (fJ 138 c8 1) (dr mG) fun c9 w_ => w_ = (dr mG) /\
  (dr mG) = (dr mG) /\
  dQ pg (jJ jM) (dr mG) fun d1 w_ => w_ = (dr mG) /\
  dQ pg (fJ 138 d1 2) (dr mG) fun d2 w_ => w_ = (dr mG) /\
  dQ pg (fM 3 d2) (dr mG) fun d3 w_ => w_ = (dr mG) /\
  dQ pg (hE 136 c9 none (some d3) none) (dr mG) fun d4 w_ => w_ = (dr mG) /\
  (dr mG) = (dr mG) /\
  kn c6 d4 (dr mG))
theorem C2 (kn : K2) (R : K1) (hn : N2 Q kn 3 4) (hr : HR qO R Q) (h : tG kn R (g 0) w) : gF pg hG (fI 4 gY) Q g w :=
 jV (l := []) h hn hr trivial
def tL (R : K1) (jM : Q7) (w : Q6) : Prop :=
 tG (fun iI Ay w => pH R iI Ay w) R jM w
theorem C3 (R : K1) (hr : HR qO R Q) (h : tL R (g 0) w) : gF pg hG gY Q g w :=
 pE 4 (C2 _ g w (pH R) R (fun g w h => fL (pE 1 (C8 _ g w (qI R) (fun g w h => fL (pE 1 (DC _ g w (qD R) (fun g w h => fL (pE 1 (DZ _ g w (qG R) (fun g w h => fL (D3 _ g w R hr h)) h))) h))) h))) hr h)
def D9 (a0 : Q7) (w : Q6) (R : K1) : Prop :=
 tL R a0 w
theorem EM {a0 : Q7} {w : Q6} {R : K1} (h : D9 a0 w R) : fK pg rU #[a0] w R := by
 refine AQ (ann := hG) Tryd.f45 gY [a0] qO 81 TrydM.mixed Tryd.func45 ?_
 exact (C3 _ _ _ R (fun _ _ h => h) h)
def vX : FA := ⟨oL, fun i => .leaf ([], []) []⟩
def xM : List ResultVar := [.tmp 4, .tmp 5]
noncomputable def uE : Code := iD Tryd.f47
def qW (R : K1) (pT OF : Q7) (w : Q6) : Prop :=
 dQ pg (fD .and 40 fH fH pT (.int .u64 4294967295)) w fun c5 w =>
 dQ pg (fD .shr 40 fH fH pT (.int .u64 32)) w fun c7 w =>
 dQ pg (fD .and 40 fH fH OF (.int .u64 4294967295)) w fun c9 w =>
 dQ pg (fD .shr 40 fH fH OF (.int .u64 32)) w fun d1 w =>
 dQ pg (fD .mul 40 fH fH c5 c9) w fun d4 w =>
 dQ pg (fD .mul 40 fH fH c7 c9) w fun d7 w =>
 dQ pg (fD .shr 40 fH fH d4 (.int .u64 32)) w fun d9 w =>
 dQ pg (fD .add 40 fH fH d7 d9) w fun e0 w =>
 dQ pg (fD .and 40 fH fH e0 (.int .u64 4294967295)) w fun e2 w =>
 dQ pg (fD .shr 40 fH fH e0 (.int .u64 32)) w fun e4 w =>
 dQ pg (fD .mul 40 fH fH c5 d1) w fun e8 w =>
 dQ pg (fD .add 40 fH fH e2 e8) w fun e9 w =>
 dQ pg (fD .mul 40 fH fH c7 d1) w fun f2 w =>
 dQ pg (fD .add 40 fH fH f2 e4) w fun f4 w =>
 dQ pg (fD .shr 40 fH fH e9 (.int .u64 32)) w fun f6 w =>
 dQ pg (fD .add 40 fH fH f4 f6) w fun f7 w =>
 dQ pg (fD .mul 40 fH fH pT OF) w fun i0 w =>
 R (.tuple #[f7, i0]) w
theorem B4 (R : K1) (hr : HR xM R Q) (h : qW R (g 0) (g 1) w) : gF pg vX uE Q g w :=
 jV (kn := no) (l := []) h kK hr trivial
def BJ (a0 a1 : Q7) (w : Q6) (R : K1) : Prop :=
 qW R a0 a1 w
theorem Cj {a0 a1 : Q7} {w : Q6} {R : K1} (h : BJ a0 a1 w R) : fK pg oL #[a0, a1] w R := by
 refine AQ (ann := vX) Tryd.f47 uE [a0, a1] xM 51 TrydM.mixed Tryd.func47 ?_
 exact (B4 _ _ _ R (fun _ _ h => h) h)
def Dd : FA := ⟨rH, fun i => .leaf ([], []) []⟩
def EB : List ResultVar := [.tmp 4]
noncomputable def Ch : Code := iD Tryd.f60
def Bt (R : K1) (Pd Pe : Q7) (w : Q6) : Prop :=
 dQ pg (fD .mul 40 fH fH Pe (.int .u64 14029467366897019727)) w fun b7 w =>
 dQ pg (fD .add 40 fH fH Pd b7) w fun b8 w =>
 fK pg gW #[b8, (Q8 31)] w fun b9 w =>
 dQ pg (fD .mul 40 fH fH b9 (.int .u64 11400714785074694791)) w fun c0 w =>
 R c0 w
theorem Gi (R : K1) (hr : HR EB R Q) (h : Bt R (g 0) (g 1) w) : gF pg Dd Ch Q g w :=
 jV (kn := no) (l := []) h kK hr trivial
def H0 (a0 a1 : Q7) (w : Q6) (R : K1) : Prop :=
 Bt R a0 a1 w
theorem Hh {a0 a1 : Q7} {w : Q6} {R : K1} (h : H0 a0 a1 w R) : fK pg rH #[a0, a1] w R := by
 refine AQ (ann := Dd) Tryd.f60 Ch [a0, a1] EB 11 TrydM.mixed Tryd.func60 ?_
 exact (Gi _ _ _ R (fun _ _ h => h) h)
def kE : FA := ⟨pG, fun i => .leaf ([], []) []⟩
def Ai : List ResultVar := [.tmp 2]
noncomputable def jN : Code := iD Tryd.f61
def tY (R : K1) (iI : Q7) (w : Q6) : Prop :=
 R iI w
theorem EV (R : K1) (hr : HR Ai R Q) (h : tY R (g 3) w) : gF pg kE (dX 1 (dX 2 jN)) Q g w :=
 jV (kn := no) (l := []) h kK hr trivial
def pZ (kn : K4) (k0 : K1) (iI b6 b7 b8 : Q7) (w : Q6) : Prop :=
 dQ pg (fD .lss 3 fH fH b8 b7) w fun b9 w =>
 kA b9
  (dQ pg (iW 22 b6 b8) w fun c1 w =>
  dQ pg (fM 5 c1) w fun c2 w =>
  dQ pg (iO 5 40 c2) w fun c5 w =>
  dQ pg (fD .mul 3 fH fH (Q8 8) b8) w fun c7 w =>
  dQ pg (iO 3 35 c7) w fun c8 w =>
  dQ pg (fD .shl 40 fH fH c5 c8) w fun c9 w =>
  dQ pg (fD .or 40 fH fH iI c9) w fun d0 w =>
  dQ pg (fD .add 3 fH fH b8 (Q8 1)) w fun d1 w =>
  kn d0 b6 b7 d1 w)
  (k0 iI w)
theorem Fw (kn : K4) (k0 : K1) (hn : N4 Q kn 3 6 7 8) (h0 : E1 Q k0 0 3) (h : pZ kn k0 (g 3) (g 6) (g 7) (g 8) w) : gF pg kE (bI (bI (dX 1 (fI 1 (dX 2 jN))))) Q g w :=
 jV (kr := no) (l := [(0, fun g w => k0 (g 3) w)]) h hn kK ⟨h0, trivial⟩
def An (k0 : K1) (iI b6 b7 b8 : Q7) (w : Q6) : Prop :=
 iG (fun (X : (Q7 × Q7) -> K0) (t : Q7 × Q7) (w : Q6) => pZ (fun iI _ _ b8 w => X (iI, b8) w) k0 t.1 b6 b7 t.2 w) (iI, b8) w
theorem FC (k0 : K1) (h0 : E1 Q k0 0 3) (h : An k0 (g 3) (g 6) (g 7) (g 8) w) : gF pg kE (bI (dX 1 (fI 1 (dX 2 jN)))) Q g w := by
 refine Ix (fun g : Env => (g 3, g 8)) (fun X t w => pZ (fun iI _ _ b8 w => X (iI, b8) w) k0 t.1 (g 6) (g 7) t.2 w) h (fun X g1 w1 ha hL => ?_)
 rw [<- CS 6 ha, <- CS 7 ha] at hL
 exact (Fw _ g1 w1 (fun iI _ _ b8 w => X (iI, b8) w) k0 (fun _ _ h => h) h0 hL)
def Av (kn : K1) (iI b6 b7 b8 : Q7) (w : Q6) : Prop :=
 An kn iI b6 b7 b8 w
def zU (kn : K4) (hJ iI : Q7) (w : Q6) : Prop :=
 dQ pg (mC .len #[22] 3 [hJ]) w fun b7 w =>
 kn iI hJ b7 (Q8 0) w
theorem Ff (kn : K4) (hn : N4 Q kn 3 6 7 8) (h : zU kn (g 0) (g 3) w) : gF pg kE (fI 1 (fI 1 (dX 2 jN))) Q g w :=
 jV (kr := no) (l := []) h hn kK trivial
def Ac (kn : K1) (hJ iI : Q7) (w : Q6) : Prop :=
 zU (fun iI b6 b7 b8 w => Av kn iI b6 b7 b8 w) hJ iI w
def zQ (R : K1) (hJ iI : Q7) (w : Q6) : Prop :=
 Ac (fun iI w => tY R iI w) hJ iI w
theorem EW (kn : K1) (hn : N1 Q kn 3) (h : Ac kn (g 0) (g 3) w) : gF pg kE (fI 1 (dX 2 jN)) Q g w :=
 pE 1 (Ff _ g w (Av kn) (fun g w h => fL (G1 0 (FC _ g w kn hn h))) h)
def zI (kn : K2) (hJ : Q7) (w : Q6) : Prop :=
 kn hJ (.int .u64 0) w
theorem Fv (kn : K2) (hn : N2 Q kn 0 3) (h : zI kn (g 0) w) : gF pg kE (fI 2 jN) Q g w :=
 jV (kr := no) (l := []) h hn kK trivial
def Af (R : K1) (hJ : Q7) (w : Q6) : Prop :=
 zI (fun hJ iI w => zQ R hJ iI w) hJ w
theorem FF (R : K1) (hr : HR Ai R Q) (h : Af R (g 0) w) : gF pg kE jN Q g w :=
 pE 2 (Fv _ g w (zQ R) (fun g w h => fL (pE 1 (EW _ g w (tY R) (fun g w h => fL (EV _ g w R hr h)) h))) h)
def Hf (a0 : Q7) (w : Q6) (R : K1) : Prop :=
 Af R a0 w
theorem GF {a0 : Q7} {w : Q6} {R : K1} (h : Hf a0 w R) : fK pg pG #[a0] w R := by
 refine AQ (ann := kE) Tryd.f61 jN [a0] Ai 23 TrydM.mixed Tryd.func61 ?_
 exact (FF _ _ _ R (fun _ _ h => h) h)
def gO : FA := ⟨oH, fun i => .leaf ([], []) []⟩
def mR : List ResultVar := [.tmp 2]
noncomputable def gI : Code := iD Tryd.f62
def nA (R : K1) (iI : Q7) (w : Q6) : Prop :=
 R iI w
theorem B0 (R : K1) (hr : HR mR R Q) (h : nA R (g 3) w) : gF pg gO (dX 1 (dX 1 (dX 3 gI))) Q g w :=
 jV (kn := no) (l := []) h kK hr trivial
def kV (kn : K3) (k2 : K1) (iI e2 e3 : Q7) (w : Q6) : Prop :=
 dQ pg (fD .lss 3 fH fH e3 (Q8 4)) w fun e4 w =>
 kA e4
  (dQ pg (D0 49 e2 e3) w fun e5 w =>
  fK pg rH #[(.int .u64 0), e5] w fun e8 w =>
  dQ pg (fD .xor 40 fH fH iI e8) w fun e9 w =>
  dQ pg (fD .mul 40 fH fH e9 (.int .u64 11400714785074694791)) w fun f0 w =>
  dQ pg (fD .add 40 fH fH f0 (.int .u64 9650029242287828579)) w fun f1 w =>
  dQ pg (fD .add 3 fH fH e3 (Q8 1)) w fun f2 w =>
  kn f1 e2 f2 w)
  (k2 iI w)
theorem B1 (kn : K3) (k2 : K1) (hn : N3 Q kn 3 32 33) (h2 : E1 Q k2 2 3) (h : kV kn k2 (g 3) (g 32) (g 33) w) : gF pg gO (bI (bI (dX 1 (fI 1 (dX 1 (dX 3 gI)))))) Q g w :=
 jV (kr := no) (l := [(2, fun g w => k2 (g 3) w)]) h hn kK ⟨h2, trivial⟩
def qY (k2 : K1) (iI e2 e3 : Q7) (w : Q6) : Prop :=
 iG (fun (X : (Q7 × Q7) -> K0) (t : Q7 × Q7) (w : Q6) => kV (fun iI _ e3 w => X (iI, e3) w) k2 t.1 e2 t.2 w) (iI, e3) w
theorem B2 (k2 : K1) (h2 : E1 Q k2 2 3) (h : qY k2 (g 3) (g 32) (g 33) w) : gF pg gO (bI (dX 1 (fI 1 (dX 1 (dX 3 gI))))) Q g w := by
 refine Ix (fun g : Env => (g 3, g 33)) (fun X t w => kV (fun iI _ e3 w => X (iI, e3) w) k2 t.1 (g 32) t.2 w) h (fun X g1 w1 ha hL => ?_)
 rw [<- CS 32 ha] at hL
 exact (B1 _ g1 w1 (fun iI _ e3 w => X (iI, e3) w) k2 (fun _ _ h => h) h2 hL)
def qZ (kn : K1) (iI e2 e3 : Q7) (w : Q6) : Prop :=
 qY kn iI e2 e3 w
def rA (kn : K3) (jM iI : Q7) (w : Q6) : Prop :=
 dQ pg (jJ jM) w fun e0 w =>
 dQ pg (fJ 138 e0 0) w fun e1 w =>
 dQ pg (fM 49 e1) w fun e2 w =>
 kn iI e2 (Q8 0) w
theorem BV (kn : K3) (hn : N3 Q kn 3 32 33) (h : rA kn (g 0) (g 3) w) : gF pg gO (fI 1 (fI 1 (dX 1 (dX 3 gI)))) Q g w :=
 jV (kr := no) (l := []) h hn kK trivial
def qQ (kn : K1) (jM iI : Q7) (w : Q6) : Prop :=
 rA (fun iI e2 e3 w => qZ kn iI e2 e3 w) jM iI w
def qV (R : K1) (jM iI : Q7) (w : Q6) : Prop :=
 qQ (fun iI w => nA R iI w) jM iI w
theorem Ca (kn : K1) (hn : N1 Q kn 3) (h : qQ kn (g 0) (g 3) w) : gF pg gO (fI 1 (dX 1 (dX 3 gI))) Q g w :=
 pE 1 (BV _ g w (qZ kn) (fun g w h => fL (G1 2 (B2 _ g w kn hn h))) h)
def kS (kn : K4) (k0 : K2) (jM iI c3 c4 : Q7) (w : Q6) : Prop :=
 dQ pg (fD .lss 3 fH fH c4 (Q8 4)) w fun c5 w =>
 kA c5
  (dQ pg (D0 87 c3 c4) w fun c7 w =>
  dQ pg (jJ jM) w fun d1 w =>
  dQ pg (fJ 138 d1 0) w fun d2 w =>
  dQ pg (iW 49 d2 c4) w fun d3 w =>
  dQ pg (fM 40 d3) w fun d4 w =>
  fK pg gW #[d4, c7] w fun d6 w =>
  dQ pg (fD .add 40 fH fH iI d6) w fun d7 w =>
  dQ pg (fD .add 3 fH fH c4 (Q8 1)) w fun d8 w =>
  kn jM d7 c3 d8 w)
  (k0 jM iI w)
theorem BX (kn : K4) (k0 : K2) (hn : N4 Q kn 0 3 13 14) (h0 : E2 Q k0 0 0 3) (h : kS kn k0 (g 0) (g 3) (g 13) (g 14) w) : gF pg gO (bI (bI (dX 1 (fI 1 (dX 3 gI))))) Q g w :=
 jV (kr := no) (l := [(0, fun g w => k0 (g 0) (g 3) w)]) h hn kK ⟨h0, trivial⟩
def qT (k0 : K2) (jM iI c3 c4 : Q7) (w : Q6) : Prop :=
 iG (fun (X : (Q7 × Q7) -> K0) (t : Q7 × Q7) (w : Q6) => kS (fun _ iI _ c4 w => X (iI, c4) w) k0 jM t.1 c3 t.2 w) (iI, c4) w
theorem B8 (k0 : K2) (h0 : E2 Q k0 0 0 3) (h : qT k0 (g 0) (g 3) (g 13) (g 14) w) : gF pg gO (bI (dX 1 (fI 1 (dX 3 gI)))) Q g w := by
 refine Ix (fun g : Env => (g 3, g 14)) (fun X t w => kS (fun _ iI _ c4 w => X (iI, c4) w) k0 (g 0) t.1 (g 13) t.2 w) h (fun X g1 w1 ha hL => ?_)
 rw [<- CS 0 ha, <- CS 13 ha] at hL
 exact (BX _ g1 w1 (fun _ iI _ c4 w => X (iI, c4) w) k0 (fun _ _ h => h) h0 hL)
def pM (kn : K2) (jM iI c3 c4 : Q7) (w : Q6) : Prop :=
 qT kn jM iI c3 c4 w
def pN (kn : K4) (jM iI : Q7) (w : Q6) : Prop :=
 dQ pg (iB 87 [(0, (Q8 1)), (1, (Q8 7)), (2, (Q8 12)), (3, (Q8 18))]) w fun c3 w =>
 kn jM iI c3 (Q8 0) w
theorem Be (kn : K4) (hn : N4 Q kn 0 3 13 14) (h : pN kn (g 0) (g 3) w) : gF pg gO (fI 1 (fI 1 (dX 3 gI))) Q g w :=
 jV (kr := no) (l := []) h hn kK trivial
def pR (kn : K2) (jM iI : Q7) (w : Q6) : Prop :=
 pN (fun jM iI c3 c4 w => pM kn jM iI c3 c4 w) jM iI w
def pQ (R : K1) (jM iI : Q7) (w : Q6) : Prop :=
 pR (fun jM iI w => qV R jM iI w) jM iI w
theorem BG (kn : K2) (hn : N2 Q kn 0 3) (h : pR kn (g 0) (g 3) w) : gF pg gO (fI 1 (dX 3 gI)) Q g w :=
 pE 1 (Be _ g w (pM kn) (fun g w h => fL (G1 0 (B8 _ g w kn hn h))) h)
def lZ (kn : K2) (R : K1) (jM : Q7) (w : Q6) : Prop :=
 dQ pg (jJ jM) w fun b9 w =>
 dQ pg (fJ 138 b9 3) w fun c0 w =>
 dQ pg (fM 40 c0) w fun c1 w =>
 dQ pg (fD .lss 40 fH fH c1 (.int .u64 32)) w fun c2 w =>
 kA c2
  (R (.int .u64 2870177450012600261) w)
  (kn jM (.int .u64 0) w)
theorem Bz (kn : K2) (R : K1) (hn : N2 Q kn 0 3) (hr : HR mR R Q) (h : lZ kn R (g 0) w) : gF pg gO (fI 3 gI) Q g w :=
 jV (l := []) h hn hr trivial
def mA (R : K1) (jM : Q7) (w : Q6) : Prop :=
 lZ (fun jM iI w => pQ R jM iI w) R jM w
theorem Bx (R : K1) (hr : HR mR R Q) (h : mA R (g 0) w) : gF pg gO gI Q g w :=
 pE 3 (Bz _ g w (pQ R) R (fun g w h => fL (pE 1 (BG _ g w (qV R) (fun g w h => fL (pE 1 (Ca _ g w (nA R) (fun g w h => fL (B0 _ g w R hr h)) h))) h))) hr h)
def uU (a0 : Q7) (w : Q6) (R : K1) : Prop :=
 mA R a0 w
theorem Cn {a0 : Q7} {w : Q6} {R : K1} (h : uU a0 w R) : fK pg oH #[a0] w R := by
 refine AQ (ann := gO) Tryd.f62 gI [a0] mR 44 TrydM.mixed Tryd.func62 ?_
 exact (Bx _ _ _ R (fun _ _ h => h) h)
def oZ : FA := ⟨gW, fun i => .leaf ([], []) []⟩
def pL : List ResultVar := [.tmp 4]
noncomputable def oF : Code := iD Tryd.f63
def lJ (R : K1) (pT PB : Q7) (w : Q6) : Prop :=
 dQ pg (iO 3 35 PB) w fun b7 w =>
 dQ pg (fD .and 35 fH fH b7 (.int .u64 63)) w fun b8 w =>
 dQ pg (fD .shl 40 fH fH pT b8) w fun c1 w =>
 dQ pg (fD .sub 35 fH fH (.int .u64 64) b8) w fun c4 w =>
 dQ pg (fD .shr 40 fH fH pT c4) w fun c5 w =>
 dQ pg (fD .or 40 fH fH c1 c5) w fun c6 w =>
 R c6 w
theorem uV (R : K1) (hr : HR pL R Q) (h : lJ R (g 0) (g 1) w) : gF pg oZ oF Q g w :=
 jV (kn := no) (l := []) h kK hr trivial
def rP (a0 a1 : Q7) (w : Q6) (R : K1) : Prop :=
 lJ R a0 a1 w
theorem wC {a0 a1 : Q7} {w : Q6} {R : K1} (h : rP a0 a1 w R) : fK pg gW #[a0, a1] w R := by
 refine AQ (ann := oZ) Tryd.f63 oF [a0, a1] pL 17 TrydM.mixed Tryd.func63 ?_
 exact (uV _ _ _ R (fun _ _ h => h) h)
end Go.Proofs.YthohephggmkeeaaDoor
namespace Go.En
open Go
section
variable {P : Program} {w : Q6} {t : TypeId} {ox oy : Operand} {k : IntKind} {a b : Int}
theorem kL (s : Sem Q7) : (V s).run P w = (s.run P w).andThen fun v w => .ok (.value v) w := by
 unfold V; rw [Sem.run_bind] <;> rfl
theorem Pm (s : Sem Unit) : (U s).run P w = (s.run P w).andThen fun _ w => .ok .skip w := by
 unfold U; rw [Sem.run_bind] <;> rfl
theorem eE : (fD .add t ox oy (.int k a) (.int k b)).run P w = .ok (.value (.int k (k.wrap (a + b)))) w := by
 simp [fD, xS, kL, binOp, Op.intArith]
theorem eS : (fD .sub t ox oy (.int k a) (.int k b)).run P w = .ok (.value (.int k (k.wrap (a - b)))) w := by
 simp [fD, xS, kL, binOp, Op.intArith]
theorem eI : (fD .mul t ox oy (.int k a) (.int k b)).run P w = .ok (.value (.int k (k.wrap (a * b)))) w := by
 simp [fD, xS, kL, binOp, Op.intArith]
theorem eP (h : b ≠ 0) : (fD .quo t ox oy (.int k a) (.int k b)).run P w = .ok (.value (.int k (k.wrap (a.tdiv b)))) w := by
 simp [fD, xS, kL, binOp, Op.intDiv, h]
theorem eX (h : b ≠ 0) : (fD .rem t ox oy (.int k a) (.int k b)).run P w = .ok (.value (.int k (a.tmod b))) w := by
 simp [fD, xS, kL, binOp, Op.intDiv, h]
def uM (k : IntKind) (a b : Int) : Int := k.wrap (BitVec.ofInt k.bits a &&& BitVec.ofInt k.bits b).toNat
def OE (k : IntKind) (a b : Int) : Int := k.wrap (BitVec.ofInt k.bits a ||| BitVec.ofInt k.bits b).toNat
def CK (k : IntKind) (a b : Int) : Int := k.wrap (BitVec.ofInt k.bits a ^^^ BitVec.ofInt k.bits b).toNat
def KE (k : IntKind) (a b : Int) : Int := k.wrap (BitVec.ofInt k.bits a &&& ~~~BitVec.ofInt k.bits b).toNat
theorem fB : (fD .and t ox oy (.int k a) (.int k b)).run P w = .ok (.value (.int k (uM k a b))) w := by
 simp [fD, xS, kL, binOp, Op.intBits, uM]
theorem fF : (fD .or t ox oy (.int k a) (.int k b)).run P w = .ok (.value (.int k (OE k a b))) w := by
 simp [fD, xS, kL, binOp, Op.intBits, OE]
theorem eN : (fD .xor t ox oy (.int k a) (.int k b)).run P w = .ok (.value (.int k (CK k a b))) w := by
 simp [fD, xS, kL, binOp, Op.intBits, CK]
theorem dL : (fD .andNot t ox oy (.int k a) (.int k b)).run P w = .ok (.value (.int k (KE k a b))) w := by
 simp [fD, xS, kL, binOp, Op.intBits, KE]
theorem eL {k' : IntKind} (h : 0 <= b) : (fD .shl t ox oy (.int k a) (.int k' b)).run P w = .ok (.value (.int k (k.wrap (a * 2 ^ (min b.toNat k.bits))))) w := by
 simp [fD, xS, kL, binOp, Op.shift, Int.not_lt.2 h]
theorem eQ {k' : IntKind} (h : 0 <= b) : (fD .shr t ox oy (.int k a) (.int k' b)).run P w = .ok (.value (.int k (a.fdiv (2 ^ (min b.toNat k.bits))))) w := by
 simp [fD, xS, kL, binOp, Op.shift, Int.not_lt.2 h]
theorem eZ : (fD .eql t ox oy (.int k a) (.int k b)).run P w = .ok (.value (.bool (a == b))) w := by
 simp [fD, xS, kL, binOp, Op.intCmp, eqGuard]
theorem eC : (fD .neq t ox oy (.int k a) (.int k b)).run P w = .ok (.value (.bool (a != b))) w := by
 simp [fD, xS, kL, binOp, Op.intCmp, eqGuard]
theorem eF : (fD .lss t ox oy (.int k a) (.int k b)).run P w = .ok (.value (.bool (decide (a < b)))) w := by
 simp [fD, xS, kL, binOp, Op.intCmp]
theorem eJ : (fD .leq t ox oy (.int k a) (.int k b)).run P w = .ok (.value (.bool (decide (a <= b)))) w := by
 simp [fD, xS, kL, binOp, Op.intCmp]
theorem eH : (fD .gtr t ox oy (.int k a) (.int k b)).run P w = .ok (.value (.bool (decide (b < a)))) w := by
 simp [fD, xS, kL, binOp, Op.intCmp]
theorem eD : (fD .geq t ox oy (.int k a) (.int k b)).run P w = .ok (.value (.bool (decide (b <= a)))) w := by
 simp [fD, xS, kL, binOp, Op.intCmp]
theorem fA : (Mi .neg (.int k a)).run P w = .ok (.value (.int k (k.wrap (0 - a)))) w := by
 simp [Mi, kL, Op.unary, Op.intArith]
theorem eU : (Mi .xor (.int k a)).run P w = .ok (.value (.int k (CK k (if k.signed then -1 else k.max) a))) w := by
 simp [Mi, kL, Op.unary, Op.intBits, CK]
theorem eB (c : Bool) : (Mi .not (.bool c)).run P w = .ok (.value (.bool !c)) w := by
 simp [Mi, kL, Op.unary]
theorem dR (c : Bool) (x y : Q7) : (nI (.bool c) x y).run P w = .ok (.value (if c then x else y)) w := by
 simp [nI, asBool]
theorem Hn {x y : Q7} {r : Bool} (hg : eqGuard .eql t ox oy x y = pure ()) (hb : binOp .eql t x y = (do pure (.bool (<- Op.equal t x y)))) (he : (Op.equal t x y).run P w = .ok r w) :
 (fD .eql t ox oy x y).run P w = .ok (.value (.bool r)) w := by
 unfold fD
 simp only [xS, kL, hg, hb, pure_bind]
 rw [Sem.run_bind, he] <;> rfl
theorem KV (n : Nat) (c d : Bool) (hu : P.underlying t = some .bool) : (Op.equalIn (n + 1) t (.bool c) (.bool d)).run P w = .ok (c == d) w := by
 simp only [Op.equalIn, underlying]
 simp [hu]
theorem Nj (c d : Bool) (hu : P.underlying t = some .bool) : (Op.equal t (.bool c) (.bool d)).run P w = .ok (c == d) w := KV 9999 c d hu
theorem NU (c d : Bool) (hu : P.underlying t = some .bool) : (fD .eql t ox oy (.bool c) (.bool d)).run P w = .ok (.value (.bool (c == d))) w :=
 Hn rfl rfl (Nj c d hu)
theorem dZ {n : Int} (h0 : -9223372036854775808 <= n) (h1 : n <= 9223372036854775807) : IntKind.i64.wrap n = n := by
 unfold IntKind.wrap; simp [IntKind.bits, IntKind.signed]; split <;> omega
theorem dY {n : Int} (h0 : 0 <= n) (h1 : n <= 18446744073709551615) : IntKind.u64.wrap n = n := by
 unfold IntKind.wrap; simp [IntKind.bits, IntKind.signed]; omega
theorem eT {n : Int} (h0 : -2147483648 <= n) (h1 : n <= 2147483647) : IntKind.i32.wrap n = n := by
 unfold IntKind.wrap; simp [IntKind.bits, IntKind.signed]; split <;> omega
theorem fC {n : Int} (h0 : 0 <= n) (h1 : n <= 4294967295) : IntKind.u32.wrap n = n := by
 unfold IntKind.wrap; simp [IntKind.bits, IntKind.signed]; omega
theorem eK {n : Int} (h0 : 0 <= n) (h1 : n <= 65535) : IntKind.u16.wrap n = n := by
 unfold IntKind.wrap; simp [IntKind.bits, IntKind.signed]; omega
theorem fG {n : Int} (h0 : 0 <= n) (h1 : n <= 255) : IntKind.u8.wrap n = n := by
 unfold IntKind.wrap; simp [IntKind.bits, IntKind.signed]; omega
theorem Pf (n : Int) : IntKind.u64.wrap n = n % 18446744073709551616 := by
 unfold IntKind.wrap; simp [IntKind.bits, IntKind.signed]
theorem Px (n : Int) : IntKind.u8.wrap n = n % 256 := by
 unfold IntKind.wrap; simp [IntKind.bits, IntKind.signed]
theorem NW (x y : ByteArray) (h : ((x.size + y.size : Nat) : Int) <= 9223372036854775807) : (fD .add t ox oy (.string x) (.string y)).run P w = .ok (.value (.string (x ++ y))) w := by
 have : ¬ (((x.size + y.size : Nat) : Int) > IntKind.i64.max) := by
  have e : IntKind.i64.max = 9223372036854775807 := by decide
  rw [e]; omega
 simp only [fD, xS, kL, binOp, Op.stringOp, this, if_false]
 rfl
theorem Oy (x y : ByteArray) : (fD .eql t ox oy (.string x) (.string y)).run P w = .ok (.value (.bool (x.toList == y.toList))) w := by
 simp [fD, xS, kL, binOp, Op.stringOp, eqGuard]
theorem Mr (x y : ByteArray) : (fD .neq t ox oy (.string x) (.string y)).run P w = .ok (.value (.bool !(x.toList == y.toList))) w := by
 simp [fD, xS, kL, binOp, Op.stringOp, eqGuard]
theorem LC (n : Nat) {e : TypeId} (hu : P.underlying t = some (.pointer e)) (x : Option Addr) : (Op.equalIn (n + 1) t (.pointer x) (.pointer none)).run P w = .ok x.isNone w := by
 simp only [Op.equalIn, underlying]
 cases x <;> simp [hu]
theorem Ob {e : TypeId} (hu : P.underlying t = some (.pointer e)) (x : Option Addr) : (Op.equal t (.pointer x) (.pointer none)).run P w = .ok x.isNone w := LC 9999 hu x
theorem Nv (m : Nat) {e : TypeId} (hu : P.underlying t = some (.slice e)) (x : Option Addr) (n c : Nat) : (Op.equalIn (m + 1) t (.slice x n c) (.slice none 0 0)).run P w = .ok x.isNone w := by
 simp only [Op.equalIn, underlying]
 cases x <;> simp [hu]
theorem OO {e : TypeId} (hu : P.underlying t = some (.slice e)) (x : Option Addr) (n c : Nat) : (Op.equal t (.slice x n c) (.slice none 0 0)).run P w = .ok x.isNone w := Nv 9999 hu x n c
theorem LU {e : TypeId} (hu : P.underlying t = some (.pointer e)) (x : Option Addr) : (fD .eql t ox oy (.pointer x) (.pointer none)).run P w = .ok (.value (.bool x.isNone)) w :=
 Hn rfl rfl (Ob hu x)
theorem Nd {e : TypeId} (hu : P.underlying t = some (.slice e)) (x : Option Addr) (n c : Nat) : (fD .eql t ox oy (.slice x n c) (.slice none 0 0)).run P w = .ok (.value (.bool x.isNone)) w :=
 Hn rfl rfl (OO hu x n c)
theorem tB {s : TypeId} {d : TypeDesc} {kd : IntKind} (hs : P.underlying s = some d) (hu : P.underlying t = some (.int kd)) : (iO s t (.int k a)).run P w = .ok (.value (.int kd (kd.wrap a))) w := by
 cases d <;> simp [iO, kL, convert, underlying, hs, hu, Conv.intToInt]
theorem IC {ty : TypeId} {e : TypeId} (hu : P.underlying t = some (.slice e)) (x : Option Addr) (n c : Nat) : (mC .len #[t] ty [.slice x n c]).run P w = .ok (.value (.int .i64 n)) w := by
 simp [mC, builtin, Builtin.len_, underlying, hu, goInt]
theorem Ou {ty : TypeId} (hu : P.underlying t = some .string) (x : ByteArray) : (mC .len #[t] ty [.string x]).run P w = .ok (.value (.int .i64 x.size)) w := by
 simp [mC, builtin, Builtin.len_, underlying, hu, goInt]
theorem eM {ats : Array TypeId} {ty : TypeId} : (mC .min ats ty [.int k a, .int k b]).run P w = .ok (.value (.int k (if b < a then b else a))) w := by
 simp [mC, builtin, Builtin.min_, Builtin.min2]
theorem eY {ats : Array TypeId} {ty : TypeId} : (mC .max ats ty [.int k a, .int k b]).run P w = .ok (.value (.int k (if b > a then b else a))) w := by
 simp [mC, builtin, Builtin.max_, Builtin.max2]
theorem fY (a b : Q7) : (hY (.tuple #[a, b]) 0).run P w = .ok (.value a) w := Eq.trans rfl rfl
theorem gC (a b : Q7) : (hY (.tuple #[a, b]) 1).run P w = .ok (.value b) w := Eq.trans rfl rfl
theorem gB (a b c : Q7) : (hY (.tuple #[a, b, c]) 0).run P w = .ok (.value a) w := Eq.trans rfl rfl
theorem fZ (a b c : Q7) : (hY (.tuple #[a, b, c]) 1).run P w = .ok (.value b) w := Eq.trans rfl rfl
theorem fV (a b c : Q7) : (hY (.tuple #[a, b, c]) 2).run P w = .ok (.value c) w := Eq.trans rfl rfl
theorem fX (a b c d : Q7) : (hY (.tuple #[a, b, c, d]) 0).run P w = .ok (.value a) w := Eq.trans rfl rfl
theorem gA (a b c d : Q7) : (hY (.tuple #[a, b, c, d]) 1).run P w = .ok (.value b) w := Eq.trans rfl rfl
theorem fW (a b c d : Q7) : (hY (.tuple #[a, b, c, d]) 2).run P w = .ok (.value c) w := Eq.trans rfl rfl
theorem gD (a b c d : Q7) : (hY (.tuple #[a, b, c, d]) 3).run P w = .ok (.value d) w := Eq.trans rfl rfl
theorem eA (x : Addr) : (jJ (.pointer (some x))).run P w = .ok (.value (.pointer (some x))) w := Eq.trans rfl rfl
theorem jZ {fs : Array Field} {f : Field} {i : Nat} {inf : TypeInfo} (hu : P.underlying t = some (.struct fs)) (hf : fs[i]? = some f)
 (hi : P.info? f.type = some inf) (hz : inf.size ≠ 0) (x : Addr) : (fJ t (.pointer (some x)) i).run P w = .ok (.value (.pointer (some (x.add f.offset)))) w := by
 simp [fJ, kL, Instr.fieldAt, underlying, hu, hf, Instr.sureAddr, fieldPlace, sizeOf, typeInfo, hi, hz]
theorem Mg {e : TypeId} {inf : TypeInfo} (hu : P.underlying t = some (.slice e)) (hi : P.info? e = some inf) (x : Addr) (n c : Nat) (h0 : 0 <= a) (h1 : a < n) :
 (iW t (.slice (some x) n c) (.int k a)).run P w = .ok (.value (.pointer (some (x.add (a.toNat * inf.size))))) w := by
 simp [iW, kL, Instr.indexAt, asIntOf, underlying, hu, h0, h1, sizeOf, typeInfo, hi]
theorem LY {e : TypeId} {len : Nat} {inf : TypeInfo} (hu : P.underlying t = some (.array len e)) (hi : P.info? e = some inf) (x : Addr) (h0 : 0 <= a) (h1 : a < len) :
 (iW t (.pointer (some x)) (.int k a)).run P w = .ok (.value (.pointer (some (x.add (a.toNat * inf.size))))) w := by
 simp [iW, kL, Instr.indexAt, asIntOf, underlying, hu, h0, h1, sizeOf, typeInfo, hi, Instr.sureAddr]
theorem Oi (hu : P.underlying t = some .string) (x : ByteArray) (h0 : 0 <= a) (h1 : a.toNat < x.size) :
 (D0 t (.string x) (.int k a)).run P w = .ok (.value (.int .u8 (x[a.toNat]'h1).toNat)) w := by
 simp [D0, kL, Instr.index, asIntOf, underlying, hu, h0, h1]
end
end Go.En

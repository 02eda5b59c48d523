/- Parts of the proof of StoreClaims: merged and given short names by a program of ours. -/
import Derived.Orders
import Derived.Below
import Derived.KernelRfl
import Derived.Eval
import Derived.RangeFuncRecord
import Derived.Laws.Sem
import Derived.Scope
import Derived.Test.YteelnmpbnaohpaaDoorRows
set_option linter.unusedVariables false
set_option linter.unusedSimpArgs false
open Array renaming getElem?_eq_getElem → Z4, getElem?_setIfInBounds_self_of_lt → Z6, getElem?_setIfInBounds_ne → Z8, getD_eq_getD_getElem? → ZX, getElem?_eq_none → aaI, all_eq_true' → abD, getElem?_toList → abZ, mem_of_getElem? → adH
open Bool renaming false_eq_true → ZM, not_true → ZR, and_eq_true → ZZ, or_eq_true → aaX, not_eq_true' → abQ, or_eq_false_iff → acO, false_or → adE
open List renaming map_cons → Z0, mem_cons_of_mem → Z1, getElem?_cons_succ → ZL, getElem?_eq_getElem → ZU, getD_eq_getElem?_getD → ZW, length_eq_zero_iff → aaB, length_cons → aaG, getElem?_eq_none → aaK, mem_cons → aaN, mem_range → aaO, toList_toArray → aaP, all_eq_true → aaQ, mem_map → aaU, map_congr_left → abA, mem_cons_self → abC, mem_append → abJ, mem_append_left → abU, size_toArray → abV, mem_append_right → acL, getElem_of_mem → acU, drop_eq_getElem_cons → acV, mem_of_getElem? → adK
open Nat renaming le_refl → Z2, zero_add → ZS, eq_of_beq_eq_true → aaE, lt_or_ge → aaW, le_of_ble_eq_true → abS, lt_of_lt_of_le → abY, add_assoc → acD, blt_eq → acF, mod_lt → acG, ne_of_lt → acK, le_trans → acM
open Option renaming map_some → aaS, getD_some → aaZ
open Option.some renaming injEq → aaH, inj → abB
namespace Go.En
open Go
abbrev adR := World
abbrev adS := Value
abbrev Env := Nat -> adS
def put (g : Env) (d : Option Tmp) (v : adS) : Env :=
 match d with
 | some d => fun i => match Nat.beq i d with | true => v | false => g i
 | none => g
def ev (g : Env) : Operand -> adS
 | .tmp t => g t
 | .const v => v
 | .global b => .pointer (some ⟨b, 0, none⟩)
 | .func f => .func (.func f) #[] #[]
def Zf (P : Program) (f : FuncId) (args : Array adS) (w : adR) (v : adS) (w' : adR) : Prop :=
 Calls P f args w fun e w'' => e = .returned v /\ w'' = w'
def gS (P : Program) (f : FuncId) (args : Array adS) (w : adR) (R : adS -> adR -> Prop) : Prop :=
 ∃ v w', Zf P f args w v w' /\ R v w'
theorem gS.mono {P : Program} {f : FuncId} {args : Array adS} {w : adR} {R R' : adS -> adR -> Prop} (h : gS P f args w R)
 (hr : ∀ v w', R v w' -> R' v w') : gS P f args w R' :=
 let ⟨v, w', a, b⟩ := h; ⟨v, w', a, hr _ _ b⟩
def YZ (P : Program) (l : Nat) (f : FuncId) (tmps : Array adS) (ZJ bd : Code) (w : adR) (v : adS) (w' : adR) : Prop :=
 RoundIn Fence.wide 0 P l f tmps ZJ bd w fun e w'' => e = .returned v /\ w'' = w'
def PM (P : Program) (l : Nat) (f : FuncId) (tmps : Array adS) (ZJ bd : Code) (w : adR) (R : adS -> adR -> Prop) : Prop :=
 ∃ v w', YZ P l f tmps ZJ bd w v w' /\ R v w'
def MK (P : Program) (r : Result Next) (K : adS -> adR -> Prop) : Prop :=
 match r with
 | .ok (.value v) w => K v w
 | .ok .skip w => K undef w
 | .ok (.enter f args) w => gS P f args w K
 | .ok (.round l f tmps ZJ bd) w => PM P l f tmps ZJ bd w K
 | _ => False
theorem dX (P : Program) (v : adS) (w : adR) (K : adS -> adR -> Prop) : MK P (.ok (.value v) w) K = K v w := Eq.trans rfl rfl
theorem stepR_skip (P : Program) (w : adR) (K : adS -> adR -> Prop) : MK P (.ok .skip w) K = K undef w := Eq.trans rfl rfl
theorem Rz (P : Program) (l : Nat) (f : FuncId) (tmps : Array adS) (ZJ bd : Code) (w : adR) (K : adS -> adR -> Prop) :
 MK P (.ok (.round l f tmps ZJ bd) w) K = PM P l f tmps ZJ bd w K := Eq.trans rfl rfl
def eY (P : Program) (s : Sem Next) (w : adR) (K : adS -> adR -> Prop) : Prop := MK P (s.run P w) K
def gN (P : Program) (s : Sem Next) (v : adS) (w : adR) : Prop := s.run P w = .ok (.value v) w
def Gd (b : Bool) (s : (adS -> adR -> Prop) -> Prop) (w : adR) (K : adS -> adR -> Prop) : Prop :=
 match b with
 | true => s K
 | false => K undef w
def Zt (v : adS) : Option Bool := match v with | .bool b => some b | _ => none
def kP (v : adS) (want : Bool) : Bool := Zt v == some want
def lN (v : adS) (A B : Prop) : Prop :=
 match v with
 | .bool b => (match b with | true => A | false => B)
 | _ => False
def Bd (ops : Array Oper) (j : Nat) : Option Tmp := (ops[j]?).bind (·.dst)
def wX (g : Env) (t : Option Tmp) (want : Bool) : Bool := match t with | some t => kP (g t) want | none => false
def V (s : Sem adS) : Sem Next := do pure (.value (<- s))
def U (s : Sem Unit) : Sem Next := do s; pure .skip
def B4 (op : BinOp) : Bool := match op with | .eql | .neq => true | _ => false
def gO (op : BinOp) (t : TypeId) (ox oy : Operand) (x y : adS) : Sem Next :=
 match B4 op with
 | true => V (do eqGuard op t ox oy x y; binOp op t x y)
 | false => V (binOp op t x y)
def mO (b : Builtin) (ats : Array TypeId) (ty : TypeId) (args : List adS) : Sem Next := builtin b ats ty #[] args.toArray
def xY (f : adS) (args : List adS) : Sem Next := do let d <- Deferred.ofValue f args.toArray; invoke d.target d.args
def I7 (fn : Fn) (first captured : List adS) : Sem Next := V (Instr.makeFunc fn first.toArray captured.toArray)
def lI (t : TypeId) (ps : List (Nat × adS)) : Sem Next := V (Instr.build t ps.toArray)
def iJ (t : TypeId) (n : Nat) (ps : List (Nat × adS)) : Sem Next := V (Instr.buildSlice t n ps.toArray)
def F2 (g : Env) (o : Oper) : Sem Next :=
 match o.op with
 | .binOp op t x y _ => gO op t x y (ev g x) (ev g y)
 | .makeFunc fn first captured => I7 fn (first.toList.map (ev g)) (captured.toList.map (ev g))
 | .build t ps => lI t (ps.toList.map fun p => (p.1, ev g p.2))
 | .buildSlice t n ps => iJ t n (ps.toList.map fun p => (p.1, ev g p.2))
 | .call c => (match c.callee with
   | .builtin b => mO b c.argTypes o.type (c.args.toList.map (ev g))
   | .value f => xY (ev g f) (c.args.toList.map (ev g))
   | _ => execOp (ev g) o)
 | _ => execOp (ev g) o
def Eu (P : Program) (g : Env) (o : Oper) (w : adR) (K : adS -> adR -> Prop) : Prop :=
 match o.op with
 | .move x => K (ev g x) w
 | .assign x => K (ev g x) w
 | .call c => (match c.callee with
   | .value (.func f) => gS P f (c.args.toList.map (ev g)).toArray w K
   | _ => eY P (F2 g o) w K)
 | _ => eY P (F2 g o) w K
def Dq (P : Program) (ops : Array Oper) (g : Env) (o : Oper) (w : adR) (K : adS -> adR -> Prop) : Prop :=
 match o.guard with
 | none => Eu P g o w K
 | some (j, want) => Gd (wX g (Bd ops j) want) (Eu P g o w) w K
def NT (P : Program) (ops : Array Oper) : List Oper -> Env -> adR -> (Env -> adR -> Prop) -> Prop
 | [], g, w, K => K g w
 | o :: rest, g, w, K => Dq P ops g o w fun v w' => NT P ops rest (put g o.dst v) w' K
structure Rec where
 heavy : Bool
 o : Oper
 g : Env
 w : adR
 v : adS
def Za (ops : Array Oper) (o : Oper) (g : Env) : Bool := match o.guard with | none => true | some (j, want) => wX g (Bd ops j) want
def Gs (b : Bool) (p : Prop) : Prop := match b with | true => p | false => True
def Ko (P : Program) (ops : Array Oper) (q : Rec) (o : Oper) (g : Env) (w' : adR) (v : adS) : Prop :=
 match q.heavy with
 | true => Gs (Za ops o g) (gN P (F2 g o) v q.w)
 | false => Gs (Za ops q.o q.g) (gN P (F2 q.g q.o) q.v w')
def OO (i j : Nat) : List (Nat × Nat) -> Bool
 | [] => false
 | (a, b) :: r => match Nat.beq a i with
   | true => (match Nat.beq b j with | true => true | false => OO i j r)
   | false => OO i j r
def pK (i : Nat) : List Nat -> Bool
 | [] => false
 | a :: r => match Nat.beq a i with | true => true | false => pK i r
def R0 : List Rec -> Nat -> Option Rec
 | [], _ => none
 | q :: _, 0 => some q
 | _ :: r, n + 1 => R0 r n
def Xn (P : Program) (ops : Array Oper) (o : Oper) (g : Env) (w' : adR) (v : adS) (hist : List Rec) : List Nat -> Prop
 | [] => True
 | k :: ks => (match R0 hist k with
   | some q => Ko P ops q o g w' v
   | none => False) /\ Xn P ops o g w' v hist ks
abbrev TN := List Nat × List (Nat × Nat)
abbrev QV := List (Bool × List Nat)
def qF (P : Program) (ops : Array Oper) : List Oper -> QV -> List Rec -> Env -> adR -> (Env -> adR -> Prop) -> Prop
 | [], _, _, g, w, K => K g w
 | _ :: _, [], _, _, _, _ => False
 | o :: rest, (hv, ks) :: pl, hist, g, w, K =>
   Dq P ops g o w fun v w' =>
    match hv, ks with
    | true, [] => qF P ops rest pl (⟨true, o, g, w, v⟩ :: hist) (put g o.dst v) w' K
    | true, k :: ks => Xn P ops o g w' v hist (k :: ks) /\ qF P ops rest pl (⟨true, o, g, w, v⟩ :: hist) (put g o.dst v) w' K
    | false, [] => w' = w /\ qF P ops rest pl (⟨false, o, g, w, v⟩ :: hist) (put g o.dst v) w K
    | false, k :: ks => w' = w /\ Xn P ops o g w v hist (k :: ks) /\ qF P ops rest pl (⟨false, o, g, w, v⟩ :: hist) (put g o.dst v) w K
def kC {α : Type} (F : (α -> adR -> Prop) -> α -> adR -> Prop) (g : α) (w : adR) : Prop :=
 ∃ I : Nat -> α -> adR -> Prop, (∃ n, I n g w) /\ ∀ n g w, I n g w -> F (fun g' w' => ∃ m, m < n /\ I m g' w') g w
def yR (K : Env -> adR -> Prop) (Q : Exit -> Env -> adR -> Prop) : Exit -> Env -> adR -> Prop :=
 fun e g w => (fun (_ : Program -> Sem Next -> adR -> (adS -> adR -> Prop) -> Prop) => match e with | .normal => K g w | e => Q e g w) eY
def Xd (id : Nat) (Q : Exit -> Env -> adR -> Prop) : Exit -> Env -> adR -> Prop :=
 fun e g w => (fun (_ : Program -> Sem Next -> adR -> (adS -> adR -> Prop) -> Prop) => match e with | .exit i => (match Nat.beq i id with | true => Q .normal g w | false => Q (.exit i) g w) | e => Q e g w) eY
inductive HT where
 | leaf (an : TN) (pl : QV)
 | perm (π : List Nat) (es : List (Nat × Nat)) (an : TN) (pl : QV)
 | split (a b : Nat) (x y : HT)
structure FA where
 f : FuncId
 t : Nat -> HT
def vE : List Nat -> Nat -> Nat
 | [], _ => 0
 | a :: r, i => match Nat.beq a i with | true => 0 | false => vE r i + 1
def CQ (π : List Nat) (i : Nat) : List (Nat × Nat) -> List Edge
 | [] => []
 | (a, b) :: r => match Nat.beq b i with | true => ⟨vE π a, .data⟩ :: CQ π i r | false => CQ π i r
def EU (π : List Nat) (es : List (Nat × Nat)) (i : Nat) (o : Oper) : Oper :=
 { dst := o.dst, op := o.op, type := o.type, pos := o.pos, after := (o.after.toList.map (fun e => (⟨vE π e.on, e.ground⟩ : Edge)) ++ CQ π i es).toArray,
   guard := match o.guard with | none => none | some (j, b) => some (vE π j, b) }
def Lc (π : List Nat) (es : List (Nat × Nat)) (l : List Oper) : List Nat -> List Oper
 | [] => []
 | i :: r => match l[i]? with | some o => EU π es i o :: Lc π es l r | none => Lc π es l r
def pB (π : List Nat) (es : List (Nat × Nat)) (ops : Array Oper) : Array Oper := (Lc π es ops.toList π).toArray
def Wu (f : FuncId) (id : Nat) (ops : Array Oper) (a b : Nat) (w : adR) : Bool :=
 Nat.ble ((Region.schedule true ops (w.tape w.drawn (.order f id))).idxOf a) ((Region.schedule true ops (w.tape w.drawn (.order f id))).idxOf b)
def Ord (b : Bool) (A B : Prop) : Prop := match b with | true => A | false => B
def QX (P : Program) (f : FuncId) (id : Nat) (ops : Array Oper) : HT -> Env -> adR -> adR -> (Env -> adR -> Prop) -> Prop
 | .leaf _ pl, g, _, w, K => qF P ops ops.toList pl [] g w K
 | .perm π es _ pl, g, _, w, K => qF P (pB π es ops) (pB π es ops).toList pl [] g w K
 | .split a b x y, g, w0, w, K => Ord (Wu f id ops a b w0) (QX P f id ops x g w0 w K) (QX P f id ops y g w0 w K)
def DS : Nat := 1000003
def Rj : adS -> List Deferred
 | .pointer (some a) => [{ target := .collected a.block, args := #[] }]
 | _ => []
def noMark : adS -> Bool
 | .pointer _ => false
 | _ => true
def tmpsOf (N : Nat) (g : Env) : Array adS := Array.ofFn (n := N) fun i => g i.val
def MG (P : Program) (f : FuncId) : Nat := match P.funcs[f]? with | some fn => fn.ntmps | none => 0
def Yn (Q : Exit -> Env -> adR -> Prop) (g : Env) : Option Code -> adR -> Prop
 | none, w => Q .normal g w
 | some .ret, w => Q .ret g w
 | some (.exit i), w => Q (.exit i) g w
 | _, _ => False
def Vo (l : Nat) (Q : Exit -> Env -> adR -> Prop) (g : Env) (w : adR) : Prop :=
 ∃ r : Loop, w.heap[l]? = some (.loop r) /\ r.state ≠ .busy /\ Yn Q g r.pending (w.putObj l (.loop { r with state := .exhausted }))
def U0 (f : FuncId) (N : Nat) (ps : Array Tmp) (ZJ bd : Code) (g : Env) (w : adR) : adR :=
 (w.alloc (.deferred (some []))).alloc (.loop { state := .ready, pending := none, fn := f, tmps := tmpsOf N g, params := ps, assign := ZJ, body := bd, defers := w.heap.size })
def YO (P : Program) (r : Result Next) (K : adS -> adR -> Prop) : Prop :=
 match r with
 | .ok (.enter f args) w => gS P f args w K
 | _ => False
def Dh (l : Nat) : adS := .func (.yield l) #[] #[]
def RF (P : Program) (f : FuncId) (gf : Operand) (ps : Array Tmp) (ZJ bd : Code) (Q : Exit -> Env -> adR -> Prop) (g : Env) (w : adR) : Prop :=
 match noMark (g DS) with
 | true => YO P ((xY (ev g gf) [Dh (w.heap.size + 1)]).run P (U0 f (MG P f) ps ZJ bd g w)) fun _ w3 =>
  Vo (w.heap.size + 1) Q (put g (some DS) (.pointer (some ⟨w.heap.size, 0, none⟩))) w3
 | false => False
def iU (P : Program) (ann : FA) : Code -> (Exit -> Env -> adR -> Prop) -> Env -> adR -> Prop
 | .skip, Q, g, w => Q .normal g w
 | .region id ops draw, Q, g, w => match draw with
   | false => NT P ops ops.toList g w (Q .normal)
   | true => QX P ann.f id ops (ann.t id) g w { w with drawn := w.drawn + 1 } (Q .normal)
 | .seq x y, Q, g, w => iU P ann x (yR (fun g w => iU P ann y Q g w) Q) g w
 | .cond c x y, Q, g, w => lN (ev g c) (iU P ann x Q g w) (iU P ann y Q g w)
 | .block id c, Q, g, w => iU P ann c (Xd id Q) g w
 | .loop c, Q, g, w => kC (fun X g w => iU P ann c (yR X Q) g w) g w
 | .scope c, Q, g, w => iU P ann c Q g w
 | .label _, Q, g, w => Q .normal g w
 | .exit id, Q, g, w => Q (.exit id) g w
 | .ret, Q, g, w => Q .ret g w
 | .rangeFunc gf ps ZJ bd, Q, g, w => RF P ann.f gf ps ZJ bd Q g w
 | _, _, _, _ => False
def TM (N : Nat) (o : Oper) : Bool := match o.dst with | some d => Nat.blt d N | none => true
def U1 (b : Array Nat) (i j : Nat) : Bool := (b.getD j 0).testBit i
def looks (ops : Array Oper) (o : Oper) : List Tmp :=
 (o.op.operands.toList.filterMap fun | .tmp t => some t | _ => none) ++ (match o.guard with | some (j, _) => (Bd ops j).toList | none => [])
def VC (ops : Array Oper) (x y : Oper) : Bool :=
 (match x.dst with | some d => (looks ops y).contains d || y.dst == some d | none => false) ||
 (match y.dst with | some d => (looks ops x).contains d | none => false)
def MP (o : Oper) : Bool := match o.op with | .select .. => true | _ => false
def V6 (o : Oper) : Bool := match o.op with | .call { callee := .value (.func _), .. } => true | _ => false
def Qa (o : Oper) : Bool := match o.op with | .defer .. => true | _ => false
def Qe : Operand -> Bool | .tmp t => Nat.blt t DS | _ => true
def Nz (P : Program) (o : Oper) : Bool :=
 match o.op with
 | .call c => (match c.callee with
   | .value (.func f) => (match P.funcs[f]? with | some fn => fn.body.isSome && !(fn.name == "runtime.NumGoroutine") | none => false)
   | .builtin b => (match b with | .print | .println => false | _ => true)
   | _ => true)
 | _ => true
def Ay (P : Program) (o : Oper) : Bool := Nz P o && (o.op.operands.toList.all Qe && (!MP o && !Qa o))
def G3 (o : Oper) : Bool := match o.op with | .move _ | .assign _ => true | _ => false
def Iv (ops : Array Oper) (b : Array Nat) (an : TN) (i j : Nat) (x y : Oper) : Bool :=
 U1 b i j ||
 (!VC ops x y &&
   match pK i an.1, pK j an.1 with
   | true, true => false
   | false, false => true
   | true, false => G3 y || OO i j an.2
   | false, true => G3 x || OO i j an.2)
def Rt (ops : Array Oper) (b : Array Nat) (an : TN) : Bool :=
 (List.range ops.size).all fun j => (List.range j).all fun i =>
  match ops[i]?, ops[j]? with
  | some x, some y => Iv ops b an i j x y
  | _, _ => false
def PB (ops : Array Oper) : Bool :=
 (List.range ops.size).all fun i => match ops[i]? with
  | some o => o.after.all fun e => !Region.binds .any e || Nat.blt e.on i
  | none => false
def P6 (ops : Array Oper) (b : Array Nat) : Bool :=
 (List.range ops.size).all fun j => (List.range ops.size).all fun i =>
  !U1 b i j || (match ops[j]? with
   | some o => o.after.any fun e => Region.binds .any e && (Nat.beq e.on i || U1 b i e.on)
   | none => false)
def Ox (ops : Array Oper) (an : TN) : Bool :=
 PB ops && P6 ops (Region.before ops) && Rt ops (Region.before ops) an && (ops.all fun o => !MP o) &&
  (List.range ops.size).all fun i => match ops[i]? with | some o => !V6 o || pK i an.1 | none => false
def On (n : Nat) (an : TN) (pl : QV) : Bool :=
 (List.range n).all fun i => match pl[i]? with
  | some (h, ks) => h == pK i an.1 && an.2.all fun p => !Nat.beq p.2 i || (Nat.blt p.1 i && ks.contains (i - 1 - p.1))
  | none => false
def Sx (π : List Nat) (ops : Array Oper) : Bool :=
 Nat.beq π.length ops.size && ((List.range ops.size).all fun k => match π[k]? with | some i => Nat.beq (vE π i) k && Nat.blt i ops.size | none => false) &&
  ((List.range ops.size).all fun i => match π[vE π i]? with | some j => Nat.beq j i | none => false) &&
  ((List.range ops.size).all fun i => match ops[i]? with
    | some o => (o.after.all fun e => Nat.blt e.on ops.size) && (match o.guard with | some (j, _) => Nat.blt j ops.size | none => true)
    | none => false)
def Kx (P : Program) (N : Nat) (ops : Array Oper) : List (Nat × Nat) -> HT -> Bool
 | _, .leaf an pl => Ox ops an && On ops.size an pl
 | path, .perm π es an pl => (es.all fun p => OO p.1 p.2 path && Nat.blt p.1 ops.size) && Sx π ops && (pB π es ops).all (TM N) && (pB π es ops).all (Ay P) &&
  Ox (pB π es ops) an && On (pB π es ops).size an pl
 | path, .split a b x y => !Nat.beq a b && Kx P N ops ((a, b) :: path) x && Kx P N ops ((b, a) :: path) y
def codeOk (P : Program) (N : Nat) (ann : FA) : Code -> Bool
 | .skip | .exit _ | .ret | .label _ => true
 | .scope c => codeOk P N ann c
 | .region id ops draw => ops.all (TM N) && ops.all (Ay P) && (!draw || Kx P N ops [] (ann.t id))
 | .seq x y => codeOk P N ann x && codeOk P N ann y
 | .cond c x y => Qe c && (codeOk P N ann x && codeOk P N ann y)
 | .block _ c => codeOk P N ann c
 | .loop c => codeOk P N ann c
 | .rangeFunc gf _ _ _ => Qe gf
 | _ => false
def rD : Code -> Bool
 | .seq x y => rD x && rD y
 | .cond _ x y => rD x && rD y
 | .block _ c => rD c
 | .loop c => rD c
 | .scope c => rD c
 | .rangeFunc .. => false
 | _ => true
def PU : ResultVar -> Bool
 | .tmp t => Nat.blt t DS
 | .cell a _ => Nat.blt a DS
theorem Gn (g : Env) (d i : Nat) (v : adS) : put g (some d) v i = if i = d then v else g i := by
 unfold put
 by_cases h : i = d
 .subst h; simp
 .have : Nat.beq i d = false := by
   cases hb : Nat.beq i d
   .rfl
   .exact absurd (aaE hb) h
  simp [this, h]
theorem Q7 {P : Program} {o : Oper} (h : Ay P o = true) : Nz P o = true := by
 unfold Ay at h; simp only [ZZ] at h; exact h.1
theorem Tb {P : Program} {o : Oper} (h : Ay P o = true) : ∀ x ∈ o.op.operands, Qe x = true := by
 unfold Ay at h; simp only [ZZ] at h
 intro x hx
 exact aaQ.1 h.2.1 x (by simpa using hx)
theorem Sy {P : Program} {o : Oper} (h : Ay P o = true) : MP o = false := by
 unfold Ay at h; simp only [ZZ, abQ] at h; exact h.2.2.1
theorem SJ {P : Program} {o : Oper} (h : Ay P o = true) : Qa o = false := by
 unfold Ay at h; simp only [ZZ, abQ] at h; exact h.2.2.2
def KF (N : Nat) (ops : Array Oper) : Prop := ∀ (i : Nat) (o : Oper), ops[i]? = some o -> ∀ t, o.dst = some t -> t < N
structure Jm (N : Nat) (g : Env) (a : Act) : Prop where
 le : N <= DS
 defers : a.defers = Rj (g DS)
 size : a.tmps.size = N
 at_ : ∀ i, i ≠ DS -> a.tmps.getD i undef = g i
theorem Jm.ev {N : Nat} {g : Env} {a : Act} (h : Jm N g a) (x : Operand) (hx : Qe x = true) : a.eval x = ev g x := by
 cases x with
 | tmp t =>
   have : t < DS := (acF (x := t) (y := DS)) ▸ hx
   have e := h.at_ t (acK this)
   simp [Act.eval, En.ev, <- e]
 | _ => simp [Act.eval, En.ev]
theorem Jm.put {N : Nat} {g : Env} {a : Act} (h : Jm N g a) (d : Option Tmp) (v : adS) (hd : ∀ t, d = some t -> t < N) :
 Jm N (put g d v) (a.put d v) := by
 cases d with
 | none => exact h
 | some t =>
   obtain ⟨h0, h1, h2, h3⟩ := h
   have ht := hd t rfl
   refine ⟨h0, ?_, by simp [Act.put, h2], fun i hne => ?_⟩
   .rw [Gn, if_neg (Nat.ne_of_gt (abY ht h0))]; exact h1
   .rw [Gn, <- h3 i hne]
    by_cases hi : i = t
    .subst hi; simp [Act.put, h2, ht]
    .have hi' : t ≠ i := fun e => hi e.symm
     simp [Act.put, hi, Z8 hi']
theorem Jm.wanted {N : Nat} {g : Env} {a : Act} (h : Jm N g a) (ops : Array Oper) (hd : KF N ops) (o : Oper) :
 Region.wanted o (yielded ops a.tmps) = match o.guard with | none => true | some (j, want) => wX g (Bd ops j) want := by
 unfold Region.wanted
 cases o.guard with
 | none => rfl
 | some p =>
   obtain ⟨j, want⟩ := p
   simp only [yielded, wX, Bd]
   cases ho : ops[j]? with
   | none => simp
   | some o' =>
     cases hdd : o'.dst with
     | none => simp [hdd]
     | some t =>
       have hlt := hd j o' ho t hdd
       have hle := h.le
       have h3 := h.at_ t (acK (abY hlt hle))
       simp only [hdd, Option.bind_some, kP, Zt, <- h3]
       simp only [ZX]
       cases ht : a.tmps[t]? with
       | none => simp [undef]
       | some v => cases v <;> simp
def Y8 (P : Program) (o : Oper) (a : Act) (next : Act -> adR -> Prop) : Result Next -> Prop
 | .ok (.value v) w' => next (a.put o.dst v) w'
 | .ok .skip w' => next (a.put o.dst undef) w'
 | .ok (.enter f args) w' => ∃ v w'', Zf P f args w' v w'' /\ next (a.put o.dst v) w''
 | .ok (.round l f tmps ZJ bd) w' => ∃ v w'', YZ P l f tmps ZJ bd w' v w'' /\ next (a.put o.dst v) w''
 | _ => False
def Sr (P : Program) (o : Oper) (a : Act) (w : adR) (next : Act -> adR -> Prop) : Prop := Qa o = false /\ Y8 P o a next ((execOp a.eval o).run P w)
def IB (P : Program) (ops : Array Oper) (i : Nat) (K : Act -> adR -> Prop) (a : Act) (w : adR) : Prop :=
 match ops[i]? with
 | none => K a w
 | some o => if Region.wanted o (yielded ops a.tmps) then Sr P o a w K else K (a.put o.dst undef) w
def Bj (P : Program) (ops : Array Oper) (Q : Act -> adR -> Prop) : List Nat -> Act -> adR -> Prop
 | [], a, w => Q a w
 | i :: rest, a, w => IB P ops i (Bj P ops Q rest) a w
def OT (P : Program) (ops : Array Oper) (Q : Act -> adR -> Prop) : Nat -> Array Bool -> Act -> adR -> Prop
 | 0, listed, a, w => Region.ready .any ops listed = [] /\ Q a w
 | fuel + 1, listed, a, w =>
   (Region.ready .any ops listed = [] -> Q a w) /\ ∀ i ∈ Region.ready .any ops listed, IB P ops i (OT P ops Q fuel (listed.setIfInBounds i true)) a w
theorem PF {P : Program} {o : Oper} {a : Act} {w : adR} {K K' : Act -> adR -> Prop} (h : ∀ a w, K a w -> K' a w) (hh : Sr P o a w K) : Sr P o a w K' := by
 refine ⟨hh.1, ?_⟩
 have hh := hh.2
 generalize (execOp a.eval o).run P w = r at *
 cases r with
 | ok x w' =>
   cases x <;> simp only [Y8] at hh ⊢ <;> first | exact h _ _ hh | (obtain ⟨v, w'', h1, h2⟩ := hh; exact ⟨v, w'', h1, h _ _ h2⟩) | exact hh
 | halt x w' => exact hh.elim
theorem SD {P : Program} {ops : Array Oper} {i : Nat} {a : Act} {w : adR} {K K' : Act -> adR -> Prop} (h : ∀ a w, K a w -> K' a w) (hh : IB P ops i K a w) : IB P ops i K' a w := by
 unfold IB at *
 split
 .exact h _ _ (by simpa [*] using hh)
 .rename_i o ho
  simp only [ho] at hh
  split
  .rename_i hw; simp only [hw, if_true] at hh; exact PF h hh
  .rename_i hw; simp only [hw] at hh; exact h _ _ hh
def OP (ro : Option Nat) : Fence := { Fence.wide with round := ro }
theorem UC {P : Program} {ops : Array Oper} {Q : Act -> adR -> Prop} (ro : Option Nat) : ∀ (L : List Nat) (a : Act) (w : adR), Bj P ops Q L a w →
 wpOpsIn (OP ro) 0 P ops (fun e a w => e = .normal /\ Q a w) L a w := by
 intro L
 induction L with
 | nil => intro a w h; exact ⟨rfl, h⟩
 | cons i L ih =>
   intro a w h
   simp only [Bj, IB] at h
   simp only [wpOpsIn]
   cases ho : ops[i]? with
   | none => rw [ho] at h; exact ih _ _ h
   | some o =>
     rw [ho] at h
     simp only at h ⊢
     by_cases hw : Region.wanted o (yielded ops a.tmps) = true
     .rw [if_pos hw] at h ⊢
      obtain ⟨hd, h⟩ := h
      refine ⟨fun _ _ => trivial, ?_⟩
      rw [Oper.semAt_eq _ _ _ (fun c hc => by simp [Qa, hc] at hd)]
      generalize (execOp a.eval o).run P w = r at *
      cases r with
      | halt x w' => exact h.elim
      | ok x w' =>
        cases x <;> simp only [Y8] at h <;> simp only [Oper.uponIn] <;> try (exact h.elim)
        .exact ih _ _ h
        .exact ih _ _ h
        .obtain ⟨v, w'', h1, h2⟩ := h
         refine ⟨fun hn => by simp [OP, Fence.wide] at hn, ?_⟩
         have := callsIn_wide (n := 0).2 h1
         refine CallsIn.mono (F := OP ro) (n := 0) this ?_
         rintro e w3 ⟨rfl, rfl⟩
         exact ih _ _ h2
        .obtain ⟨v, w'', h1, h2⟩ := h
         refine ⟨fun hn => by simp [OP, Fence.wide] at hn, ?_⟩
         refine RoundIn.mono (F := OP ro) (n := 0) h1 ?_
         rintro e w3 ⟨rfl, rfl⟩
         exact ih _ _ h2
     .rw [if_neg hw] at h ⊢
      exact ⟨fun _ _ => trivial, ih _ _ h⟩
section
variable {P : Program} {ops : Array Oper}
def Nb (P : Program) (ops : Array Oper) (g : Env) (o : Oper) (w : adR) (v : adS) (w' : adR) : Prop :=
 ∀ K : adS -> adR -> Prop, K v w' -> Dq P ops g o w K
theorem Tl {s : Sem Next} {w : adR} {K : adS -> adR -> Prop} (h : eY P s w K) :
 ∃ v w', (∀ K' : adS -> adR -> Prop, K' v w' -> eY P s w K') /\ K v w' := by
 unfold eY at *
 generalize s.run P w = r at *
 match r, h with
 | .ok (.value v) w1, h => exact ⟨v, w1, fun _ h' => h', h⟩
 | .ok .skip w1, h => exact ⟨undef, w1, fun _ h' => h', h⟩
 | .ok (.enter f args) w1, h =>
   obtain ⟨v, w', hr, hk⟩ := h
   exact ⟨v, w', fun _ h' => ⟨v, w', hr, h'⟩, hk⟩
 | .ok (.round l f tmps ZJ bd) w1, h =>
   obtain ⟨v, w', hr, hk⟩ := h
   exact ⟨v, w', fun _ h' => ⟨v, w', hr, h'⟩, hk⟩
theorem PR {g : Env} {o : Oper} {w : adR} {K : adS -> adR -> Prop} (h : Eu P g o w K) :
 ∃ v w', (∀ K' : adS -> adR -> Prop, K' v w' -> Eu P g o w K') /\ K v w' := by
 unfold Eu at *
 split at h
 .exact ⟨_, _, fun _ h' => h', h⟩
 .exact ⟨_, _, fun _ h' => h', h⟩
 .split at h
  .obtain ⟨v, w', a, b⟩ := h
   exact ⟨v, w', fun _ h' => ⟨v, w', a, h'⟩, b⟩
  .exact Tl h
 .exact Tl h
theorem Xk (op : BinOp) (t : TypeId) (ox oy : Operand) (x y : adS) : gO op t ox oy x y = V (do eqGuard op t ox oy x y; binOp op t x y) := by
 cases op <;> simp [gO, B4, eqGuard]
theorem VF {g : Env} {o : Oper} (ho : Ay P o = true) : F2 g o = execOp (ev g) o := by
 have ho := Q7 ho
 unfold F2
 split
 .rename_i op t x y yt hx
  simp only [execOp, hx, Xk, V]
 .rename_i fn first captured hx
  have e1 : (List.map (ev g) first.toList).toArray = first.map (ev g) := by obtain ⟨l⟩ := first; simp
  have e2 : (List.map (ev g) captured.toList).toArray = captured.map (ev g) := by obtain ⟨l⟩ := captured; simp
  simp only [execOp, hx, I7, V, e1, e2]
 .rename_i t ps hx
  have e : (List.map (fun p : Nat × Operand => (p.1, ev g p.2)) ps.toList).toArray = ps.map (fun p => (p.1, ev g p.2)) := by obtain ⟨l⟩ := ps; simp
  simp only [execOp, hx, lI, V, e]
 .rename_i t n ps hx
  have e : (List.map (fun p : Nat × Operand => (p.1, ev g p.2)) ps.toList).toArray = ps.map (fun p => (p.1, ev g p.2)) := by obtain ⟨l⟩ := ps; simp
  simp only [execOp, hx, iJ, V, e]
 .rename_i c hx
  split
  .rename_i b hb
   simp only [execOp, hx, resolve, hb, pure_bind, invoke, mO]
   unfold Nz at ho
   simp only [hx, hb] at ho
   have e : (List.map (ev g) c.args.toList).toArray = c.args.map (ev g) := by obtain ⟨l⟩ := c.args; simp
   rw [e]
   cases b <;> first | rfl | (cases ho)
  .rename_i f hb
   have e : (List.map (ev g) c.args.toList).toArray = c.args.map (ev g) := by obtain ⟨l⟩ := c.args; simp
   simp only [execOp, hx, resolve, hb, xY, e]
  .rfl
 .rfl
theorem G9 {f : FuncId} {fn : Func} (hf : P.funcs[f]? = some fn) (hb : fn.body.isSome = true) (hn : (fn.name == "runtime.NumGoroutine") = false)
 (args : Array adS) (w : adR) : (callFunc f args).run P w = .ok (.enter f args) w := by
 unfold callFunc
 have hb' : fn.body.isNone = false := by cases h : fn.body <;> simp_all
 show Sem.run P (Sem.program fun p => _) w = _
 simp only [Sem.run]
 simp only [bind, Sem.bind, hf, hn, hb', ZM, if_false]
 rfl
theorem GO {g : Env} {o : Oper} {w : adR} {K : adS -> adR -> Prop} (h : Dq P ops g o w K) :
 ∃ v w', Nb P ops g o w v w' /\ K v w' := by
 unfold Nb
 unfold Dq at *
 split at h
 .obtain ⟨v, w', h1, h2⟩ := PR h
  exact ⟨v, w', h1, h2⟩
 .rename_i j want hg
  unfold Gd at *
  cases hb : wX g (Bd ops j) want with
  | true =>
    simp only [hb] at h
    obtain ⟨v, w', h1, h2⟩ := PR h
    exact ⟨v, w', fun K hk => h1 K hk, h2⟩
  | false =>
    simp only [hb] at h
    exact ⟨_, _, fun K hk => hk, h⟩
theorem MY {N i : Nat} {g : Env} {a : Act} {o : Oper} {w w' : adR} {v : adS} {next : Act -> adR -> Prop}
 (hi : ops[i]? = some o) (hc : Ay P o = true) (hd : KF N ops) (hr : Jm N g a) (hy : Nb P ops g o w v w') (hn : next (a.put o.dst v) w') : IB P ops i next a w := by
 have h := hy (fun v2 w2 => v2 = v /\ w2 = w') ⟨rfl, rfl⟩
 unfold IB
 rw [hi]
 simp only [hr.wanted ops hd]
 have run : Eu P g o w (fun v2 w2 => v2 = v /\ w2 = w') -> Sr P o a w next := by
  intro h
  refine ⟨SJ hc, ?_⟩
  have hevs : execOp a.eval o = execOp (ev g) o := execOp_congr o (fun cs b he => by have := Sy hc; simp [MP, he] at this) (fun x hx => hr.ev x (Tb hc x hx))
  have stp : eY P (F2 g o) w (fun v2 w2 => v2 = v /\ w2 = w') -> Y8 P o a next ((execOp (ev g) o).run P w) := by
   intro h
   rw [VF hc] at h
   unfold eY at h
   generalize (execOp (ev g) o).run P w = r at *
   match r, h with
   | .ok (.value v) w1, h => obtain ⟨rfl, rfl⟩ := h; exact hn
   | .ok .skip w1, h => obtain ⟨rfl, rfl⟩ := h; exact hn
   | .ok (.enter f args) w1, h =>
     obtain ⟨v2, w2, hret, rfl, rfl⟩ := h
     exact ⟨_, _, hret, hn⟩
   | .ok (.round l f tmps ZJ bd) w1, h =>
     obtain ⟨v2, w2, hret, rfl, rfl⟩ := h
     exact ⟨_, _, hret, hn⟩
  rw [hevs]
  unfold Eu at h
  split at h
  .rename_i x hx
   obtain ⟨rfl, rfl⟩ := h
   simp only [execOp, hx]; exact hn
  .rename_i x hx
   obtain ⟨rfl, rfl⟩ := h
   simp only [execOp, hx]; exact hn
  .rename_i c hx
   split at h
   .rename_i f hcal
    obtain ⟨v2, w2, hret, rfl, rfl⟩ := h
    have e : (execOp (ev g) o).run P w = .ok (.enter f (List.map (ev g) c.args.toList).toArray) w := by
     have hc := Q7 hc
     unfold Nz at hc
     simp only [hx, hcal] at hc
     cases hfn : P.funcs[f]? with
     | none => rw [hfn] at hc; cases hc
     | some fn =>
       rw [hfn] at hc
       simp only [ZZ, abQ] at hc
       have ea : (List.map (ev g) c.args.toList).toArray = c.args.map (ev g) := by obtain ⟨l⟩ := c.args; simp
       rw [ea]
       simp only [execOp, hx, resolve, hcal, ev, Deferred.ofValue, pure_bind, invoke]
       simp only [Array.empty_append, Array.append_empty]
       exact G9 hfn hc.1 hc.2 _ w
    rw [e]
    exact ⟨_, _, hret, hn⟩
   .exact stp h
  .exact stp h
 unfold Dq at h
 cases hg : o.guard with
 | none =>
   rw [hg] at h
   simp only [if_true]
   exact run h
 | some p =>
   obtain ⟨j, want⟩ := p
   simp only [hg] at h
   simp only
   by_cases hb : wX g (Bd ops j) want = true
   .rw [if_pos hb]
    simp only [hb, Gd] at h
    exact run h
   .rw [if_neg hb]
    have hb' : wX g (Bd ops j) want = false := by simpa using hb
    simp only [hb', Gd] at h
    obtain ⟨rfl, rfl⟩ := h
    exact hn
def L5 (P : Program) (ops : Array Oper) : Prop := ∀ (i : Nat) (o : Oper), ops[i]? = some o -> Ay P o = true
theorem Uy {N : Nat} (hd : KF N ops) (hca : L5 P ops) {Q : Act -> adR -> Prop} {K : Env -> adR -> Prop}
 (hQ : ∀ g a w, Jm N g a -> K g w -> Q a w) :
 ∀ (l : List Oper) (k : Nat) (g : Env) (a : Act) (w : adR), (∀ j, l[j]? = ops[k + j]?) -> Jm N g a -> NT P ops l g w K →
   Bj P ops Q (List.range' k l.length) a w := by
 intro l
 induction l with
 | nil => intro k g a w _ hr h; exact hQ _ _ _ hr h
 | cons o l ih =>
   intro k g a w hl hr h
   have h0 : ops[k]? = some o := by have := hl 0; simpa using this.symm
   obtain ⟨v, w', hy, hk⟩ := GO h
   rw [aaG, List.range'_succ]
   show IB P ops k (Bj P ops Q _) a w
   refine MY h0 (hca k o h0) hd hr hy ?_
   refine ih (k + 1) _ _ _ (fun j => ?_) (hr.put _ _ (hd k o h0)) hk
   have := hl (j + 1)
   simp only [ZL] at this
   rw [this]; congr 1; omega
def MR (an : TN) (O : Nat -> Oper) (G : Nat -> Env) (W : Nat -> adR) (V : Nat -> adS) (i : Nat) : Rec :=
 ⟨pK i an.1, O i, G i, W i, V i⟩
def TL (P : Program) (ops : Array Oper) (an : TN) (O : Nat -> Oper) (G : Nat -> Env) (W : Nat -> adR) (V : Nat -> adS) (i j : Nat) : Prop :=
 Ko P ops (MR an O G W V i) (O j) (G j) (W (j + 1)) (V j)
structure UZ (P : Program) (ops : Array Oper) (an : TN) (g0 : Env) (w0 : adR) (n : Nat) (O : Nat -> Oper) (G : Nat -> Env) (W : Nat -> adR) (V : Nat -> adS) : Prop where
 g0 : G 0 = g0
 w0 : W 0 = w0
 op : ∀ i, i < n -> ops[i]? = some (O i)
 yld : ∀ i, i < n -> Nb P ops (G i) (O i) (W i) (V i) (W (i + 1))
 light : ∀ i, i < n -> pK i an.1 = false -> W (i + 1) = W i
 env : ∀ i, i < n -> G (i + 1) = put (G i) (O i).dst (V i)
 chk : ∀ i j, i < j -> j < n -> OO i j an.2 = true -> TL P ops an O G W V i j
theorem QT {o : Oper} {g : Env} {w' : adR} {v : adS} {hist : List Rec} : ∀ {ks : List Nat}, Xn P ops o g w' v hist ks -> ∀ k ∈ ks, ∃ q, R0 hist k = some q /\ Ko P ops q o g w' v := by
 intro ks
 induction ks with
 | nil => intro _ k hk; cases hk
 | cons a ks ih =>
   rintro ⟨h1, h2⟩ k hk
   rcases aaN.1 hk with rfl | hk
   .cases hn : R0 hist k with
    | none => rw [hn] at h1; exact h1.elim
    | some q => rw [hn] at h1; exact ⟨q, rfl, h1⟩
   .exact ih h2 k hk
theorem Uz {n : Nat} {an : TN} {pl : QV} (h : On n an pl = true) {i : Nat} (hi : i < n) :
 ∃ ks, pl[i]? = some (pK i an.1, ks) /\ ∀ j, OO j i an.2 = true -> j < i /\ (i - 1 - j) ∈ ks := by
 have := aaQ.1 h i (aaO.2 hi)
 cases hp : pl[i]? with
 | none => rw [hp] at this; cases this
 | some p =>
   obtain ⟨hv, ks⟩ := p
   rw [hp] at this
   simp only [ZZ] at this
   obtain ⟨h1, h2⟩ := this
   have h1 : hv = pK i an.1 := by simpa using h1
   refine ⟨ks, by rw [h1], fun j hj => ?_⟩
   have mm : ∀ (l : List (Nat × Nat)), OO j i l = true -> (j, i) ∈ l := by
    intro l
    induction l with
    | nil => intro h; cases h
    | cons q r ih =>
      obtain ⟨a, b⟩ := q
      intro h
      unfold OO at h
      cases ha : Nat.beq a j with
      | true =>
        simp only [ha] at h
        cases hb : Nat.beq b i with
        | true =>
          obtain rfl := aaE ha
          obtain rfl := aaE hb
          exact abC
        | false => simp only [hb] at h; exact Z1 _ (ih h)
      | false => simp only [ha] at h; exact Z1 _ (ih h)
   have := aaQ.1 h2 (j, i) (mm _ hj)
   simp only [Nat.beq_refl, ZR, adE, ZZ] at this
   refine ⟨?_, by simpa using this.2⟩
   have hlt := this.1
   exact (acF (x := j) (y := i)) ▸ hlt
theorem Ri {an : TN} {pl : QV} {g0 : Env} {w0 : adR} {K : Env -> adR -> Prop} (hpl : On ops.size an pl = true) :
 ∀ (l : List Oper) (m : Nat) (hist : List Rec) (O : Nat -> Oper) (G : Nat -> Env) (W : Nat -> adR) (V : Nat -> adS),
   (∀ j, l[j]? = ops[m + j]?) -> m + l.length = ops.size -> UZ P ops an g0 w0 m O G W V -> (∀ i, i < m -> R0 hist (m - 1 - i) = some (MR an O G W V i)) →
   qF P ops l (pl.drop m) hist (G m) (W m) K →
   ∃ (O : Nat -> Oper) (G : Nat -> Env) (W : Nat -> adR) (V : Nat -> adS), UZ P ops an g0 w0 (m + l.length) O G W V /\ K (G (m + l.length)) (W (m + l.length)) := by
 intro l
 induction l with
 | nil => intro m hist O G W V _ _ hr _ h; exact ⟨O, G, W, V, hr, by unfold qF at h; exact h⟩
 | cons o l ih =>
   intro m hist O G W V hl hlen hr hh h
   have h0 : ops[m]? = some o := by have := hl 0; simpa using this.symm
   have hmn : m < ops.size := by rw [aaG] at hlen; omega
   obtain ⟨ks, hk1, hk2⟩ := Uz hpl hmn
   have hdrop : pl.drop m = (pK m an.1, ks) :: pl.drop (m + 1) := by
    have hlt : m < pl.length := by
     rcases aaW m pl.length with h | h
     .exact h
     .rw [aaK h] at hk1; cases hk1
    rw [acV hlt]
    rw [ZU hlt] at hk1
    rw [abB hk1]
   rw [hdrop] at h
   obtain ⟨v, w', hy, hk⟩ := GO h
   have key : (pK m an.1 = false -> w' = W m) /\ (∀ k ∈ ks, ∃ q, R0 hist k = some q /\ Ko P ops q o (G m) w' v) /\
       (qF P ops l (pl.drop (m + 1)) (⟨pK m an.1, o, G m, W m, v⟩ :: hist) (put (G m) o.dst v) w' K) := by
    have nil : ∀ w', ∀ k ∈ ([] : List Nat), ∃ q, R0 hist k = some q /\ Ko P ops q o (G m) w' v := fun _ k hk => (by cases hk)
    cases hm : pK m an.1 with
    | true =>
      rw [hm] at hk
      cases ks with
      | nil => exact ⟨fun e => (by cases e), nil _, hk⟩
      | cons k ks => exact ⟨fun e => (by cases e), QT hk.1, hk.2⟩
    | false =>
      rw [hm] at hk
      cases ks with
      | nil => obtain ⟨rfl, hk⟩ := hk; exact ⟨fun _ => rfl, nil _, hk⟩
      | cons k ks => obtain ⟨rfl, hc, hk⟩ := hk; exact ⟨fun _ => rfl, QT hc, hk⟩
   obtain ⟨kl, c1, c2⟩ := key
   let O' : Nat -> Oper := fun i => if i = m then o else O i
   let V' : Nat -> adS := fun i => if i = m then v else V i
   let G' : Nat -> Env := fun i => if i = m + 1 then put (G m) o.dst v else G i
   let W' : Nat -> adR := fun i => if i = m + 1 then w' else W i
   have eO : ∀ i, i < m -> O' i = O i := fun i hi => if_neg (by omega)
   have eV : ∀ i, i < m -> V' i = V i := fun i hi => if_neg (by omega)
   have eG : ∀ i, i <= m -> G' i = G i := fun i hi => if_neg (by omega)
   have eW : ∀ i, i <= m -> W' i = W i := fun i hi => if_neg (by omega)
   have oO : O' m = o := if_pos rfl
   have oV : V' m = v := if_pos rfl
   have oG : G' (m + 1) = put (G m) o.dst v := if_pos rfl
   have oW : W' (m + 1) = w' := if_pos rfl
   have eR : ∀ i, i < m -> MR an O' G' W' V' i = MR an O G W V i := fun i hi => by
    simp only [MR, eO i hi, eV i hi, eG i (by omega), eW i (by omega)]
   have hr' : UZ P ops an g0 w0 (m + 1) O' G' W' V' := by
    refine ⟨by rw [eG 0 (by omega)]; exact hr.g0, by rw [eW 0 (by omega)]; exact hr.w0, fun i hi => ?_, fun i hi => ?_, fun i hi hm => ?_, fun i hi => ?_, fun i j hij hj hm => ?_⟩
    .by_cases hi' : i = m
     .subst hi'; rw [oO]; exact h0
     .rw [eO i (by omega)]; exact hr.op i (by omega)
    .by_cases hi' : i = m
     .subst hi'; rw [oO, oV, oW, eG i (by omega), eW i (by omega)]; exact hy
     .rw [eO i (by omega), eV i (by omega), eG i (by omega), eW i (by omega), eW (i + 1) (by omega)]; exact hr.yld i (by omega)
    .by_cases hi' : i = m
     .subst hi'; rw [oW, eW i (by omega)]; exact kl hm
     .rw [eW i (by omega), eW (i + 1) (by omega)]; exact hr.light i (by omega) hm
    .by_cases hi' : i = m
     .subst hi'; rw [oO, oV, oG, eG i (by omega)]
     .rw [eO i (by omega), eV i (by omega), eG i (by omega), eG (i + 1) (by omega)]; exact hr.env i (by omega)
    .unfold TL
     by_cases hj' : j = m
     .subst hj'
      rw [eR i (by omega), oO, oV, oW, eG j (by omega)]
      obtain ⟨q, hq, hc⟩ := c1 _ (hk2 i hm).2
      rw [hh i hij] at hq
      obtain rfl := abB hq
      exact hc
     .rw [eR i (by omega), eO j (by omega), eV j (by omega), eG j (by omega), eW (j + 1) (by omega)]
      exact hr.chk i j hij (by omega) hm
   have := ih (m + 1) (⟨pK m an.1, o, G m, W m, v⟩ :: hist) O' G' W' V' (fun j => by
       have := hl (j + 1)
       simp only [ZL] at this
       rw [this]; congr 1; omega) (by rw [aaG] at hlen; omega) hr' (fun i hi => by
       by_cases hi' : i = m
       .subst hi'
        rw [show i + 1 - 1 - i = 0 from by omega]
        simp only [R0, MR, oO, oV, eG i (by omega), eW i (by omega)]
       .rw [eR i (by omega), show m + 1 - 1 - i = (m - 1 - i) + 1 from by omega]
        exact hh i (by omega)) (by rw [oG, oW]; exact c2)
   rw [aaG, show m + (l.length + 1) = m + 1 + l.length from by omega]
   exact this
end
section
variable {P : Program} {ops : Array Oper} {an : TN} {g0 : Env} {w0 : adR} {O : Nat -> Oper} {G : Nat -> Env} {W : Nat -> adR} {V : Nat -> adS}
def G7 (n : Nat) (O : Nat -> Oper) (V : Nat -> adS) (g0 : Env) (S : Nat -> Prop) (g : Env) : Prop :=
 ∀ s, (∃ j, j < n /\ S j /\ (O j).dst = some s /\ (∀ k, k < n -> S k -> (O k).dst = some s -> k <= j) /\ g s = V j) ∨
   ((∀ j, j < n -> S j -> (O j).dst ≠ some s) /\ g s = g0 s)
theorem G7.agree {n : Nat} {S T : Nat -> Prop} {g g' : Env} (h : G7 n O V g0 S g) (h' : G7 n O V g0 T g') (s : Nat)
 (hs : ∀ j, j < n -> (O j).dst = some s -> (S j ↔ T j)) : g s = g' s := by
 rcases h s with ⟨j, h1, h2, h3, h4, h5⟩ | ⟨h1, h2⟩ <;> rcases h' s with ⟨k, k1, k2, k3, k4, k5⟩ | ⟨k1, k2⟩
 .have a := h4 k k1 ((hs k k1 k3).2 k2) k3
  have b := k4 j h1 ((hs j h1 h3).1 h2) h3
  have : j = k := by omega
  subst this; rw [h5, k5]
 .exact absurd h3 (k1 j h1 ((hs j h1 h3).1 h2))
 .exact absurd k3 (h1 k k1 ((hs k k1 k3).2 k2))
 .rw [h2, k2]
theorem G7.step {n : Nat} {S : Nat -> Prop} {g : Env} (h : G7 n O V g0 S g) (i : Nat) (hi : i < n)
 (hw : ∀ s, (O i).dst = some s -> ∀ j, j < n -> j ≠ i -> (O j).dst = some s -> S j -> j < i) :
 G7 n O V g0 (fun j => S j ∨ j = i) (put g (O i).dst (V i)) := by
 intro s
 cases hd : (O i).dst with
 | none =>
   rcases h s with ⟨j, h1, h2, h3, h4, h5⟩ | ⟨h1, h2⟩
   .refine .inl ⟨j, h1, .inl h2, h3, fun k k1 k2 k3 => ?_, h5⟩
    rcases k2 with k2 | rfl
    .exact h4 k k1 k2 k3
    .rw [hd] at k3; cases k3
   .refine .inr ⟨fun j h3 h4 h5 => ?_, h2⟩
    rcases h4 with h4 | rfl
    .exact h1 j h3 h4 h5
    .rw [hd] at h5; cases h5
 | some t =>
   rw [Gn]
   by_cases hst : s = t
   .subst hst
    rw [if_pos rfl]
    refine .inl ⟨i, hi, .inr rfl, hd, fun k k1 k2 k3 => ?_, rfl⟩
    rcases k2 with k2 | rfl
    .by_cases hk : k = i
     .omega
     .have := hw s hd k k1 hk k3 k2; omega
    .omega
   .rw [if_neg hst]
    rcases h s with ⟨j, h1, h2, h3, h4, h5⟩ | ⟨h1, h2⟩
    .refine .inl ⟨j, h1, .inl h2, h3, fun k k1 k2 k3 => ?_, h5⟩
     rcases k2 with k2 | rfl
     .exact h4 k k1 k2 k3
     .rw [hd] at k3; exact absurd (abB k3).symm hst
    .refine .inr ⟨fun j h3 h4 h5 => ?_, h2⟩
     rcases h4 with h4 | rfl
     .exact h1 j h3 h4 h5
     .rw [hd] at h5; exact absurd (abB h5).symm hst
theorem UZ.envFor {n : Nat} (r : UZ P ops an g0 w0 n O G W V) : ∀ i, i <= n -> G7 n O V g0 (fun j => j < i) (G i) := by
 intro i
 induction i with
 | zero => intro _ s; exact .inr ⟨fun j _ h => absurd h (by omega), by rw [r.g0]⟩
 | succ i ih =>
   intro hi
   have h := ih (by omega)
   have := h.step (V := V) i (by omega) (fun s _ j _ _ _ hj => hj)
   rw [<- r.env i (by omega)] at this
   intro s
   rcases this s with ⟨j, h1, h2, h3, h4, h5⟩ | ⟨h1, h2⟩
   .exact .inl ⟨j, h1, by omega, h3, fun k k1 k2 k3 => h4 k k1 (by omega) k3, h5⟩
   .exact .inr ⟨fun j a b => h1 j a (by omega), h2⟩
theorem UZ.still {n : Nat} (r : UZ P ops an g0 w0 n O G W V) (i : Nat) : ∀ d, i + d <= n -> (∀ h, i <= h -> h < i + d -> pK h an.1 = false) -> W (i + d) = W i := by
 intro d
 induction d with
 | zero => intro _ _; rfl
 | succ d ih =>
   intro h1 h2
   rw [<- acD, r.light (i + d) (by omega) (h2 _ (by omega) (by omega))]
   exact ih (by omega) (fun h a b => h2 h a (by omega))
theorem UZ.still' {n : Nat} (r : UZ P ops an g0 w0 n O G W V) {i k : Nat} (hik : i <= k) (hk : k <= n) (hh : ∀ h, i <= h -> h < k -> pK h an.1 = false) : W k = W i := by
 have := r.still i (k - i) (by omega) (fun h a b => hh h a (by omega))
 rwa [show i + (k - i) = k from by omega] at this
theorem Q9 {i k : Nat} : (∃ h, i <= h /\ h < k /\ pK h an.1 = true) -> ∃ h, i <= h /\ h < k /\ pK h an.1 = true /\ ∀ h', i <= h' -> h' < h -> pK h' an.1 = false := by
 rintro ⟨h, h1, h2, h3⟩
 induction h using Nat.strongRecOn with
 | _ h ih =>
   by_cases hx : ∃ h', i <= h' /\ h' < h /\ pK h' an.1 = true
   .obtain ⟨h', a, b, c⟩ := hx
    exact ih h' b a (by omega) c
   .refine ⟨h, h1, h2, h3, fun h' a b => ?_⟩
    cases hm : pK h' an.1
    .rfl
    .exact absurd ⟨h', a, b, hm⟩ hx
theorem NV {i k : Nat} : (∃ h, i <= h /\ h < k /\ pK h an.1 = true) -> ∃ h, i <= h /\ h < k /\ pK h an.1 = true /\ ∀ h', h < h' -> h' < k -> pK h' an.1 = false := by
 rintro ⟨h, h1, h2, h3⟩
 induction hd : k - h using Nat.strongRecOn generalizing h with
 | _ d ih =>
   by_cases hx : ∃ h', h < h' /\ h' < k /\ pK h' an.1 = true
   .obtain ⟨h', a, b, c⟩ := hx
    exact ih (k - h') (by omega) h' (by omega) b c rfl
   .refine ⟨h, h1, h2, h3, fun h' a b => ?_⟩
    cases hm : pK h' an.1
    .rfl
    .exact absurd ⟨h', a, b, hm⟩ hx
structure NX (ops : Array Oper) (an : TN) (O : Nat -> Oper) (b : Array Nat) : Prop where
 back : ∀ i, i < ops.size -> ∀ e ∈ (O i).after, Region.binds .any e = true -> e.on < i
 closed : ∀ i j, i < ops.size -> j < ops.size -> U1 b i j = true -> ∃ e ∈ (O j).after, Region.binds .any e = true /\ (e.on = i ∨ U1 b i e.on = true)
 pair : ∀ i j, i < j -> j < ops.size -> Iv ops b an i j (O i) (O j) = true
 sel : ∀ i, i < ops.size -> MP (O i) = false
 fn : ∀ i, i < ops.size -> V6 (O i) = true -> pK i an.1 = true
theorem TR (h : Ox ops an = true) (ho : ∀ i, i < ops.size -> ops[i]? = some (O i)) : NX ops an O (Region.before ops) := by
 unfold Ox at h
 simp only [ZZ] at h
 obtain ⟨⟨⟨⟨h1, h2⟩, h3⟩, h5⟩, h6⟩ := h
 refine ⟨fun i hi e he hb => ?_, fun i j hi hj hb => ?_, fun i j hij hj => ?_, fun i hi => ?_, fun i hi hf => ?_⟩
 .unfold PB at h1
  have := aaQ.1 h1 i (aaO.2 hi)
  rw [ho i hi] at this
  have := abD.1 this e he
  simp only [hb, ZR, adE] at this
  exact (acF (x := e.on) (y := i)) ▸ this
 .unfold P6 at h2
  have := aaQ.1 (aaQ.1 h2 j (aaO.2 hj)) i (aaO.2 hi)
  rw [ho j hj] at this
  simp only [hb, ZR, adE] at this
  obtain ⟨e, he, h⟩ := Array.any_eq_true'.1 this
  simp only [ZZ, aaX] at h
  refine ⟨e, he, h.1, h.2.imp (fun h => aaE h) id⟩
 .unfold Rt at h3
  have := aaQ.1 (aaQ.1 h3 j (aaO.2 hj)) i (aaO.2 hij)
  rw [ho i (by omega), ho j hj] at this
  exact this
 .have := abD.1 h5 (O i) (adH (ho i hi))
  simpa using this
 .have := aaQ.1 h6 i (aaO.2 hi)
  rw [ho i hi] at this
  simpa [hf] using this
theorem VS {i j : Nat} : ∀ {l : List (Nat × Nat)}, OO i j l = true -> (i, j) ∈ l := by
 intro l
 induction l with
 | nil => intro h; cases h
 | cons p r ih =>
   obtain ⟨a, b⟩ := p
   intro h
   unfold OO at h
   cases ha : Nat.beq a i with
   | true =>
     simp only [ha] at h
     cases hb : Nat.beq b j with
     | true =>
       obtain rfl := aaE ha
       obtain rfl := aaE hb
       exact abC
     | false => simp only [hb] at h; exact Z1 _ (ih h)
   | false => simp only [ha] at h; exact Z1 _ (ih h)
theorem NX.order {b : Array Nat} (st : NX ops an O b) {S : Nat -> Prop} {i : Nat} (hi : i < ops.size)
 (hdown : ∀ j k, j < ops.size -> k < ops.size -> S k -> U1 b j k = true -> S j) (hbi : ∀ j, j < ops.size -> U1 b j i = true -> S j) (hni : ¬ S i)
 {s : Nat} (hs : s ∈ looks ops (O i) ∨ (O i).dst = some s) {j : Nat} (hj : j < ops.size) (hji : j ≠ i) (hd : (O j).dst = some s) : S j ↔ j < i := by
 rcases aaW j i with h | h
 .refine ⟨fun _ => h, fun _ => ?_⟩
  have p := st.pair j i h hi
  unfold Iv at p
  simp only [aaX, ZZ, abQ] at p
  rcases p with p | p
  .exact hbi j hj p
  .exfalso
   have p1 := p.1
   unfold VC at p1
   simp only [hd, acO] at p1
   rcases hs with hs | hs
   .have := p1.1.1; simp [hs] at this
   .have := p1.1.2; simp [hs] at this
 .have h' : i < j := by omega
  refine ⟨fun hS => ?_, fun hh => by omega⟩
  exfalso
  have p := st.pair i j h' hj
  unfold Iv at p
  simp only [aaX, ZZ, abQ] at p
  rcases p with p | p
  .exact hni (hdown i j hi hj hS p)
  .have p1 := p.1
   unfold VC at p1
   simp only [hd, acO] at p1
   rcases hs with hs | hs
   .have := p1.2; simp [hs] at this
   .have := p1.1; rw [hs] at this; simp at this
theorem GA {g g' : Env} {o : Oper} (h : ∀ s ∈ looks ops o, g s = g' s) : ∀ x ∈ o.op.operands, ev g x = ev g' x := by
 intro x hx
 cases x with
 | tmp t => exact h t (abU _ (List.mem_filterMap.2 ⟨.tmp t, by simpa using hx, rfl⟩))
 | _ => rfl
theorem Rx {g g' : Env} {o : Oper} (hs : MP o = false) (h : ∀ s ∈ looks ops o, g s = g' s) : F2 g o = F2 g' o := by
 have e := execOp_congr o (fun cs b he => by simp [MP, he] at hs) (GA h)
 have k := GA h
 unfold F2
 split
 .rename_i op t x y yt hx
  rw [k x (by simp [hx, Op.operands]), k y (by simp [hx, Op.operands])]
 .rename_i fn first captured hx
  have e1 : List.map (ev g) first.toList = List.map (ev g') first.toList := abA fun p hp => k p (by simp [hx, Op.operands]; exact .inl (by simpa using hp))
  have e2 : List.map (ev g) captured.toList = List.map (ev g') captured.toList := abA fun p hp => k p (by simp [hx, Op.operands]; exact .inr (by simpa using hp))
  rw [e1, e2]
 .rename_i t ps hx
  congr 1
  refine abA fun p hp => ?_
  rw [k p.2 (by simp [hx, Op.operands]; exact ⟨p.1, by simpa using hp⟩)]
 .rename_i t n ps hx
  congr 1
  refine abA fun p hp => ?_
  rw [k p.2 (by simp [hx, Op.operands]; exact ⟨p.1, by simpa using hp⟩)]
 .rename_i c hx
  split
  .rename_i b hb
   congr 1
   refine abA fun p hp => ?_
   exact k p (by simp [hx, Op.operands, Call.operands, hb]; simpa using hp)
  .rename_i f hb
   have : List.map (ev g) c.args.toList = List.map (ev g') c.args.toList := abA fun p hp => k p (by simp [hx, Op.operands, Call.operands, hb]; exact .inr (by simpa using hp))
   rw [this, k f (by simp [hx, Op.operands, Call.operands, hb])]
  .exact e
 .exact e
theorem Pc {g g' : Env} {o : Oper} {j : Nat} {want : Bool} (hg : o.guard = some (j, want)) (h : ∀ s ∈ looks ops o, g s = g' s) :
 wX g (Bd ops j) want = wX g' (Bd ops j) want := by
 cases hs : Bd ops j with
 | none => rfl
 | some t =>
   have := h t (acL _ (by simp [hg, hs]))
   simp [wX, this]
theorem LR {g g' : Env} {o : Oper} {w : adR} {K : adS -> adR -> Prop} (hs : MP o = false) (h : ∀ s ∈ looks ops o, g s = g' s)
 (hk : Dq P ops g o w K) : Dq P ops g' o w K := by
 have e := Rx (ops := ops) hs h
 have run : Eu P g o w = Eu P g' o w := by
  funext K
  unfold Eu
  split
  .rename_i x hx
   have := GA (ops := ops) h x (by simp [hx, Op.operands])
   rw [this]
  .rename_i x hx
   have := GA (ops := ops) h x (by simp [hx, Op.operands])
   rw [this]
  .rename_i c hx
   have k := GA h
   have : List.map (ev g) c.args.toList = List.map (ev g') c.args.toList := abA fun p hp => k p (by simp [hx, Op.operands, Call.operands]; exact .inr (by simpa using hp))
   rw [this, e]
  .rw [e]
 unfold Dq at *
 cases hg : o.guard with
 | none => rw [hg] at hk; simp only at hk ⊢; rwa [<- run]
 | some p =>
   obtain ⟨j, want⟩ := p
   simp only [hg] at hk ⊢
   rw [<- run, <- Pc hg h]
   exact hk
theorem RV {n : Nat} (hn : n = ops.size) {b : Array Nat} (r : UZ P ops an g0 w0 n O G W V) (st : NX ops an O b) {S : Nat -> Prop} {i k : Nat} (hi : i < n) (hk : k <= n)
 (hdown : ∀ j k, j < ops.size -> k < ops.size -> S k -> U1 b j k = true -> S j) (hbi : ∀ j, j < ops.size -> U1 b j i = true -> S j) (hni : ¬ S i)
 (hS : ∀ h, h < n -> pK h an.1 = true -> (S h ↔ h < k)) (hl : pK i an.1 = false) :
 Nb P ops (G i) (O i) (W k) (V i) (W k) := by
 subst hn
 have same : Gs (Za ops (O i) (G i)) (gN P (F2 (G i) (O i)) (V i) (W k)) -> G3 (O i) = false -> Nb P ops (G i) (O i) (W k) (V i) (W k) := by
  intro hs hm K hK
  have run : gN P (F2 (G i) (O i)) (V i) (W k) -> Eu P (G i) (O i) (W k) K := by
   intro hs
   unfold gN at hs
   have stp : eY P (F2 (G i) (O i)) (W k) K := by unfold eY; rw [hs]; exact hK
   unfold Eu
   split
   .rename_i x hx; simp [G3, hx] at hm
   .rename_i x hx; simp [G3, hx] at hm
   .rename_i c hx
    have hf : V6 (O i) = false := by
     cases hh : V6 (O i)
     .rfl
     .rw [st.fn i hi hh] at hl; cases hl
    obtain ⟨cal, cargs, cats⟩ := c
    cases cal with
    | value f =>
      cases f with
      | func f => simp [V6, hx] at hf
      | _ => exact stp
    | _ => exact stp
   .exact stp
  have hy := r.yld i hi (fun v _ => v = V i) rfl
  unfold Dq at hy ⊢
  unfold Za at hs
  cases hg : (O i).guard with
  | none => rw [hg] at hs; exact run hs
  | some p =>
    obtain ⟨j, want⟩ := p
    rw [hg] at hs
    simp only [hg] at hs hy ⊢
    cases hb : wX (G i) (Bd ops j) want with
    | true => rw [hb] at hs; exact run hs
    | false =>
      rw [hb] at hy
      have : undef = V i := hy
      show K undef (W k)
      rw [this]; exact hK
 have moved : G3 (O i) = true -> Nb P ops (G i) (O i) (W k) (V i) (W k) := by
  intro hm K hK
  have hy := r.yld i hi (fun v _ => v = V i) rfl
  unfold Dq at hy ⊢
  have mv : ∀ (K' : adS -> adR -> Prop) w, Eu P (G i) (O i) w K' ↔ ∃ x, ((O i).op = .move x ∨ (O i).op = .assign x) /\ K' (ev (G i) x) w := by
   intro K' w
   unfold Eu
   unfold G3 at hm
   split
   .rename_i x hx; constructor
    .intro h; exact ⟨x, .inl hx, h⟩
    .rintro ⟨y, h | h, h'⟩
     .rw [hx] at h; cases h; exact h'
     .rw [hx] at h; cases h
   .rename_i x hx; constructor
    .intro h; exact ⟨x, .inr hx, h⟩
    .rintro ⟨y, h | h, h'⟩
     .rw [hx] at h; cases h
     .rw [hx] at h; cases h; exact h'
   .rename_i c hx; simp [hx] at hm
   .rename_i h1 h2 _; split at hm
    .rename_i x hx; exact absurd hx (h1 x)
    .rename_i x hx; exact absurd hx (h2 x)
    .cases hm
  cases hg : (O i).guard with
  | none =>
    rw [hg] at hy
    simp only at hy ⊢
    rw [mv] at hy ⊢
    obtain ⟨x, hx, h⟩ := hy
    exact ⟨x, hx, h ▸ hK⟩
  | some p =>
    obtain ⟨j, want⟩ := p
    simp only [hg] at hy ⊢
    unfold Gd at *
    cases hb : wX (G i) (Bd ops j) want with
    | true =>
      simp only [hb] at hy ⊢
      rw [mv] at hy ⊢
      obtain ⟨x, hx, h⟩ := hy
      exact ⟨x, hx, h ▸ hK⟩
    | false =>
      simp only [hb] at hy ⊢
      rwa [hy]
 rcases Nat.le_total k i with hki | hki
 .by_cases hx : ∃ h, k <= h /\ h < i /\ pK h an.1 = true
  .obtain ⟨h, h1, h2, h3, h4⟩ := Q9 hx
   have e : W h = W k := r.still' h1 (by omega) h4
   have p := st.pair h i h2 hi
   unfold Iv at p
   simp only [aaX, ZZ, abQ] at p
   rcases p with p | p
   .have := hbi h (by omega) p
    have := (hS h (by omega) h3).1 this
    omega
   .have p2 := p.2
    rw [h3, hl] at p2
    simp only [aaX] at p2
    cases hmv : G3 (O i) with
    | true => exact moved hmv
    | false =>
      rcases p2 with p2 | p2
      .rw [hmv] at p2; cases p2
      .refine same ?_ hmv
       have c := r.chk h i h2 hi p2
       unfold TL Ko MR at c
       simp only [h3] at c
       rw [<- e]; exact c
  .have e : W i = W k := r.still' hki (by omega) (fun h a b => by
    cases hm : pK h an.1
    .rfl
    .exact absurd ⟨h, a, b, hm⟩ hx)
   have hy := r.yld i hi
   rw [r.light i hi hl, e] at hy
   exact hy
 .by_cases hx : ∃ h, i <= h /\ h < k /\ pK h an.1 = true
  .obtain ⟨h, h1, h2, h3, h4⟩ := NV hx
   have hne : h ≠ i := fun e => by rw [e, hl] at h3; cases h3
   have e : W k = W (h + 1) := r.still' (by omega) hk (fun h' a b => h4 h' (by omega) b)
   have p := st.pair i h (by omega) (by omega)
   unfold Iv at p
   simp only [aaX, ZZ, abQ] at p
   rcases p with p | p
   .exact absurd (hdown i h (by omega) (by omega) ((hS h (by omega) h3).2 h2) p) hni
   .have p2 := p.2
    rw [h3, hl] at p2
    simp only [aaX] at p2
    cases hmv : G3 (O i) with
    | true => exact moved hmv
    | false =>
      rcases p2 with p2 | p2
      .rw [hmv] at p2; cases p2
      .refine same ?_ hmv
       have c := r.chk i h (by omega) (by omega) p2
       unfold TL Ko MR at c
       simp only [hl] at c
       rw [e]; exact c
  .have e : W k = W i := r.still' hki hk (fun h a b => by
    cases hm : pK h an.1
    .rfl
    .exact absurd ⟨h, a, b, hm⟩ hx)
   have hy := r.yld i hi
   rw [r.light i hi hl, <- e] at hy
   exact hy
def mM (listed : Array Bool) (i : Nat) : Prop := listed.getD i false = true
theorem VO {N n : Nat} (hn : n = ops.size) (hd : KF N ops) (hca : L5 P ops) {b : Array Nat} (r : UZ P ops an g0 w0 n O G W V) (st : NX ops an O b)
 {Q : Act -> adR -> Prop} (hQ : ∀ a, Jm N (G n) a -> Q a (W n)) :
 ∀ (fuel : Nat) (listed : Array Bool) (g : Env) (a : Act) (k : Nat), listed.size = n -> Jm N g a -> k <= n →
   (∀ j, j < n -> mM listed j -> ∀ e ∈ (O j).after, Region.binds .any e = true -> mM listed e.on) →
   G7 n O V g0 (mM listed) g -> (∀ h, h < n -> pK h an.1 = true -> (mM listed h ↔ h < k)) →
   ((List.range n).filter fun i => !listed.getD i false).length <= fuel →
   OT P ops Q fuel listed a (W k) := by
 subst hn
 have ready_iff : ∀ (listed : Array Bool), listed.size = ops.size -> ∀ i, i ∈ Region.ready .any ops listed ↔ (i < ops.size /\ ¬ mM listed i /\ ∀ e ∈ (O i).after, Region.binds .any e = true -> mM listed e.on) := by
  intro listed hsz i
  unfold Region.ready mM
  rw [List.mem_filter, aaO]
  constructor
  .rintro ⟨h1, h2⟩
   rw [r.op i h1] at h2
   simp only [ZZ, aaS, aaZ] at h2
   refine ⟨h1, ?_, fun e he hb => ?_⟩
   .have := h2.1
    rw [ZX] at this ⊢
    rw [Z4 (by omega)] at this ⊢
    simpa using this
   .have := abD.1 h2.2 e he
    simpa [hb] using this
  .rintro ⟨h1, h2, h3⟩
   refine ⟨h1, ?_⟩
   rw [r.op i h1]
   simp only [ZZ, aaS, aaZ]
   refine ⟨?_, abD.2 fun e he => ?_⟩
   .rw [ZX] at h2 ⊢
    rw [Z4 (by omega)] at h2 ⊢
    simpa using h2
   .by_cases hb : Region.binds .any e = true
    .simp [hb, h3 e he hb]
    .simp [hb]
 have none_ready : ∀ (listed : Array Bool), listed.size = ops.size -> Region.ready .any ops listed = [] -> ∀ i, i < ops.size -> mM listed i := by
  intro listed hsz hr i
  induction i using Nat.strongRecOn with
  | _ i ih =>
    intro hi
    refine Classical.byContradiction fun hl => ?_
    have : i ∈ Region.ready .any ops listed := (ready_iff listed hsz i).2 ⟨hi, hl, fun e he hb => by
     have := st.back i hi e he hb
     exact ih e.on this (by omega)⟩
    rw [hr] at this; cases this
 have all_done : ∀ (listed : Array Bool) (g : Env) (a : Act) (k : Nat), Jm N g a -> k <= ops.size -> G7 ops.size O V g0 (mM listed) g →
     (∀ h, h < ops.size -> pK h an.1 = true -> (mM listed h ↔ h < k)) -> (∀ i, i < ops.size -> mM listed i) -> Q a (W k) := by
  intro listed g a k hr hk he hh hall
  have e : W ops.size = W k := r.still' hk (Z2 _) (fun h h1 h2 => by
   cases hm : pK h an.1
   .rfl
   .have := (hh h h2 hm).1 (hall h h2); omega)
  have eg : g = G ops.size := funext fun s => he.agree (r.envFor ops.size (Z2 _)) s (fun j hj _ => ⟨fun _ => hj, fun _ => hall j hj⟩)
  rw [<- e]; exact hQ a (eg ▸ hr)
 intro fuel
 induction fuel with
 | zero =>
   intro listed g a k hsz hr hk hdep henv hh hc
   have hall : ∀ i, i < ops.size -> mM listed i := by
    intro i hi
    have hnil : ((List.range ops.size).filter fun i => !listed.getD i false) = [] := aaB.1 (by omega)
    have := List.filter_eq_nil_iff.1 hnil i (aaO.2 hi)
    unfold mM; simpa using this
   refine ⟨?_, all_done listed g a k hr hk henv hh hall⟩
   rw [List.eq_nil_iff_forall_not_mem]
   intro i hi
   have := (ready_iff listed hsz i).1 hi
   exact this.2.1 (hall i this.1)
 | succ fuel ih =>
   intro listed g a k hsz hr hk hdep henv hh hc
   refine ⟨fun hn => all_done listed g a k hr hk henv hh (none_ready listed hsz hn), fun i hi => ?_⟩
   obtain ⟨h1, h2, h3⟩ := (ready_iff listed hsz i).1 hi
   have hdown : ∀ k j, j < ops.size -> k < ops.size -> mM listed k -> U1 b j k = true -> mM listed j := by
    intro k
    induction k using Nat.strongRecOn with
    | _ k ihk =>
      intro j hj hk hl hb
      obtain ⟨e, he, hbi, h⟩ := st.closed j k hj hk hb
      have hle := hdep k hk hl e he hbi
      rcases h with h | h
      .exact h ▸ hle
      .have hlt := st.back k hk e he hbi
       exact ihk e.on hlt j hj (by omega) hle h
   have hbi : ∀ j, j < ops.size -> U1 b j i = true -> mM listed j := by
    intro j hj hb
    obtain ⟨e, he, hbi, h⟩ := st.closed j i hj h1 hb
    have hle := h3 e he hbi
    rcases h with h | h
    .exact h ▸ hle
    .have hlt := st.back i h1 e he hbi
     exact hdown e.on j hj (by omega) hle h
   have hdown' : ∀ j k, j < ops.size -> k < ops.size -> mM listed k -> U1 b j k = true -> mM listed j := fun j k => hdown k j
   have hlooks : ∀ s ∈ looks ops (O i), (G i) s = g s := fun s hs =>
    (r.envFor i (by omega)).agree henv s (fun j hj hd => by
      by_cases hji : j = i
      .subst hji
       exact ⟨fun h => absurd h (by omega), fun h => absurd h h2⟩
      .exact (st.order h1 hdown' hbi h2 (.inl hs) hj hji hd).symm)
   have hl' : ∀ j, mM (listed.setIfInBounds i true) j ↔ (mM listed j ∨ j = i) := by
    intro j
    unfold mM
    rw [ZX, ZX]
    by_cases hji : j = i
    .subst hji
     rw [Z6 (by omega)]
     simp
    .rw [Z8 (fun e => hji e.symm)]
     simp [hji]
   have next : ∀ k', k' <= ops.size -> (∀ h, h < ops.size -> pK h an.1 = true -> ((mM listed h ∨ h = i) ↔ h < k')) -> Nb P ops g (O i) (W k) (V i) (W k') →
       IB P ops i (OT P ops Q fuel (listed.setIfInBounds i true)) a (W k) := by
    intro k' hk' hh' hy
    refine MY (r.op i h1) (hca i _ (r.op i h1)) hd hr hy ?_
    refine ih _ (put g (O i).dst (V i)) _ k' (by simp [hsz]) (hr.put _ _ (hd i _ (r.op i h1))) hk' ?_ ?_ ?_ ?_
    .intro j hj hlj e he hb
     rw [hl'] at hlj ⊢
     rcases hlj with hlj | rfl
     .exact .inl (hdep j hj hlj e he hb)
     .exact .inl (h3 e he hb)
    .have := henv.step i h1 (fun s hs j hj hji hd hlj => (st.order h1 hdown' hbi h2 (.inr hs) hj hji hd).1 hlj)
     intro s
     rcases this s with ⟨j, j1, j2, j3, j4, j5⟩ | ⟨j1, j2⟩
     .exact .inl ⟨j, j1, (hl' j).2 j2, j3, fun k k1 k2 k3 => j4 k k1 ((hl' k).1 k2) k3, j5⟩
     .exact .inr ⟨fun j a b => j1 j a ((hl' j).1 b), j2⟩
    .intro h a b; rw [hl']; exact hh' h a b
    .have hin : i ∈ (List.range ops.size).filter fun i => !listed.getD i false :=
      List.mem_filter.2 ⟨aaO.2 h1, by unfold mM at h2; simpa using h2⟩
     have e1 : ((List.range ops.size).filter fun j => !(listed.setIfInBounds i true).getD j false) = ((List.range ops.size).filter fun j => !listed.getD j false).filter fun j => j != i := by
      rw [List.filter_filter]
      refine List.filter_congr fun j _ => ?_
      have := hl' j
      unfold mM at this
      by_cases hji : j = i
      .have hh : (listed.setIfInBounds i true).getD j false = true := this.2 (.inr hji)
       rw [hh, hji]; simp
      .have hne : (j != i) = true := by simpa using hji
       rw [hne, Bool.true_and]
       cases ha : listed.getD j false with
       | true => rw [this.2 (.inl ha)]
       | false =>
         cases hb : (listed.setIfInBounds i true).getD j false with
         | false => rfl
         | true => rcases this.1 hb with h | h
                   .rw [ha] at h; cases h
                   .exact absurd h hji
     have hnd : ((List.range ops.size).filter fun j => !listed.getD j false).Nodup := List.nodup_range.filter _
     rw [e1, <- List.Nodup.erase_eq_filter hnd, List.length_erase_of_mem hin]
     omega
   cases hm : pK i an.1 with
   | true =>
     have hS : ∀ h, h < ops.size -> pK h an.1 = true -> (mM listed h ↔ h < i) := by
      intro h hh1 hhm
      rcases Nat.lt_trichotomy h i with hlt | heq | hgt
      .refine ⟨fun _ => hlt, fun _ => ?_⟩
       have p := st.pair h i hlt h1
       unfold Iv at p
       rw [hhm, hm] at p
       simp only [aaX, ZZ, ZM, and_false, or_false] at p
       exact hbi h hh1 p
      .subst heq; exact ⟨fun hh => absurd hh h2, fun hh => absurd hh (by omega)⟩
      .refine ⟨fun hl => ?_, fun hh => absurd hh (by omega)⟩
       have p := st.pair i h hgt hh1
       unfold Iv at p
       rw [hhm, hm] at p
       simp only [aaX, ZZ, ZM, and_false, or_false] at p
       exact absurd (hdown h i h1 hh1 hl p) h2
     have eW : W k = W i := by
      rcases Nat.le_total k i with hki | hki
      .exact (r.still' hki (by omega) (fun h a b => by
        cases hx : pK h an.1
        .rfl
        .have := (hh h (by omega) hx).1 ((hS h (by omega) hx).2 b); omega)).symm
      .exact r.still' hki hk (fun h a b => by
        cases hx : pK h an.1
        .rfl
        .have := (hS h (by omega) hx).1 ((hh h (by omega) hx).2 b); omega)
     refine next (i + 1) (by omega) (fun h a b => ?_) ?_
     .rw [hS h a b]; omega
     .rw [eW]
      intro K hK
      exact LR (ops := ops) (st.sel i h1) hlooks (r.yld i h1 K hK)
   | false =>
     refine next k hk (fun h a b => ?_) ?_
     .rw [<- hh h a b]
      constructor
      .rintro (h' | rfl)
       .exact h'
       .rw [hm] at b; cases b
      .exact .inl
     .intro K hK
      exact LR (ops := ops) (st.sel i h1) hlooks (RV rfl r st h1 hk hdown' hbi h2 hh hm K hK)
end
abbrev NZ (P : Program) : Machine -> Prop := Machine.fenced P Fence.wide
def Ot (P : Program) (f : FuncId) (ro : Option Nat) (c : Code) (Q : Exit -> Act -> adR -> Prop) (a : Act) (w : adR) : Prop :=
 ∀ (b : Frame) (k : List Item) (cs : List Frame), b.fn = f -> b.roundOf = ro -> ∃ e a' w', Q e a' w' /\ ArrivesIn (NZ P) P (lone (b.atR a (.code c :: k)) cs w) b k cs e a' w'
section
variable {P : Program} {f : FuncId} {ro : Option Nat} {Q : Exit -> Act -> adR -> Prop} {a : Act} {w : adR}
theorem CS {m m1 : Machine} (h : step P m = .next m1) : StepsIn (NZ P) P m m1 := .one (fenced_wide P m) h
theorem Hv {m m1 m2 : Machine} (h : step P m = .next m1) (h' : StepsIn (NZ P) P m1 m2) : StepsIn (NZ P) P m m2 := .head (fenced_wide P m) h h'
theorem Vf (h : Q .normal a w) : Ot P f ro .skip Q a w := fun _ _ _ _ _ => ⟨.normal, a, w, h, CS Go.stepR_skip⟩
theorem UJ {l : Nat} (h : Q .normal a w) : Ot P f ro (.label l) Q a w := fun _ _ _ _ _ => ⟨.normal, a, w, h, CS stepR_label⟩
theorem RQ {id : Nat} (h : Q (.exit id) a w) : Ot P f ro (.exit id) Q a w :=
 fun _ k _ _ _ => ⟨.exit id, a, w, h, fun _ hk => CS (stepR_exit hk), fun _ hk => ⟨k, hk, .refl _⟩⟩
theorem Ti (h : Q .ret a w) : Ot P f ro .ret Q a w :=
 fun _ k _ _ _ => ⟨.ret, a, w, h, fun hn => ⟨_, CS (stepR_ret hn)⟩, fun _ => ⟨k, .refl _⟩⟩
theorem WZ {x y : Code} (h : Ot P f ro x (Exit.then (Ot P f ro y Q) Q) a w) : Ot P f ro (.seq x y) Q a w := by
 intro b k cs hb hro
 obtain ⟨e, a1, w1, hq, har⟩ := h b (.code y :: k) cs hb hro
 cases e with
 | normal =>
   obtain ⟨e2, a2, w2, hq2, har2⟩ := hq b k cs hb hro
   exact ⟨e2, a2, w2, hq2, .of_steps (Hv stepR_seq har) har2⟩
 | _ => exact ⟨_, a1, w1, hq, .of_steps (CS stepR_seq) (.pass (x := .code y) rfl (fun _ _ => .inl (by simp)) har)⟩
theorem Vr {c : Operand} {x y : Code} {t : Bool} (hc : a.eval c = .bool t) (h : Ot P f ro (if t then x else y) Q a w) : Ot P f ro (.cond c x y) Q a w :=
 fun b k cs hb hro => let ⟨e, a1, w1, q, r⟩ := h b k cs hb hro; ⟨e, a1, w1, q, .of_steps (CS (stepR_cond hc)) r⟩
theorem Ut {id : Nat} {c : Code} (h : Ot P f ro c (Exit.inBlock id Q) a w) : Ot P f ro (.block id c) Q a w := by
 intro b k cs hb hro
 obtain ⟨e, a1, w1, hq, har⟩ := h b (.inBlock id :: k) cs hb hro
 cases e with
 | normal => exact ⟨.normal, a1, w1, hq, Hv stepR_block (StepsIn.trans har (CS stepR_inBlock))⟩
 | exit i =>
   by_cases hid : i = id
   .simp only [Exit.inBlock, hid, if_true] at hq
    exact ⟨.normal, a1, w1, hq, Hv stepR_block (har.1 k (by simp [exitTo, hid]))⟩
   .simp only [Exit.inBlock, hid, if_false] at hq
    have this : (id == i) = false := by simp; exact fun h => hid h.symm
    have hx : exitTo i (.inBlock id :: k) = exitTo i k := by simp [exitTo, this]
    exact ⟨.exit i, a1, w1, hq, fun k' hk => Hv stepR_block (har.1 k' (by rw [hx]; exact hk)),
     fun hr' hk => let ⟨k1, h1, h2⟩ := har.2 hr' (by rw [hx]; exact hk); ⟨k1, h1, Hv stepR_block h2⟩⟩
 | goto l =>
   have hx : gotoIn l (.inBlock id :: k) = gotoIn l k := by simp [gotoIn]
   exact ⟨_, a1, w1, hq, fun k' hk => Hv stepR_block (har.1 k' (by rw [hx]; exact hk)),
    fun hr' hk => let ⟨k1, h1, h2⟩ := har.2 hr' (by rw [hx]; exact hk); ⟨k1, h1, Hv stepR_block h2⟩⟩
 | ret => exact ⟨_, a1, w1, hq, .of_steps (CS stepR_block) har⟩
 | panic ch => exact ⟨_, a1, w1, hq, .of_steps (CS stepR_block) har⟩
 | outgrown => exact ⟨_, a1, w1, hq, .of_steps (CS stepR_block) har⟩
theorem yW {b : Frame} {k : List Item} {cs : List Frame} {c : Code} :
 step P (lone (b.atR a (.code (.scope c) :: k)) cs w) = .next (lone (b.atR a (.code c :: .inScope c :: k)) cs w) :=
 step_lone_go (by simp [stepG, stepG.exec, Frame.atR])
theorem Pg {b : Frame} {k : List Item} {cs : List Frame} {c : Code} :
 step P (lone (b.atR a (.inScope c :: k)) cs w) = .next (lone (b.atR a k) cs w) :=
 step_lone_go (by simp [stepG, stepG.exec, Frame.atR])
theorem T8 {c : Code} (h : Ot P f ro c (Exit.noGoto Q) a w) : Ot P f ro (.scope c) Q a w := by
 intro b k cs hb hro
 obtain ⟨e, a1, w1, hq, har⟩ := h b (.inScope c :: k) cs hb hro
 cases e with
 | normal => exact ⟨.normal, a1, w1, hq, Hv yW (StepsIn.trans har (CS Pg))⟩
 | exit id =>
   have hx : exitTo id (.inScope c :: k) = exitTo id k := by simp [exitTo]
   exact ⟨.exit id, a1, w1, hq, fun k' hk => Hv yW (har.1 k' (by rw [hx]; exact hk)),
    fun hr' hk => let ⟨k1, h1, h2⟩ := har.2 hr' (by rw [hx]; exact hk); ⟨k1, h1, Hv yW h2⟩⟩
 | goto l => exact hq.elim
 | ret => exact ⟨_, a1, w1, hq, .of_steps (CS yW) har⟩
 | panic ch => exact ⟨_, a1, w1, hq, .of_steps (CS yW) har⟩
 | outgrown => exact ⟨_, a1, w1, hq, .of_steps (CS yW) har⟩
theorem Vm {c : Code} (I : Act -> adR -> Prop) (μ : Act -> adR -> Nat) (h0 : I a w)
 (round : ∀ a w, I a w -> Ot P f ro c (Exit.then (fun a' w' => I a' w' /\ μ a' w' < μ a w) Q) a w) : Ot P f ro (.loop c) Q a w := by
 intro b k cs hb hro
 have key : ∀ n a w, μ a w = n -> I a w →
     ∃ e a' w', Q e a' w' /\ ArrivesIn (NZ P) P (lone (b.atR a (.code c :: .inLoop c :: k)) cs w) b k cs e a' w' := by
  intro n
  induction n using Nat.strongRecOn with
  | _ n ih =>
    intro a w hn hI
    obtain ⟨e, a1, w1, hq, har⟩ := round a w hI b (.inLoop c :: k) cs hb hro
    cases e with
    | normal =>
      obtain ⟨hI1, hlt⟩ := hq
      obtain ⟨e2, a2, w2, hq2, har2⟩ := ih (μ a1 w1) (hn ▸ hlt) a1 w1 rfl hI1
      exact ⟨e2, a2, w2, hq2, .of_steps (StepsIn.trans har (CS stepR_inLoop)) har2⟩
    | _ => exact ⟨_, a1, w1, hq, .pass (x := .inLoop c) rfl (fun _ _ => .inl (by simp)) har⟩
 obtain ⟨e, a', w', hq, har⟩ := key _ a w rfl h0
 exact ⟨e, a', w', hq, .of_steps (CS stepR_loop) har⟩
theorem TH {ops : Array Oper} {L : List Nat} (h : Bj P ops (Q .normal) L a w) (b : Frame) (k : List Item) (cs : List Frame) (hro : b.roundOf = ro) :
 ∃ e a' w', Q e a' w' /\ ArrivesIn (NZ P) P (lone (b.atR a (.inRegion ops L :: k)) cs w) b k cs e a' w' := by
 obtain ⟨e, a', w', ⟨rfl, hq⟩, hs⟩ := wp_opsIn (F := OP ro) (n := 0) L a w (UC ro L a w h) b k cs hro trivial (fun _ h => by simp [OP, Fence.wide] at h)
 exact ⟨.normal, a', w', hq, hs⟩
theorem SY {id : Nat} {ops : Array Oper} (h : Bj P ops (Q .normal) (List.range ops.size) a w) : Ot P f ro (.region id ops false) Q a w := by
 intro b k cs hb hro
 obtain ⟨e, a1, w1, q, r⟩ := TH h b k cs hro
 exact ⟨e, a1, w1, q, .of_steps (CS stepR_region) r⟩
theorem Ns (hm : P.follows .mixedOrders = true) {id : Nat} {ops : Array Oper}
 (h : Bj P ops (Q .normal) (Region.schedule true ops (w.tape w.drawn (.order f id))) a { w with drawn := w.drawn + 1 }) : Ot P f ro (.region id ops true) Q a w := by
 intro b k cs hb hro
 obtain ⟨e, a1, w1, q, r⟩ := TH h b k cs hro
 refine ⟨e, a1, w1, q, .of_steps (CS ?_) r⟩
 have := @stepR_region_draw P b a k cs w ops id
 rw [hm, hb] at this
 exact this
def Cq (v : adS) (w : adR) (K : adR -> Prop) : Prop :=
 match v with
 | .pointer (some a) => w.heap[a.block]? = some (.deferred (some [])) /\ K (w.putObj a.block (.deferred none))
 | _ => K w
def Uv (P : Program) (fn : Func) (R : adS -> adR -> Prop) : Exit -> Act -> adR -> Prop
 | .normal, a, w | .ret, a, w => ∃ m, a.defers = Rj m /\ Cq m w fun w' => ∃ v, (results fn a.tmps).run P w' = .ok v w' /\ R v w'
 | _, _, _ => False
theorem RL {fn : Func} {R : adS -> adR -> Prop} {fr : Frame} {cs : List Frame} (hm : fr.mode = .returning) (hf : P.funcs[fr.fn]? = some fn) (hk : fr.kind = .normal) {m : adS} (hd : fr.defers = Rj m)
 (h : Cq m w fun w' => ∃ v, (results fn fr.tmps).run P w' = .ok v w' /\ R v w') :
 ∃ v w' fr', R v w' /\ Steps P (lone fr cs w) (lone fr' cs w') /\ fr'.fn = fr.fn /\ fr'.leaving P w' (.returned v) := by
 have nil : fr.defers = [] -> (∃ v, (results fn fr.tmps).run P w = .ok v w /\ R v w) →
     ∃ v w' fr', R v w' /\ Steps P (lone fr cs w) (lone fr' cs w') /\ fr'.fn = fr.fn /\ fr'.leaving P w' (.returned v) := by
  rintro hd ⟨v, hv, hR⟩
  exact ⟨v, w, fr, hR, .refl _ _, rfl, hm, hd, hk, fn, hf, hv⟩
 cases m with
 | pointer p =>
   cases p with
   | none => exact nil hd h
   | some a =>
     obtain ⟨h1, v, hv, hR⟩ := h
     have hs := step_collected (P := P) (fr := fr) (cs := cs) (w := w) (d := { target := .collected a.block, args := #[] }) (r := a.block) (ds := []) (calls := [])
      (by rw [hm]; simp) hd rfl (run_takeDeferred h1)
     exact ⟨v, _, { fr with defers := [] }, hR, .head hs (.refl _ _), rfl, hm, rfl, hk, fn, hf, hv⟩
 | _ => exact nil hd h
theorem Qq {fn : Func} {c : Code} {args : Array adS} {w : adR} {R : adS -> adR -> Prop}
 (hf : P.funcs[f]? = some fn) (hb : fn.body = some c)
 (h : Ot P f none c (Uv P fn R) { tmps := args ++ Array.replicate (fn.ntmps - args.size) undef, defers := [] } w) : Calls P f args w fun e w' => ∃ v, e = .returned v /\ R v w' := by
 intro cs
 let b : Frame := { (default : Frame) with fn := f, kind := .normal, roundOf := none }
 have henter : Frame.enter P f args .normal = b.atR { tmps := args ++ Array.replicate (fn.ntmps - args.size) undef, defers := [] } [.code c] := by
  simp [Frame.enter, Frame.atR, hf, hb, b]
 obtain ⟨e, a', w', hq, har⟩ := h b [] cs rfl rfl
 rw [<- henter] at har
 cases e with
 | normal =>
   obtain ⟨m, hd, hq⟩ := hq
   obtain ⟨v, w2, fr, hR, hs, hfn, hl⟩ := RL (P := P) (cs := cs) (fr := { b.atR a' [] with mode := .returning }) rfl hf rfl hd hq
   exact ⟨.returned v, w2, fr, ⟨v, rfl, hR⟩, (StepsIn.steps har).trans (.head (stepR_end rfl) hs), hfn, hl⟩
 | ret =>
   obtain ⟨m, hd, hq⟩ := hq
   obtain ⟨todo, hs0⟩ := har.1 rfl
   obtain ⟨v, w2, fr, hR, hs, hfn, hl⟩ := RL (P := P) (cs := cs) (fr := { b.atR a' todo with mode := .returning }) rfl hf rfl hd hq
   exact ⟨.returned v, w2, fr, ⟨v, rfl, hR⟩, (StepsIn.steps hs0).trans hs, hfn, hl⟩
 | panic chain => exact hq.elim
 | exit id => exact hq.elim
 | goto l => exact hq.elim
 | outgrown => exact hq.elim
def Xt (P : Program) (f : FuncId) (Q : Exit -> Act -> adR -> Prop) (a : Act) (w : adR) : Option Code -> Prop
 | none => Q .normal a w
 | some c => Ot P f none c Q a w
theorem UI {gf : Operand} {ps : Array Tmp} {ZJ bd : Code} {d : Deferred} {g : FuncId} {args : Array adS} {w1 : adR} {l : Nat} {mark : List Deferred} {w2 w3 : adR} {v : adS}
 (he : (Instr.enterLoop f a.tmps ps ZJ bd none).run P w = .ok (l, mark) w1)
 (hres : (resolve a.eval (rangeCall gf l) 0).run P w1 = .ok d w1) (hinv : (invoke d.target d.args).run P w1 = .ok (.enter g args) w2)
 (hcall : Zf P g args w2 v w3)
 {jump : Option Code} {w4 : adR} (hend : (Instr.endLoop l).run P w3 = .ok jump w4)
 (hj : Xt P f Q { a with defers := mark ++ a.defers } w4 jump) :
 Ot P f none (.rangeFunc gf ps ZJ bd) Q a w := by
 intro b k cs hb hro
 rw [<- hb, <- hro] at he
 have henter := stepR_rangeFunc (P := P) (b := b) (a := a) (k := k) (cs := cs) (w := w) he hres hinv
 obtain ⟨e, w3', fr, ⟨rfl, rfl⟩, hsteps, hfn, hleave⟩ := hcall (b.atR { a with defers := mark ++ a.defers } (.inRangeFunc l :: k) :: cs)
 have sback : StepsIn (NZ P) P (lone (b.atR a (.code (.rangeFunc gf ps ZJ bd) :: k)) cs w) (lone (b.atR { a with defers := mark ++ a.defers } ((jump.map Item.code).toList ++ k)) cs w4) := by
  refine Hv henter (StepsIn.trans (stepsIn_wide.2 hsteps) (Hv (m1 := lone (b.atR { a with defers := mark ++ a.defers } (.endRangeFunc l :: k)) cs w3') ?_ (CS (stepR_endRangeFunc hend))))
  rw [<- finish_atR_inRangeFunc l v]; exact step_leave_returned hleave
 cases jump with
 | none => exact ⟨.normal, _, w4, hj, sback⟩
 | some c =>
   obtain ⟨e', a'', w5, hq, harr⟩ := hj b k cs hb hro
   exact ⟨e', a'', w5, hq, .of_steps sback harr⟩
def SP (P : Program) (l : Nat) (R : adS -> adR -> Prop) : Exit -> Act -> adR -> Prop
 | .normal, _, w => ∃ v w', (Instr.endRound l none).run P w = .ok v w' /\ R v w'
 | .ret, _, w => ∃ v w', (Instr.endRound l (some .ret)).run P w = .ok v w' /\ R v w'
 | .exit id, _, w => ∃ v w', (Instr.endRound l (some (.exit id))).run P w = .ok v w' /\ R v w'
 | _, _, _ => False
theorem Qo {l : Nat} {tmps : Array adS} {ZJ bd : Code} {R : adS -> adR -> Prop}
 (h : Ot P f (some l) ZJ (Exit.then (fun a1 w1 => ∃ w2, (Instr.beginRound l).run P w1 = .ok () w2 /\ Ot P f (some l) bd (SP P l R) a1 w2) (fun _ _ _ => False))
   { tmps := tmps, defers := [] } w) :
 RoundIn Fence.wide 0 P l f tmps ZJ bd w fun e w' => ∃ v, e = .returned v /\ R v w' := by
 refine ⟨trivial, fun c cs _ => ?_⟩
 let b : Frame := { (default : Frame) with fn := f, kind := .normal, roundOf := some l }
 have hb0 : Frame.round l f tmps ZJ bd .normal = b.atR { tmps := tmps, defers := [] } [.code ZJ, .beginRound, .code bd] := by
  simp [Frame.round, Frame.atR, b]
 obtain ⟨e, a1, w1, hq, harr⟩ := h b [.beginRound, .code bd] (c :: cs) rfl rfl
 rw [<- hb0] at harr
 cases e with
 | normal =>
   obtain ⟨w2, hbr, hbody⟩ := hq
   have s1 := CS (stepR_beginRound (P := P) (b := b) (a := a1) (k := [.code bd]) (cs := c :: cs) rfl hbr)
   obtain ⟨e2, a2, w3, hq2, harr2⟩ := hbody b [] (c :: cs) rfl rfl
   cases e2 with
   | normal =>
     obtain ⟨v, w4, hend, hR⟩ := hq2
     exact ⟨.returned v, w4, ⟨v, rfl, hR⟩, (StepsIn.trans harr s1).trans (StepsIn.trans harr2 (CS (stepR_round_end rfl rfl hend)))⟩
   | ret =>
     obtain ⟨v, w4, hend, hR⟩ := hq2
     obtain ⟨k1, hs⟩ := harr2.2 rfl
     exact ⟨.returned v, w4, ⟨v, rfl, hR⟩, (StepsIn.trans harr s1).trans (StepsIn.trans hs (CS (stepR_round_ret rfl rfl hend)))⟩
   | exit id =>
     obtain ⟨v, w4, hend, hR⟩ := hq2
     obtain ⟨k1, hk, hs⟩ := harr2.2 rfl rfl
     exact ⟨.returned v, w4, ⟨v, rfl, hR⟩, (StepsIn.trans harr s1).trans (StepsIn.trans hs (CS (stepR_round_exit rfl rfl hk hend)))⟩
   | goto t => exact hq2.elim
   | panic chain => exact hq2.elim
   | outgrown => exact hq2.elim
 | exit id => exact hq.elim
 | goto t => exact hq.elim
 | ret => exact hq.elim
 | panic chain => exact hq.elim
 | outgrown => exact hq.elim
end
def Qp (ops : Array Oper) : Nat -> Array Bool -> List Nat -> Prop
 | 0, _, L => L = []
 | _ + 1, listed, [] => Region.ready .any ops listed = []
 | n + 1, listed, i :: L => i ∈ Region.ready .any ops listed /\ Qp ops n (listed.setIfInBounds i true) L
section
variable {P : Program} {ops : Array Oper} {Q : Act -> adR -> Prop}
theorem Xa : ∀ (fuel t : Nat) (listed : Array Bool), Qp ops fuel listed (Region.linearise.go .any ops fuel t listed []) := by
 intro fuel
 induction fuel with
 | zero => intro t listed; simp [Region.linearise.go, Qp]
 | succ fuel ih =>
   intro t listed
   simp only [Region.linearise.go]
   change Qp ops (fuel + 1) listed (match (Region.ready .any ops listed)[t % (Region.ready .any ops listed).length]? with
    | some i => Region.linearise.go .any ops fuel (t / (Region.ready .any ops listed).length) (listed.setIfInBounds i true) [i]
    | none => [].reverse)
   cases hi : (Region.ready .any ops listed)[t % (Region.ready .any ops listed).length]? with
   | none =>
     have : Region.ready .any ops listed = [] := by
      cases hr : Region.ready .any ops listed with
      | nil => rfl
      | cons x xs =>
        rw [hr] at hi
        have hlt : t % (x :: xs).length < (x :: xs).length := acG _ (by simp)
        rw [ZU hlt] at hi
        cases hi
     simpa [Qp] using this
   | some i =>
     simp only []
     rw [linearise_go_acc]
     exact ⟨adK hi, ih _ _⟩
theorem L3 : ∀ (fuel : Nat) (listed : Array Bool) (L : List Nat) (a : Act) (w : adR), OT P ops Q fuel listed a w -> Qp ops fuel listed L -> Bj P ops Q L a w := by
 intro fuel
 induction fuel with
 | zero => intro listed L a w h hL; obtain rfl : L = [] := hL; exact h.2
 | succ fuel ih =>
   intro listed L a w h hL
   cases L with
   | nil => exact h.1 hL
   | cons i L =>
     exact SD (fun a w hh => ih _ _ a w hh hL.2) (h.2 i hL.1)
end
structure Pf (π : List Nat) (ops : Array Oper) : Prop where
 len : π.length = ops.size
 to : ∀ i, i < ops.size -> vE π i < ops.size /\ π[vE π i]? = some i
 back : ∀ k, k < ops.size -> ∃ i, π[k]? = some i /\ vE π i = k /\ i < ops.size
 after : ∀ (i : Nat) (o : Oper), ops[i]? = some o -> ∀ e ∈ o.after, e.on < ops.size
 guard : ∀ (i : Nat) (o : Oper) (j : Nat) (b : Bool), ops[i]? = some o -> o.guard = some (j, b) -> j < ops.size
theorem WY {π : List Nat} {ops : Array Oper} (h : Sx π ops = true) : Pf π ops := by
 unfold Sx at h
 simp only [ZZ] at h
 obtain ⟨⟨⟨h1, h2⟩, h3⟩, h4⟩ := h
 have h1 := aaE h1
 have at4 : ∀ (i : Nat) (o : Oper), ops[i]? = some o -> (o.after.all fun e => Nat.blt e.on ops.size) = true /\ (match o.guard with | some (j, _) => Nat.blt j ops.size | none => true) = true := by
  intro i o ho
  have hi : i < ops.size := by
   rcases aaW i ops.size with h | h
   .exact h
   .rw [aaI h] at ho; cases ho
  have := aaQ.1 h4 i (aaO.2 hi)
  rw [ho] at this
  simp only [ZZ] at this
  refine ⟨this.1, ?_⟩
  have h := this.2
  revert h
  cases o.guard <;> exact id
 refine ⟨h1, fun i hi => ?_, fun k hk => ?_, fun i o ho e he => ?_, fun i o j b ho hg => ?_⟩
 .have := aaQ.1 h3 i (aaO.2 hi)
  cases hp : π[vE π i]? with
  | none => rw [hp] at this; cases this
  | some j =>
    rw [hp] at this
    obtain rfl := aaE this
    refine ⟨?_, rfl⟩
    rcases aaW (vE π j) π.length with h | h
    .omega
    .rw [aaK h] at hp; cases hp
 .have := aaQ.1 h2 k (aaO.2 hk)
  cases hp : π[k]? with
  | none => rw [hp] at this; cases this
  | some i =>
    rw [hp] at this
    simp only [ZZ] at this
    exact ⟨i, rfl, aaE this.1, (acF (x := i) (y := ops.size)) ▸ this.2⟩
 .have := abD.1 (at4 i o ho).1 e he
  exact (acF (x := e.on) (y := ops.size)) ▸ this
 .have := (at4 i o ho).2
  rw [hg] at this
  exact (acF (x := j) (y := ops.size)) ▸ this
theorem PQ {π : List Nat} {es : List (Nat × Nat)} {l : List Oper} : ∀ (r : List Nat), (∀ i ∈ r, i < l.length) -> (Lc π es l r).length = r.length /\ ∀ k i : Nat, r[k]? = some i -> (Lc π es l r)[k]? = (l[i]?).map (EU π es i) := by
 intro r
 induction r with
 | nil => intro _; exact ⟨rfl, fun k i h => by simp at h⟩
 | cons j r ih =>
   intro h
   obtain ⟨h1, h2⟩ := ih fun i hi => h i (Z1 _ hi)
   have hj : j < l.length := h j (by simp)
   simp only [Lc, ZU hj]
   refine ⟨by simp [h1], fun k i hk => ?_⟩
   cases k with
   | zero => simp at hk; subst hk; simp [ZU hj]
   | succ k => simp at hk ⊢; exact h2 k i hk
section
variable {P : Program} {ops : Array Oper} {Q : Act -> adR -> Prop} {π : List Nat} {es : List (Nat × Nat)}
theorem Pf.mem (p : Pf π ops) : ∀ i ∈ π, i < ops.toList.length := by
 intro i hi
 obtain ⟨k, hk, e⟩ := acU hi
 obtain ⟨j, h1, _, h2⟩ := p.back k (by rw [<- p.len]; exact hk)
 rw [ZU hk] at h1
 cases h1
 rw [<- e]; simpa using h2
theorem Pf.size (p : Pf π ops) : (pB π es ops).size = ops.size := by
 unfold pB
 rw [abV, (PQ (es := es) (π := π) π p.mem).1, p.len]
theorem Pf.get (p : Pf π ops) {i : Nat} (hi : i < ops.size) : (pB π es ops)[vE π i]? = (ops[i]?).map (EU π es i) := by
 unfold pB
 have := (PQ (es := es) (π := π) π p.mem).2 (vE π i) i (p.to i hi).2
 rw [abZ] at this
 simpa using this
theorem SS {i : Nat} {o : Oper} {a : Act} {w : adR} {K : Act -> adR -> Prop} : Sr P (EU π es i o) a w K ↔ Sr P o a w K := by
 unfold Sr
 have h1 : execOp a.eval (EU π es i o) = execOp a.eval o := by
  obtain ⟨d, op, ty, ps, af, g⟩ := o
  cases op <;> rfl
 have h2 : Qa (EU π es i o) = Qa o := rfl
 rw [h1, h2]
 generalize (execOp a.eval o).run P w = r
 cases r with
 | ok n w => cases n <;> exact Iff.rfl
 | halt x w => exact Iff.rfl
theorem R3 (p : Pf π ops) {i : Nat} {o : Oper} (ho : ops[i]? = some o) (tmps : Array adS) :
 Region.wanted (EU π es i o) (yielded (pB π es ops) tmps) = Region.wanted o (yielded ops tmps) := by
 unfold Region.wanted EU
 simp only
 cases hg : o.guard with
 | none => rfl
 | some q =>
   obtain ⟨j, b⟩ := q
   simp only
   have hj := p.guard i o j b ho hg
   have : (pB π es ops)[vE π j]?.bind (·.dst) = (ops[j]?).bind (·.dst) := by
    rw [p.get hj]
    cases ops[j]? <;> rfl
   unfold yielded
   rw [this]
theorem SH (p : Pf π ops) : ∀ (L : List Nat), (∀ i ∈ L, i < ops.size) -> ∀ (a : Act) (w : adR), Bj P (pB π es ops) Q (L.map (vE π)) a w -> Bj P ops Q L a w := by
 intro L
 induction L with
 | nil => intro _ a w h; exact h
 | cons i L ih =>
   intro hL a w h
   rw [Z0] at h
   simp only [Bj] at h ⊢
   have hi := hL i (by simp)
   have ih := ih fun i hi => hL i (Z1 _ hi)
   unfold IB at h ⊢
   rw [p.get hi] at h
   rw [Z4 hi] at h ⊢
   simp only [aaS] at h
   rw [R3 p (Z4 hi)] at h
   simp only
   split
   .rename_i hw
    rw [if_pos hw, SS] at h
    exact PF (fun a w => ih a w) h
   .rename_i hw
    rw [if_neg hw] at h
    exact ih _ _ h
theorem Jr {ops : Array Oper} {listed : Array Bool} (hsz : listed.size = ops.size) (i : Nat) :
 i ∈ Region.ready .any ops listed ↔ (i < ops.size /\ listed.getD i false = false /\ ∀ o, ops[i]? = some o -> ∀ e ∈ o.after, Region.binds .any e = true -> listed.getD e.on false = true) := by
 unfold Region.ready
 rw [List.mem_filter, aaO]
 constructor
 .rintro ⟨h1, h2⟩
  rw [Z4 h1] at h2
  simp only [ZZ, aaS, aaZ] at h2
  refine ⟨h1, ?_, fun o ho e he hb => ?_⟩
  .have := h2.1
   rw [ZX] at this ⊢
   rw [Z4 (by omega)] at this ⊢
   simpa using this
  .rw [Z4 h1] at ho
   cases ho
   have := abD.1 h2.2 e he
   simpa [hb] using this
 .rintro ⟨h1, h2, h3⟩
  refine ⟨h1, ?_⟩
  rw [Z4 h1]
  simp only [ZZ, aaS, aaZ]
  refine ⟨?_, abD.2 fun e he => ?_⟩
  .rw [ZX] at h2 ⊢
   rw [Z4 (by omega)] at h2 ⊢
   simpa using h2
  .by_cases hb : Region.binds .any e = true
   .simp [hb, h3 _ (Z4 h1) e he hb]
   .simp [hb]
theorem Vp {π : List Nat} {i : Nat} : ∀ {es : List (Nat × Nat)} {e : Edge}, e ∈ CQ π i es -> ∃ a, (a, i) ∈ es /\ e.on = vE π a := by
 intro es
 induction es with
 | nil => intro e h; simp [CQ] at h
 | cons q r ih =>
   obtain ⟨a, b⟩ := q
   intro e h
   simp only [CQ] at h
   cases hb : Nat.beq b i with
   | true =>
     rw [hb] at h
     obtain rfl := aaE hb
     rcases aaN.1 h with rfl | h
     .exact ⟨a, by simp, rfl⟩
     .obtain ⟨a, h1, h2⟩ := ih h; exact ⟨a, Z1 _ h1, h2⟩
   | false => rw [hb] at h; obtain ⟨a, h1, h2⟩ := ih h; exact ⟨a, Z1 _ h1, h2⟩
theorem TW (p : Pf π ops) {L0 : List Nat} (hes : ∀ q ∈ es, L0.idxOf q.1 <= L0.idxOf q.2 /\ q.1 ≠ q.2 /\ q.1 < ops.size) :
 ∀ (fuel : Nat) (listed listed' : Array Bool) (pre L : List Nat), L0 = pre ++ L -> listed.size = ops.size -> listed'.size = ops.size →
   (∀ j, j < ops.size -> listed'.getD (vE π j) false = listed.getD j false) -> (∀ j ∈ pre, listed.getD j false = true) -> (∀ j, listed.getD j false = true -> j ∈ pre) →
   Qp ops fuel listed L -> Qp (pB π es ops) fuel listed' (L.map (vE π)) /\ ∀ i ∈ L, i < ops.size := by
 intro fuel
 induction fuel with
 | zero => intro listed listed' pre L _ _ _ _ _ _ h; obtain rfl : L = [] := h; exact ⟨rfl, by simp⟩
 | succ fuel ih =>
   intro listed listed' pre L hL0 hs hs' hrel hpre hpre' h
   have hsz : (pB π es ops).size = ops.size := p.size
   cases L with
   | nil =>
     refine ⟨?_, by simp⟩
     show Region.ready .any (pB π es ops) listed' = []
     rw [List.eq_nil_iff_forall_not_mem]
     intro k hk
     obtain ⟨h1, h2, h3⟩ := (Jr (by omega) k).1 hk
     obtain ⟨i, hi1, hi2, hi3⟩ := p.back k (by omega)
     have : i ∈ Region.ready .any ops listed := by
      refine (Jr hs i).2 ⟨hi3, ?_, fun o ho e he hb => ?_⟩
      .rw [<- hrel i hi3, hi2]; exact h2
      .have g := p.get (es := es) hi3
       rw [hi2, ho] at g
       have hon := p.after i o ho e he
       have := h3 _ g ⟨vE π e.on, e.ground⟩ (by
        simp only [EU, List.mem_toArray, abJ, aaU]
        exact .inl ⟨e, by simpa using he, rfl⟩) (by unfold Region.binds at hb ⊢; exact hb)
       rw [<- hrel e.on hon]; exact this
     rw [show Region.ready .any ops listed = [] from h] at this
     cases this
   | cons i L =>
     obtain ⟨h1, h2⟩ := h
     obtain ⟨r1, r2, r3⟩ := (Jr hs i).1 h1
     have hnot : i ∉ pre := fun hm => by rw [hpre i hm] at r2; cases r2
     have hidx : L0.idxOf i = pre.length := by
      rw [hL0, List.idxOf_append, if_neg hnot]; simp
     have ready' : vE π i ∈ Region.ready .any (pB π es ops) listed' := by
      refine (Jr (by omega) _).2 ⟨by rw [hsz]; exact (p.to i r1).1, by rw [hrel i r1]; exact r2, fun o' ho' e' he' hb => ?_⟩
      rw [p.get r1, Z4 r1] at ho'
      simp only [aaS, aaH] at ho'
      subst ho'
      simp only [EU, List.mem_toArray, abJ, aaU] at he'
      rcases he' with ⟨e, he, rfl⟩ | he'
      .have ho := Z4 r1
       have he2 : e ∈ ops[i].after := by simpa using he
       rw [hrel e.on (p.after i _ ho e he2)]
       exact r3 _ ho e he2 (by unfold Region.binds at hb ⊢; exact hb)
      .obtain ⟨a, ha, hon⟩ := Vp he'
       obtain ⟨q1, q2, q3⟩ := hes _ ha
       simp only at q1 q2 q3
       rw [hon, hrel a q3]
       refine hpre a ?_
       rw [hidx] at q1
       rw [hL0, List.idxOf_append] at q1
       by_cases hm : a ∈ pre
       .exact hm
       .rw [if_neg hm] at q1
        exfalso
        have hz : (i :: L).idxOf a = 0 := by omega
        rw [List.idxOf_cons] at hz
        cases hb : (i == a) with
        | true => exact q2 (by simpa using (beq_iff_eq.1 hb).symm)
        | false => rw [hb] at hz; simp at hz
     have hlen' : listed'.size = ops.size := hs'
     obtain ⟨k1, k2⟩ := ih (listed.setIfInBounds i true) (listed'.setIfInBounds (vE π i) true) (pre ++ [i]) L (by rw [hL0]; simp) (by simp [hs]) (by simp [hs'])
      (fun j hj => by
       by_cases hji : j = i
       .subst hji
        rw [ZX, ZX, Z6 (by rw [hs']; exact (p.to j hj).1), Z6 (by omega)]
       .have hne : vE π i ≠ vE π j := fun e => by
         have a1 := (p.to i r1).2
         have a2 := (p.to j hj).2
         rw [e] at a1
         rw [a1] at a2
         exact hji (abB a2).symm
        have := hrel j hj
        rw [ZX, ZX] at this ⊢
        rw [Z8 hne, Z8 (fun e => hji e.symm)]
        exact this)
      (fun j hj => by
       rw [ZX]
       rcases abJ.1 hj with hj | hj
       .by_cases hji : j = i
        .subst hji; rw [Z6 (by omega)] <;> rfl
        .rw [Z8 (fun e => hji e.symm), <- ZX]; exact hpre j hj
       .have : j = i := by simpa using hj
        subst this
        rw [Z6 (by omega)] <;> rfl)
      (fun j hj => by
       by_cases hji : j = i
       .subst hji; simp
       .rw [ZX, Z8 (fun e => hji e.symm), <- ZX] at hj
        exact abU _ (hpre' j hj))
      h2
     exact ⟨⟨ready', k1⟩, fun j hj => (aaN.1 hj).elim (fun e => e ▸ r1) (k2 j)⟩
end
section
variable {P : Program} {ops : Array Oper}
theorem M6 {N : Nat} {an : TN} {pl : QV} (hok : Ox ops an = true) (hpl : On ops.size an pl = true) (hd : KF N ops) (hca : L5 P ops)
 {K : Env -> adR -> Prop} {Q : Act -> adR -> Prop} (hQ : ∀ g a w, Jm N g a -> K g w -> Q a w) {g : Env} {a : Act} {w : adR} (hr : Jm N g a)
 (h : qF P ops ops.toList pl [] g w K) : OT P ops Q ops.size (Array.replicate ops.size false) a w := by
 have r0 : UZ P ops an g w 0 (fun _ => default) (fun _ => g) (fun _ => w) (fun _ => undef) :=
  ⟨rfl, rfl, fun i hi => by omega, fun i hi => by omega, fun i hi => by omega, fun i hi => by omega, fun i j _ hj => by omega⟩
 obtain ⟨O, G, W, V, r, hk⟩ := Ri hpl ops.toList 0 [] _ _ _ _ (fun j => by simp) (by simp) r0 (fun i hi => by omega) h
 simp only [ZS, Array.length_toList] at r hk
 have st := TR hok r.op
 have := VO (Q := Q) (n := ops.size) rfl hd hca r st (fun a hra => hQ _ a _ hra hk) ops.size (Array.replicate ops.size false) g a 0 (by simp) hr (by omega)
  (fun j hj hl => by unfold mM at hl; simp [ZX, hj] at hl)
  (fun s => .inr ⟨fun j hj hl => by unfold mM at hl; simp [ZX, hj] at hl, rfl⟩)
  (fun h hh _ => ⟨fun hl => by unfold mM at hl; simp [ZX, hh] at hl, fun hl => by omega⟩)
  (acM (List.length_filter_le _ _) (by simp))
 rw [r.w0] at this
 exact this
theorem MF {N : Nat} {ops : Array Oper} (h : ops.all (TM N) = true) : KF N ops := by
 intro i o ho t ht
 have := abD.1 h o (adH ho)
 unfold TM at this
 rw [ht] at this
 exact (acF (x := t) (y := N)) ▸ this
theorem OJ {ops : Array Oper} (h : ops.all (Ay P) = true) : L5 P ops :=
 fun _ o ho => abD.1 h o (adH ho)
theorem SN {N : Nat} {f : FuncId} {id : Nat} (hd : KF N ops) (hca : L5 P ops)
 {K : Env -> adR -> Prop} {Q : Act -> adR -> Prop} (hQ : ∀ g a w, Jm N g a -> K g w -> Q a w) {g : Env} {a : Act} {w0 w : adR} (hr : Jm N g a) :
 ∀ (T : HT) (path : List (Nat × Nat)), Kx P N ops path T = true →
   (∀ q ∈ path, (Region.schedule true ops (w0.tape w0.drawn (.order f id))).idxOf q.1 <= (Region.schedule true ops (w0.tape w0.drawn (.order f id))).idxOf q.2 /\ q.1 ≠ q.2) →
   QX P f id ops T g w0 w K -> Bj P ops Q (Region.schedule true ops (w0.tape w0.drawn (.order f id))) a w := by
 have lin : Qp ops ops.size (Array.replicate ops.size false) (Region.schedule true ops (w0.tape w0.drawn (.order f id))) := by
  unfold Region.schedule
  simp only [Bool.true_or, if_true]
  exact Xa _ _ _
 generalize hL : Region.schedule true ops (w0.tape w0.drawn (.order f id)) = L at lin ⊢
 intro T
 induction T with
 | leaf an pl =>
   intro path hok _ h
   simp only [Kx, ZZ] at hok
   exact L3 _ _ _ _ _ (M6 hok.1 hok.2 hd hca hQ hr h) lin
 | perm π es an pl =>
   intro path hok hpath h
   simp only [Kx, ZZ] at hok
   obtain ⟨⟨⟨⟨⟨h1, h2⟩, h3⟩, h4⟩, h5⟩, h6⟩ := hok
   have p := WY h2
   have hes : ∀ q ∈ es, L.idxOf q.1 <= L.idxOf q.2 /\ q.1 ≠ q.2 /\ q.1 < ops.size := fun q hq => by
    have := aaQ.1 h1 q hq
    simp only [ZZ] at this
    have hp := hpath q (VS this.1)
    exact ⟨hp.1, hp.2, (acF (x := q.1) (y := ops.size)) ▸ this.2⟩
   obtain ⟨k1, k2⟩ := TW (es := es) p hes ops.size (Array.replicate ops.size false) (Array.replicate ops.size false) [] L rfl (by simp) (by simp)
    (fun j hj => by simp [ZX, hj, (p.to j hj).1]) (by simp)
    (fun j hj => by rw [ZX] at hj; by_cases hh : j < ops.size <;> simp [hh] at hj) lin
   have hw := M6 h5 h6 (MF h3) (OJ h4) hQ hr h
   rw [p.size] at hw
   exact SH (es := es) p L k2 a w (L3 _ _ _ _ _ hw k1)
 | split x y A B ihA ihB =>
   intro path hok hpath h
   simp only [Kx, ZZ] at hok
   have hne : x ≠ y := by
    intro e
    have := hok.1.1
    rw [e] at this
    simp at this
   simp only [QX] at h
   unfold Ord Wu at h
   rw [hL] at h
   cases hb : Nat.ble (L.idxOf x) (L.idxOf y) with
   | true =>
     rw [hb] at h
     refine ihA _ hok.1.2 (fun q hq => ?_) h
     rcases aaN.1 hq with rfl | hq
     .exact ⟨abS hb, hne⟩
     .exact hpath q hq
   | false =>
     rw [hb] at h
     refine ihB _ hok.2 (fun q hq => ?_) h
     rcases aaN.1 hq with rfl | hq
     .refine ⟨?_, hne.symm⟩
      simp only
      rcases aaW (L.idxOf y) (L.idxOf x) with hh | hh
      .omega
      .have := Nat.ble_eq_true_of_le hh; rw [this] at hb; cases hb
     .exact hpath q hq
end
section
variable {P : Program} {ann : FA}
def oH : List Oper -> List Nat
 | [] => []
 | o :: r => match o.dst with | some d => d :: oH r | none => oH r
def JX : Code -> List Nat
 | .region _ ops _ => oH ops.toList
 | .seq x y => JX x ++ JX y
 | .cond _ x y => JX x ++ JX y
 | .block _ c => JX c
 | .scope c => JX c
 | .loop c => JX c
 | .rangeFunc .. => [DS]
 | _ => []
def mK (l : List Nat) (g g' : Env) : Prop := ∀ s, s ∉ l -> g' s = g s
theorem mK.refl (l : List Nat) (g : Env) : mK l g g := fun _ _ => rfl
theorem mK.trans {l l1 l2 : List Nat} {a b c : Env} (h : mK l1 a b) (k : mK l2 b c) (h1 : ∀ s, s ∈ l1 -> s ∈ l) (h2 : ∀ s, s ∈ l2 -> s ∈ l) : mK l a c :=
 fun s hs => (k s fun h => hs (h2 s h)).trans (h s fun h => hs (h1 s h))
theorem mK.mono {l l1 : List Nat} {a b : Env} (h : mK l1 a b) (h1 : ∀ s, s ∈ l1 -> s ∈ l) : mK l a b := fun s hs => h s fun hh => hs (h1 s hh)
theorem mK.put {l : List Nat} {a : Env} (d : Option Tmp) (v : adS) (h : ∀ t, d = some t -> t ∈ l) : mK l a (put a d v) := by
 intro s hs
 cases d with
 | none => rfl
 | some t =>
   rw [Gn, if_neg (fun e => hs (by rw [e]; exact h t rfl))]
theorem SU {ops : Array Oper} {K : Env -> adR -> Prop} : ∀ (l : List Oper) (g : Env) (w : adR), NT P ops l g w K →
 ∃ g' w', K g' w' /\ mK (oH l) g g' /\ ∀ K' : Env -> adR -> Prop, K' g' w' -> NT P ops l g w K' := by
 intro l
 induction l with
 | nil => intro g w h; exact ⟨g, w, h, mK.refl _ _, fun _ h => h⟩
 | cons o l ih =>
   intro g w h
   obtain ⟨v, w1, hy, h1⟩ := GO h
   obtain ⟨g', w', hk, ha, hall⟩ := ih _ _ h1
   refine ⟨g', w', hk, ?_, fun K' hk' => hy _ (hall K' hk')⟩
   refine mK.trans (mK.put o.dst v (l := oH (o :: l)) fun t ht => by simp [oH, ht]) ha (fun _ h => h) (fun s hs => ?_)
   unfold oH
   split
   .exact Z1 _ hs
   .exact hs
theorem Ng {ops : Array Oper} {K : Env -> adR -> Prop} : ∀ (l : List Oper) (pl : QV) (hist : List Rec) (g : Env) (w : adR), qF P ops l pl hist g w K →
 ∃ g' w', K g' w' /\ mK (oH l) g g' /\ ∀ K' : Env -> adR -> Prop, K' g' w' -> qF P ops l pl hist g w K' := by
 intro l
 induction l with
 | nil => intro pl hist g w h; unfold qF at h; exact ⟨g, w, h, mK.refl _ _, fun _ h => (by unfold qF; exact h)⟩
 | cons o l ih =>
   intro pl hist g w h
   cases pl with
   | nil => exact h.elim
   | cons p pl =>
     obtain ⟨hv, ks⟩ := p
     obtain ⟨v, w1, hy, h1⟩ := GO h
     have tail : ∀ (w2 : adR) (hist' : List Rec), qF P ops l pl hist' (put g o.dst v) w2 K →
         ∃ g' w', K g' w' /\ mK (oH (o :: l)) g g' /\ ∀ K' : Env -> adR -> Prop, K' g' w' -> qF P ops l pl hist' (put g o.dst v) w2 K' := by
      intro w2 hist' c2
      obtain ⟨g', w', hk, ha, hall⟩ := ih _ _ _ _ c2
      refine ⟨g', w', hk, ?_, hall⟩
      refine mK.trans (mK.put o.dst v (l := oH (o :: l)) fun t ht => by simp [oH, ht]) ha (fun _ h => h) (fun s hs => ?_)
      unfold oH
      split
      .exact Z1 _ hs
      .exact hs
     cases hv with
     | true =>
       cases ks with
       | nil =>
         obtain ⟨g', w', hk, ha, hall⟩ := tail w1 _ h1
         exact ⟨g', w', hk, ha, fun K' hk' => hy _ (hall K' hk')⟩
       | cons k ks =>
         obtain ⟨hc, h1⟩ := h1
         obtain ⟨g', w', hk, ha, hall⟩ := tail w1 _ h1
         exact ⟨g', w', hk, ha, fun K' hk' => hy _ ⟨hc, hall K' hk'⟩⟩
     | false =>
       cases ks with
       | nil =>
         obtain ⟨rfl, h1⟩ := h1
         obtain ⟨g', w', hk, ha, hall⟩ := tail w1 _ h1
         exact ⟨g', w', hk, ha, fun K' hk' => hy _ ⟨rfl, hall K' hk'⟩⟩
       | cons k ks =>
         obtain ⟨rfl, hc, h1⟩ := h1
         obtain ⟨g', w', hk, ha, hall⟩ := tail w1 _ h1
         exact ⟨g', w', hk, ha, fun K' hk' => hy _ ⟨rfl, hc, hall K' hk'⟩⟩
theorem EG {l : List Oper} {s : Nat} : s ∈ oH l ↔ ∃ o ∈ l, o.dst = some s := by
 induction l with
 | nil => simp [oH]
 | cons o l ih =>
   unfold oH
   cases hd : o.dst with
   | none => simp [ih, hd]
   | some d => simp [ih, hd, eq_comm]
theorem SC {π : List Nat} {es : List (Nat × Nat)} {l : List Oper} {s : Nat} : ∀ (r : List Nat), s ∈ oH (Lc π es l r) -> s ∈ oH l := by
 intro r
 induction r with
 | nil => intro h; simp [Lc, oH] at h
 | cons i r ih =>
   intro h
   simp only [Lc] at h
   cases ho : l[i]? with
   | none => rw [ho] at h; exact ih h
   | some o =>
     rw [ho] at h
     obtain ⟨o', h1, h2⟩ := EG.1 h
     rcases aaN.1 h1 with rfl | h1
     .exact EG.2 ⟨o, adK ho, h2⟩
     .exact ih (EG.2 ⟨o', h1, h2⟩)
theorem Vw {f : FuncId} {id : Nat} {ops : Array Oper} {K : Env -> adR -> Prop} {g : Env} {w0 : adR} : ∀ (T : HT) (w : adR), QX P f id ops T g w0 w K →
 ∃ g' w', K g' w' /\ mK (oH ops.toList) g g' /\ ∀ K' : Env -> adR -> Prop, K' g' w' -> QX P f id ops T g w0 w K' := by
 intro T
 induction T with
 | leaf an pl => intro w h; exact Ng _ _ _ _ _ h
 | perm π es an pl =>
   intro w h
   obtain ⟨g', w', a, b, c⟩ := Ng _ _ _ _ _ h
   exact ⟨g', w', a, b.mono (fun s hs => SC π (by simpa [pB] using hs)), c⟩
 | split x y A B ihA ihB =>
   intro w h
   simp only [QX, Ord] at h ⊢
   cases hb : Wu f id ops x y w0 with
   | true => rw [hb] at h; exact ihA w h
   | false => rw [hb] at h; exact ihB w h
theorem kC.head {α : Type} {F : (α -> adR -> Prop) -> α -> adR -> Prop} (hmono : ∀ X Y g w, (∀ g w, X g w -> Y g w) -> F X g w -> F Y g w)
 {g : α} {w : adR} (h : F (fun g' w' => kC F g' w') g w) (hdet : ∃ g' w', kC F g' w' /\ ∀ X : α -> adR -> Prop, X g' w' -> F X g w) : kC F g w := by
 obtain ⟨g1, w1, ⟨I, ⟨n1, h1⟩, hI⟩, hF⟩ := hdet
 refine ⟨fun n g' w' => I n g' w' ∨ (n = n1 + 1 /\ g' = g /\ w' = w), ⟨n1 + 1, .inr ⟨rfl, rfl, rfl⟩⟩, ?_⟩
 rintro n g' w' (h | ⟨rfl, rfl, rfl⟩)
 .exact hmono _ _ _ _ (fun _ _ ⟨m, hm, hh⟩ => ⟨m, hm, .inl hh⟩) (hI _ _ _ h)
 .exact hF _ ⟨n1, by omega, .inl h1⟩
theorem XT {f : FuncId} {gf : Operand} {ps : Array Tmp} {ZJ bd : Code} {Q : Exit -> Env -> adR -> Prop} {g : Env} {w : adR} (h : RF P f gf ps ZJ bd Q g w) :
 ∃ e g' w', Q e g' w' /\ mK [DS] g g' /\ ∀ Q' : Exit -> Env -> adR -> Prop, Q' e g' w' -> RF P f gf ps ZJ bd Q' g w := by
 unfold RF at h ⊢
 cases hn : noMark (g DS) with
 | false => rw [hn] at h; exact h.elim
 | true =>
   rw [hn] at h
   simp only at h ⊢
   generalize (xY (ev g gf) [Dh (w.heap.size + 1)]).run P (U0 f (MG P f) ps ZJ bd g w) = r at *
   match r, h with
   | .ok (.enter f2 args) w1, h =>
     obtain ⟨v, w3, hret, r, h1, h2, h3⟩ := h
     have ha : mK [DS] g (put g (some DS) (.pointer (some ⟨w.heap.size, 0, none⟩))) := mK.put _ _ (fun t ht => by cases ht; simp)
     cases hp : r.pending with
     | none =>
       rw [hp] at h3
       exact ⟨.normal, _, _, h3, ha, fun Q' h => ⟨v, w3, hret, r, h1, h2, by rw [hp]; exact h⟩⟩
     | some c =>
       rw [hp] at h3
       cases c <;> first
        | exact h3.elim
        | exact ⟨.ret, _, _, h3, ha, fun Q' h => ⟨v, w3, hret, r, h1, h2, by rw [hp]; exact h⟩⟩
        | exact ⟨.exit _, _, _, h3, ha, fun Q' h => ⟨v, w3, hret, r, h1, h2, by rw [hp]; exact h⟩⟩
theorem NC : ∀ (c : Code) (Q : Exit -> Env -> adR -> Prop) (g : Env) (w : adR), iU P ann c Q g w →
 ∃ e g' w', Q e g' w' /\ mK (JX c) g g' /\ ∀ Q' : Exit -> Env -> adR -> Prop, Q' e g' w' -> iU P ann c Q' g w := by
 intro c
 induction c with
 | skip => intro Q g w h; exact ⟨_, _, _, h, mK.refl _ _, fun _ h => h⟩
 | region id ops draw =>
   intro Q g w h
   cases draw with
   | false =>
     obtain ⟨g', w', a, b, c⟩ := SU _ _ _ h
     exact ⟨.normal, g', w', a, b, fun Q' h => c _ h⟩
   | true =>
     obtain ⟨g', w', a, b, c⟩ := Vw _ _ h
     exact ⟨.normal, g', w', a, b, fun Q' h => c _ h⟩
 | seq x y ihx ihy =>
   intro Q g w h
   obtain ⟨e, g1, w1, a, b, c⟩ := ihx _ _ _ h
   cases e with
   | normal =>
     obtain ⟨e2, g2, w2, a2, b2, c2⟩ := ihy _ _ _ a
     exact ⟨e2, g2, w2, a2, b.trans b2 (fun s h => abU _ h) (fun s h => acL _ h), fun Q' h => c _ (c2 _ h)⟩
   | _ => exact ⟨_, g1, w1, a, b.mono (fun s h => abU _ h), fun Q' h => c _ h⟩
 | cond c x y ihx ihy =>
   intro Q g w h
   simp only [iU] at h ⊢
   unfold lN at h ⊢
   cases hc : ev g c with
   | bool b =>
     rw [hc] at h
     cases b with
     | true =>
       obtain ⟨e, g', w', a, b, c⟩ := ihx _ _ _ h
       exact ⟨e, g', w', a, b.mono (fun s h => abU _ h), c⟩
     | false =>
       obtain ⟨e, g', w', a, b, c⟩ := ihy _ _ _ h
       exact ⟨e, g', w', a, b.mono (fun s h => acL _ h), c⟩
   | _ => rw [hc] at h; exact h.elim
 | block id c ih =>
   intro Q g w h
   obtain ⟨e, g', w', a, b, c⟩ := ih _ _ _ h
   cases e with
   | exit i =>
     simp only [Xd] at a
     cases hb : Nat.beq i id with
     | true =>
       simp only [hb] at a
       refine ⟨.normal, g', w', a, b, fun Q' h => c _ ?_⟩
       simp only [Xd, hb]; exact h
     | false =>
       simp only [hb] at a
       refine ⟨.exit i, g', w', a, b, fun Q' h => c _ ?_⟩
       simp only [Xd, hb]; exact h
   | _ => exact ⟨_, g', w', a, b, fun Q' h => c _ h⟩
 | loop c ih =>
   intro Q g w h
   have hmono : ∀ (Q : Exit -> Env -> adR -> Prop) (X Y : Env -> adR -> Prop) g w, (∀ g w, X g w -> Y g w) -> iU P ann c (yR X Q) g w -> iU P ann c (yR Y Q) g w := by
    intro Q X Y g w hxy h
    obtain ⟨e, g', w', a, _, k⟩ := ih _ _ _ h
    refine k _ ?_
    cases e with
    | normal => exact hxy _ _ a
    | _ => exact a
   obtain ⟨I, ⟨n, h0⟩, hI⟩ := h
   have key : ∀ n g w, I n g w -> ∃ e g' w', Q e g' w' /\ mK (JX c) g g' /\ ∀ Q' : Exit -> Env -> adR -> Prop, Q' e g' w' -> kC (fun X g w => iU P ann c (yR X Q') g w) g w := by
    intro n
    induction n using Nat.strongRecOn with
    | _ n ih2 =>
      intro g w hg
      obtain ⟨e, g1, w1, a, b, k⟩ := ih _ _ _ (hI n g w hg)
      have once : ∀ (Q' : Exit -> Env -> adR -> Prop), (∀ X : Env -> adR -> Prop, iU P ann c (yR X Q') g w) -> kC (fun X g w => iU P ann c (yR X Q') g w) g w := by
       intro Q' h
       refine ⟨fun n g' w' => g' = g /\ w' = w, ⟨0, rfl, rfl⟩, ?_⟩
       rintro _ g' w' ⟨rfl, rfl⟩
       exact h _
      cases e with
      | normal =>
        obtain ⟨m, hm, hIm⟩ := a
        obtain ⟨e2, g2, w2, a2, b2, k2⟩ := ih2 m hm g1 w1 hIm
        refine ⟨e2, g2, w2, a2, b.trans b2 (fun _ h => h) (fun _ h => h), fun Q' h => ?_⟩
        have hl := k2 Q' h
        exact kC.head (hmono Q') (k _ hl) ⟨g1, w1, hl, fun X hx => k _ hx⟩
      | _ => exact ⟨_, g1, w1, a, b, fun Q' h => once Q' fun X => k _ h⟩
   exact key n g w h0
 | exit id => intro Q g w h; exact ⟨_, _, _, h, mK.refl _ _, fun _ h => h⟩
 | label l => intro Q g w h; exact ⟨_, _, _, h, mK.refl _ _, fun _ h => h⟩
 | scope c ih => intro Q g w h; exact ih Q g w h
 | ret => intro Q g w h; exact ⟨_, _, _, h, mK.refl _ _, fun _ h => h⟩
 | rangeFunc gf ps ZJ bd => intro Q g w h; exact XT h
 | _ => intro Q g w h; exact h.elim
theorem BV {c : Code} {Q Q' : Exit -> Env -> adR -> Prop} {g : Env} {w : adR} (h : iU P ann c Q g w)
 (hq : ∀ e g' w', mK (JX c) g g' -> Q e g' w' -> Q' e g' w') : iU P ann c Q' g w :=
 let ⟨_, _, _, a, b, k⟩ := NC c Q g w h
 k _ (hq _ _ _ b a)
def XJ (Q : Exit -> Env -> adR -> Prop) : Exit -> Env -> adR -> Prop
 | .goto _, _, _ => False
 | e, g, w => Q e g w
theorem S9 : ∀ (c : Code) (Q : Exit -> Env -> adR -> Prop) (g : Env) (w : adR), iU P ann c Q g w -> iU P ann c (XJ Q) g w := by
 intro c
 induction c with
 | skip => intro Q g w h; exact h
 | region id ops draw => intro Q g w h; cases draw <;> exact h
 | seq x y ihx ihy =>
   intro Q g w h
   show iU P ann x (yR (fun g w => iU P ann y (XJ Q) g w) (XJ Q)) g w
   refine BV (ihx _ _ _ h) (fun e g' w' _ hq => ?_)
   cases e with
   | normal => exact ihy _ _ _ hq
   | goto l => exact hq.elim
   | _ => exact hq
 | cond c x y ihx ihy =>
   intro Q g w h
   simp only [iU] at h ⊢
   unfold lN at h ⊢
   cases hc : ev g c with
   | bool b =>
     rw [hc] at h
     cases b with
     | true => exact ihx _ _ _ h
     | false => exact ihy _ _ _ h
   | _ => rw [hc] at h; exact h.elim
 | block id c ih =>
   intro Q g w h
   show iU P ann c (Xd id (XJ Q)) g w
   refine BV (ih _ _ _ h) (fun e g' w' _ hq => ?_)
   cases e with
   | exit i =>
     simp only [XJ, Xd] at hq ⊢
     cases hb : Nat.beq i id with
     | true => rw [hb] at hq; exact hq
     | false => rw [hb] at hq; exact hq
   | goto l => exact hq.elim
   | _ => exact hq
 | loop c ih =>
   intro Q g w h
   obtain ⟨I, h0, hI⟩ := h
   refine ⟨I, h0, fun n g w hi => ?_⟩
   refine BV (ih _ _ _ (hI n g w hi)) (fun e g' w' _ hq => ?_)
   cases e with
   | normal => exact hq
   | goto l => exact hq.elim
   | _ => exact hq
 | exit id => intro Q g w h; exact h
 | label l => intro Q g w h; exact h
 | scope c ih => intro Q g w h; exact ih Q g w h
 | ret => intro Q g w h; exact h
 | rangeFunc gf ps ZJ bd =>
   intro Q g w h
   have h : RF P ann.f gf ps ZJ bd Q g w := h
   show RF P ann.f gf ps ZJ bd (XJ Q) g w
   unfold RF at h ⊢
   cases hn : noMark (g DS) with
   | false => rw [hn] at h; exact h.elim
   | true =>
     rw [hn] at h
     simp only at h ⊢
     generalize (xY (ev g gf) [Dh (w.heap.size + 1)]).run P (U0 ann.f (MG P ann.f) ps ZJ bd g w) = r at *
     match r, h with
     | .ok (.enter f2 args) w1, h =>
       obtain ⟨v, w3, hret, r, h1, h2, h3⟩ := h
       refine ⟨v, w3, hret, r, h1, h2, ?_⟩
       cases hp : r.pending with
       | none => rw [hp] at h3; exact h3
       | some c => rw [hp] at h3; cases c <;> exact h3
 | _ => intro Q g w h; exact h.elim
theorem NW {N : Nat} {g : Env} {a : Act} (h : Jm N g a) : a.tmps = tmpsOf N g := by
 refine Array.ext (by simp [tmpsOf, h.size]) fun i h1 h2 => ?_
 have hi : i < N := by rw [<- h.size]; exact h1
 have := h.at_ i (acK (abY hi h.le))
 rw [ZX, Z4 h1] at this
 simp [tmpsOf] at this ⊢
 exact this
theorem VY {v : adS} (h : noMark v = true) : Rj v = [] := by cases v <;> first | rfl | cases h
theorem Mc {N : Nat} (hm : P.follows .mixedOrders = true) {ro : Option Nat} (hN : MG P ann.f = N) : ∀ (c : Code), codeOk P N ann c = true -> ro = none ∨ rD c = true →
 ∀ (Q : Exit -> Env -> adR -> Prop) (QA : Exit -> Act -> adR -> Prop) (g : Env) (a : Act) (w : adR), Jm N g a →
   (∀ e g a w, Jm N g a -> Q e g w -> QA e a w) -> iU P ann c Q g w -> Ot P ann.f ro c QA a w := by
 intro c
 induction c with
 | skip => intro _ _ Q QA g a w hr hq h; exact Vf (hq _ _ _ _ hr h)
 | region id ops draw =>
   intro hok _ Q QA g a w hr hq h
   simp only [codeOk, ZZ, aaX, abQ] at hok
   have hd := MF hok.1.1
   have hca := OJ hok.1.2
   cases draw with
   | false =>
     refine SY ?_
     have := Uy hd hca (P := P) (Q := QA .normal) (K := Q .normal) (fun g a w => hq .normal g a w) ops.toList 0 g a w (fun j => by simp) hr h
     rw [List.range_eq_range']
     simpa using this
   | true =>
     rcases hok.2 with h1 | h1
     .cases h1
     .exact Ns hm (SN hd hca (fun g a w => hq .normal g a w) hr _ [] h1 (by simp) h)
 | seq x y ihx ihy =>
   intro hok hfl Q QA g a w hr hq h
   simp only [codeOk, ZZ] at hok
   have hfx : ro = none ∨ rD x = true := hfl.imp id fun h => by simp only [rD, ZZ] at h; exact h.1
   have hfy : ro = none ∨ rD y = true := hfl.imp id fun h => by simp only [rD, ZZ] at h; exact h.2
   refine WZ (ihx hok.1 hfx _ _ g a w hr (fun e g a w hr h => ?_) h)
   cases e with
   | normal => exact ihy hok.2 hfy _ _ g a w hr hq h
   | _ => exact hq _ _ _ _ hr h
 | cond c x y ihx ihy =>
   intro hok hfl Q QA g a w hr hq h
   simp only [codeOk, ZZ] at hok
   have hfx : ro = none ∨ rD x = true := hfl.imp id fun h => by simp only [rD, ZZ] at h; exact h.1
   have hfy : ro = none ∨ rD y = true := hfl.imp id fun h => by simp only [rD, ZZ] at h; exact h.2
   simp only [iU] at h
   unfold lN at h
   have he := hr.ev c hok.1
   cases hc : ev g c with
   | bool b =>
     rw [hc] at h he
     refine Vr he ?_
     cases b with
     | true => exact ihx hok.2.1 hfx _ _ g a w hr hq h
     | false => exact ihy hok.2.2 hfy _ _ g a w hr hq h
   | _ => rw [hc] at h; exact h.elim
 | block id c ih =>
   intro hok hfl Q QA g a w hr hq h
   refine Ut (ih hok hfl _ _ g a w hr (fun e g a w hr h => ?_) h)
   cases e with
   | exit i =>
     unfold Exit.inBlock
     simp only [Xd] at h
     by_cases hi : i = id
     .subst hi
      simp only [if_true]
      simp only [Nat.beq_refl] at h
      exact hq _ _ _ _ hr h
     .simp only [hi, if_false]
      have : Nat.beq i id = false := by
       cases hb : Nat.beq i id
       .rfl
       .exact absurd (aaE hb) hi
      simp only [this] at h
      exact hq _ _ _ _ hr h
   | _ => exact hq _ _ _ _ hr h
 | loop c ih =>
   intro hok hfl Q QA g a w hr hq h
   obtain ⟨I, h0, hround⟩ := h
   have hex : ∀ a w, (∃ n g, Jm N g a /\ I n g w) -> ∃ n, (∃ g, Jm N g a /\ I n g w) /\ ∀ m, (∃ g, Jm N g a /\ I m g w) -> n <= m := by
    rintro a w ⟨n, hn⟩
    induction n using Nat.strongRecOn with
    | _ n ih2 =>
      by_cases hx : ∃ m, m < n /\ ∃ g, Jm N g a /\ I m g w
      .obtain ⟨m, hm, h⟩ := hx; exact ih2 m hm h
      .exact ⟨n, hn, fun m hm => Nat.le_of_not_lt fun hlt => hx ⟨m, hlt, hm⟩⟩
   have hdec : ∀ a w, Decidable (∃ n g, Jm N g a /\ I n g w) := fun a w => Classical.propDecidable _
   let μ : Act -> adR -> Nat := fun a w => if hh : ∃ n g, Jm N g a /\ I n g w then Classical.choose (hex a w hh) else 0
   have hμ : ∀ a w n g, Jm N g a -> I n g w -> μ a w <= n /\ ∃ g, Jm N g a /\ I (μ a w) g w := by
    intro a w n g hr hI
    have hh : ∃ n g, Jm N g a /\ I n g w := ⟨n, g, hr, hI⟩
    have e : μ a w = Classical.choose (hex a w hh) := dif_pos hh
    have s := Classical.choose_spec (hex a w hh)
    rw [e]
    exact ⟨s.2 n ⟨g, hr, hI⟩, s.1⟩
   obtain ⟨n0, h0⟩ := h0
   refine Vm (fun a w => ∃ n g, Jm N g a /\ I n g w) μ ⟨n0, g, hr, h0⟩ ?_
   rintro a w ⟨n, g, hr, hI⟩
   obtain ⟨_, g', hr', hI'⟩ := hμ a w n g hr hI
   refine ih hok hfl _ _ g' a w hr' (fun e g1 a1 w1 hr1 h => ?_) (hround _ _ _ hI')
   cases e with
   | normal =>
     obtain ⟨m, hm, hIm⟩ := h
     have := hμ a1 w1 m g1 hr1 hIm
     exact ⟨⟨m, g1, hr1, hIm⟩, by omega⟩
   | _ => exact hq _ _ _ _ hr1 h
 | label l => intro _ _ Q QA g a w hr hq h; exact UJ (hq _ _ _ _ hr h)
 | scope c ih =>
   intro hok hfl Q QA g a w hr hq h
   refine T8 (ih hok hfl (XJ Q) _ g a w hr (fun e g a w hr h => ?_) (S9 c _ g w h))
   cases e with
   | goto l => exact h.elim
   | _ => exact hq _ _ _ _ hr h
 | exit id => intro _ _ Q QA g a w hr hq h; exact RQ (hq _ _ _ _ hr h)
 | ret => intro _ _ Q QA g a w hr hq h; exact Ti (hq _ _ _ _ hr h)
 | rangeFunc gf ps ZJ bd =>
   intro hok hfl Q QA g a w hr hq h
   have hro : ro = none := hfl.resolve_right (by simp [rD])
   subst hro
   have hok : Qe gf = true := hok
   have h : RF P ann.f gf ps ZJ bd Q g w := h
   unfold RF at h
   cases hn : noMark (g DS) with
   | false => rw [hn] at h; exact h.elim
   | true =>
     rw [hn] at h
     simp only [hN] at h
     have ed : a.defers = [] := by rw [hr.defers, VY hn]
     have er := run_enterLoop_outer (P := P) (w := w) ann.f a.tmps ps ZJ bd
     rw [NW hr] at er
     have er : (Instr.enterLoop ann.f a.tmps ps ZJ bd none).run P w = .ok (w.heap.size + 1, [{ target := .collected w.heap.size, args := #[] }]) (U0 ann.f N ps ZJ bd g w) := by rw [NW hr]; exact er
     generalize U0 ann.f N ps ZJ bd g w = w1 at *
     have ee := hr.ev gf hok
     unfold xY at h
     have hres : resolve a.eval (rangeCall gf (w.heap.size + 1)) 0 = Deferred.ofValue (ev g gf) #[Dh (w.heap.size + 1)] := by
      have : resolve a.eval (rangeCall gf (w.heap.size + 1)) 0 = Deferred.ofValue (a.eval gf) #[Dh (w.heap.size + 1)] := by
       simp only [resolve, List.map_toArray, Z0, List.map_nil]; rfl
      rw [this, ee]
     rw [show ([Dh (w.heap.size + 1)] : List adS).toArray = #[Dh (w.heap.size + 1)] from rfl, <- hres, Sem.run_bind] at h
     cases hv : (resolve a.eval (rangeCall gf (w.heap.size + 1)) 0).run P w1 with
     | halt x wx => rw [hv] at h; exact h.elim
     | ok d wx =>
       have hwx : wx = w1 := by
        rw [hres] at hv
        unfold Deferred.ofValue at hv
        split at hv <;> first | (simp only [Sem.run_pure] at hv; cases hv; rfl) | (simp [stuck] at hv)
       subst hwx
       rw [hv] at h
       simp only [Result.andThen] at h
       cases hi : (invoke d.target d.args).run P wx with
       | halt x w2 => rw [hi] at h; exact h.elim
       | ok nx w2 =>
         rw [hi] at h
         cases nx <;> try (exact h.elim)
         obtain ⟨v, w3, hret, r, h1, h2, h3⟩ := h
         have hrel : ∀ w, Jm N (put g (some DS) (.pointer (some ⟨w, 0, none⟩))) { a with defers := [{ target := .collected w, args := #[] }] ++ a.defers } := fun w => by
          refine ⟨hr.le, ?_, hr.size, fun i hi => ?_⟩
          .rw [Gn, if_pos rfl, ed] <;> rfl
          .rw [Gn, if_neg hi]; exact hr.at_ i hi
         have key : ∀ (j : Option Code) (w5 : adR), Yn Q (put g (some DS) (.pointer (some ⟨w.heap.size, 0, none⟩))) j w5 →
             Xt P ann.f QA { a with defers := [{ target := .collected w.heap.size, args := #[] }] ++ a.defers } w5 j := by
          intro j w5 h
          cases j with
          | none => exact hq _ _ _ _ (hrel _) h
          | some c =>
            cases c <;> first
             | exact h.elim
             | exact Ti (hq _ _ _ _ (hrel _) h)
             | exact RQ (hq _ _ _ _ (hrel _) h)
         exact UI er hv hi hret (run_endLoop h1 h2) (key _ _ h3)
 | _ => intro hok; simp [codeOk] at hok
def pY (P : Program) : List ResultVar -> Env -> adR -> (List adS -> Prop) -> Prop
 | [], _, _, K => K []
 | .tmp t :: r, g, w, K => pY P r g w fun vs => K (g t :: vs)
 | .cell a t :: r, g, w, K => ∃ v, (do loadVar t (<- asAddr (g a)) : Sem adS).run P w = .ok v w /\ pY P r g w fun vs => K (v :: vs)
def O2 : List adS -> adS
 | [v] => v
 | vs => .tuple vs.toArray
def YC (P : Program) (rs : List ResultVar) (R : adS -> adR -> Prop) : Exit -> Env -> adR -> Prop
 | .normal, g, w => pY P rs g w fun vs => R (O2 vs) w
 | .ret, g, w => pY P rs g w fun vs => R (O2 vs) w
 | _, _, _ => False
theorem RB {N : Nat} {g : Env} {a : Act} {w : adR} (hr : Jm N g a) : ∀ (rs : List ResultVar), rs.all PU = true -> ∀ (K : List adS -> Prop), pY P rs g w K →
 ∃ vs, K vs /\ (rs.mapM fun | .tmp t => pure (a.tmps.getD t undef) | .cell b t => do loadVar t (<- asAddr (a.tmps.getD b undef)) : Sem (List adS)).run P w = .ok vs w := by
 have ne : ∀ t : Nat, Nat.blt t DS = true -> a.tmps.getD t undef = g t := fun t h => hr.at_ t (acK ((acF (x := t) (y := DS)) ▸ h))
 intro rs
 induction rs with
 | nil => intro _ K h; exact ⟨[], h, by simp⟩
 | cons r rs ih =>
   intro hok K h
   simp only [List.all_cons, ZZ] at hok
   cases r with
   | tmp t =>
     obtain ⟨vs, h1, h2⟩ := ih hok.2 _ h
     refine ⟨_, h1, ?_⟩
     rw [List.mapM_cons]
     rw [pure_bind, Sem.run_bind]
     simp only [h2, Result.andThen, Sem.run_pure, ne t hok.1]
   | cell b t =>
     obtain ⟨v, hv, h⟩ := h
     obtain ⟨vs, h1, h2⟩ := ih hok.2 _ h
     refine ⟨_, h1, ?_⟩
     rw [List.mapM_cons]
     rw [<- ne b hok.1] at hv
     rw [Sem.run_bind]
     simp only [hv, Result.andThen]
     rw [Sem.run_bind]
     simp only [h2, Result.andThen]
     rfl
theorem XX (vs : Array adS) : (if h : vs.size = 1 then vs[0] else Value.tuple vs) = O2 vs.toList := by
 obtain ⟨l⟩ := vs
 match l with
 | [] => rfl
 | [v] => rfl
 | a :: b :: r => simp [O2]
theorem RM {N : Nat} {g : Env} {a : Act} {w : adR} (fn : Func) {rs : List ResultVar} (hok : rs.all PU = true) (hrs : fn.results = rs.toArray) (hr : Jm N g a) {R : adS -> adR -> Prop}
 (h : pY P rs g w fun vs => R (O2 vs) w) : ∃ v, (results fn a.tmps).run P w = .ok v w /\ R v w := by
 obtain ⟨vs, h1, h2⟩ := RB hr rs hok _ h
 refine ⟨O2 vs, ?_, h1⟩
 unfold results
 rw [hrs, Array.mapM_eq_mapM_toList, aaP]
 simp only [bind_assoc, map_eq_pure_bind]
 rw [Sem.run_bind]
 refine Eq.trans (congrArg (fun r => Result.andThen r _) h2) ?_
 simp only [Result.andThen]
 simp only [pure_bind, Sem.run_pure, XX]
def Na (args : List adS) : Env := fun i => args.getD i undef
def Ya (P : Program) (rs : List ResultVar) (R : adS -> adR -> Prop) : Exit -> Env -> adR -> Prop
 | .normal, g, w => Cq (g DS) w fun w => pY P rs g w fun vs => R (O2 vs) w
 | .ret, g, w => Cq (g DS) w fun w => pY P rs g w fun vs => R (O2 vs) w
 | _, _, _ => False
theorem RY {g : Env} {w : adR} : ∀ (rs : List ResultVar) (K : List adS -> Prop), pY P rs g w K -> ∃ vs, K vs /\ ∀ K' : List adS -> Prop, K' vs -> pY P rs g w K' := by
 intro rs
 induction rs with
 | nil => intro K h; exact ⟨_, h, fun _ h => h⟩
 | cons r rs ih =>
   intro K h
   cases r with
   | tmp t =>
     obtain ⟨vs, a, b⟩ := ih _ h
     exact ⟨_, a, fun K' h => b _ h⟩
   | cell b t =>
     obtain ⟨v, hv, h⟩ := h
     obtain ⟨vs, a, b⟩ := ih _ h
     exact ⟨_, a, fun K' h => ⟨v, hv, b _ h⟩⟩
theorem PD {v : adS} {w : adR} {K : adR -> Prop} (h : Cq v w K) : ∃ w', K w' /\ ∀ K' : adR -> Prop, K' w' -> Cq v w K' := by
 cases v with
 | pointer p =>
   cases p with
   | none => exact ⟨_, h, fun _ h => h⟩
   | some a => exact ⟨_, h.2, fun _ h' => ⟨h.1, h'⟩⟩
 | _ => exact ⟨_, h, fun _ h => h⟩
theorem Sf {v : adS} {w : adR} {K K' : adR -> Prop} (h : Cq v w K) (hk : ∀ w, K w -> K' w) : Cq v w K' :=
 let ⟨w', a, b⟩ := PD h; b _ (hk w' a)
theorem R5 {args : List adS} {N i : Nat} (hle : args.length <= N) (hi : N <= i) : Na args i = undef := by
 unfold Na
 rw [ZW, aaK (by omega)] <;> rfl
theorem Lx {f : FuncId} {fn : Func} {c : Code} {args : List adS} {w : adR} {rs : List ResultVar} {R : adS -> adR -> Prop} (hm : P.follows .mixedOrders = true) (hAf : ann.f = f)
 (hf : P.funcs[f]? = some fn) (hb : fn.body = some c) (hrs : fn.results = rs.toArray) {N : Nat} (hN : fn.ntmps = N) (hle : args.length <= N)
 (hok : codeOk P N ann c = true) (hro : rs.all PU = true) (hND : Nat.ble N DS = true) (h : iU P ann c (Ya P rs R) (Na args) w) : gS P f args.toArray w R := by
 obtain ⟨e, g', w', hq, _, hall⟩ := NC _ _ _ _ h
 have hND := abS hND
 have hNt : MG P ann.f = N := by unfold MG; rw [hAf, hf]; exact hN
 have hrv : Cq (g' DS) w' fun w => pY P rs g' w fun vs => R (O2 vs) w := by cases e <;> first | exact hq | exact hq.elim
 obtain ⟨w2, hrv2, hsh⟩ := PD hrv
 obtain ⟨vs, hv, hrest⟩ := RY _ _ hrv2
 refine ⟨O2 vs, w2, ?_, hv⟩
 have hrel : Jm N (Na args) { tmps := args.toArray ++ Array.replicate (fn.ntmps - args.toArray.size) undef, defers := [] } := by
  refine ⟨hND, by rw [R5 hle hND] <;> rfl, by simp [hN]; omega, fun i _ => ?_⟩
  simp only [Na, ZX, ZW]
  by_cases hi : i < args.length
  .simp [Array.getElem?_append, hi]
  .simp only [Array.getElem?_append, abV, hi, if_false, Array.getElem?_replicate]
   rw [aaK (by omega)]
   split <;> rfl
 have key := Qq (P := P) (f := f) hf hb (R := fun v3 w3 => v3 = O2 vs /\ w3 = w2) (args := args.toArray) (w := w)
  (hAf ▸ Mc hm hNt c hok (.inl rfl) (Ya P rs fun v3 w3 => v3 = O2 vs /\ w3 = w2) _ _ _ _ hrel (fun e g a w hr h => ?_) (hall _ ?_))
 .refine Calls.mono key ?_
  rintro e w3 ⟨v, rfl, rfl, rfl⟩
  exact ⟨rfl, rfl⟩
 .have hx : ∀ {w}, (Cq (g DS) w fun w => pY P rs g w fun vs' => O2 vs' = O2 vs /\ w = w2) -> ∃ m, a.defers = Rj m /\ Cq m w fun w' => ∃ v, (results fn a.tmps).run P w' = .ok v w' /\ (v = O2 vs /\ w' = w2) := by
   intro w h
   exact ⟨_, hr.defers, Sf h fun w h => RM fn hro hrs hr (R := fun v3 w3 => v3 = O2 vs /\ w3 = w2) h⟩
  cases e with
  | normal => exact hx h
  | ret => exact hx h
  | _ => exact h.elim
 .have := hsh (fun w => pY P rs g' w fun vs' => O2 vs' = O2 vs /\ w = w2) (hrest _ ⟨rfl, rfl⟩)
  cases e <;> first | exact this | exact hq.elim
theorem WW {N : Nat} : ∀ (c : Code), codeOk P N ann c = true -> rD c = true -> ∀ s ∈ JX c, s < N := by
 intro c
 induction c with
 | region id ops draw =>
   intro hok _ s hs
   simp only [codeOk, ZZ] at hok
   obtain ⟨o, h1, h2⟩ := EG.1 hs
   obtain ⟨i, hi, rfl⟩ := acU h1
   exact MF hok.1.1 i _ (by simp at hi ⊢) s h2
 | seq x y ihx ihy =>
   intro hok hfl s hs
   simp only [codeOk, rD, ZZ] at hok hfl
   rcases abJ.1 hs with hs | hs
   .exact ihx hok.1 hfl.1 s hs
   .exact ihy hok.2 hfl.2 s hs
 | cond c x y ihx ihy =>
   intro hok hfl s hs
   simp only [codeOk, rD, ZZ] at hok hfl
   rcases abJ.1 hs with hs | hs
   .exact ihx hok.2.1 hfl.1 s hs
   .exact ihy hok.2.2 hfl.2 s hs
 | block id c ih => intro hok hfl s hs; exact ih hok hfl s hs
 | loop c ih => intro hok hfl s hs; exact ih hok hfl s hs
 | scope c ih => intro hok hfl s hs; exact ih hok hfl s hs
 | rangeFunc => intro _ hfl; simp [rD] at hfl
 | _ => intro _ _ s hs; simp [JX] at hs
theorem Rc {f : FuncId} {fn : Func} {c : Code} {args : List adS} {w : adR} {rs : List ResultVar} {R : adS -> adR -> Prop} (hm : P.follows .mixedOrders = true) (hAf : ann.f = f)
 (hf : P.funcs[f]? = some fn) (hb : fn.body = some c) (hrs : fn.results = rs.toArray) {N : Nat} (hN : fn.ntmps = N) (hle : args.length <= N)
 (hok : codeOk P N ann c = true) (hro : rs.all PU = true) (hND : Nat.ble N DS = true) (hfl : rD c = true) (h : iU P ann c (YC P rs R) (Na args) w) : gS P f args.toArray w R := by
 refine Lx hm hAf hf hb hrs hN hle hok hro hND (BV h fun e g' w' ha hq => ?_)
 have hND := abS hND
 have : g' DS = undef := by
  rw [ha DS (fun hd => absurd (WW c hok hfl DS hd) (Nat.not_lt.2 hND)), R5 hle hND]
 cases e with
 | normal => show Cq (g' DS) w' (fun w => pY P rs g' w fun vs => R (O2 vs) w); rw [this]; exact hq
 | ret => show Cq (g' DS) w' (fun w => pY P rs g' w fun vs => R (O2 vs) w); rw [this]; exact hq
 | _ => exact hq.elim
def JT (tmps : Array adS) : Env := fun i => tmps.getD i undef
def Qj (l : Nat) (R : adS -> adR -> Prop) : Exit -> Env -> adR -> Prop
 | .normal, _, w => ∃ r : Loop, w.heap[l]? = some (.loop r) /\ R (.bool true) (w.putObj l (.loop { r with state := .ready, pending := none }))
 | .ret, _, w => ∃ r : Loop, w.heap[l]? = some (.loop r) /\ R (.bool false) (w.putObj l (.loop { r with state := .done, pending := some .ret }))
 | .exit i, _, w => ∃ r : Loop, w.heap[l]? = some (.loop r) /\ R (.bool false) (w.putObj l (.loop { r with state := .done, pending := some (.exit i) }))
 | _, _, _ => False
def Zn (P : Program) (ann : FA) (l : Nat) (bd : Code) (R : adS -> adR -> Prop) : Exit -> Env -> adR -> Prop
 | .normal, g, w => ∃ r : Loop, w.heap[l]? = some (.loop r) /\ r.state = .ready /\ iU P ann bd (Qj l R) g (w.putObj l (.loop { r with state := .busy }))
 | _, _, _ => False
theorem QG {f : FuncId} {l : Nat} {tmps : Array adS} {ZJ bd : Code} {w : adR} {R : adS -> adR -> Prop} (hm : P.follows .mixedOrders = true) (hAf : ann.f = f) {N : Nat} (hN : MG P f = N) (hND : Nat.ble N DS = true)
 (hsz : tmps.size = N) (hok1 : codeOk P N ann ZJ = true) (hf1 : rD ZJ = true) (hok2 : codeOk P N ann bd = true) (hf2 : rD bd = true)
 (h : iU P ann ZJ (Zn P ann l bd R) (JT tmps) w) : PM P l f tmps ZJ bd w R := by
 subst hAf
 have hND := abS hND
 obtain ⟨e, g1, w1, hq, ha, hall⟩ := NC _ _ _ _ h
 cases e with
 | normal =>
   obtain ⟨r, h1, h2, hd⟩ := hq
   obtain ⟨e2, g2, w2, hq2, ha2, hall2⟩ := NC _ _ _ _ hd
   have hx : ∃ v w4, R v w4 /\ ∀ R' : adS -> adR -> Prop, R' v w4 -> Qj l R' e2 g2 w2 := by
    cases e2 with
    | normal => obtain ⟨r2, k1, k2⟩ := hq2; exact ⟨_, _, k2, fun R' h => ⟨r2, k1, h⟩⟩
    | ret => obtain ⟨r2, k1, k2⟩ := hq2; exact ⟨_, _, k2, fun R' h => ⟨r2, k1, h⟩⟩
    | exit i => obtain ⟨r2, k1, k2⟩ := hq2; exact ⟨_, _, k2, fun R' h => ⟨r2, k1, h⟩⟩
    | _ => exact hq2.elim
   obtain ⟨v, w4, hR, hrest⟩ := hx
   refine ⟨v, w4, ?_, hR⟩
   have hrel : Jm N (JT tmps) { tmps := tmps, defers := [] } := by
    refine ⟨hND, ?_, hsz, fun i _ => rfl⟩
    have : JT tmps DS = undef := by unfold JT; rw [ZX, aaI (by omega)] <;> rfl
    rw [this] <;> rfl
   have key : RoundIn Fence.wide 0 P l ann.f tmps ZJ bd w fun e w' => ∃ v', e = .returned v' /\ (v' = v /\ w' = w4) := by
    refine Qo (Mc hm hN ZJ hok1 (.inr hf1) (fun e g w => e = .normal /\ g = g1 /\ w = w1) _ _ _ _ hrel ?_ (hall _ ⟨rfl, rfl, rfl⟩))
    rintro e g a w hra ⟨rfl, rfl, rfl⟩
    refine ⟨_, run_beginRound h1 h2, Mc hm hN bd hok2 (.inr hf2) (Qj l fun v' w' => v' = v /\ w' = w4) _ _ _ _ hra ?_ (hall2 _ (hrest _ ⟨rfl, rfl⟩))⟩
    intro e g a w _ h
    cases e with
    | normal => obtain ⟨r, k1, k2⟩ := h; exact ⟨_, _, run_endRound none k1, k2⟩
    | ret => obtain ⟨r, k1, k2⟩ := h; exact ⟨_, _, run_endRound (some .ret) k1, k2⟩
    | exit i => obtain ⟨r, k1, k2⟩ := h; exact ⟨_, _, run_endRound (some (.exit i)) k1, k2⟩
    | _ => exact h.elim
   refine RoundIn.mono key ?_
   rintro e w' ⟨v', rfl, rfl, rfl⟩
   exact ⟨rfl, rfl⟩
 | _ => exact hq.elim
theorem O8 {f : FuncId} {args : Array adS} {w : adR} {R : adS -> adR -> Prop} (h : gS P f args w R) :
 Calls P f args w fun e w' => ∃ v, e = .returned v /\ R v w' := by
 obtain ⟨v, w', hr, hR⟩ := h
 refine Calls.mono hr ?_
 rintro e w'' ⟨rfl, rfl⟩
 exact ⟨v, rfl, hR⟩
end
def sA : Code -> Code | .seq a _ => a | c => c
def cT : Code -> Code | .cond _ a _ => a | c => c
def cE : Code -> Code | .cond _ _ b => b | c => c
def bI : Code -> Code | .block _ c => c | .loop c => c | .scope c => c | c => c
def iZ (f : Func) : Code := match f.body with | some c => c | none => .skip
def gW : Nat -> Code -> Code
 | 0, c => c
 | 1, c => sA c
 | n + 1, .seq a b => .seq a (gW n b)
 | _, c => c
def fT : Nat -> Code -> Code
 | 0, c => c
 | n + 1, .seq _ b => fT n b
 | _, c => c
def SF : Nat -> Code -> Bool
 | 1, .seq _ _ => true
 | n + 1, .seq _ b => SF n b
 | _, _ => false
def dr (w : adR) : adR := { w with drawn := w.drawn + 1 }
def U3 (P : Program) (t : TypeId) (a : adS) (w : adR) (K : adS -> Prop) : Prop := ∃ v, (do loadVar t (<- asAddr a) : Sem adS).run P w = .ok v w /\ K v
def Y9 : List (Nat × (Env -> adR -> Prop)) -> Nat -> Env -> adR -> Prop
 | [], _, _, _ => False
 | (j, k) :: r, i, g, w => match Nat.beq i j with | true => k g w | false => Y9 r i g w
def Zg (kn kr : Env -> adR -> Prop) (l : List (Nat × (Env -> adR -> Prop))) : Exit -> Env -> adR -> Prop
 | .normal, g, w => kn g w
 | .ret, g, w => kr g w
 | .exit i, g, w => Y9 l i g w
 | _, _, _ => False
def Tv (Q : Exit -> Env -> adR -> Prop) : List (Nat × (Env -> adR -> Prop)) -> Prop
 | [] => True
 | (i, k) :: r => (∀ g w, k g w -> Q (.exit i) g w) /\ Tv Q r
def lO (c a b : adS) : Sem Next := do pure (.value (if <- asBool c then a else b))
def lP (t : TypeId) : Sem Next := V (Instr.alloc t true (.tuple #[]))
def Eh (t : TypeId) (x : adS) : Sem Next := V (Instr.box t x)
def fK (t : TypeId) (a : adS) : Sem Next := V (Instr.loadAt t a)
def iF (t : TypeId) (a x : adS) : Sem Next := U (Instr.storeAt t a x)
def jC (x : adS) : Sem Next := execOp (fun _ => x) ⟨none, .nilCheck (.tmp 0), 0, default, #[], none⟩
def Kr (op : UnOp) (x : adS) : Sem Next := V (Op.unary op x)
def lC (s d : TypeId) (x : adS) : Sem Next := V (convert s d x)
def XR (t : TypeId) (x : adS) : Sem Next := V (Instr.makeInterface t x)
def Mm (t : TypeId) (r : Option adS) : Sem Next := V (Instr.makeMap t r)
def uM (t : TypeId) (l c : adS) : Sem Next := V (Instr.makeSlice t l c)
def lL (t : TypeId) (x : adS) (lo hi mx : Option adS) : Sem Next := V (Instr.sliceAt t x lo hi mx)
def gM (t : TypeId) (x : adS) (f : Nat) : Sem Next := V (Instr.fieldAt t x f)
def iH (t : TypeId) (x i : adS) : Sem Next := V (Instr.indexAt t x i)
def T0 (t : TypeId) (x i : adS) : Sem Next := V (Instr.index t x i)
def zZ (t : TypeId) (x i : adS) (ok : Bool) : Sem Next := V (Instr.lookup t x i ok)
def KE (t : TypeId) (m k x : adS) : Sem Next := U (Instr.mapUpdate t m k x)
def OA (t : TypeId) (x : adS) : Sem Next := V (Instr.range t x)
def SV (it : adS) : Sem Next := V (Instr.entry it)
def Tm (it : adS) (str : Bool) (ty : TypeId) : Sem Next := V (Instr.next it str ty)
def iW (t : adS) (i : Nat) : Sem Next := V (Instr.extract t i)
section
variable {P : Program} {ann : FA}
theorem XU {Q : Exit -> Env -> adR -> Prop} : ∀ {l : List (Nat × (Env -> adR -> Prop))}, Tv Q l -> ∀ {i : Nat} {g : Env} {w : adR}, Y9 l i g w -> Q (.exit i) g w := by
 intro l
 induction l with
 | nil => intro _ i g w h; exact h.elim
 | cons p r ih =>
   obtain ⟨j, k⟩ := p
   rintro ⟨h1, h2⟩ i g w h
   simp only [Y9] at h
   cases hb : Nat.beq i j with
   | true =>
     simp only [hb] at h
     obtain rfl := aaE hb
     exact h1 _ _ h
   | false => simp only [hb] at h; exact ih h2 h
theorem WO {c : Code} {kn kr : Env -> adR -> Prop} {l : List (Nat × (Env -> adR -> Prop))} {Q : Exit -> Env -> adR -> Prop} {g : Env} {w : adR} {A : Prop}
 (e : A = iU P ann c (Zg kn kr l) g w) (h : A) (hn : ∀ g w, kn g w -> Q .normal g w) (hr : ∀ g w, kr g w -> Q .ret g w) (hl : Tv Q l) : iU P ann c Q g w := by
 rw [e] at h
 refine BV h (fun e g' w' _ hq => ?_)
 cases e with
 | normal => exact hn _ _ hq
 | ret => exact hr _ _ hq
 | exit i => exact XU hl hq
 | _ => exact hq.elim
theorem Us {x y z : Code} {Q : Exit -> Env -> adR -> Prop} {g : Env} {w : adR} (h : iU P ann (.seq (.seq x y) z) Q g w) : iU P ann (.seq x (.seq y z)) Q g w := by
 show iU P ann x (yR (fun g w => iU P ann y (yR (fun g w => iU P ann z Q g w) Q) g w) Q) g w
 have h : iU P ann x (yR (fun g w => iU P ann y (yR (fun g w => iU P ann z Q g w) Q) g w) (yR (fun g w => iU P ann z Q g w) Q)) g w := h
 refine BV h (fun e g' w' _ hq => ?_)
 cases e <;> exact hq
theorem iA {K : Env -> adR -> Prop} {Q : Exit -> Env -> adR -> Prop} {g : Env} {w : adR} (h : K g w) : yR K Q .normal g w := h
theorem Un {Q : Exit -> Env -> adR -> Prop} : ∀ (n : Nat) (c : Code) (g : Env) (w : adR), SF n c = true -> iU P ann (.seq (gW n c) (fT n c)) Q g w -> iU P ann c Q g w := by
 intro n
 induction n with
 | zero => intro c g w h; simp [SF] at h
 | succ n ih =>
   intro c g w h hd
   cases c with
   | seq a b =>
     cases n with
     | zero => exact hd
     | succ n =>
       have hb : SF (n + 1) b = true := by simpa [SF] using h
       have hd' : iU P ann (.seq (.seq a (gW (n + 1) b)) (fT (n + 1) b)) Q g w := hd
       have := Us hd'
       show iU P ann a (yR (fun g w => iU P ann b Q g w) Q) g w
       have h2 : iU P ann a (yR (fun g w => iU P ann (.seq (gW (n + 1) b) (fT (n + 1) b)) Q g w) Q) g w := this
       refine BV h2 (fun e g' w' _ hq => ?_)
       cases e with
       | normal => exact ih b g' w' hb hq
       | _ => exact hq
   | _ => cases n <;> simp [SF] at h
def Xx (id : Nat) : Code -> Bool | .block i _ => Nat.beq i id | _ => false
def Wh : Code -> Bool | .loop _ => true | _ => false
def VH : Code -> Option Operand | .cond o _ _ => some o | _ => none
theorem Xb {Q : Exit -> Env -> adR -> Prop} (id : Nat) (c : Code) (g : Env) (w : adR) (h : Xx id c = true) (hd : iU P ann (bI c) (Xd id Q) g w) : iU P ann c Q g w := by
 cases c with
 | block i c =>
   obtain rfl := aaE (show Nat.beq i id = true from h)
   exact hd
 | _ => cases h
def Xq : Code -> Bool | .scope _ => true | _ => false
theorem Wy {Q : Exit -> Env -> adR -> Prop} (c : Code) (g : Env) (w : adR) (h : Xq c = true) (hd : iU P ann (bI c) Q g w) : iU P ann c Q g w := by
 cases c with
 | scope c => exact hd
 | _ => cases h
theorem Xj {Q : Exit -> Env -> adR -> Prop} (o : Operand) (c : Code) (g : Env) (w : adR) (h : VH c = some o)
 (hd : lN (ev g o) (iU P ann (cT c) Q g w) (iU P ann (cE c) Q g w)) : iU P ann c Q g w := by
 cases c with
 | cond o' a b => obtain rfl := abB h; exact hd
 | _ => cases h
theorem VD {v : adS} {A B A' B' : Prop} (ha : A -> A') (hb : B -> B') (h : lN v A B) : lN v A' B' := by
 unfold lN at *
 cases v with
 | bool b => cases b <;> first | exact ha h | exact hb h
 | _ => exact h
theorem Wk {T : Type} (proj : Env -> T) (F : (T -> adR -> Prop) -> T -> adR -> Prop) {c : Code} {Q : Exit -> Env -> adR -> Prop} {g : Env} {w : adR}
 (hF : ∀ (X : T -> adR -> Prop) g' w', mK (JX c) g g' -> F X (proj g') w' -> iU P ann c (yR (fun g'' w'' => X (proj g'') w'') Q) g' w')
 (h : kC F (proj g) w) : iU P ann (.loop c) Q g w := by
 obtain ⟨I, ⟨n, h0⟩, hI⟩ := h
 refine ⟨fun n g' w' => mK (JX c) g g' /\ I n (proj g') w', ⟨n, mK.refl _ _, h0⟩, ?_⟩
 rintro n g' w' ⟨ha, hi⟩
 have := hF _ g' w' ha (hI n _ _ hi)
 refine BV this (fun e g2 w2 ha2 hq => ?_)
 cases e with
 | normal =>
   obtain ⟨m, hm, hh⟩ := hq
   exact ⟨m, hm, ha.trans ha2 (fun _ h => h) (fun _ h => h), hh⟩
 | _ => exact hq
theorem Uq {T : Type} (proj : Env -> T) (F : (T -> adR -> Prop) -> T -> adR -> Prop) (c : Code) {Q : Exit -> Env -> adR -> Prop} {g : Env} {w : adR} (hl : Wh c = true)
 (h : kC F (proj g) w)
 (hF : ∀ (X : T -> adR -> Prop) g' w', mK (JX (bI c)) g g' -> F X (proj g') w' -> iU P ann (bI c) (yR (fun g'' w'' => X (proj g'') w'') Q) g' w') : iU P ann c Q g w := by
 cases c with
 | loop c => exact Wk proj F hF h
 | _ => cases hl
theorem So {l : List Nat} {s : Nat} (hs : pK s l = false) : s ∉ l := by
 induction l with
 | nil => simp
 | cons a r ih =>
   unfold pK at hs
   cases hb : Nat.beq a s with
   | true => simp only [hb] at hs; cases hs
   | false =>
     simp only [hb] at hs
     intro hm
     rcases aaN.1 hm with e | hm
     .subst e; simp at hb
     .exact ih hs hm
theorem Va {l : List Nat} {g g' : Env} (h : mK l g g') {s : Nat} (hs : pK s l = false) : g' s = g s := h s (So hs)
def J7 (id : Nat) : Code -> Array Oper
 | .region i ops _ => match Nat.beq i id with | true => ops | false => #[]
 | .seq a b => match (J7 id a).size with | 0 => J7 id b | _ + 1 => J7 id a
 | .cond _ a b => match (J7 id a).size with | 0 => J7 id b | _ + 1 => J7 id a
 | .block _ c => J7 id c
 | .loop c => J7 id c
 | .scope c => J7 id c
 | _ => #[]
theorem Vs {b : Bool} {A B : Prop} (ha : A) (hb : B) : Ord b A B := by cases b <;> assumption
theorem kC.rule {α : Type} {F : (α -> adR -> Prop) -> α -> adR -> Prop} (I : Nat -> α -> adR -> Prop) {g : α} {w : adR} (n : Nat) (h0 : I n g w)
 (hr : ∀ n g w, I n g w -> F (fun g' w' => ∃ m, m < n /\ I m g' w') g w) : kC F g w := ⟨I, ⟨n, h0⟩, hr⟩
theorem eQ (A B : Prop) : lN (.bool true) A B = A := Eq.trans rfl rfl
theorem eH (A B : Prop) : lN (.bool false) A B = B := Eq.trans rfl rfl
theorem eZ (s : (adS -> adR -> Prop) -> Prop) (w : adR) (K : adS -> adR -> Prop) : Gd true s w K = s K := Eq.trans rfl rfl
theorem eT (s : (adS -> adR -> Prop) -> Prop) (w : adR) (K : adS -> adR -> Prop) : Gd false s w K = K undef w := Eq.trans rfl rfl
theorem fB (p : Prop) : Gs true p = p := Eq.trans rfl rfl
theorem eX (p : Prop) : Gs false p = True := Eq.trans rfl rfl
theorem fD : kP (.bool true) true = true := Eq.trans rfl rfl
theorem fF : kP (.bool true) false = false := Eq.trans rfl rfl
theorem fG : kP (.bool false) true = false := Eq.trans rfl rfl
theorem fE : kP (.bool false) false = true := Eq.trans rfl rfl
def hU : Operand := .tmp 0
theorem lB {c : Code} {kn kr : Env -> adR -> Prop} {l : List (Nat × (Env -> adR -> Prop))} {Q : Exit -> Env -> adR -> Prop} {g : Env} {w : adR} {A : Prop}
 (h : A) (hn : ∀ g w, kn g w -> Q .normal g w) (hr : ∀ g w, kr g w -> Q .ret g w) (hl : Tv Q l) (e : A = iU P ann c (Zg kn kr l) g w := by kernel_rfl) : iU P ann c Q g w := WO e h hn hr hl
theorem uC {Q : Exit -> Env -> adR -> Prop} (n : Nat) {c : Code} {g : Env} {w : adR}
 (hd : iU P ann (gW n c) (yR (fun g w => iU P ann (fT n c) Q g w) Q) g w) (h : SF n c = true := by kernel_rfl) : iU P ann c Q g w := Un n c g w h hd
theorem Nh {Q : Exit -> Env -> adR -> Prop} (id : Nat) {c : Code} {g : Env} {w : adR} (hd : iU P ann (bI c) (Xd id Q) g w) (h : Xx id c = true := by kernel_rfl) : iU P ann c Q g w := Xb id c g w h hd
theorem Zz {Q : Exit -> Env -> adR -> Prop} {c : Code} {g : Env} {w : adR} (hd : iU P ann (bI c) Q g w) (h : Xq c = true := by kernel_rfl) : iU P ann c Q g w := Wy c g w h hd
theorem ZD {Q : Exit -> Env -> adR -> Prop} (o : Operand) {c : Code} {g : Env} {w : adR} {A B : Prop} (ha : A -> iU P ann (cT c) Q g w) (hb : B -> iU P ann (cE c) Q g w) (hd : lN (ev g o) A B) (h : VH c = some o := by kernel_rfl) : iU P ann c Q g w :=
 Xj o c g w h (VD ha hb hd)
theorem O3 {T : Type} (proj : Env -> T) (F : (T -> adR -> Prop) -> T -> adR -> Prop) {c : Code} {Q : Exit -> Env -> adR -> Prop} {g : Env} {w : adR}
 (h : kC F (proj g) w)
 (hF : ∀ (X : T -> adR -> Prop) g' w', mK (JX (bI c)) g g' -> F X (proj g') w' -> iU P ann (bI c) (yR (fun g'' w'' => X (proj g'') w'') Q) g' w') (hl : Wh c = true := by kernel_rfl) : iU P ann c Q g w := Uq proj F c hl h hF
theorem rU {l : List Nat} {g g' : Env} (s : Nat) (h : mK l g g') (hs : pK s l = false := by kernel_rfl) : g' s = g s := Va h hs
theorem xA {ann : FA} (fn : Func) (c : Code) (args : List adS) (rs : List ResultVar) (N : Nat) {f : FuncId} {w : adR} {R : adS -> adR -> Prop} (hm : P.follows .mixedOrders = true)
 (hf : P.funcs[f]? = some fn) (h : iU P ann c (YC P rs R) (Na args) w) (hAf : ann.f = f := by kernel_rfl) (hb : fn.body = some c := by kernel_rfl) (hrs : fn.results = rs.toArray := by kernel_rfl) (hN : fn.ntmps = N := by kernel_rfl) (hle : Nat.ble args.length N = true := by kernel_rfl)
 (hok : codeOk P N ann c = true := by kernel_rfl) (hro : rs.all PU = true := by kernel_rfl) (hND : Nat.ble N DS = true := by kernel_rfl) (hfl : rD c = true := by kernel_rfl) : gS P f args.toArray w R :=
 Rc hm hAf hf hb hrs hN (abS hle) hok hro hND hfl h
def Pw : Code -> Option (Operand × Array Tmp × Code × Code)
 | .rangeFunc g ps ZJ bd => some (g, ps, ZJ, bd)
 | .seq a b => (match Pw a with | some r => some r | none => Pw b)
 | .cond _ a b => (match Pw a with | some r => some r | none => Pw b)
 | .block _ c => Pw c
 | .loop c => Pw c
 | .scope c => Pw c
 | _ => none
def Wn (c : Code) : Array Tmp := match Pw c with | some (_, ps, _) => ps | none => #[]
def Ua (c : Code) : Code := match Pw c with | some (_, _, ZJ, _) => ZJ | none => .skip
def SL (c : Code) : Code := match Pw c with | some (_, _, _, bd) => bd | none => .skip
def Zj (l : Nat) (w : adR) (K : adR -> Prop) : Prop := ∃ r : Loop, w.heap[l]? = some (.loop r) /\ r.state = .ready /\ K (w.putObj l (.loop { r with state := .busy }))
def Zv : Option Code -> LoopState
 | none => .ready
 | some _ => .done
def RW (l : Nat) (j : Option Code) (R : adS -> adR -> Prop) (w : adR) : Prop :=
 ∃ r : Loop, w.heap[l]? = some (.loop r) /\ R (.bool j.isNone) (w.putObj l (.loop { r with state := Zv j, pending := j }))
theorem ZC {ann : FA} (fn : Func) (c : Code) (args : List adS) (rs : List ResultVar) (N : Nat) {f : FuncId} {w : adR} {R : adS -> adR -> Prop} (hm : P.follows .mixedOrders = true)
 (hf : P.funcs[f]? = some fn) (h : iU P ann c (Ya P rs R) (Na args) w) (hAf : ann.f = f := by kernel_rfl) (hb : fn.body = some c := by kernel_rfl) (hrs : fn.results = rs.toArray := by kernel_rfl) (hN : fn.ntmps = N := by kernel_rfl) (hle : Nat.ble args.length N = true := by kernel_rfl)
 (hok : codeOk P N ann c = true := by kernel_rfl) (hro : rs.all PU = true := by kernel_rfl) (hND : Nat.ble N DS = true := by kernel_rfl) : gS P f args.toArray w R :=
 Lx hm hAf hf hb hrs hN (abS hle) hok hro hND h
theorem ZG {ann : FA} (N : Nat) {f : FuncId} {l : Nat} {tmps : Array adS} {ZJ bd : Code} {w : adR} {R : adS -> adR -> Prop} (hm : P.follows .mixedOrders = true) (hsz : tmps.size = N)
 (h : iU P ann ZJ (Zn P ann l bd R) (JT tmps) w) (hN : MG P f = N) (hok1 : codeOk P N ann ZJ = true) (hok2 : codeOk P N ann bd = true) (hAf : ann.f = f := by kernel_rfl) (hND : Nat.ble N DS = true := by kernel_rfl)
 (hf1 : rD ZJ = true := by kernel_rfl) (hf2 : rD bd = true := by kernel_rfl) : PM P l f tmps ZJ bd w R :=
 QG hm hAf hN hND hsz hok1 hf1 hok2 hf2 h
end
end Go.En
namespace Go.Proofs.YteelnmpbnaohpaaDoor
open Go Go.En
noncomputable abbrev pg : Program := Tryd.prog
theorem TrydM.mixed : pg.follows .mixedOrders = true := Tryd.checked.mixed
abbrev K0 := adR -> Prop
abbrev K1 := adS -> K0
abbrev K2 := adS -> K1
abbrev K3 := adS -> K2
abbrev K4 := adS -> K3
abbrev K5 := adS -> K4
abbrev K6 := adS -> K5
abbrev K7 := adS -> K6
abbrev K8 := adS -> K7
abbrev K9 := adS -> K8
abbrev Sg := adS -> K9
abbrev ZE := adS -> Sg
abbrev Zu := adS -> ZE
abbrev HR (rs : List ResultVar) (R : K1) (Q : Exit -> Env -> adR -> Prop) : Prop := ∀ g w, (pY pg rs g w fun vs => R (O2 vs) w) -> Q .ret g w
abbrev Zx (rs : List ResultVar) (R : K1) (Q : Exit -> Env -> adR -> Prop) : Prop := ∀ g w, (Cq (g DS) w fun w => pY pg rs g w fun vs => R (O2 vs) w) -> Q .ret g w
abbrev no : Env -> adR -> Prop := fun _ _ => False
theorem lZ {Q : Env -> adR -> Prop} : ∀ g w, no g w -> Q g w := fun _ _ h => h.elim
abbrev wF : FuncId := 4
abbrev Bp : FuncId := 7
abbrev BO : FuncId := 8
abbrev Bb : FuncId := 9
abbrev rN : FuncId := 10
abbrev jQ : FuncId := 11
abbrev lW : FuncId := 12
abbrev lE : FuncId := 13
abbrev oY : FuncId := 14
abbrev mI : FuncId := 15
abbrev kM : FuncId := 16
abbrev oT : FuncId := 17
abbrev rX : FuncId := 18
abbrev jP : FuncId := 19
abbrev mA : FuncId := 20
abbrev rW : FuncId := 23
abbrev pN : FuncId := 24
abbrev qC : FuncId := 25
abbrev mS : FuncId := 26
abbrev lT : FuncId := 27
abbrev yV : FuncId := 28
abbrev nD : FuncId := 29
abbrev pW : FuncId := 30
abbrev nX : FuncId := 31
abbrev wQ : FuncId := 32
abbrev oA : FuncId := 33
abbrev oB : FuncId := 34
abbrev nC : FuncId := 35
abbrev mE : FuncId := 36
abbrev rP : FuncId := 37
abbrev nG : FuncId := 38
abbrev kS : FuncId := 39
abbrev A9 : FuncId := 40
abbrev tP : FuncId := 41
abbrev oP : FuncId := 42
abbrev oF : FuncId := 43
abbrev I0 : FuncId := 44
abbrev pQ : FuncId := 45
abbrev Aw : FuncId := 46
abbrev xE : FuncId := 47
abbrev rL : FuncId := 48
abbrev kV : FuncId := 49
abbrev Bu : FuncId := 50
abbrev rQ : FuncId := 51
abbrev zO : FuncId := 52
abbrev JA : FuncId := 53
abbrev lY : FuncId := 54
abbrev zM : FuncId := 55
abbrev QD : FuncId := 56
abbrev wH : FuncId := 57
abbrev wE : FuncId := 58
abbrev rO : FuncId := 59
abbrev mH : FuncId := 60
abbrev qG : FuncId := 61
abbrev rI : FuncId := 62
abbrev lF : FuncId := 63
abbrev L4 : FuncId := 64
abbrev nW : FuncId := 65
abbrev vX : FuncId := 66
abbrev mB : FuncId := 67
abbrev pT : FuncId := 68
abbrev MC : FuncId := 69
abbrev Bf : FuncId := 70
abbrev DN : FuncId := 71
abbrev Dp : FuncId := 72
abbrev Ak : FuncId := 73
abbrev jN : FuncId := 74
abbrev N0 (Q : Exit -> Env -> adR -> Prop) (k : K0) : Prop := ∀ g w, k w -> Q .normal g w
abbrev E0 (Q : Exit -> Env -> adR -> Prop) (k : K0) (x0 : Nat) : Prop := ∀ g w, k w -> Q (.exit x0) g w
abbrev N1 (Q : Exit -> Env -> adR -> Prop) (k : K1) (a_ : Nat) : Prop := ∀ g w, k (g a_) w -> Q .normal g w
abbrev E1 (Q : Exit -> Env -> adR -> Prop) (k : K1) (x0 : Nat) (a_ : Nat) : Prop := ∀ g w, k (g a_) w -> Q (.exit x0) g w
abbrev N2 (Q : Exit -> Env -> adR -> Prop) (k : K2) (a_ b_ : Nat) : Prop := ∀ g w, k (g a_) (g b_) w -> Q .normal g w
abbrev E2 (Q : Exit -> Env -> adR -> Prop) (k : K2) (x0 : Nat) (a_ b_ : Nat) : Prop := ∀ g w, k (g a_) (g b_) w -> Q (.exit x0) g w
abbrev N3 (Q : Exit -> Env -> adR -> Prop) (k : K3) (a_ b_ c_ : Nat) : Prop := ∀ g w, k (g a_) (g b_) (g c_) w -> Q .normal g w
abbrev E3 (Q : Exit -> Env -> adR -> Prop) (k : K3) (x0 : Nat) (a_ b_ c_ : Nat) : Prop := ∀ g w, k (g a_) (g b_) (g c_) w -> Q (.exit x0) g w
abbrev N4 (Q : Exit -> Env -> adR -> Prop) (k : K4) (a_ b_ c_ d_ : Nat) : Prop := ∀ g w, k (g a_) (g b_) (g c_) (g d_) w -> Q .normal g w
abbrev N5 (Q : Exit -> Env -> adR -> Prop) (k : K5) (a_ b_ c_ d_ e_ : Nat) : Prop := ∀ g w, k (g a_) (g b_) (g c_) (g d_) (g e_) w -> Q .normal g w
abbrev N6 (Q : Exit -> Env -> adR -> Prop) (k : K6) (a_ b_ c_ d_ e_ f_ : Nat) : Prop := ∀ g w, k (g a_) (g b_) (g c_) (g d_) (g e_) (g f_) w -> Q .normal g w
abbrev N7 (Q : Exit -> Env -> adR -> Prop) (k : K7) (a_ b_ c_ d_ e_ f_ g_ : Nat) : Prop := ∀ g w, k (g a_) (g b_) (g c_) (g d_) (g e_) (g f_) (g g_) w -> Q .normal g w
abbrev E7 (Q : Exit -> Env -> adR -> Prop) (k : K7) (x0 : Nat) (a_ b_ c_ d_ e_ f_ g_ : Nat) : Prop := ∀ g w, k (g a_) (g b_) (g c_) (g d_) (g e_) (g f_) (g g_) w -> Q (.exit x0) g w
abbrev N8 (Q : Exit -> Env -> adR -> Prop) (k : K8) (a_ b_ c_ d_ e_ f_ g_ h_ : Nat) : Prop := ∀ g w, k (g a_) (g b_) (g c_) (g d_) (g e_) (g f_) (g g_) (g h_) w -> Q .normal g w
abbrev N9 (Q : Exit -> Env -> adR -> Prop) (k : K9) (a_ b_ c_ d_ e_ f_ g_ h_ i_ : Nat) : Prop := ∀ g w, k (g a_) (g b_) (g c_) (g d_) (g e_) (g f_) (g g_) (g h_) (g i_) w -> Q .normal g w
abbrev N10 (Q : Exit -> Env -> adR -> Prop) (k : Sg) (a_ b_ c_ d_ e_ f_ g_ h_ i_ j_ : Nat) : Prop := ∀ g w, k (g a_) (g b_) (g c_) (g d_) (g e_) (g f_) (g g_) (g h_) (g i_) (g j_) w -> Q .normal g w
abbrev N12 (Q : Exit -> Env -> adR -> Prop) (k : Zu) (a_ b_ c_ d_ e_ f_ g_ h_ i_ j_ k_ l_ : Nat) : Prop := ∀ g w, k (g a_) (g b_) (g c_) (g d_) (g e_) (g f_) (g g_) (g h_) (g i_) (g j_) (g k_) (g l_) w -> Q .normal g w
abbrev adT (n_ : Int) : adS := .int .i64 n_
end Go.Proofs.YteelnmpbnaohpaaDoor
namespace Go.Proofs.YteelnmpbnaohpaaDoor
open Go Go.En
set_option maxRecDepth 20000
attribute [local irreducible] Go.En.iU
variable (Q : Exit -> Env -> adR -> Prop) (g : Env) (w : adR)
def gX : FA := ⟨wF, fun i => match Nat.beq i 16 with | true => .leaf ([], []) [(false, []), (false, []), (false, []), (false, []), (false, []), (false, []), (false, []), (false, []), (false, []), (false, [])] | false => match Nat.beq i 39 with | true => .leaf ([15], [(2, 15), (3, 15), (15, 16), (15, 17), (15, 19), (15, 20)]) [(false, []), (false, []), (false, []), (false, []), (false, []), (false, []), (false, []), (false, []), (false, []), (false, []), (false, []), (false, []), (false, []), (false, []), (false, []), (true, [11, 12]), (false, [0]), (false, [1]), (false, []), (false, [3]), (false, [4]), (false, []), (false, []), (false, [])] | false => .leaf ([], []) []⟩
def iV : List ResultVar := [.tmp 10]
noncomputable def gV : Code := iZ Tryd.f4
def pZ (R : K1) (d6 : adS) (w : adR) : Prop :=
 gS pg mI #[d6] w fun t195 w =>
 eY pg (gO .eql 24 (.tmp 195) (.const (.int .u64 2)) t195 (.int .u64 2)) w fun t196 w =>
 R t196 w
theorem FW (R : K1) (hr : HR iV R Q) (h : pZ R (g 26) w) : iU pg gX (fT 1 (fT 8 (fT 1 (fT 10 gV)))) Q g w :=
 lB (kn := no) (l := []) h lZ hr trivial
def lS (kn : K8) (gU jG jE gY oI d6 jM nA : adS) (w : adR) : Prop :=
 eY pg (gO .add 3 hU hU nA (adT 1)) w fun v9 w =>
 kn gU jG jE gY oI d6 jM v9 w
theorem FV (kn : K8) (hn : N8 Q kn 0 12 13 19 23 26 28 29) (h : lS kn (g 0) (g 12) (g 13) (g 19) (g 23) (g 26) (g 28) (g 29) w) : iU pg gX (fT 1 (fT 1 (bI (bI (fT 1 (gW 1 (fT 8 (fT 1 (fT 10 gV))))))))) Q g w :=
 lB (kr := no) (l := []) h hn lZ trivial
def mY (kn : K8) (R : K1) (gU jG jE gY oI d6 jM nA e0 : adS) (w : adR) : Prop :=
 (dr w) = (dr w) /\
 (dr w) = (dr w) /\
 eY pg (iH 45 jM nA) (dr w) fun y2 w_ => w_ = (dr w) /\
 eY pg (fK 4 y2) (dr w) fun y3 w_ => w_ = (dr w) /\
 (dr w) = (dr w) /\
 (dr w) = (dr w) /\
 eY pg (iH 45 gY nA) (dr w) fun y6 w_ => w_ = (dr w) /\
 eY pg (fK 4 y6) (dr w) fun y7 w_ => w_ = (dr w) /\
 (dr w) = (dr w) /\
 Gd (kP y7 true) (fun K => K oI (dr w)) (dr w) fun y9 w_ => w_ = (dr w) /\
 Gd (kP y7 true) (fun K => K jG (dr w)) (dr w) fun z0 w_ => w_ = (dr w) /\
 Gd (kP y7 true) (fun K => K nA (dr w)) (dr w) fun z1 w_ => w_ = (dr w) /\
 Gd (kP y7 true) (fun K => eY pg (gO .mul 3 hU hU z0 z1) (dr w) K) (dr w) fun z2 w_ => w_ = (dr w) /\
 Gd (kP y7 true) (fun K => K e0 (dr w)) (dr w) fun z3 w_ => w_ = (dr w) /\
 Gd (kP y7 true) (fun K => eY pg (lL 22 y9 (some z2) (some z3) none) (dr w) K) (dr w) fun z4 w_ => w_ = (dr w) /\
 Gd (kP y7 true) (fun K => gS pg rX #[z4] (dr w) K) (dr w) fun z5 nB =>
 (gN pg (fK 4 y2) y3 nB /\ gN pg (iH 45 jM nA) y2 nB /\ True) /\
 Gd (kP y7 true) (fun K => eY pg (gM 28 jE 2) nB K) nB fun z6 w_ => w_ = nB /\
 (Gs (kP y7 true) (gN pg (gM 28 jE 2) z6 (dr w)) /\ True) /\
 Gd (kP y7 true) (fun K => eY pg (fK 26 z6) nB K) nB fun z7 w_ => w_ = nB /\
 (Gs (kP y7 true) (gN pg (fK 26 z6) z7 (dr w)) /\ True) /\
 Gd (kP y7 true) (fun K => K nA nB) nB fun z8 w_ => w_ = nB /\
 Gd (kP y7 true) (fun K => eY pg (iH 26 z7 z8) nB K) nB fun z9 w_ => w_ = nB /\
 (Gs (kP y7 true) (gN pg (iH 26 z7 z8) z9 (dr w)) /\ True) /\
 Gd (kP y7 true) (fun K => eY pg (fK 49 z9) nB K) nB fun t190 w_ => w_ = nB /\
 (Gs (kP y7 true) (gN pg (fK 49 z9) t190 (dr w)) /\ True) /\
 Gd (kP y7 true) (fun K => eY pg (gO .eql 49 (.tmp 185) (.tmp 190) z5 t190) nB K) nB fun t191 w_ => w_ = nB /\
 eY pg (lO y7 t191 (.bool false)) nB fun t192 w_ => w_ = nB /\
 eY pg (gO .neq 4 (.tmp 173) (.tmp 192) y3 t192) nB fun t193 w_ => w_ = nB /\
 lN t193
  (R (.bool false) nB)
  (kn gU jG jE gY oI d6 jM nA nB)
theorem Gv (kn : K8) (R : K1) (hn : N8 Q kn 0 12 13 19 23 26 28 29) (hr : HR iV R Q) (h : mY kn R (g 0) (g 12) (g 13) (g 19) (g 23) (g 26) (g 28) (g 29) (g 30) w) : iU pg gX (fT 2 (bI (gW 1 (fT 1 (bI (bI (fT 1 (gW 1 (fT 8 (fT 1 (fT 10 gV))))))))))) Q g w :=
 lB (l := []) h hn hr trivial
def uY (kn : K9) (gU jG jE gY oI d6 jM nA : adS) (w : adR) : Prop :=
 eY pg (gO .add 3 hU hU nA (adT 1)) w fun x2 w =>
 eY pg (gO .mul 3 hU hU jG x2) w fun x3 w =>
 eY pg (mO .len #[22] 3 [gU]) w fun x6 w =>
 eY pg (gO .gtr 3 hU hU x3 x6) w fun x7 w =>
 lN x7
  (eY pg (mO .len #[22] 3 [gU]) w fun x9 w =>
  kn gU jG jE gY oI d6 jM nA x9 w)
  (kn gU jG jE gY oI d6 jM nA x3 w)
theorem GD (kn : K9) (hn : N9 Q kn 0 12 13 19 23 26 28 29 30) (h : uY kn (g 0) (g 12) (g 13) (g 19) (g 23) (g 26) (g 28) (g 29) w) : iU pg gX (gW 2 (bI (gW 1 (fT 1 (bI (bI (fT 1 (gW 1 (fT 8 (fT 1 (fT 10 gV))))))))))) Q g w :=
 lB (kr := no) (l := []) h hn lZ trivial
def BK (kn : K8) (R : K1) (gU jG jE gY oI d6 jM nA : adS) (w : adR) : Prop :=
 uY (fun gU jG jE gY oI d6 jM nA e0 w => mY kn R gU jG jE gY oI d6 jM nA e0 w) gU jG jE gY oI d6 jM nA w
def vG (kn : K8) (R : K1) (gU jG jE gY oI d6 jM nA : adS) (w : adR) : Prop :=
 BK kn R gU jG jE gY oI d6 jM nA w
def uQ (kn : K8) (R : K1) (gU jG jE gY oI d6 jM nA : adS) (w : adR) : Prop :=
 vG (fun gU jG jE gY oI d6 jM nA w => lS kn gU jG jE gY oI d6 jM nA w) R gU jG jE gY oI d6 jM nA w
theorem Gw (kn : K8) (R : K1) (hn : N8 Q kn 0 12 13 19 23 26 28 29) (hr : HR iV R Q) (h : vG kn R (g 0) (g 12) (g 13) (g 19) (g 23) (g 26) (g 28) (g 29) w) : iU pg gX (gW 1 (fT 1 (bI (bI (fT 1 (gW 1 (fT 8 (fT 1 (fT 10 gV))))))))) Q g w :=
 Nh 3 (uC 2 (GD _ g w (mY kn R) (fun g w h => iA (Gv _ g w kn R hn hr h)) h))
def vM (kn : K8) (k2 : K1) (gU jG jE gY oI d6 jM nA : adS) (w : adR) : Prop :=
 eY pg (mO .len #[45] 3 [gY]) w fun v6 w =>
 eY pg (gO .lss 3 hU hU nA v6) w fun v7 w =>
 lN v7
  (kn gU jG jE gY oI d6 jM nA w)
  (k2 d6 w)
theorem GB (kn : K8) (k2 : K1) (hn : N8 Q kn 0 12 13 19 23 26 28 29) (h2 : E1 Q k2 2 26) (h : vM kn k2 (g 0) (g 12) (g 13) (g 19) (g 23) (g 26) (g 28) (g 29) w) : iU pg gX (gW 1 (bI (bI (fT 1 (gW 1 (fT 8 (fT 1 (fT 10 gV)))))))) Q g w :=
 lB (kr := no) (l := [(2, fun g w => k2 (g 26) w)]) h hn lZ ⟨h2, trivial⟩
def pV (kn : K8) (k2 : K1) (R : K1) (gU jG jE gY oI d6 jM nA : adS) (w : adR) : Prop :=
 vM (fun gU jG jE gY oI d6 jM nA w => uQ kn R gU jG jE gY oI d6 jM nA w) k2 gU jG jE gY oI d6 jM nA w
def sW (k2 : K1) (R : K1) (gU jG jE gY oI d6 jM nA : adS) (w : adR) : Prop :=
 kC (fun (X : adS -> K0) (t : adS) (w : adR) => pV (fun _ _ _ _ _ _ _ nA w => X nA w) k2 R gU jG jE gY oI d6 jM t w) nA w
theorem GM (kn : K8) (k2 : K1) (R : K1) (hn : N8 Q kn 0 12 13 19 23 26 28 29) (h2 : E1 Q k2 2 26) (hr : HR iV R Q) (h : pV kn k2 R (g 0) (g 12) (g 13) (g 19) (g 23) (g 26) (g 28) (g 29) w) : iU pg gX (bI (bI (fT 1 (gW 1 (fT 8 (fT 1 (fT 10 gV))))))) Q g w :=
 uC 1 (GB _ g w (uQ kn R) k2 (fun g w h => iA (uC 1 (Gw _ g w (lS kn) R (fun g w h => iA (FV _ g w kn hn h)) hr h))) h2 h)
theorem Fa (k2 : K1) (R : K1) (h2 : E1 Q k2 2 26) (hr : HR iV R Q) (h : sW k2 R (g 0) (g 12) (g 13) (g 19) (g 23) (g 26) (g 28) (g 29) w) : iU pg gX (bI (fT 1 (gW 1 (fT 8 (fT 1 (fT 10 gV)))))) Q g w := by
 refine O3 (fun g : Env => g 29) (fun X t w => pV (fun _ _ _ _ _ _ _ nA w => X nA w) k2 R (g 0) (g 12) (g 13) (g 19) (g 23) (g 26) (g 28) t w) h (fun X g1 w1 ha hL => ?_)
 rw [<- rU 0 ha, <- rU 12 ha, <- rU 13 ha, <- rU 19 ha, <- rU 23 ha, <- rU 26 ha, <- rU 28 ha] at hL
 exact (GM _ g1 w1 (fun _ _ _ _ _ _ _ nA w => X nA w) k2 R (fun _ _ h => h) h2 hr hL)
def sQ (kn : K1) (R : K1) (gU jG jE gY oI d6 jM nA : adS) (w : adR) : Prop :=
 sW kn R gU jG jE gY oI d6 jM nA w
def sP (kn : K8) (gU jG jE gY oI d6 jM : adS) (w : adR) : Prop :=
 kn gU jG jE gY oI d6 jM (adT 0) w
theorem FK (kn : K8) (hn : N8 Q kn 0 12 13 19 23 26 28 29) (h : sP kn (g 0) (g 12) (g 13) (g 19) (g 23) (g 26) (g 28) w) : iU pg gX (gW 1 (gW 1 (fT 8 (fT 1 (fT 10 gV))))) Q g w :=
 lB (kr := no) (l := []) h hn lZ trivial
def sG (kn : K1) (R : K1) (gU jG jE gY oI d6 jM : adS) (w : adR) : Prop :=
 sP (fun gU jG jE gY oI d6 jM nA w => sQ kn R gU jG jE gY oI d6 jM nA w) gU jG jE gY oI d6 jM w
def sS (R : K1) (gU jG jE gY oI d6 jM : adS) (w : adR) : Prop :=
 sG (fun d6 w => pZ R d6 w) R gU jG jE gY oI d6 jM w
theorem Fg (kn : K1) (R : K1) (hn : N1 Q kn 26) (hr : HR iV R Q) (h : sG kn R (g 0) (g 12) (g 13) (g 19) (g 23) (g 26) (g 28) w) : iU pg gX (gW 1 (fT 8 (fT 1 (fT 10 gV)))) Q g w :=
 uC 1 (FK _ g w (sQ kn R) (fun g w h => iA (Nh 2 (Fa _ g w kn R hn hr h))) h)
def tA (kn : K7) (R : K1) (gU iD zD jG jE mG gY : adS) (w : adR) : Prop :=
 gS pg lE #[mG, (.string ⟨#[102, 46, 112, 97, 114, 116]⟩)] w fun p7 w =>
 eY pg (iW p7 0) w fun p8 w =>
 eY pg (iW p7 1) w fun p9 w =>
 eY pg (gO .neq 29 (.tmp 120) (.const (adT 0)) p9 (adT 0)) w fun q1 w =>
 Gd (kP q1 false) (fun K => K p8 w) w fun q3 w =>
 Gd (kP q1 false) (fun K => eY pg (mO .len #[22] 3 [q3]) w K) w fun q4 w =>
 Gd (kP q1 false) (fun K => K gU w) w fun q5 w =>
 Gd (kP q1 false) (fun K => eY pg (mO .len #[22] 3 [q5]) w K) w fun q6 w =>
 Gd (kP q1 false) (fun K => eY pg (gO .neq 3 (.tmp 124) (.tmp 126) q4 q6) w K) w fun q7 w =>
 eY pg (lO q1 (.bool true) q7) w fun q8 w =>
 lN q8
  (R (.bool false) w)
  (eY pg (lC 44 3 iD) w fun s0 w =>
  eY pg (mO .len #[22] 3 [gU]) w fun s2 w =>
  eY pg (gO .rem 3 hU hU s0 s2) w fun s3 w =>
  eY pg (iH 22 p8 s3) w fun s6 w =>
  eY pg (fK 5 s6) w fun s7 w =>
  eY pg (gO .xor 5 hU hU s7 zD) w fun s9 w =>
  eY pg (iH 22 p8 s3) w fun u0 w =>
  eY pg (iF 5 u0 s9) w fun _u w =>
  gS pg kM #[mG, (.string ⟨#[102, 46, 112, 97, 114, 116]⟩), (adT 0), p8] w fun u3 w =>
  eY pg (fK 28 jE) w fun u6 w =>
  gS pg rN #[mG, (.string ⟨#[102]⟩), u6] w fun u7 w =>
  eY pg (iW u7 0) w fun u8 w =>
  eY pg (iW u7 1) w fun u9 w =>
  eY pg (gO .neq 29 (.tmp 150) (.const (adT 0)) u9 (adT 0)) w fun v1 w =>
  lN v1
   (R (.bool false) w)
   (gS pg oT #[u8] w fun v3 w =>
   kn gU jG jE gY p8 u8 v3 w))
theorem EO (kn : K7) (R : K1) (hn : N7 Q kn 0 12 13 19 23 26 28) (hr : HR iV R Q) (h : tA kn R (g 0) (g 3) (g 4) (g 12) (g 13) (g 15) (g 19) w) : iU pg gX (gW 8 (fT 1 (fT 10 gV))) Q g w :=
 lB (l := []) h hn hr trivial
def sI (R : K1) (gU iD zD jG jE mG gY : adS) (w : adR) : Prop :=
 tA (fun gU jG jE gY oI d6 jM w => sS R gU jG jE gY oI d6 jM w) R gU iD zD jG jE mG gY w
def mR (kn : Sg) (gU iG iD zD jG jE mG oJ gY oN : adS) (w : adR) : Prop :=
 eY pg (gO .add 3 hU hU oN (adT 1)) w fun m2 w =>
 kn gU iG iD zD jG jE mG oJ gY m2 w
theorem EZ (kn : Sg) (hn : N10 Q kn 0 2 3 4 12 13 15 17 19 20) (h : mR kn (g 0) (g 2) (g 3) (g 4) (g 12) (g 13) (g 15) (g 17) (g 19) (g 20) w) : iU pg gX (fT 1 (fT 1 (bI (bI (fT 1 (gW 1 (fT 10 gV))))))) Q g w :=
 lB (kr := no) (l := []) h hn lZ trivial
def mP (kn : Sg) (R : K1) (gU iG iD zD jG jE mG oJ gY oN Ss d2 : adS) (w : adR) : Prop :=
 eY pg (gO .mul 3 hU hU jG Ss) w fun o7 w =>
 eY pg (lL 22 gU (some o7) (some d2) none) w fun o9 w =>
 gS pg jQ #[oJ, Ss, o9] w fun p0 w =>
 eY pg (gO .neq 29 (.tmp 110) (.const (adT 0)) p0 (adT 0)) w fun p1 w =>
 lN p1
  (R (.bool false) w)
  (eY pg (iH 45 gY Ss) w fun p4 w =>
  eY pg (iF 4 p4 (.bool true)) w fun _u w =>
  kn gU iG iD zD jG jE mG oJ gY oN w)
theorem Fy (kn : Sg) (R : K1) (hn : N10 Q kn 0 2 3 4 12 13 15 17 19 20) (hr : HR iV R Q) (h : mP kn R (g 0) (g 2) (g 3) (g 4) (g 12) (g 13) (g 15) (g 17) (g 19) (g 20) (g 21) (g 22) w) : iU pg gX (fT 3 (bI (gW 1 (fT 1 (bI (bI (fT 1 (gW 1 (fT 10 gV))))))))) Q g w :=
 lB (l := []) h hn hr trivial
def sO (kn : Zu) (gU iG iD zD jG jE mG oJ gY oN : adS) (w : adR) : Prop :=
 (dr w) = (dr w) /\
 (dr w) = (dr w) /\
 eY pg (iH 22 iG oN) (dr w) fun m5 w_ => w_ = (dr w) /\
 eY pg (fK 5 m5) (dr w) fun m6 w_ => w_ = (dr w) /\
 eY pg (lC 5 3 m6) (dr w) fun m7 w_ => w_ = (dr w) /\
 eY pg (gM 28 jE 2) (dr w) fun m8 w_ => w_ = (dr w) /\
 eY pg (fK 26 m8) (dr w) fun m9 w_ => w_ = (dr w) /\
 eY pg (mO .len #[26] 3 [m9]) (dr w) fun n0 w_ => w_ = (dr w) /\
 eY pg (gO .rem 3 hU hU m7 n0) (dr w) fun n1 w_ => w_ = (dr w) /\
 (dr w) = (dr w) /\
 eY pg (gO .add 3 hU hU n1 (adT 1)) (dr w) fun n4 w =>
 eY pg (gO .mul 3 hU hU jG n4) w fun n5 w =>
 eY pg (mO .len #[22] 3 [gU]) w fun n8 w =>
 eY pg (gO .gtr 3 hU hU n5 n8) w fun n9 w =>
 lN n9
  (eY pg (mO .len #[22] 3 [gU]) w fun o1 w =>
  kn gU iG iD zD jG jE mG oJ gY oN n1 o1 w)
  (kn gU iG iD zD jG jE mG oJ gY oN n1 n5 w)
theorem Fe (kn : Zu) (hn : N12 Q kn 0 2 3 4 12 13 15 17 19 20 21 22) (h : sO kn (g 0) (g 2) (g 3) (g 4) (g 12) (g 13) (g 15) (g 17) (g 19) (g 20) w) : iU pg gX (gW 3 (bI (gW 1 (fT 1 (bI (bI (fT 1 (gW 1 (fT 10 gV))))))))) Q g w :=
 lB (kr := no) (l := []) h hn lZ trivial
def AN (kn : Sg) (R : K1) (gU iG iD zD jG jE mG oJ gY oN : adS) (w : adR) : Prop :=
 sO (fun gU iG iD zD jG jE mG oJ gY oN Ss d2 w => mP kn R gU iG iD zD jG jE mG oJ gY oN Ss d2 w) gU iG iD zD jG jE mG oJ gY oN w
def tM (kn : Sg) (R : K1) (gU iG iD zD jG jE mG oJ gY oN : adS) (w : adR) : Prop :=
 AN kn R gU iG iD zD jG jE mG oJ gY oN w
def tG (kn : Sg) (R : K1) (gU iG iD zD jG jE mG oJ gY oN : adS) (w : adR) : Prop :=
 tM (fun gU iG iD zD jG jE mG oJ gY oN w => mR kn gU iG iD zD jG jE mG oJ gY oN w) R gU iG iD zD jG jE mG oJ gY oN w
theorem FB (kn : Sg) (R : K1) (hn : N10 Q kn 0 2 3 4 12 13 15 17 19 20) (hr : HR iV R Q) (h : tM kn R (g 0) (g 2) (g 3) (g 4) (g 12) (g 13) (g 15) (g 17) (g 19) (g 20) w) : iU pg gX (gW 1 (fT 1 (bI (bI (fT 1 (gW 1 (fT 10 gV))))))) Q g w :=
 Nh 1 (uC 3 (Fe _ g w (mP kn R) (fun g w h => iA (Fy _ g w kn R hn hr h)) h))
def sC (kn : Sg) (k0 : K7) (gU iG iD zD jG jE mG oJ gY oN : adS) (w : adR) : Prop :=
 eY pg (mO .len #[22] 3 [iG]) w fun l9 w =>
 eY pg (gO .lss 3 hU hU oN l9) w fun m0 w =>
 lN m0
  (kn gU iG iD zD jG jE mG oJ gY oN w)
  (k0 gU iD zD jG jE mG gY w)
theorem Fi (kn : Sg) (k0 : K7) (hn : N10 Q kn 0 2 3 4 12 13 15 17 19 20) (h0 : E7 Q k0 0 0 3 4 12 13 15 19) (h : sC kn k0 (g 0) (g 2) (g 3) (g 4) (g 12) (g 13) (g 15) (g 17) (g 19) (g 20) w) : iU pg gX (gW 1 (bI (bI (fT 1 (gW 1 (fT 10 gV)))))) Q g w :=
 lB (kr := no) (l := [(0, fun g w => k0 (g 0) (g 3) (g 4) (g 12) (g 13) (g 15) (g 19) w)]) h hn lZ ⟨h0, trivial⟩
def pG (kn : Sg) (k0 : K7) (R : K1) (gU iG iD zD jG jE mG oJ gY oN : adS) (w : adR) : Prop :=
 sC (fun gU iG iD zD jG jE mG oJ gY oN w => tG kn R gU iG iD zD jG jE mG oJ gY oN w) k0 gU iG iD zD jG jE mG oJ gY oN w
def sZ (k0 : K7) (R : K1) (gU iG iD zD jG jE mG oJ gY oN : adS) (w : adR) : Prop :=
 kC (fun (X : adS -> K0) (t : adS) (w : adR) => pG (fun _ _ _ _ _ _ _ _ _ oN w => X oN w) k0 R gU iG iD zD jG jE mG oJ gY t w) oN w
theorem FC (kn : Sg) (k0 : K7) (R : K1) (hn : N10 Q kn 0 2 3 4 12 13 15 17 19 20) (h0 : E7 Q k0 0 0 3 4 12 13 15 19) (hr : HR iV R Q) (h : pG kn k0 R (g 0) (g 2) (g 3) (g 4) (g 12) (g 13) (g 15) (g 17) (g 19) (g 20) w) : iU pg gX (bI (bI (fT 1 (gW 1 (fT 10 gV))))) Q g w :=
 uC 1 (Fi _ g w (tG kn R) k0 (fun g w h => iA (uC 1 (FB _ g w (mR kn) R (fun g w h => iA (EZ _ g w kn hn h)) hr h))) h0 h)
theorem Fu (k0 : K7) (R : K1) (h0 : E7 Q k0 0 0 3 4 12 13 15 19) (hr : HR iV R Q) (h : sZ k0 R (g 0) (g 2) (g 3) (g 4) (g 12) (g 13) (g 15) (g 17) (g 19) (g 20) w) : iU pg gX (bI (fT 1 (gW 1 (fT 10 gV)))) Q g w := by
 refine O3 (fun g : Env => g 20) (fun X t w => pG (fun _ _ _ _ _ _ _ _ _ oN w => X oN w) k0 R (g 0) (g 2) (g 3) (g 4) (g 12) (g 13) (g 15) (g 17) (g 19) t w) h (fun X g1 w1 ha hL => ?_)
 rw [<- rU 0 ha, <- rU 2 ha, <- rU 3 ha, <- rU 4 ha, <- rU 12 ha, <- rU 13 ha, <- rU 15 ha, <- rU 17 ha, <- rU 19 ha] at hL
 exact (FC _ g1 w1 (fun _ _ _ _ _ _ _ _ _ oN w => X oN w) k0 R (fun _ _ h => h) h0 hr hL)
def tE (kn : K7) (R : K1) (gU iG iD zD jG jE mG oJ gY oN : adS) (w : adR) : Prop :=
 sZ kn R gU iG iD zD jG jE mG oJ gY oN w
def sK (kn : Sg) (gU iG iD zD jG jE mG oJ gY : adS) (w : adR) : Prop :=
 kn gU iG iD zD jG jE mG oJ gY (adT 0) w
theorem Fz (kn : Sg) (hn : N10 Q kn 0 2 3 4 12 13 15 17 19 20) (h : sK kn (g 0) (g 2) (g 3) (g 4) (g 12) (g 13) (g 15) (g 17) (g 19) w) : iU pg gX (gW 1 (gW 1 (fT 10 gV))) Q g w :=
 lB (kr := no) (l := []) h hn lZ trivial
def sM (kn : K7) (R : K1) (gU iG iD zD jG jE mG oJ gY : adS) (w : adR) : Prop :=
 sK (fun gU iG iD zD jG jE mG oJ gY oN w => tE kn R gU iG iD zD jG jE mG oJ gY oN w) gU iG iD zD jG jE mG oJ gY w
def sR (R : K1) (gU iG iD zD jG jE mG oJ gY : adS) (w : adR) : Prop :=
 sM (fun gU iD zD jG jE mG gY w => sI R gU iD zD jG jE mG gY w) R gU iG iD zD jG jE mG oJ gY w
theorem Ff (kn : K7) (R : K1) (hn : N7 Q kn 0 3 4 12 13 15 19) (hr : HR iV R Q) (h : sM kn R (g 0) (g 2) (g 3) (g 4) (g 12) (g 13) (g 15) (g 17) (g 19) w) : iU pg gX (gW 1 (fT 10 gV)) Q g w :=
 uC 1 (Fz _ g w (tE kn R) (fun g w h => iA (Nh 0 (Fu _ g w kn R hn hr h))) h)
def tB (kn : K9) (R : K1) (gU kJ iG iD zD : adS) (w : adR) : Prop :=
 gS pg Bp #[] w fun e1 w =>
 eY pg (Kr .not e1) w fun e3 w =>
 lN e3
  (R (.bool false) w)
  (eY pg (gO .rem 5 hU hU kJ (.int .u8 30)) w fun e5 w =>
  eY pg (lC 5 3 e5) w fun e6 w =>
  eY pg (gO .add 3 hU hU e6 (adT 1)) w fun e7 w =>
  eY pg (mO .len #[22] 3 [gU]) w fun e9 w =>
  eY pg (gO .eql 3 (.tmp 39) (.const (adT 0)) e9 (adT 0)) w fun f0 w =>
  Gd (kP f0 false) (fun K => K gU w) w fun f2 w =>
  Gd (kP f0 false) (fun K => eY pg (mO .len #[22] 3 [f2]) w K) w fun f3 w =>
  Gd (kP f0 false) (fun K => eY pg (gO .gtr 3 hU hU f3 (adT 300)) w K) w fun f4 w =>
  eY pg (lO f0 (.bool true) f4) w fun f5 w =>
  Gd (kP f5 false) (fun K => K iG w) w fun f7 w =>
  Gd (kP f5 false) (fun K => eY pg (mO .len #[22] 3 [f7]) w K) w fun f8 w =>
  Gd (kP f5 false) (fun K => eY pg (gO .gtr 3 hU hU f8 (adT 20)) w K) w fun f9 w =>
  eY pg (lO f5 (.bool true) f9) w fun i0 w =>
  lN i0
   (R (.bool true) w)
   (gS pg BO #[gU, e7] w fun i4 w =>
   eY pg (iW i4 0) w fun i5 w =>
   eY pg (iW i4 1) w fun i6 w =>
   eY pg (lP 28) w fun jE w =>
   eY pg (iF 28 jE i5) w fun _u w =>
   gS pg Bb #[(adT 100000)] w fun i8 w =>
   eY pg (iW i8 0) w fun i9 w =>
   eY pg (iW i8 1) w fun j0 w =>
   eY pg (fK 28 jE) w fun j3 w =>
   gS pg rN #[i9, (.string ⟨#[102]⟩), j3] w fun j4 w =>
   eY pg (iW j4 0) w fun j5 w =>
   eY pg (iW j4 1) w fun j6 w =>
   eY pg (gO .neq 29 (.tmp 67) (.const (adT 0)) i6 (adT 0)) w fun j8 w =>
   Gd (kP j8 false) (fun K => K j6 w) w fun l0 w =>
   Gd (kP j8 false) (fun K => eY pg (gO .neq 29 (.tmp 70) (.const (adT 0)) l0 (adT 0)) w K) w fun l1 w =>
   eY pg (lO j8 (.bool true) l1) w fun l2 w =>
   lN l2
    (R (.bool false) w)
    (eY pg (gM 28 jE 2) w fun l3 w =>
    eY pg (fK 26 l3) w fun l4 w =>
    eY pg (mO .len #[26] 3 [l4]) w fun l5 w =>
    eY pg (uM 45 l5 l5) w fun l6 w =>
    kn gU iG iD zD e7 jE i9 j5 l6 w)))
theorem Fc (kn : K9) (R : K1) (hn : N9 Q kn 0 2 3 4 12 13 15 17 19) (hr : HR iV R Q) (h : tB kn R (g 0) (g 1) (g 2) (g 3) (g 4) w) : iU pg gX (gW 10 gV) Q g w :=
 lB (l := []) h hn hr trivial
def sN (R : K1) (gU kJ iG iD zD : adS) (w : adR) : Prop :=
 tB (fun gU iG iD zD jG jE mG oJ gY w => sR R gU iG iD zD jG jE mG oJ gY w) R gU kJ iG iD zD w
theorem Fs (R : K1) (hr : HR iV R Q) (h : sN R (g 0) (g 1) (g 2) (g 3) (g 4) w) : iU pg gX gV Q g w :=
 uC 10 (Fc _ g w (sR R) R (fun g w h => iA (uC 1 (Ff _ g w (sI R) R (fun g w h => iA (uC 8 (EO _ g w (sS R) R (fun g w h => iA (uC 1 (Fg _ g w (pZ R) R (fun g w h => iA (FW _ g w R hr h)) hr h))) hr h))) hr h))) hr h)
def Eo (a0 a1 a2 a3 a4 : adS) (w : adR) (R : K1) : Prop :=
 sN R a0 a1 a2 a3 a4 w
theorem Hn {a0 a1 a2 a3 a4 : adS} {w : adR} {R : K1} (h : Eo a0 a1 a2 a3 a4 w R) : gS pg wF #[a0, a1, a2, a3, a4] w R := by
 refine xA (ann := gX) Tryd.f4 gV [a0, a1, a2, a3, a4] iV 197 TrydM.mixed Tryd.func4 ?_
 exact (Fs _ _ _ R (fun _ _ h => h) h)
def HA : FA := ⟨Bp, fun i => .leaf ([], []) []⟩
def I5 : List ResultVar := [.tmp 0]
noncomputable def F3 : Code := iZ Tryd.f7
def Dv (R : K1)  (w : adR) : Prop :=
 gS pg Bb #[(adT 1000)] w fun c4 w =>
 eY pg (iW c4 0) w fun c5 w =>
 eY pg (iW c4 1) w fun c6 w =>
 eY pg (iJ 22 5 [(0, (.int .u8 97)), (1, (.int .u8 98)), (2, (.int .u8 99)), (3, (.int .u8 100)), (4, (.int .u8 101))]) w fun c8 w =>
 eY pg (lC 22 22 c8) w fun c9 w =>
 gS pg BO #[c9, (adT 2)] w fun d0 w =>
 eY pg (iW d0 0) w fun d1 w =>
 eY pg (iW d0 1) w fun d2 w =>
 eY pg (lP 28) w fun Zw w =>
 eY pg (iF 28 Zw d1) w fun _u w =>
 eY pg (fK 28 Zw) w fun d5 w =>
 gS pg rN #[c5, (.string ⟨#[102]⟩), d5] w fun d6 w =>
 eY pg (iW d6 0) w fun d7 w =>
 eY pg (iW d6 1) w fun d8 w =>
 eY pg (gO .neq 29 (.tmp 29) (.const (adT 0)) c6 (adT 0)) w fun e0 w =>
 Gd (kP e0 false) (fun K => K d2 w) w fun e2 w =>
 Gd (kP e0 false) (fun K => eY pg (gO .neq 29 (.tmp 32) (.const (adT 0)) e2 (adT 0)) w K) w fun e3 w =>
 eY pg (lO e0 (.bool true) e3) w fun e4 w =>
 Gd (kP e4 false) (fun K => K d8 w) w fun e6 w =>
 Gd (kP e4 false) (fun K => eY pg (gO .neq 29 (.tmp 36) (.const (adT 0)) e6 (adT 0)) w K) w fun e7 w =>
 eY pg (lO e4 (.bool true) e7) w fun e8 w =>
 Gd (kP e8 false) (fun K => K d7 w) w fun f0 w =>
 Gd (kP e8 false) (fun K => eY pg (gO .eql 35 (.tmp 40) (.const (.pointer none)) f0 (.pointer none)) w K) w fun f1 w =>
 eY pg (lO e8 (.bool true) f1) w fun f2 w =>
 lN f2
  (R (.bool false) w)
  (eY pg (iJ 22 2 [(0, (.int .u8 99)), (1, (.int .u8 100))]) w fun f4 w =>
  eY pg (lC 22 22 f4) w fun f5 w =>
  gS pg jQ #[d7, (adT 1), f5] w fun f6 w =>
  eY pg (iJ 22 2 [(0, (.int .u8 120)), (1, (.int .u8 121))]) w fun f8 w =>
  eY pg (lC 22 22 f8) w fun f9 w =>
  gS pg jQ #[d7, (adT 0), f9] w fun i0 w =>
  gS pg lW #[d7] w fun i2 w =>
  eY pg (iJ 22 2 [(0, (.int .u8 97)), (1, (.int .u8 98))]) w fun i4 w =>
  eY pg (lC 22 22 i4) w fun i5 w =>
  gS pg jQ #[d7, (adT 0), i5] w fun i6 w =>
  eY pg (iJ 22 1 [(0, (.int .u8 101))]) w fun i8 w =>
  eY pg (lC 22 22 i8) w fun i9 w =>
  gS pg jQ #[d7, (adT 2), i9] w fun j0 w =>
  gS pg lW #[d7] w fun j2 w =>
  gS pg lE #[c5, (.string ⟨#[102]⟩)] w fun j5 w =>
  eY pg (iW j5 0) w fun j6 w =>
  eY pg (iW j5 1) w fun j7 w =>
  gS pg mI #[d7] w fun j9 w =>
  eY pg (gO .eql 24 (.tmp 69) (.const (.int .u64 1)) j9 (.int .u64 1)) w fun l0 w =>
  Gd (kP l0 true) (fun K => K f6 w) w fun l2 w =>
  Gd (kP l0 true) (fun K => eY pg (gO .eql 29 (.tmp 72) (.const (adT 0)) l2 (adT 0)) w K) w fun l3 w =>
  eY pg (lO l0 l3 (.bool false)) w fun l4 w =>
  Gd (kP l4 true) (fun K => K i0 w) w fun l6 w =>
  Gd (kP l4 true) (fun K => eY pg (gO .eql 29 (.tmp 76) (.const (adT 13)) l6 (adT 13)) w K) w fun l7 w =>
  eY pg (lO l4 l7 (.bool false)) w fun l8 w =>
  Gd (kP l8 true) (fun K => K i2 w) w fun m0 w =>
  Gd (kP l8 true) (fun K => eY pg (gO .eql 29 (.tmp 80) (.const (adT 30)) m0 (adT 30)) w K) w fun m1 w =>
  eY pg (lO l8 m1 (.bool false)) w fun m2 w =>
  Gd (kP m2 true) (fun K => K j2 w) w fun m4 w =>
  Gd (kP m2 true) (fun K => eY pg (gO .eql 29 (.tmp 84) (.const (adT 0)) m4 (adT 0)) w K) w fun m5 w =>
  eY pg (lO m2 m5 (.bool false)) w fun m6 w =>
  Gd (kP m6 true) (fun K => K j6 w) w fun m8 w =>
  Gd (kP m6 true) (fun K => eY pg (lC 22 9 m8) w K) w fun m9 w =>
  Gd (kP m6 true) (fun K => eY pg (gO .eql 9 (.tmp 89) (.const (.string ⟨#[97, 98, 99, 100, 101]⟩)) m9 (.string ⟨#[97, 98, 99, 100, 101]⟩)) w K) w fun n0 w =>
  eY pg (lO m6 n0 (.bool false)) w fun n1 w =>
  Gd (kP n1 true) (fun K => K j7 w) w fun n3 w =>
  Gd (kP n1 true) (fun K => eY pg (gO .eql 29 (.tmp 93) (.const (adT 0)) n3 (adT 0)) w K) w fun n4 w =>
  eY pg (lO n1 n4 (.bool false)) w fun n5 w =>
  Gd (kP n5 true) (fun K => K d7 w) w fun n7 w =>
  Gd (kP n5 true) (fun K => gS pg oY #[n7] w K) w fun n8 w =>
  eY pg (lO n5 n8 (.bool false)) w fun n9 w =>
  Gd (kP n9 true) (fun K => K d7 w) w fun o1 w =>
  Gd (kP n9 true) (fun K => gS pg oT #[o1] w K) w fun o2 w =>
  Gd (kP n9 true) (fun K => eY pg (mO .len #[45] 3 [o2]) w K) w fun o3 w =>
  Gd (kP n9 true) (fun K => eY pg (gO .eql 3 (.tmp 103) (.const (adT 3)) o3 (adT 3)) w K) w fun o4 w =>
  eY pg (lO n9 o4 (.bool false)) w fun o5 w =>
  R o5 w)
theorem Ls (R : K1) (hr : HR I5 R Q) (h : Dv R w) : iU pg HA F3 Q g w :=
 lB (kn := no) (l := []) h lZ hr trivial
def MU (w : adR) (R : K1) : Prop :=
 Dv R w
theorem MA {w : adR} {R : K1} (h : MU w R) : gS pg Bp #[] w R := by
 refine xA (ann := HA) Tryd.f7 F3 [] I5 106 TrydM.mixed Tryd.func7 ?_
 exact (Ls _ _ _ R (fun _ _ h => h) h)
def oK : FA := ⟨BO, fun i => match Nat.beq i 11 with | true => .leaf ([9, 10, 11, 13], [(0, 9), (0, 10), (1, 9), (1, 10)]) [(false, []), (false, []), (false, []), (false, []), (false, []), (false, []), (false, []), (false, []), (false, []), (true, [7, 8]), (true, [8, 9]), (true, []), (false, []), (true, [])] | false => .leaf ([], []) []⟩
def rM : List ResultVar := [.cell 4 28, .tmp 5]
noncomputable def nI : Code := iZ Tryd.f8
def CC (R : K1) (b4 Js : adS) (w : adR) : Prop :=
 eY pg (fK 28 Js) w fun j2 w =>
 eY pg (iF 28 b4 j2) w fun _u w =>
 U3 pg 28 b4 w fun r0 => R (.tuple #[r0, (adT 0)]) w
theorem Np (R : K1) (hr : HR rM R Q) (h : CC R (g 4) (g 8) w) : iU pg oK (fT 1 (fT 4 nI)) Q g w :=
 lB (kn := no) (l := []) h lZ hr trivial
def CB (kn : K6) (k0 : K2) (R : K1) (AE kJ b4 Js e1 e2 : adS) (w : adR) : Prop :=
 eY pg (gO .lss 3 hU hU e2 e1) w fun e3 w =>
 lN e3
  (eY pg (gM 28 Js 0) w fun e6 w =>
  eY pg (fK 24 e6) w fun e7 w =>
  gS pg pN #[e7, kJ, e2] w fun f0 w =>
  eY pg (iW f0 0) w fun f1 w =>
  eY pg (iW f0 1) w fun f2 w =>
  eY pg (iW f0 2) w fun f3 w =>
  eY pg (gO .neq 29 (.tmp 44) (.const (adT 0)) f3 (adT 0)) w fun f5 w =>
  lN f5
   (eY pg (lI 28 []) w fun f6 w =>
   eY pg (iF 28 b4 f6) w fun _u w =>
   U3 pg 28 b4 w fun r0 => R (.tuple #[r0, f3]) w)
   (eY pg (gM 28 Js 2) (dr w) fun f8 w_ => w_ = (dr w) /\
   eY pg (fK 26 f8) (dr w) fun f9 w_ => w_ = (dr w) /\
   (dr w) = (dr w) /\
   (dr w) = (dr w) /\
   (dr w) = (dr w) /\
   (dr w) = (dr w) /\
   eY pg (lC 3 24 f2) (dr w) fun i4 w_ => w_ = (dr w) /\
   eY pg (gO .add 24 hU hU f1 i4) (dr w) fun i5 w_ => w_ = (dr w) /\
   eY pg (lL 22 AE (some f1) (some i5) none) (dr w) fun i6 w_ => w_ = (dr w) /\
   gS pg rX #[i6] (dr w) fun i7 Vu =>
   (gN pg (fK 26 f8) f9 Vu /\ gN pg (gM 28 Js 2) f8 Vu /\ True) /\
   eY pg (iJ 26 1 [(0, i7)]) Vu fun i8 Sv =>
   (gN pg (fK 26 f8) f9 Sv /\ gN pg (gM 28 Js 2) f8 Sv /\ True) /\
   eY pg (mO .append #[26, 26] 26 [f9, i8]) Sv fun i9 OS =>
   eY pg (gM 28 Js 2) OS fun j0 w_ => w_ = OS /\
   eY pg (iF 26 j0 i9) OS fun _u13 Dr =>
   eY pg (gO .add 3 hU hU e2 (adT 1)) Dr fun j1 w =>
   kn AE kJ b4 Js e1 j1 w))
  (k0 b4 Js w)
theorem Nw (kn : K6) (k0 : K2) (R : K1) (hn : N6 Q kn 0 1 4 8 31 32) (h0 : E2 Q k0 0 4 8) (hr : HR rM R Q) (h : CB kn k0 R (g 0) (g 1) (g 4) (g 8) (g 31) (g 32) w) : iU pg oK (bI (bI (fT 1 (gW 1 (fT 4 nI))))) Q g w :=
 lB (l := [(0, fun g w => k0 (g 4) (g 8) w)]) h hn hr ⟨h0, trivial⟩
def Hh (k0 : K2) (R : K1) (AE kJ b4 Js e1 e2 : adS) (w : adR) : Prop :=
 kC (fun (X : adS -> K0) (t : adS) (w : adR) => CB (fun _ _ _ _ _ e2 w => X e2 w) k0 R AE kJ b4 Js e1 t w) e2 w
theorem Nu (k0 : K2) (R : K1) (h0 : E2 Q k0 0 4 8) (hr : HR rM R Q) (h : Hh k0 R (g 0) (g 1) (g 4) (g 8) (g 31) (g 32) w) : iU pg oK (bI (fT 1 (gW 1 (fT 4 nI)))) Q g w := by
 refine O3 (fun g : Env => g 32) (fun X t w => CB (fun _ _ _ _ _ e2 w => X e2 w) k0 R (g 0) (g 1) (g 4) (g 8) (g 31) t w) h (fun X g1 w1 ha hL => ?_)
 rw [<- rU 0 ha, <- rU 1 ha, <- rU 4 ha, <- rU 8 ha, <- rU 31 ha] at hL
 exact (Nw _ g1 w1 (fun _ _ _ _ _ e2 w => X e2 w) k0 R (fun _ _ h => h) h0 hr hL)
def GP (kn : K2) (R : K1) (AE kJ b4 Js e1 e2 : adS) (w : adR) : Prop :=
 Hh kn R AE kJ b4 Js e1 e2 w
def GY (kn : K6) (AE kJ b4 Sd Js : adS) (w : adR) : Prop :=
 kn AE kJ b4 Js Sd (adT 0) w
theorem Nm (kn : K6) (hn : N6 Q kn 0 1 4 8 31 32) (h : GY kn (g 0) (g 1) (g 4) (g 6) (g 8) w) : iU pg oK (gW 1 (gW 1 (fT 4 nI))) Q g w :=
 lB (kr := no) (l := []) h hn lZ trivial
def Ha (kn : K2) (R : K1) (AE kJ b4 Sd Js : adS) (w : adR) : Prop :=
 GY (fun AE kJ b4 Js e1 e2 w => GP kn R AE kJ b4 Js e1 e2 w) AE kJ b4 Sd Js w
def Hm (R : K1) (AE kJ b4 Sd Js : adS) (w : adR) : Prop :=
 Ha (fun b4 Js w => CC R b4 Js w) R AE kJ b4 Sd Js w
theorem Ni (kn : K2) (R : K1) (hn : N2 Q kn 4 8) (hr : HR rM R Q) (h : Ha kn R (g 0) (g 1) (g 4) (g 6) (g 8) w) : iU pg oK (gW 1 (fT 4 nI)) Q g w :=
 uC 1 (Nm _ g w (GP kn R) (fun g w h => iA (Nh 0 (Nu _ g w kn R hn hr h))) h)
def G2 (kn : K5) (R : K1) (AE kJ : adS) (w : adR) : Prop :=
 eY pg (lP 28) w fun b4 w =>
 eY pg (mO .len #[22] 3 [AE]) w fun c5 w =>
 eY pg (lC 3 24 c5) w fun c6 w =>
 gS pg rW #[c6, kJ] w fun c8 w =>
 eY pg (iW c8 0) w fun c9 w =>
 eY pg (iW c8 1) w fun d0 w =>
 eY pg (gO .neq 29 (.tmp 21) (.const (adT 0)) d0 (adT 0)) w fun d2 w =>
 lN d2
  (eY pg (lI 28 []) w fun d3 w =>
  eY pg (iF 28 b4 d3) w fun _u w =>
  U3 pg 28 b4 w fun r0 => R (.tuple #[r0, d0]) w)
  (eY pg (mO .len #[22] 3 [AE]) w fun d6 w =>
  eY pg (lC 3 24 d6) w fun d7 w =>
  eY pg (lC 3 25 kJ) w fun d9 w =>
  eY pg (lI 28 [(0, d7), (1, d9)]) w fun e0 w =>
  eY pg (lP 28) w fun Js w =>
  eY pg (iF 28 Js e0) w fun _u w =>
  kn AE kJ b4 c9 Js w)
theorem Nl (kn : K5) (R : K1) (hn : N5 Q kn 0 1 4 6 8) (hr : HR rM R Q) (h : G2 kn R (g 0) (g 1) w) : iU pg oK (gW 4 nI) Q g w :=
 lB (l := []) h hn hr trivial
def GV (R : K1) (AE kJ : adS) (w : adR) : Prop :=
 G2 (fun AE kJ b4 Sd Js w => Hm R AE kJ b4 Sd Js w) R AE kJ w
theorem Nt (R : K1) (hr : HR rM R Q) (h : GV R (g 0) (g 1) w) : iU pg oK nI Q g w :=
 uC 4 (Nl _ g w (Hm R) R (fun g w h => iA (uC 1 (Ni _ g w (CC R) R (fun g w h => iA (Np _ g w R hr h)) hr h))) hr h)
def PT (a0 a1 : adS) (w : adR) (R : K1) : Prop :=
 GV R a0 a1 w
theorem OW {a0 a1 : adS} {w : adR} {R : K1} (h : PT a0 a1 w R) : gS pg BO #[a0, a1] w R := by
 refine xA (ann := oK) Tryd.f8 nI [a0, a1] rM 63 TrydM.mixed Tryd.func8 ?_
 exact (Nt _ _ _ R (fun _ _ h => h) h)
def LK : FA := ⟨Bb, fun i => .leaf ([], []) []⟩
def MW : List ResultVar := [.tmp 2, .tmp 3]
noncomputable def JZ : Code := iZ Tryd.f9
def IK (R : K1) (S6 : adS) (w : adR) : Prop :=
 eY pg (gO .lss 3 hU hU S6 (adT 0)) w fun b5 w =>
 Gd (kP b5 false) (fun K => K S6 w) w fun b7 w =>
 Gd (kP b5 false) (fun K => eY pg (gO .gtr 3 hU hU b7 (adT 16777216)) w K) w fun b8 w =>
 eY pg (lO b5 (.bool true) b8) w fun b9 w =>
 lN b9
  (R (.tuple #[(.pointer none), (adT 1)]) w)
  (eY pg (Mm 61 none) w fun c1 w =>
  eY pg (Mm 61 none) w fun c2 w =>
  eY pg (lI 64 [(0, S6), (1, c1), (2, c2), (4, (adT (-1)))]) w fun c3 w =>
  eY pg (Eh 64 c3) w fun c4 w =>
  R (.tuple #[c4, (adT 0)]) w)
theorem OD (R : K1) (hr : HR MW R Q) (h : IK R (g 0) w) : iU pg LK JZ Q g w :=
 lB (kn := no) (l := []) h lZ hr trivial
def QR (a0 : adS) (w : adR) (R : K1) : Prop :=
 IK R a0 w
theorem Pb {a0 : adS} {w : adR} {R : K1} (h : QR a0 w R) : gS pg Bb #[a0] w R := by
 refine xA (ann := LK) Tryd.f9 JZ [a0] MW 15 TrydM.mixed Tryd.func9 ?_
 exact (OD _ _ _ R (fun _ _ h => h) h)
def kU : FA := ⟨rN, fun i => match Nat.beq i 28 with | true => .leaf ([12], []) [(false, []), (false, []), (false, []), (false, []), (false, []), (false, []), (false, []), (false, []), (false, []), (false, []), (false, []), (false, []), (true, [])] | false => .leaf ([], []) []⟩
def rY : List ResultVar := [.tmp 6, .tmp 7]
noncomputable def kG : Code := iZ Tryd.f10
def wW (R : K1) (nQ nF : adS) (w : adR) : Prop :=
 gS pg jP #[nQ] w fun v4 w =>
 eY pg (gO .neq 29 (.tmp 155) (.const (adT 0)) v4 (adT 0)) w fun v6 w =>
 lN v6
  (R (.tuple #[(.pointer none), v4]) w)
  (R (.tuple #[nF, (adT 0)]) w)
theorem Mi (R : K1) (hr : HR rY R Q) (h : wW R (g 0) (g 10) w) : iU pg kU (fT 1 (fT 12 kG)) Q g w :=
 lB (kn := no) (l := []) h lZ hr trivial
def Bq (kn : K7) (nQ GF nF GZ q4 q5 q6 : adS) (w : adR) : Prop :=
 eY pg (gO .add 3 hU hU q6 (adT 1)) w fun v2 w =>
 kn nQ GF nF GZ q4 q5 v2 w
theorem Mf (kn : K7) (hn : N7 Q kn 0 8 10 16 124 125 126) (h : Bq kn (g 0) (g 8) (g 10) (g 16) (g 124) (g 125) (g 126) w) : iU pg kU (fT 3 (bI (bI (fT 5 (cT (fT 1 (gW 1 (fT 12 kG)))))))) Q g w :=
 lB (kr := no) (l := []) h hn lZ trivial
def Fj (kn : K7) (k1 : K2) (nQ GF nF GZ q4 q5 q6 : adS) (w : adR) : Prop :=
 eY pg (gO .lss 3 hU hU q6 q5) w fun q7 w =>
 lN q7
  (eY pg (iH 72 q4 q6) w fun q8 w =>
  eY pg (fK 77 q8) w fun q9 w =>
  eY pg (lP 77) w fun VW w =>
  eY pg (iF 77 VW q9) w fun _u w =>
  eY pg (gM 77 VW 0) w fun s0 w =>
  eY pg (fK 5 s0) w fun s1 w =>
  eY pg (gO .eql 5 (.tmp 131) (.const (.int .u8 2)) s1 (.int .u8 2)) w fun s2 w =>
  Gd (kP s2 true) (fun K => eY pg (gM 77 VW 1) w K) w fun s4 w =>
  Gd (kP s2 true) (fun K => eY pg (fK 24 s4) w K) w fun s5 w =>
  Gd (kP s2 true) (fun K => K GF w) w fun s6 w =>
  Gd (kP s2 true) (fun K => eY pg (lC 3 24 s6) w K) w fun s7 w =>
  Gd (kP s2 true) (fun K => eY pg (gO .lss 24 hU hU s5 s7) w K) w fun s8 w =>
  eY pg (lO s2 s8 (.bool false)) w fun s9 w =>
  lN s9
   ((dr w) = (dr w) /\
   eY pg (jC nF) (dr w) fun u1 w_ => w_ = (dr w) /\
   eY pg (gM 67 u1 4) (dr w) fun u2 w_ => w_ = (dr w) /\
   eY pg (fK 45 u2) (dr w) fun u3 w_ => w_ = (dr w) /\
   eY pg (gM 77 VW 1) (dr w) fun u4 w_ => w_ = (dr w) /\
   eY pg (fK 24 u4) (dr w) fun u5 w_ => w_ = (dr w) /\
   (dr w) = (dr w) /\
   eY pg (gM 77 VW 1) (dr w) fun u7 w_ => w_ = (dr w) /\
   eY pg (fK 24 u7) (dr w) fun u8 w_ => w_ = (dr w) /\
   eY pg (iH 45 GZ u8) (dr w) fun u9 w_ => w_ = (dr w) /\
   eY pg (fK 4 u9) (dr w) fun v0 w_ => w_ = (dr w) /\
   eY pg (iH 45 u3 u5) (dr w) fun v1 w_ => w_ = (dr w) /\
   eY pg (iF 4 v1 v0) (dr w) fun _u12 Yj =>
   kn nQ GF nF GZ q4 q5 q6 Yj)
   (kn nQ GF nF GZ q4 q5 q6 w))
  (k1 nQ nF w)
theorem ME (kn : K7) (k1 : K2) (hn : N7 Q kn 0 8 10 16 124 125 126) (h1 : E2 Q k1 1 0 10) (h : Fj kn k1 (g 0) (g 8) (g 10) (g 16) (g 124) (g 125) (g 126) w) : iU pg kU (gW 3 (bI (bI (fT 5 (cT (fT 1 (gW 1 (fT 12 kG)))))))) Q g w :=
 lB (kr := no) (l := [(1, fun g w => k1 (g 0) (g 10) w)]) h hn lZ ⟨h1, trivial⟩
def Bt (kn : K7) (k1 : K2) (nQ GF nF GZ q4 q5 q6 : adS) (w : adR) : Prop :=
 Fj (fun nQ GF nF GZ q4 q5 q6 w => Bq kn nQ GF nF GZ q4 q5 q6 w) k1 nQ GF nF GZ q4 q5 q6 w
def EY (k1 : K2) (nQ GF nF GZ q4 q5 q6 : adS) (w : adR) : Prop :=
 kC (fun (X : adS -> K0) (t : adS) (w : adR) => Bt (fun _ _ _ _ _ _ q6 w => X q6 w) k1 nQ GF nF GZ q4 q5 t w) q6 w
theorem Mg (kn : K7) (k1 : K2) (hn : N7 Q kn 0 8 10 16 124 125 126) (h1 : E2 Q k1 1 0 10) (h : Bt kn k1 (g 0) (g 8) (g 10) (g 16) (g 124) (g 125) (g 126) w) : iU pg kU (bI (bI (fT 5 (cT (fT 1 (gW 1 (fT 12 kG))))))) Q g w :=
 uC 3 (ME _ g w (Bq kn) k1 (fun g w h => iA (Mf _ g w kn hn h)) h1 h)
theorem Ma (k1 : K2) (h1 : E2 Q k1 1 0 10) (h : EY k1 (g 0) (g 8) (g 10) (g 16) (g 124) (g 125) (g 126) w) : iU pg kU (bI (fT 5 (cT (fT 1 (gW 1 (fT 12 kG)))))) Q g w := by
 refine O3 (fun g : Env => g 126) (fun X t w => Bt (fun _ _ _ _ _ _ q6 w => X q6 w) k1 (g 0) (g 8) (g 10) (g 16) (g 124) (g 125) t w) h (fun X g1 w1 ha hL => ?_)
 rw [<- rU 0 ha, <- rU 8 ha, <- rU 10 ha, <- rU 16 ha, <- rU 124 ha, <- rU 125 ha] at hL
 exact (Mg _ g1 w1 (fun _ _ _ _ _ _ q6 w => X q6 w) k1 (fun _ _ h => h) h1 hL)
def FI (kn : K2) (nQ GF nF GZ q4 q5 q6 : adS) (w : adR) : Prop :=
 EY kn nQ GF nF GZ q4 q5 q6 w
def Fh (kn : K7) (R : K1) (nQ GF nF F9 : adS) (w : adR) : Prop :=
 gS pg pW #[nF] w fun p0 w =>
 eY pg (iW p0 0) w fun p1 w =>
 eY pg (iW p0 1) w fun p2 w =>
 eY pg (gO .neq 29 (.tmp 113) (.const (adT 0)) p2 (adT 0)) w fun p4 w =>
 lN p4
  (R (.tuple #[(.pointer none), p2]) w)
  (eY pg (uM 45 GF GF) w fun p8 w =>
  eY pg (jC nF) w fun p9 w =>
  eY pg (gM 67 p9 4) w fun q0 w =>
  eY pg (iF 45 q0 p8) w fun _u w =>
  gS pg lT #[nF, p1] w fun q3 w =>
  eY pg (mO .len #[72] 3 [F9]) w fun q5 w =>
  kn nQ GF nF q3 F9 q5 (adT 0) w)
theorem My (kn : K7) (R : K1) (hn : N7 Q kn 0 8 10 16 124 125 126) (hr : HR rY R Q) (h : Fh kn R (g 0) (g 8) (g 10) (g 13) w) : iU pg kU (gW 5 (cT (fT 1 (gW 1 (fT 12 kG))))) Q g w :=
 lB (l := []) h hn hr trivial
def Kg (kn : K2) (R : K1) (nQ GF nF F9 : adS) (w : adR) : Prop :=
 Fh (fun nQ GF nF GZ q4 q5 q6 w => FI kn nQ GF nF GZ q4 q5 q6 w) R nQ GF nF F9 w
def Fk (kn : K2) (nQ nF : adS) (w : adR) : Prop :=
 kn nQ nF w
theorem Mz (kn : K2) (hn : N2 Q kn 0 10) (h : Fk kn (g 0) (g 10) w) : iU pg kU (cE (fT 1 (gW 1 (fT 12 kG)))) Q g w :=
 lB (kr := no) (l := []) h hn lZ trivial
def Di (kn : K2) (R : K1) (nQ GF nF F9 o7 : adS) (w : adR) : Prop :=
 lN o7 (Kg kn R nQ GF nF F9 w) (Fk kn nQ nF w)
def C8 (kn : K5) (nQ GF nF F9 : adS) (w : adR) : Prop :=
 eY pg (jC nF) w fun o4 w =>
 eY pg (gM 67 o4 6) w fun o5 w =>
 eY pg (fK 4 o5) w fun o6 w =>
 eY pg (Kr .not o6) w fun o7 w =>
 kn nQ GF nF F9 o7 w
theorem La (kn : K5) (hn : N5 Q kn 0 8 10 13 107) (h : C8 kn (g 0) (g 8) (g 10) (g 13) w) : iU pg kU (gW 1 (gW 1 (fT 12 kG))) Q g w :=
 lB (kr := no) (l := []) h hn lZ trivial
def De (kn : K2) (R : K1) (nQ GF nF F9 : adS) (w : adR) : Prop :=
 C8 (fun nQ GF nF F9 o7 w => Di kn R nQ GF nF F9 o7 w) nQ GF nF F9 w
def uO (R : K1) (nQ GF nF F9 : adS) (w : adR) : Prop :=
 De (fun nQ nF w => wW R nQ nF w) R nQ GF nF F9 w
theorem Lk (kn : K2) (R : K1) (hn : N2 Q kn 0 10) (hr : HR rY R Q) (h : De kn R (g 0) (g 8) (g 10) (g 13) w) : iU pg kU (gW 1 (fT 12 kG)) Q g w :=
 uC 1 (La _ g w (Di kn R) (fun g w h => iA (ZD (.tmp 107) (fun h => (uC 5 (My _ g w (FI kn) R (fun g w h => iA (Nh 1 (Ma _ g w kn hn h))) hr h))) (fun h => (Mz _ g w kn hn h)) h)) h)
def C9 (kn : K4) (R : K1) (nQ vD Zm : adS) (w : adR) : Prop :=
 eY pg (Eh 28 Zm) w fun Yd w =>
 eY pg (gO .eql 32 (.tmp 20) (.const (.pointer none)) nQ (.pointer none)) w fun d1 w =>
 Gd (kP d1 false) (fun K => K vD w) w fun d3 w =>
 Gd (kP d1 false) (fun K => eY pg (mO .len #[9] 3 [d3]) w K) w fun d4 w =>
 Gd (kP d1 false) (fun K => eY pg (gO .lss 3 hU hU d4 (adT 1)) w K) w fun d5 w =>
 eY pg (lO d1 (.bool true) d5) w fun d6 w =>
 Gd (kP d6 false) (fun K => K vD w) w fun d8 w =>
 Gd (kP d6 false) (fun K => eY pg (mO .len #[9] 3 [d8]) w K) w fun d9 w =>
 Gd (kP d6 false) (fun K => eY pg (gO .gtr 3 hU hU d9 (adT 27)) w K) w fun e0 w =>
 eY pg (lO d6 (.bool true) e0) w fun e1 w =>
 lN e1
  (R (.tuple #[(.pointer none), (adT 1)]) w)
  (eY pg (gM 28 Yd 0) w fun e3 w =>
  eY pg (fK 24 e3) w fun e4 w =>
  eY pg (gM 28 Yd 1) w fun e5 w =>
  eY pg (fK 25 e5) w fun e6 w =>
  eY pg (lC 25 3 e6) w fun e7 w =>
  gS pg rW #[e4, e7] w fun e8 w =>
  eY pg (iW e8 0) w fun e9 w =>
  eY pg (iW e8 1) w fun f0 w =>
  eY pg (gO .neq 29 (.tmp 42) (.const (adT 0)) f0 (adT 0)) w fun f3 w =>
  lN f3
   (R (.tuple #[(.pointer none), f0]) w)
   (eY pg (gM 28 Yd 2) w fun f7 w =>
   eY pg (fK 26 f7) w fun f8 w =>
   eY pg (mO .len #[26] 3 [f8]) w fun f9 w =>
   eY pg (gO .neq 3 (.tmp 46) (.tmp 49) e9 f9) w fun i0 w =>
   lN i0
    (R (.tuple #[(.pointer none), (adT 11)]) w)
    (eY pg (gM 28 Yd 2) w fun i1 w =>
    eY pg (fK 26 i1) w fun i2 w =>
    gS pg qC #[i2] w fun i3 w =>
    eY pg (gM 28 Yd 2) w fun i4 w =>
    eY pg (iF 26 i4 i3) w fun _u w =>
    eY pg (fK 28 Yd) w fun i7 w =>
    eY pg (lI 67 [(0, nQ), (1, vD), (2, i7)]) w fun i8 w =>
    eY pg (Eh 67 i8) w fun i9 w =>
    gS pg mS #[i9, vD] w fun j3 w =>
    eY pg (iW j3 0) w fun j4 w =>
    eY pg (iW j3 1) w fun j5 w =>
    eY pg (iW j3 2) w fun j6 w =>
    eY pg (gO .neq 29 (.tmp 67) (.const (adT 0)) j6 (adT 0)) w fun j8 w =>
    lN j8
     (R (.tuple #[(.pointer none), j6]) w)
     (gS pg lT #[i9, j4] w fun l3 w =>
     eY pg (jC i9) w fun l4 w =>
     eY pg (gM 67 l4 4) w fun l5 w =>
     eY pg (iF 45 l5 l3) w fun _u w =>
     Gd (kP j5 true) (fun K => K j4 w) w fun l9 w =>
     Gd (kP j5 true) (fun K => eY pg (mO .len #[22] 3 [l9]) w K) w fun m0 w =>
     Gd (kP j5 true) (fun K => eY pg (lC 3 24 m0) w K) w fun m1 w =>
     Gd (kP j5 true) (fun K => eY pg (gM 28 Yd 0) w K) w fun m2 w =>
     Gd (kP j5 true) (fun K => eY pg (fK 24 m2) w K) w fun m3 w =>
     Gd (kP j5 true) (fun K => eY pg (gO .eql 24 (.tmp 81) (.tmp 83) m1 m3) w K) w fun m4 w =>
     eY pg (lO j5 m4 (.bool false)) w fun m5 w =>
     Gd (kP m5 true) (fun K => K i9 w) w fun m7 w =>
     Gd (kP m5 true) (fun K => eY pg (jC m7) w K) w fun m8 w =>
     Gd (kP m5 true) (fun K => eY pg (gM 67 m8 4) w K) w fun m9 w =>
     Gd (kP m5 true) (fun K => eY pg (fK 45 m9) w K) w fun n0 w =>
     Gd (kP m5 true) (fun K => gS pg yV #[n0] w K) w fun n1 w =>
     eY pg (lO m5 n1 (.bool false)) w fun n2 w =>
     eY pg (jC i9) w fun n3 w =>
     eY pg (gM 67 n3 6) w fun n4 w =>
     eY pg (iF 4 n4 n2) w fun _u w =>
     gS pg nD #[i9] w fun n7 w =>
     eY pg (iW n7 0) w fun n8 w =>
     eY pg (iW n7 1) w fun n9 w =>
     eY pg (gO .neq 29 (.tmp 100) (.const (adT 0)) n9 (adT 0)) w fun o1 w =>
     lN o1
      (R (.tuple #[(.pointer none), n9]) w)
      (kn nQ e9 i9 n8 w)))))
theorem LS (kn : K4) (R : K1) (hn : N4 Q kn 0 8 10 13) (hr : HR rY R Q) (h : C9 kn R (g 0) (g 1) (g 2) w) : iU pg kU (gW 12 kG) Q g w :=
 lB (l := []) h hn hr trivial
def C6 (R : K1) (nQ vD Zm : adS) (w : adR) : Prop :=
 C9 (fun nQ GF nF F9 w => uO R nQ GF nF F9 w) R nQ vD Zm w
theorem Lt (R : K1) (hr : HR rY R Q) (h : C6 R (g 0) (g 1) (g 2) w) : iU pg kU kG Q g w :=
 uC 12 (LS _ g w (uO R) R (fun g w h => iA (uC 1 (Lk _ g w (wW R) R (fun g w h => iA (Mi _ g w R hr h)) hr h))) hr h)
def OF (a0 a1 a2 : adS) (w : adR) (R : K1) : Prop :=
 C6 R a0 a1 a2 w
theorem No {a0 a1 a2 : adS} {w : adR} {R : K1} (h : OF a0 a1 a2 w R) : gS pg rN #[a0, a1, a2] w R := by
 refine xA (ann := kU) Tryd.f10 kG [a0, a1, a2] rY 159 TrydM.mixed Tryd.func10 ?_
 exact (Lt _ _ _ R (fun _ _ h => h) h)
def qE : FA := ⟨jQ, fun i => match Nat.beq i 3 with | true => .leaf ([], []) [(false, []), (false, []), (false, []), (false, []), (false, []), (false, []), (false, []), (false, []), (false, []), (false, []), (false, []), (false, [])] | false => match Nat.beq i 5 with | true => .leaf ([], []) [(false, []), (false, []), (false, []), (false, []), (false, []), (false, []), (false, []), (false, []), (false, []), (false, []), (false, []), (false, []), (false, []), (false, [])] | false => match Nat.beq i 9 with | true => .split 12 17 (.perm [0, 1, 2, 3, 4, 5, 6, 7, 8, 9, 10, 11, 12, 13, 14, 15, 16, 17, 18, 19, 20] [(12, 17)] ([12, 17, 18], [(14, 17), (15, 17), (15, 18), (16, 17), (16, 18)]) [(false, []), (false, []), (false, []), (false, []), (false, []), (false, []), (false, []), (false, []), (false, []), (false, []), (false, []), (false, []), (true, []), (false, []), (false, []), (false, []), (false, []), (true, [0, 1, 2]), (true, [1, 2]), (false, []), (false, [])]) (.perm [0, 1, 2, 3, 4, 5, 6, 7, 8, 9, 10, 11, 17, 12, 13, 14, 15, 16, 18, 19, 20] [(17, 12)] ([12, 13, 18], [(0, 12), (1, 12), (2, 12), (3, 12), (4, 12), (5, 12), (6, 12), (7, 12), (8, 12), (9, 12), (10, 12), (11, 12), (16, 18), (17, 18)]) [(false, []), (false, []), (false, []), (false, []), (false, []), (false, []), (false, []), (false, []), (false, []), (false, []), (false, []), (false, []), (true, [0, 1, 2, 3, 4, 5, 6, 7, 8, 9, 10, 11]), (true, []), (false, []), (false, []), (false, []), (false, []), (true, [0, 1]), (false, []), (false, [])]) | false => match Nat.beq i 10 with | true => .leaf ([13, 14, 17], [(0, 13), (0, 14)]) [(false, []), (false, []), (false, []), (false, []), (false, []), (false, []), (false, []), (false, []), (false, []), (false, []), (false, []), (false, []), (false, []), (true, [12]), (true, [13]), (false, []), (false, []), (true, [])] | false => match Nat.beq i 11 with | true => .leaf ([11], []) [(false, []), (false, []), (false, []), (false, []), (false, []), (false, []), (false, []), (false, []), (false, []), (false, []), (false, []), (true, [])] | false => .leaf ([], []) []⟩
def rH : List ResultVar := [.tmp 6]
noncomputable def mZ : Code := iZ Tryd.f11
def mV (R : K1) (Lm HY RP O1 : adS) (w : adR) : Prop :=
 eY pg (fK 35 Lm) (dr w) fun j5 w_ => w_ = (dr w) /\
 eY pg (I7 (.func 33) [] [Lm, O1, RP]) (dr w) fun j6 w_ => w_ = (dr w) /\
 eY pg (fK 35 Lm) (dr w) fun j7 w_ => w_ = (dr w) /\
 eY pg (jC j7) (dr w) fun j8 w_ => w_ = (dr w) /\
 eY pg (gM 67 j8 0) (dr w) fun j9 w_ => w_ = (dr w) /\
 eY pg (fK 32 j9) (dr w) fun l0 w_ => w_ = (dr w) /\
 eY pg (I7 (.func 19) [l0] []) (dr w) fun l1 w_ => w_ = (dr w) /\
 eY pg (I7 (.func 34) [] [Lm, HY]) (dr w) fun l2 w_ => w_ = (dr w) /\
 eY pg (fK 35 Lm) (dr w) fun l3 w_ => w_ = (dr w) /\
 eY pg (jC l3) (dr w) fun l4 w_ => w_ = (dr w) /\
 eY pg (gM 67 l4 0) (dr w) fun l5 w_ => w_ = (dr w) /\
 eY pg (fK 32 l5) (dr w) fun l6 w_ => w_ = (dr w) /\
 eY pg (I7 (.func 19) [l6] []) (dr w) fun l7 w_ => w_ = (dr w) /\
 eY pg (iJ 98 4 [(0, j6), (1, l1), (2, l2), (3, l7)]) (dr w) fun l8 U4 =>
 (gN pg (fK 35 Lm) j5 U4 /\ True) /\
 gS pg wQ #[l8] U4 fun l9 Mk =>
 (gN pg (fK 35 Lm) j5 Mk /\ True) /\
 eY pg (jC j5) Mk fun m0 w_ => w_ = Mk /\
 eY pg (gM 67 m0 7) Mk fun m1 w_ => w_ = Mk /\
 eY pg (iF 29 m1 l9) Mk fun _u17 oZ =>
 eY pg (fK 35 Lm) (dr oZ) fun m2 w_ => w_ = (dr oZ) /\
 eY pg (jC m2) (dr oZ) fun m3 w_ => w_ = (dr oZ) /\
 eY pg (gM 67 m3 4) (dr oZ) fun m4 w_ => w_ = (dr oZ) /\
 eY pg (fK 45 m4) (dr oZ) fun m5 w_ => w_ = (dr oZ) /\
 eY pg (fK 3 HY) (dr oZ) fun m6 w_ => w_ = (dr oZ) /\
 eY pg (fK 35 Lm) (dr oZ) fun m7 w_ => w_ = (dr oZ) /\
 eY pg (jC m7) (dr oZ) fun m8 w_ => w_ = (dr oZ) /\
 eY pg (gM 67 m8 7) (dr oZ) fun m9 w_ => w_ = (dr oZ) /\
 eY pg (fK 29 m9) (dr oZ) fun n0 w_ => w_ = (dr oZ) /\
 eY pg (gO .eql 29 (.tmp 90) (.const (adT 0)) n0 (adT 0)) (dr oZ) fun n1 w_ => w_ = (dr oZ) /\
 eY pg (iH 45 m5 m6) (dr oZ) fun n2 w_ => w_ = (dr oZ) /\
 eY pg (iF 4 n2 n1) (dr oZ) fun _u11 OS =>
 eY pg (fK 35 Lm) OS fun n3 w =>
 eY pg (jC n3) w fun n4 w =>
 eY pg (gM 67 n4 7) w fun n5 w =>
 eY pg (fK 29 n5) w fun n6 w =>
 R n6 w
theorem HV (R : K1) (hr : HR rH R Q) (h : mV R (g 3) (g 4) (g 5) (g 7) w) : iU pg qE (fT 3 mZ) Q g w :=
 lB (kn := no) (l := []) h lZ hr trivial
def xM (kn : K4) (R : K1) (lD Yr Wb : adS) (w : adR) : Prop :=
 eY pg (Eh 35 lD) w fun Lm w =>
 eY pg (Eh 3 Yr) w fun HY w =>
 eY pg (Eh 22 Wb) w fun RP w =>
 eY pg (fK 35 Lm) w fun c1 w =>
 gS pg mA #[c1] w fun c2 w =>
 eY pg (gO .neq 29 (.tmp 12) (.const (adT 0)) c2 (adT 0)) w fun c3 w =>
 lN c3
  (eY pg (fK 35 Lm) w fun c4 w =>
  gS pg mA #[c4] w fun c5 w =>
  R c5 w)
  (eY pg (fK 3 HY) (dr w) fun c7 w_ => w_ = (dr w) /\
  eY pg (gO .lss 3 hU hU c7 (adT 0)) (dr w) fun c8 w_ => w_ = (dr w) /\
  (dr w) = (dr w) /\
  Gd (kP c8 false) (fun K => eY pg (fK 3 HY) (dr w) K) (dr w) fun d0 w_ => w_ = (dr w) /\
  Gd (kP c8 false) (fun K => eY pg (fK 35 Lm) (dr w) K) (dr w) fun d1 w_ => w_ = (dr w) /\
  Gd (kP c8 false) (fun K => eY pg (jC d1) (dr w) K) (dr w) fun d2 w_ => w_ = (dr w) /\
  Gd (kP c8 false) (fun K => eY pg (gM 67 d2 4) (dr w) K) (dr w) fun d3 w_ => w_ = (dr w) /\
  Gd (kP c8 false) (fun K => eY pg (fK 45 d3) (dr w) K) (dr w) fun d4 w_ => w_ = (dr w) /\
  Gd (kP c8 false) (fun K => eY pg (mO .len #[45] 3 [d4]) (dr w) K) (dr w) fun d5 w_ => w_ = (dr w) /\
  Gd (kP c8 false) (fun K => eY pg (gO .geq 3 hU hU d0 d5) (dr w) K) (dr w) fun d6 w_ => w_ = (dr w) /\
  eY pg (lO c8 (.bool true) d6) (dr w) fun d7 w_ => w_ = (dr w) /\
  (dr w) = (dr w) /\
  lN d7
   (R (adT 17) (dr w))
   (eY pg (fK 35 Lm) (dr (dr w)) fun d9 w_ => w_ = (dr (dr w)) /\
   eY pg (jC d9) (dr (dr w)) fun e0 w_ => w_ = (dr (dr w)) /\
   eY pg (gM 67 e0 6) (dr (dr w)) fun e1 w_ => w_ = (dr (dr w)) /\
   eY pg (fK 4 e1) (dr (dr w)) fun e2 w_ => w_ = (dr (dr w)) /\
   (dr (dr w)) = (dr (dr w)) /\
   Gd (kP e2 false) (fun K => eY pg (fK 35 Lm) (dr (dr w)) K) (dr (dr w)) fun e4 w_ => w_ = (dr (dr w)) /\
   Gd (kP e2 false) (fun K => eY pg (jC e4) (dr (dr w)) K) (dr (dr w)) fun e5 w_ => w_ = (dr (dr w)) /\
   Gd (kP e2 false) (fun K => eY pg (gM 67 e5 4) (dr (dr w)) K) (dr (dr w)) fun e6 w_ => w_ = (dr (dr w)) /\
   Gd (kP e2 false) (fun K => eY pg (fK 45 e6) (dr (dr w)) K) (dr (dr w)) fun e7 w_ => w_ = (dr (dr w)) /\
   Gd (kP e2 false) (fun K => eY pg (fK 3 HY) (dr (dr w)) K) (dr (dr w)) fun e8 w_ => w_ = (dr (dr w)) /\
   Gd (kP e2 false) (fun K => eY pg (iH 45 e7 e8) (dr (dr w)) K) (dr (dr w)) fun e9 w_ => w_ = (dr (dr w)) /\
   Gd (kP e2 false) (fun K => eY pg (fK 4 e9) (dr (dr w)) K) (dr (dr w)) fun f0 w_ => w_ = (dr (dr w)) /\
   eY pg (lO e2 (.bool true) f0) (dr (dr w)) fun f1 w_ => w_ = (dr (dr w)) /\
   (dr (dr w)) = (dr (dr w)) /\
   lN f1
    (R (adT 0) (dr (dr w)))
    (eY pg (fK 35 Lm) (dr (dr w)) fun f3 w =>
    eY pg (fK 3 HY) w fun f4 w =>
    eY pg (fK 22 RP) w fun f5 w =>
    gS pg nX #[f3, f4, f5] w fun f6 w =>
    eY pg (Kr .not f6) w fun f7 w =>
    lN f7
     (R (adT 13) w)
     (Ord (Wu jQ 9 (J7 9 mZ) 12 17 w)
      (eY pg (fK 35 Lm) (dr w) fun f9 w_ => w_ = (dr w) /\
      eY pg (jC f9) (dr w) fun i0 w_ => w_ = (dr w) /\
      eY pg (gM 67 i0 2) (dr w) fun i1 w_ => w_ = (dr w) /\
      eY pg (gM 28 i1 0) (dr w) fun i2 w_ => w_ = (dr w) /\
      eY pg (fK 24 i2) (dr w) fun i3 w_ => w_ = (dr w) /\
      eY pg (fK 35 Lm) (dr w) fun i4 w_ => w_ = (dr w) /\
      eY pg (jC i4) (dr w) fun i5 w_ => w_ = (dr w) /\
      eY pg (gM 67 i5 2) (dr w) fun i6 w_ => w_ = (dr w) /\
      eY pg (gM 28 i6 1) (dr w) fun i7 w_ => w_ = (dr w) /\
      eY pg (fK 25 i7) (dr w) fun i8 w_ => w_ = (dr w) /\
      eY pg (lC 25 3 i8) (dr w) fun i9 w_ => w_ = (dr w) /\
      eY pg (fK 3 HY) (dr w) fun j0 w_ => w_ = (dr w) /\
      gS pg pN #[i3, i9, j0] (dr w) fun j1 vB =>
      vB = vB /\
      eY pg (iW j1 0) vB fun j2 w_ => w_ = vB /\
      eY pg (iW j1 1) vB fun j3 w_ => w_ = vB /\
      eY pg (iW j1 2) vB fun j4 w_ => w_ = vB /\
      eY pg (lP 24) vB fun O1 Tt =>
      (gN pg (iW j1 2) j4 Tt /\ gN pg (iW j1 1) j3 Tt /\ gN pg (iW j1 0) j2 Tt /\ True) /\
      eY pg (iF 24 O1 j2) Tt fun _u18 Dz =>
      (gN pg (iW j1 2) j4 Dz /\ gN pg (iW j1 1) j3 Dz /\ True) /\
      Dz = Dz /\
      Dz = Dz /\
      kn Lm HY RP O1 Dz)
      (eY pg (fK 35 Lm) (dr w) fun f9 w_ => w_ = (dr w) /\
      eY pg (jC f9) (dr w) fun i0 w_ => w_ = (dr w) /\
      eY pg (gM 67 i0 2) (dr w) fun i1 w_ => w_ = (dr w) /\
      eY pg (gM 28 i1 0) (dr w) fun i2 w_ => w_ = (dr w) /\
      eY pg (fK 24 i2) (dr w) fun i3 w_ => w_ = (dr w) /\
      eY pg (fK 35 Lm) (dr w) fun i4 w_ => w_ = (dr w) /\
      eY pg (jC i4) (dr w) fun i5 w_ => w_ = (dr w) /\
      eY pg (gM 67 i5 2) (dr w) fun i6 w_ => w_ = (dr w) /\
      eY pg (gM 28 i6 1) (dr w) fun i7 w_ => w_ = (dr w) /\
      eY pg (fK 25 i7) (dr w) fun i8 w_ => w_ = (dr w) /\
      eY pg (lC 25 3 i8) (dr w) fun i9 w_ => w_ = (dr w) /\
      eY pg (fK 3 HY) (dr w) fun j0 w_ => w_ = (dr w) /\
      eY pg (lP 24) (dr w) fun O1 vB =>
      (gN pg (fK 3 HY) j0 vB /\ gN pg (lC 25 3 i8) i9 vB /\ gN pg (fK 25 i7) i8 vB /\ gN pg (gM 28 i6 1) i7 vB /\ gN pg (gM 67 i5 2) i6 vB /\ gN pg (jC i4) i5 vB /\ gN pg (fK 35 Lm) i4 vB /\ gN pg (fK 24 i2) i3 vB /\ gN pg (gM 28 i1 0) i2 vB /\ gN pg (gM 67 i0 2) i1 vB /\ gN pg (jC f9) i0 vB /\ gN pg (fK 35 Lm) f9 vB /\ True) /\
      gS pg pN #[i3, i9, j0] vB fun j1 LD =>
      LD = LD /\
      eY pg (iW j1 0) LD fun j2 w_ => w_ = LD /\
      eY pg (iW j1 1) LD fun j3 w_ => w_ = LD /\
      eY pg (iW j1 2) LD fun j4 w_ => w_ = LD /\
      eY pg (iF 24 O1 j2) LD fun _u18 Dz =>
      (gN pg (iW j1 2) j4 Dz /\ gN pg (iW j1 1) j3 Dz /\ True) /\
      Dz = Dz /\
      Dz = Dz /\
      kn Lm HY RP O1 Dz)))))
theorem HJ (kn : K4) (R : K1) (hn : N4 Q kn 3 4 5 7) (hr : HR rH R Q) (h : xM kn R (g 0) (g 1) (g 2) w) : iU pg qE (gW 3 mZ) Q g w :=
 lB (l := []) h hn hr trivial
def xZ (R : K1) (lD Yr Wb : adS) (w : adR) : Prop :=
 xM (fun Lm HY RP O1 w => mV R Lm HY RP O1 w) R lD Yr Wb w
theorem H6 (R : K1) (hr : HR rH R Q) (h : xZ R (g 0) (g 1) (g 2) w) : iU pg qE mZ Q g w :=
 uC 3 (HJ _ g w (mV R) R (fun g w h => iA (HV _ g w R hr h)) hr h)
def HC (a0 a1 a2 : adS) (w : adR) (R : K1) : Prop :=
 xZ R a0 a1 a2 w
theorem Jg {a0 a1 a2 : adS} {w : adR} {R : K1} (h : HC a0 a1 a2 w R) : gS pg jQ #[a0, a1, a2] w R := by
 refine xA (ann := qE) Tryd.f11 mZ [a0, a1, a2] rH 97 TrydM.mixed Tryd.func11 ?_
 exact (H6 _ _ _ R (fun _ _ h => h) h)
def AD : FA := ⟨lW, fun i => match Nat.beq i 7 with | true => .leaf ([9], []) [(false, []), (false, []), (false, []), (false, []), (false, []), (false, []), (false, []), (false, []), (false, []), (true, []), (false, []), (false, []), (false, []), (false, []), (false, [])] | false => match Nat.beq i 11 with | true => .leaf ([3, 6], [(0, 3)]) [(false, []), (false, []), (false, []), (true, [2]), (false, []), (false, []), (true, [])] | false => match Nat.beq i 14 with | true => .leaf ([7, 8, 11], [(0, 7), (0, 8)]) [(false, []), (false, []), (false, []), (false, []), (false, []), (false, []), (false, []), (true, [6]), (true, [7]), (false, []), (false, []), (true, [])] | false => match Nat.beq i 15 with | true => .leaf ([8], []) [(false, []), (false, []), (false, []), (false, []), (false, []), (false, []), (false, []), (false, []), (true, [])] | false => .leaf ([], []) []⟩
def AG : List ResultVar := [.tmp 2]
noncomputable def yU : Code := iZ Tryd.f12
def sT (R : K1) (lD : adS) (w : adR) : Prop :=
 eY pg (Eh 35 lD) w fun Qh w =>
 eY pg (fK 35 Qh) w fun b6 w =>
 gS pg mA #[b6] w fun b7 w =>
 eY pg (gO .neq 29 (.tmp 7) (.const (adT 0)) b7 (adT 0)) w fun b8 w =>
 lN b8
  (eY pg (fK 35 Qh) w fun b9 w =>
  gS pg mA #[b9] w fun c0 w =>
  R c0 w)
  (eY pg (fK 35 Qh) w fun c2 w =>
  eY pg (jC c2) w fun c3 w =>
  eY pg (gM 67 c3 6) w fun c4 w =>
  eY pg (fK 4 c4) w fun c5 w =>
  lN c5
   (R (adT 0) w)
   (eY pg (fK 35 Qh) w fun c7 w =>
   eY pg (jC c7) w fun c8 w =>
   eY pg (gM 67 c8 4) w fun c9 w =>
   eY pg (fK 45 c9) w fun d0 w =>
   gS pg yV #[d0] w fun d1 w =>
   eY pg (Kr .not d1) w fun d2 w =>
   lN d2
    (R (adT 30) w)
    (eY pg (fK 35 Qh) (dr w) fun d4 w_ => w_ = (dr w) /\
    eY pg (jC d4) (dr w) fun d5 w_ => w_ = (dr w) /\
    eY pg (gM 67 d5 0) (dr w) fun d6 w_ => w_ = (dr w) /\
    eY pg (fK 32 d6) (dr w) fun d7 w_ => w_ = (dr w) /\
    eY pg (fK 35 Qh) (dr w) fun d8 w_ => w_ = (dr w) /\
    eY pg (jC d8) (dr w) fun d9 w_ => w_ = (dr w) /\
    eY pg (gM 67 d9 1) (dr w) fun e0 w_ => w_ = (dr w) /\
    eY pg (fK 9 e0) (dr w) fun e1 w_ => w_ = (dr w) /\
    eY pg (gO .add 9 hU hU e1 (.string ⟨#[46, 112, 97, 114, 116]⟩)) (dr w) fun e2 w_ => w_ = (dr w) /\
    gS pg lE #[d7, e2] (dr w) fun e3 IT =>
    IT = IT /\
    eY pg (iW e3 0) IT fun e4 w_ => w_ = IT /\
    eY pg (iW e3 1) IT fun e5 w_ => w_ = IT /\
    IT = IT /\
    IT = IT /\
    eY pg (gO .neq 29 (.tmp 36) (.const (adT 0)) e5 (adT 0)) IT fun e7 w =>
    lN e7
     (eY pg (fK 35 Qh) w fun e8 w =>
     eY pg (jC e8) w fun f0 w =>
     eY pg (gM 67 f0 7) w fun f1 w =>
     eY pg (iF 29 f1 e5) w fun _u w =>
     R e5 w)
     (eY pg (fK 35 Qh) (dr w) fun f3 w_ => w_ = (dr w) /\
     eY pg (fK 35 Qh) (dr w) fun f4 w_ => w_ = (dr w) /\
     (dr w) = (dr w) /\
     gS pg lT #[f4, e4] (dr w) fun f6 P7 =>
     (gN pg (fK 35 Qh) f3 P7 /\ True) /\
     eY pg (jC f3) P7 fun f7 w_ => w_ = P7 /\
     eY pg (gM 67 f7 4) P7 fun f8 w_ => w_ = P7 /\
     eY pg (iF 45 f8 f6) P7 fun _u6 YS =>
     eY pg (fK 35 Qh) YS fun f9 w =>
     eY pg (jC f9) w fun i0 w =>
     eY pg (gM 67 i0 4) w fun i1 w =>
     eY pg (fK 45 i1) w fun i2 w =>
     gS pg yV #[i2] w fun i3 w =>
     eY pg (Kr .not i3) w fun i4 w =>
     lN i4
      (R (adT 13) w)
      (eY pg (fK 35 Qh) (dr w) fun i5 w_ => w_ = (dr w) /\
      eY pg (I7 (.func 36) [] [Qh]) (dr w) fun i6 w_ => w_ = (dr w) /\
      eY pg (fK 35 Qh) (dr w) fun i7 w_ => w_ = (dr w) /\
      eY pg (jC i7) (dr w) fun i8 w_ => w_ = (dr w) /\
      eY pg (gM 67 i8 0) (dr w) fun i9 w_ => w_ = (dr w) /\
      eY pg (fK 32 i9) (dr w) fun j0 w_ => w_ = (dr w) /\
      eY pg (I7 (.func 19) [j0] []) (dr w) fun j1 w_ => w_ = (dr w) /\
      eY pg (iJ 98 2 [(0, i6), (1, j1)]) (dr w) fun j2 XE =>
      (gN pg (fK 35 Qh) i5 XE /\ True) /\
      gS pg wQ #[j2] XE fun j3 Qc =>
      (gN pg (fK 35 Qh) i5 Qc /\ True) /\
      eY pg (jC i5) Qc fun j4 w_ => w_ = Qc /\
      eY pg (gM 67 j4 7) Qc fun j5 w_ => w_ = Qc /\
      eY pg (iF 29 j5 j3) Qc fun _u11 uK =>
      eY pg (fK 35 Qh) (dr uK) fun j6 w_ => w_ = (dr uK) /\
      eY pg (fK 35 Qh) (dr uK) fun j7 w_ => w_ = (dr uK) /\
      eY pg (jC j7) (dr uK) fun j8 w_ => w_ = (dr uK) /\
      eY pg (gM 67 j8 7) (dr uK) fun j9 w_ => w_ = (dr uK) /\
      eY pg (fK 29 j9) (dr uK) fun l0 w_ => w_ = (dr uK) /\
      eY pg (gO .eql 29 (.tmp 70) (.const (adT 0)) l0 (adT 0)) (dr uK) fun l1 w_ => w_ = (dr uK) /\
      eY pg (jC j6) (dr uK) fun l2 w_ => w_ = (dr uK) /\
      eY pg (gM 67 l2 6) (dr uK) fun l3 w_ => w_ = (dr uK) /\
      eY pg (iF 4 l3 l1) (dr uK) fun _u8 YL =>
      eY pg (fK 35 Qh) YL fun l4 w =>
      eY pg (jC l4) w fun l5 w =>
      eY pg (gM 67 l5 7) w fun l6 w =>
      eY pg (fK 29 l6) w fun l7 w =>
      R l7 w)))))
theorem FJ (R : K1) (hr : HR AG R Q) (h : sT R (g 0) w) : iU pg AD yU Q g w :=
 lB (kn := no) (l := []) h lZ hr trivial
def D8 (a0 : adS) (w : adR) (R : K1) : Prop :=
 sT R a0 w
theorem F5 {a0 : adS} {w : adR} {R : K1} (h : D8 a0 w R) : gS pg lW #[a0] w R := by
 refine xA (ann := AD) Tryd.f12 yU [a0] AG 78 TrydM.mixed Tryd.func12 ?_
 exact (FJ _ _ _ R (fun _ _ h => h) h)
def DC : FA := ⟨lE, fun i => .leaf ([], []) []⟩
def Et : List ResultVar := [.tmp 4, .tmp 5]
noncomputable def Cn : Code := iZ Tryd.f13
def Ae (R : K1) (nQ vD : adS) (w : adR) : Prop :=
 gS pg nG #[nQ] w fun c0 w =>
 eY pg (gO .neq 29 (.tmp 11) (.const (adT 0)) c0 (adT 0)) w fun c2 w =>
 lN c2
  (R (.tuple #[(.slice none 0 0), c0]) w)
  (eY pg (jC nQ) w fun c6 w =>
  eY pg (gM 64 c6 2) w fun c7 w =>
  eY pg (fK 61 c7) w fun c8 w =>
  eY pg (zZ 61 c8 vD true) w fun d0 w =>
  eY pg (iW d0 0) w fun d1 w =>
  eY pg (iW d0 1) w fun d2 w =>
  eY pg (Kr .not d2) w fun d4 w =>
  lN d4
   (R (.tuple #[(.slice none 0 0), (adT 21)]) w)
   (gS pg kS #[d1] w fun d6 w =>
   R (.tuple #[d6, (adT 0)]) w))
theorem Jn (R : K1) (hr : HR Et R Q) (h : Ae R (g 0) (g 1) w) : iU pg DC Cn Q g w :=
 lB (kn := no) (l := []) h lZ hr trivial
def I6 (a0 a1 : adS) (w : adR) (R : K1) : Prop :=
 Ae R a0 a1 w
theorem JV {a0 a1 : adS} {w : adR} {R : K1} (h : I6 a0 a1 w R) : gS pg lE #[a0, a1] w R := by
 refine xA (ann := DC) Tryd.f13 Cn [a0, a1] Et 27 TrydM.mixed Tryd.func13 ?_
 exact (Jn _ _ _ R (fun _ _ h => h) h)
def BD : FA := ⟨oY, fun i => .leaf ([], []) []⟩
def Cu : List ResultVar := [.tmp 2]
noncomputable def AV : Code := iZ Tryd.f14
def wG (R : K1) (lD : adS) (w : adR) : Prop :=
 eY pg (gO .neq 35 (.tmp 3) (.const (.pointer none)) lD (.pointer none)) w fun b4 w =>
 Gd (kP b4 true) (fun K => K lD w) w fun b6 w =>
 Gd (kP b4 true) (fun K => eY pg (jC b6) w K) w fun b7 w =>
 Gd (kP b4 true) (fun K => eY pg (gM 67 b7 6) w K) w fun b8 w =>
 Gd (kP b4 true) (fun K => eY pg (fK 4 b8) w K) w fun b9 w =>
 eY pg (lO b4 b9 (.bool false)) w fun c0 w =>
 R c0 w
theorem GQ (R : K1) (hr : HR Cu R Q) (h : wG R (g 0) w) : iU pg BD AV Q g w :=
 lB (kn := no) (l := []) h lZ hr trivial
def F4 (a0 : adS) (w : adR) (R : K1) : Prop :=
 wG R a0 w
theorem HL {a0 : adS} {w : adR} {R : K1} (h : F4 a0 w R) : gS pg oY #[a0] w R := by
 refine xA (ann := BD) Tryd.f14 AV [a0] Cu 11 TrydM.mixed Tryd.func14 ?_
 exact (GQ _ _ _ R (fun _ _ h => h) h)
def AW : FA := ⟨mI, fun i => .leaf ([], []) []⟩
def BY : List ResultVar := [.tmp 2]
noncomputable def Aq : Code := iZ Tryd.f15
def uI (R : K1) (lD : adS) (w : adR) : Prop :=
 eY pg (gO .eql 35 (.tmp 3) (.const (.pointer none)) lD (.pointer none)) w fun b4 w =>
 lN b4
  (R (.int .u64 0) w)
  (eY pg (jC lD) w fun b6 w =>
  eY pg (gM 67 b6 3) w fun b7 w =>
  eY pg (fK 24 b7) w fun b8 w =>
  R b8 w)
theorem GJ (R : K1) (hr : HR BY R Q) (h : uI R (g 0) w) : iU pg AW Aq Q g w :=
 lB (kn := no) (l := []) h lZ hr trivial
def EK (a0 : adS) (w : adR) (R : K1) : Prop :=
 uI R a0 w
theorem Hg {a0 : adS} {w : adR} {R : K1} (h : EK a0 w R) : gS pg mI #[a0] w R := by
 refine xA (ann := AW) Tryd.f15 Aq [a0] BY 9 TrydM.mixed Tryd.func15 ?_
 exact (GJ _ _ _ R (fun _ _ h => h) h)
def Cy : FA := ⟨kM, fun i => match Nat.beq i 9 with | true => .leaf ([4], [(4, 7), (4, 8), (4, 10), (4, 11), (4, 14), (4, 15), (4, 16)]) [(false, []), (false, []), (false, []), (false, []), (true, []), (false, []), (false, []), (false, [2]), (false, [3]), (false, []), (false, [5]), (false, [6]), (false, []), (false, []), (false, [9]), (false, [10]), (false, [11]), (false, []), (false, [])] | false => .leaf ([], []) []⟩
def DI : List ResultVar := [.tmp 8]
noncomputable def Bz : Code := iZ Tryd.f16
def xK (R : K1) (nQ vD VG SR : adS) (w : adR) : Prop :=
 gS pg nG #[nQ] w fun c2 w =>
 eY pg (gO .neq 29 (.tmp 13) (.const (adT 0)) c2 (adT 0)) w fun c4 w =>
 lN c4
  (R c2 w)
  (eY pg (jC nQ) w fun c7 w =>
  eY pg (gM 64 c7 2) w fun c8 w =>
  eY pg (fK 61 c8) w fun c9 w =>
  eY pg (zZ 61 c9 vD false) w fun d1 w =>
  eY pg (mO .len #[22] 3 [d1]) w fun d2 w =>
  gS pg A9 #[vD] w fun d5 w =>
  eY pg (Kr .not d5) w fun d6 w =>
  Gd (kP d6 false) (fun K => K VG w) w fun d8 w =>
  Gd (kP d6 false) (fun K => eY pg (gO .lss 3 hU hU d8 (adT 0)) w K) w fun d9 w =>
  eY pg (lO d6 (.bool true) d9) w fun e0 w =>
  lN e0
   (R (adT 1) w)
   (eY pg (gO .gtr 3 hU hU VG d2) w fun e4 w =>
   lN e4
    (R (adT 17) w)
    ((dr w) = (dr w) /\
    eY pg (jC nQ) (dr w) fun e7 w_ => w_ = (dr w) /\
    eY pg (gM 64 e7 2) (dr w) fun e8 w_ => w_ = (dr w) /\
    eY pg (fK 61 e8) (dr w) fun e9 w_ => w_ = (dr w) /\
    gS pg tP #[e9] (dr w) fun f0 zE =>
    zE = zE /\
    zE = zE /\
    eY pg (mO .len #[22] 3 [SR]) zE fun f3 w_ => w_ = zE /\
    (gN pg (mO .len #[22] 3 [SR]) f3 (dr w) /\ True) /\
    eY pg (gO .add 3 hU hU VG f3) zE fun f4 w_ => w_ = zE /\
    (gN pg (gO .add 3 hU hU VG f3) f4 (dr w) /\ True) /\
    zE = zE /\
    eY pg (gO .sub 3 hU hU f4 d2) zE fun f6 w_ => w_ = zE /\
    (gN pg (gO .sub 3 hU hU f4 d2) f6 (dr w) /\ True) /\
    eY pg (mO .max #[3, 3] 3 [f6, (adT 0)]) zE fun f7 w_ => w_ = zE /\
    (gN pg (mO .max #[3, 3] 3 [f6, (adT 0)]) f7 (dr w) /\ True) /\
    eY pg (gO .add 3 hU hU f0 f7) zE fun f8 w_ => w_ = zE /\
    zE = zE /\
    eY pg (jC nQ) zE fun i0 w_ => w_ = zE /\
    (gN pg (jC nQ) i0 (dr w) /\ True) /\
    eY pg (gM 64 i0 0) zE fun i1 w_ => w_ = zE /\
    (gN pg (gM 64 i0 0) i1 (dr w) /\ True) /\
    eY pg (fK 3 i1) zE fun i2 w_ => w_ = zE /\
    (gN pg (fK 3 i1) i2 (dr w) /\ True) /\
    eY pg (gO .gtr 3 hU hU f8 i2) zE fun i3 w_ => w_ = zE /\
    zE = zE /\
    lN i3
     (R (adT 22) zE)
     (gS pg kS #[SR] zE fun i8 w =>
     eY pg (lI 88 [(0, (adT 0)), (1, vD), (3, VG), (4, i8)]) w fun i9 w =>
     gS pg oP #[nQ, i9] w fun j0 w =>
     R j0 w))))
theorem HI (R : K1) (hr : HR DI R Q) (h : xK R (g 0) (g 1) (g 2) (g 3) w) : iU pg Cy Bz Q g w :=
 lB (kn := no) (l := []) h lZ hr trivial
def Hz (a0 a1 a2 a3 : adS) (w : adR) (R : K1) : Prop :=
 xK R a0 a1 a2 a3 w
theorem IM {a0 a1 a2 a3 : adS} {w : adR} {R : K1} (h : Hz a0 a1 a2 a3 w R) : gS pg kM #[a0, a1, a2, a3] w R := by
 refine xA (ann := Cy) Tryd.f16 Bz [a0, a1, a2, a3] DI 61 TrydM.mixed Tryd.func16 ?_
 exact (HI _ _ _ R (fun _ _ h => h) h)
def BW : FA := ⟨oT, fun i => .leaf ([], []) []⟩
def Cr : List ResultVar := [.tmp 2]
noncomputable def AI : Code := iZ Tryd.f17
def wM (R : K1) (lD : adS) (w : adR) : Prop :=
 eY pg (gO .eql 35 (.tmp 3) (.const (.pointer none)) lD (.pointer none)) w fun b4 w =>
 lN b4
  (R (.slice none 0 0) w)
  (eY pg (jC lD) w fun b6 w =>
  eY pg (gM 67 b6 4) w fun b7 w =>
  eY pg (fK 45 b7) w fun b8 w =>
  gS pg oF #[b8] w fun b9 w =>
  R b9 w)
theorem Hd (R : K1) (hr : HR Cr R Q) (h : wM R (g 0) w) : iU pg BW AI Q g w :=
 lB (kn := no) (l := []) h lZ hr trivial
def GH (a0 : adS) (w : adR) (R : K1) : Prop :=
 wM R a0 w
theorem HW {a0 : adS} {w : adR} {R : K1} (h : GH a0 w R) : gS pg oT #[a0] w R := by
 refine xA (ann := BW) Tryd.f17 AI [a0] Cr 10 TrydM.mixed Tryd.func17 ?_
 exact (Hd _ _ _ R (fun _ _ h => h) h)
def Hr : FA := ⟨rX, fun i => .leaf ([], []) []⟩
def II : List ResultVar := [.cell 2 49]
noncomputable def Gq : Code := iZ Tryd.f18
def Dc (R : K1) (AE : adS) (w : adR) : Prop :=
 eY pg (lP 49) w fun b2 w =>
 eY pg (iJ 22 1 [(0, (.int .u8 0))]) w fun b3 w =>
 eY pg (mO .append #[22, 22] 22 [b3, AE]) w fun b5 w =>
 gS pg I0 #[b5] w fun b6 w =>
 eY pg (iF 49 b2 b6) w fun _u w =>
 U3 pg 49 b2 w fun r0 => R r0 w
theorem L2 (R : K1) (hr : HR II R Q) (h : Dc R (g 0) w) : iU pg Hr Gq Q g w :=
 lB (kn := no) (l := []) h lZ hr trivial
def M7 (a0 : adS) (w : adR) (R : K1) : Prop :=
 Dc R a0 w
theorem Mw {a0 : adS} {w : adR} {R : K1} (h : M7 a0 w R) : gS pg rX #[a0] w R := by
 refine xA (ann := Hr) Tryd.f18 Gq [a0] II 7 TrydM.mixed Tryd.func18 ?_
 exact (L2 _ _ _ R (fun _ _ h => h) h)
def D4 : FA := ⟨jP, fun i => .leaf ([], []) []⟩
def EI : List ResultVar := [.tmp 2]
noncomputable def Cx : Code := iZ Tryd.f19
def Af (R : K1) (nQ : adS) (w : adR) : Prop :=
 gS pg nG #[nQ] w fun b5 w =>
 eY pg (gO .neq 29 (.tmp 6) (.const (adT 0)) b5 (adT 0)) w fun b7 w =>
 lN b7
  (R b5 w)
  (gS pg pQ #[nQ] w fun c0 w =>
  lN c0
   (R (adT 20) w)
   (eY pg (jC nQ) w fun c4 w =>
   eY pg (gM 64 c4 2) w fun c5 w =>
   eY pg (fK 61 c5) w fun c6 w =>
   gS pg Aw #[c6] w fun c7 w =>
   eY pg (jC nQ) w fun c8 w =>
   eY pg (gM 64 c8 1) w fun c9 w =>
   eY pg (iF 61 c9 c7) w fun _u w =>
   eY pg (jC nQ) w fun d0 w =>
   eY pg (gM 64 d0 3) w fun d1 w =>
   eY pg (iF 62 d1 (.slice none 0 0)) w fun _u w =>
   R (adT 0) w))
theorem IU (R : K1) (hr : HR EI R Q) (h : Af R (g 0) w) : iU pg D4 Cx Q g w :=
 lB (kn := no) (l := []) h lZ hr trivial
def Jk (a0 : adS) (w : adR) (R : K1) : Prop :=
 Af R a0 w
theorem JQ {a0 : adS} {w : adR} {R : K1} (h : Jk a0 w R) : gS pg jP #[a0] w R := by
 refine xA (ann := D4) Tryd.f19 Cx [a0] EI 22 TrydM.mixed Tryd.func19 ?_
 exact (IU _ _ _ R (fun _ _ h => h) h)
def Cz : FA := ⟨mA, fun i => .leaf ([], []) []⟩
def CW : List ResultVar := [.tmp 2]
noncomputable def BR : Code := iZ Tryd.f20
def xP (R : K1) (lD : adS) (w : adR) : Prop :=
 eY pg (gO .eql 35 (.tmp 3) (.const (.pointer none)) lD (.pointer none)) w fun b4 w =>
 lN b4
  (R (adT 1) w)
  (eY pg (jC lD) w fun b6 w =>
  eY pg (gM 67 b6 7) w fun b7 w =>
  eY pg (fK 29 b7) w fun b8 w =>
  R b8 w)
theorem H8 (R : K1) (hr : HR CW R Q) (h : xP R (g 0) w) : iU pg Cz BR Q g w :=
 lB (kn := no) (l := []) h lZ hr trivial
def HG (a0 : adS) (w : adR) (R : K1) : Prop :=
 xP R a0 w
theorem Jc {a0 : adS} {w : adR} {R : K1} (h : HG a0 w R) : gS pg mA #[a0] w R := by
 refine xA (ann := Cz) Tryd.f20 BR [a0] CW 9 TrydM.mixed Tryd.func20 ?_
 exact (H8 _ _ _ R (fun _ _ h => h) h)
def xB : FA := ⟨rW, fun i => .leaf ([], []) []⟩
def Ai : List ResultVar := [.tmp 4, .tmp 5]
noncomputable def vU : Code := iZ Tryd.f23
def oU (R : K1) (Sd : adS) (w : adR) : Prop :=
 eY pg (gO .gtr 24 hU hU Sd (.int .u64 1024)) w fun d5 w =>
 lN d5
  (R (.tuple #[(adT 0), (adT 12)]) w)
  (eY pg (lC 24 3 Sd) w fun d7 w =>
  R (.tuple #[d7, (adT 0)]) w)
theorem Lh (R : K1) (hr : HR Ai R Q) (h : oU R (g 6) w) : iU pg xB (fT 4 vU) Q g w :=
 lB (kn := no) (l := []) h lZ hr trivial
def Dg (kn : K1) (R : K1) (Kt kJ : adS) (w : adR) : Prop :=
 eY pg (gO .lss 3 hU hU kJ (adT 1)) w fun b8 w =>
 Gd (kP b8 false) (fun K => K kJ w) w fun c0 w =>
 Gd (kP b8 false) (fun K => eY pg (gO .gtr 3 hU hU c0 (adT 65536)) w K) w fun c1 w =>
 eY pg (lO b8 (.bool true) c1) w fun c2 w =>
 lN c2
  (R (.tuple #[(adT 0), (adT 1)]) w)
  (eY pg (lC 3 24 kJ) w fun c5 w =>
  eY pg (gO .quo 24 hU hU Kt c5) w fun c6 w =>
  eY pg (lC 3 24 kJ) w fun c9 w =>
  eY pg (gO .rem 24 hU hU Kt c9) w fun d0 w =>
  eY pg (gO .gtr 24 hU hU d0 (.int .u64 0)) w fun d1 w =>
  lN d1
   (eY pg (gO .add 24 hU hU c6 (.int .u64 1)) w fun d3 w =>
   kn d3 w)
   (kn c6 w))
theorem Ll (kn : K1) (R : K1) (hn : N1 Q kn 6) (hr : HR Ai R Q) (h : Dg kn R (g 0) (g 1) w) : iU pg xB (gW 4 vU) Q g w :=
 lB (l := []) h hn hr trivial
def DO (R : K1) (Kt kJ : adS) (w : adR) : Prop :=
 Dg (fun Sd w => oU R Sd w) R Kt kJ w
theorem Ln (R : K1) (hr : HR Ai R Q) (h : DO R (g 0) (g 1) w) : iU pg xB vU Q g w :=
 uC 4 (Ll _ g w (oU R) R (fun g w h => iA (Lh _ g w R hr h)) hr h)
def M9 (a0 a1 : adS) (w : adR) (R : K1) : Prop :=
 DO R a0 a1 w
theorem L9 {a0 a1 : adS} {w : adR} {R : K1} (h : M9 a0 a1 w R) : gS pg rW #[a0, a1] w R := by
 refine xA (ann := xB) Tryd.f23 vU [a0, a1] Ai 28 TrydM.mixed Tryd.func23 ?_
 exact (Ln _ _ _ R (fun _ _ h => h) h)
def IA : FA := ⟨pN, fun i => .leaf ([], []) []⟩
def J2 : List ResultVar := [.tmp 6, .tmp 7, .tmp 8]
noncomputable def Ht : Code := iZ Tryd.f24
def Fp (R : K1) (Kt kJ Zh : adS) (w : adR) : Prop :=
 gS pg rW #[Kt, kJ] w fun c5 w =>
 eY pg (iW c5 0) w fun c6 w =>
 eY pg (iW c5 1) w fun c7 w =>
 eY pg (gO .neq 29 (.tmp 19) (.const (adT 0)) c7 (adT 0)) w fun d0 w =>
 lN d0
  (R (.tuple #[(.int .u64 0), (adT 0), c7]) w)
  (eY pg (gO .lss 3 hU hU Zh (adT 0)) w fun d4 w =>
  Gd (kP d4 false) (fun K => K Zh w) w fun d6 w =>
  Gd (kP d4 false) (fun K => K c6 w) w fun d7 w =>
  Gd (kP d4 false) (fun K => eY pg (gO .geq 3 hU hU d6 d7) w K) w fun d8 w =>
  eY pg (lO d4 (.bool true) d8) w fun d9 w =>
  lN d9
   (R (.tuple #[(.int .u64 0), (adT 0), (adT 17)]) w)
   (eY pg (lC 3 24 kJ) w fun e1 w =>
   eY pg (lC 3 24 Zh) w fun e3 w =>
   eY pg (gO .mul 24 hU hU e1 e3) w fun e4 w =>
   eY pg (gO .sub 24 hU hU Kt e4) w fun e8 w =>
   eY pg (lC 3 24 kJ) w fun f0 w =>
   eY pg (mO .min #[24, 24] 24 [e8, f0]) w fun f1 w =>
   eY pg (lC 24 3 f1) w fun f2 w =>
   R (.tuple #[e4, f2, (adT 0)]) w))
theorem Mv (R : K1) (hr : HR J2 R Q) (h : Fp R (g 0) (g 1) (g 2) w) : iU pg IA Ht Q g w :=
 lB (kn := no) (l := []) h lZ hr trivial
def NS (a0 a1 a2 : adS) (w : adR) (R : K1) : Prop :=
 Fp R a0 a1 a2 w
theorem Nj {a0 a1 a2 : adS} {w : adR} {R : K1} (h : NS a0 a1 a2 w R) : gS pg pN #[a0, a1, a2] w R := by
 refine xA (ann := IA) Tryd.f24 Ht [a0, a1, a2] J2 43 TrydM.mixed Tryd.func24 ?_
 exact (Mv _ _ _ R (fun _ _ h => h) h)
def AM : FA := ⟨qC, fun i => .leaf ([], []) []⟩
def BA : List ResultVar := [.tmp 2]
noncomputable def Aj : Code := iZ Tryd.f25
def uN (R : K1) (lD : adS) (w : adR) : Prop :=
 eY pg (gO .eql 26 (.tmp 3) (.const (.slice none 0 0)) lD (.slice none 0 0)) w fun b4 w =>
 lN b4
  (R (.slice none 0 0) w)
  (eY pg (iJ 26 0 []) w fun b5 w =>
  eY pg (mO .append #[26, 26] 26 [b5, lD]) w fun b7 w =>
  R b7 w)
theorem FU (R : K1) (hr : HR BA R Q) (h : uN R (g 0) w) : iU pg AM Aj Q g w :=
 lB (kn := no) (l := []) h lZ hr trivial
def EA (a0 : adS) (w : adR) (R : K1) : Prop :=
 uN R a0 w
theorem GX {a0 : adS} {w : adR} {R : K1} (h : EA a0 w R) : gS pg qC #[a0] w R := by
 refine xA (ann := AM) Tryd.f25 Aj [a0] BA 8 TrydM.mixed Tryd.func25 ?_
 exact (FU _ _ _ R (fun _ _ h => h) h)
def BJ : FA := ⟨mS, fun i => .leaf ([], []) []⟩
def Cs : List ResultVar := [.tmp 4, .tmp 5, .tmp 6]
noncomputable def AX : Code := iZ Tryd.f26
def wN (R : K1) (lD vD : adS) (w : adR) : Prop :=
 eY pg (jC lD) w fun c1 w =>
 eY pg (gM 67 c1 0) w fun c2 w =>
 eY pg (fK 32 c2) w fun c3 w =>
 gS pg lE #[c3, vD] w fun c5 w =>
 eY pg (iW c5 0) w fun c6 w =>
 eY pg (iW c5 1) w fun c7 w =>
 eY pg (gO .eql 29 (.tmp 18) (.const (adT 21)) c7 (adT 21)) w fun c9 w =>
 lN c9
  (R (.tuple #[(.slice none 0 0), (.bool false), (adT 0)]) w)
  (eY pg (gO .eql 29 (.tmp 21) (.const (adT 0)) c7 (adT 0)) w fun d2 w =>
  R (.tuple #[c6, d2, c7]) w)
theorem Hi (R : K1) (hr : HR Cs R Q) (h : wN R (g 0) (g 1) w) : iU pg BJ AX Q g w :=
 lB (kn := no) (l := []) h lZ hr trivial
def Gf (a0 a1 : adS) (w : adR) (R : K1) : Prop :=
 wN R a0 a1 w
theorem HS {a0 a1 : adS} {w : adR} {R : K1} (h : Gf a0 a1 w R) : gS pg mS #[a0, a1] w R := by
 refine xA (ann := BJ) Tryd.f26 AX [a0, a1] Cs 24 TrydM.mixed Tryd.func26 ?_
 exact (Hi _ _ _ R (fun _ _ h => h) h)
end Go.Proofs.YteelnmpbnaohpaaDoor

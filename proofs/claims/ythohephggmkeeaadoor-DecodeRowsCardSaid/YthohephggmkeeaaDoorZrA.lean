/- Parts of the proof of DecodeRows: merged and given short names by a program of ours. -/
import Derived.Orders
import Derived.Below
import Derived.KernelRfl
import Derived.Eval
import Derived.RangeFuncRecord
import Derived.Laws.Sem
import Derived.Scope
import Derived.Test.YthohephggmkeeaaDoorRows
set_option linter.unusedVariables false
set_option linter.unusedSimpArgs false
open Array renaming all_eq_true' → Q2, getElem?_eq_getElem → QH, getElem?_setIfInBounds_self_of_lt → QU, getElem?_setIfInBounds_ne → QX, length_toList → QZ, getD_eq_getD_getElem? → Qx, getElem?_eq_none → RD, mem_of_getElem? → RH
open Bool renaming or_eq_true → Q4, not_eq_true' → Q7, false_eq_true → Qm, not_true → Qr, and_eq_true → Qu, or_eq_false_iff → RI
open List renaming map_congr_left → Q3, mem_cons_of_mem → QE, getD_eq_getElem?_getD → QG, length_cons → QK, mem_range → QQ, all_eq_true → QS, length_eq_zero_iff → QY, getElem?_cons_succ → Ql, getElem?_eq_getElem → Qv, mem_map → RB, map_nil → RJ, mem_append_left → Rb, mem_cons → Rk, map_cons → Rl, getElem?_eq_none → Rq, mem_append_right → Rr, drop_eq_getElem_cons → Ry, mem_append → Rz
open Nat renaming le_refl → QD, eq_of_beq_eq_true → QM, zero_add → Qs, lt_of_lt_of_le → RA, blt_eq → Rm, lt_or_ge → Rp, le_of_ble_eq_true → Rs, add_assoc → Rw
open Option renaming map_some → QR, getD_some → Rv
open Option.some renaming inj → Q1
namespace Go.En
open Go
abbrev RM := World
abbrev RN := Value
abbrev Env := Nat -> RN
def put (g : Env) (d : Option Tmp) (v : RN) : Env :=
 match d with
 | some d => fun i => match Nat.beq i d with | true => v | false => g i
 | none => g
def ev (g : Env) : Operand -> RN
 | .tmp t => g t
 | .const v => v
 | .global b => .pointer (some ⟨b, 0, none⟩)
 | .func f => .func (.func f) #[] #[]
def P2 (P : Program) (f : FuncId) (args : Array RN) (w : RM) (v : RN) (w' : RM) : Prop :=
 Calls P f args w fun e w'' => e = .returned v /\ w'' = w'
def fK (P : Program) (f : FuncId) (args : Array RN) (w : RM) (R : RN -> RM -> Prop) : Prop :=
 ∃ v w', P2 P f args w v w' /\ R v w'
theorem fK.mono {P : Program} {f : FuncId} {args : Array RN} {w : RM} {R R' : RN -> RM -> Prop} (h : fK P f args w R)
 (hr : ∀ v w', R v w' -> R' v w') : fK P f args w R' :=
 let ⟨v, w', a, b⟩ := h; ⟨v, w', a, hr _ _ b⟩
def Pt (P : Program) (l : Nat) (f : FuncId) (tmps : Array RN) (Qj bd : Code) (w : RM) (v : RN) (w' : RM) : Prop :=
 RoundIn Fence.wide 0 P l f tmps Qj bd w fun e w'' => e = .returned v /\ w'' = w'
def PL (P : Program) (l : Nat) (f : FuncId) (tmps : Array RN) (Qj bd : Code) (w : RM) (R : RN -> RM -> Prop) : Prop :=
 ∃ v w', Pt P l f tmps Qj bd w v w' /\ R v w'
def No (P : Program) (r : Result Next) (K : RN -> RM -> Prop) : Prop :=
 match r with
 | .ok (.value v) w => K v w
 | .ok .skip w => K undef w
 | .ok (.enter f args) w => fK P f args w K
 | .ok (.round l f tmps Qj bd) w => PL P l f tmps Qj bd w K
 | _ => False
theorem cQ (P : Program) (v : RN) (w : RM) (K : RN -> RM -> Prop) : No P (.ok (.value v) w) K = K v w := Eq.trans rfl rfl
theorem stepR_skip (P : Program) (w : RM) (K : RN -> RM -> Prop) : No P (.ok .skip w) K = K undef w := Eq.trans rfl rfl
def dQ (P : Program) (s : Sem Next) (w : RM) (K : RN -> RM -> Prop) : Prop := No P (s.run P w) K
def fE (P : Program) (s : Sem Next) (v : RN) (w : RM) : Prop := s.run P w = .ok (.value v) w
def Gd (b : Bool) (s : (RN -> RM -> Prop) -> Prop) (w : RM) (K : RN -> RM -> Prop) : Prop :=
 match b with
 | true => s K
 | false => K undef w
def P6 (v : RN) : Option Bool := match v with | .bool b => some b | _ => none
def lX (v : RN) (want : Bool) : Bool := P6 v == some want
def kK (v : RN) (A B : Prop) : Prop :=
 match v with
 | .bool b => (match b with | true => A | false => B)
 | _ => False
def tY (ops : Array Oper) (j : Nat) : Option Tmp := (ops[j]?).bind (·.dst)
def rG (g : Env) (t : Option Tmp) (want : Bool) : Bool := match t with | some t => lX (g t) want | none => false
def V (s : Sem RN) : Sem Next := do pure (.value (<- s))
def U (s : Sem Unit) : Sem Next := do s; pure .skip
def zA (op : BinOp) : Bool := match op with | .eql | .neq => true | _ => false
def fD (op : BinOp) (t : TypeId) (ox oy : Operand) (x y : RN) : Sem Next :=
 match zA op with
 | true => V (do eqGuard op t ox oy x y; binOp op t x y)
 | false => V (binOp op t x y)
def lQ (b : Builtin) (ats : Array TypeId) (ty : TypeId) (args : List RN) : Sem Next := builtin b ats ty #[] args.toArray
def FN (f : RN) (args : List RN) : Sem Next := do let d <- Deferred.ofValue f args.toArray; invoke d.target d.args
def OC (fn : Fn) (first captured : List RN) : Sem Next := V (Instr.makeFunc fn first.toArray captured.toArray)
def iI (t : TypeId) (ps : List (Nat × RN)) : Sem Next := V (Instr.build t ps.toArray)
def iM (t : TypeId) (n : Nat) (ps : List (Nat × RN)) : Sem Next := V (Instr.buildSlice t n ps.toArray)
def Bk (g : Env) (o : Oper) : Sem Next :=
 match o.op with
 | .binOp op t x y _ => fD op t x y (ev g x) (ev g y)
 | .makeFunc fn first captured => OC fn (first.toList.map (ev g)) (captured.toList.map (ev g))
 | .build t ps => iI t (ps.toList.map fun p => (p.1, ev g p.2))
 | .buildSlice t n ps => iM t n (ps.toList.map fun p => (p.1, ev g p.2))
 | .call c => (match c.callee with
   | .builtin b => lQ b c.argTypes o.type (c.args.toList.map (ev g))
   | .value f => FN (ev g f) (c.args.toList.map (ev g))
   | _ => execOp (ev g) o)
 | _ => execOp (ev g) o
def zL (P : Program) (g : Env) (o : Oper) (w : RM) (K : RN -> RM -> Prop) : Prop :=
 match o.op with
 | .move x => K (ev g x) w
 | .assign x => K (ev g x) w
 | .call c => (match c.callee with
   | .value (.func f) => fK P f (c.args.toList.map (ev g)).toArray w K
   | _ => dQ P (Bk g o) w K)
 | _ => dQ P (Bk g o) w K
def xY (P : Program) (ops : Array Oper) (g : Env) (o : Oper) (w : RM) (K : RN -> RM -> Prop) : Prop :=
 match o.guard with
 | none => zL P g o w K
 | some (j, want) => Gd (rG g (tY ops j) want) (zL P g o w) w K
def HU (P : Program) (ops : Array Oper) : List Oper -> Env -> RM -> (Env -> RM -> Prop) -> Prop
 | [], g, w, K => K g w
 | o :: rest, g, w, K => xY P ops g o w fun v w' => HU P ops rest (put g o.dst v) w' K
structure Rec where
 heavy : Bool
 o : Oper
 g : Env
 w : RM
 v : RN
def PQ (ops : Array Oper) (o : Oper) (g : Env) : Bool := match o.guard with | none => true | some (j, want) => rG g (tY ops j) want
def Gs (b : Bool) (p : Prop) : Prop := match b with | true => p | false => True
def D0 (P : Program) (ops : Array Oper) (q : Rec) (o : Oper) (g : Env) (w' : RM) (v : RN) : Prop :=
 match q.heavy with
 | true => Gs (PQ ops o g) (fE P (Bk g o) v q.w)
 | false => Gs (PQ ops q.o q.g) (fE P (Bk q.g q.o) q.v w')
def HO (i j : Nat) : List (Nat × Nat) -> Bool
 | [] => false
 | (a, b) :: r => match Nat.beq a i with
   | true => (match Nat.beq b j with | true => true | false => HO i j r)
   | false => HO i j r
def lY (i : Nat) : List Nat -> Bool
 | [] => false
 | a :: r => match Nat.beq a i with | true => true | false => lY i r
def J3 : List Rec -> Nat -> Option Rec
 | [], _ => none
 | q :: _, 0 => some q
 | _ :: r, n + 1 => J3 r n
def Oe (P : Program) (ops : Array Oper) (o : Oper) (g : Env) (w' : RM) (v : RN) (hist : List Rec) : List Nat -> Prop
 | [] => True
 | k :: ks => (match J3 hist k with
   | some q => D0 P ops q o g w' v
   | none => False) /\ Oe P ops o g w' v hist ks
abbrev Lw := List Nat × List (Nat × Nat)
abbrev JU := List (Bool × List Nat)
def mM (P : Program) (ops : Array Oper) : List Oper -> JU -> List Rec -> Env -> RM -> (Env -> RM -> Prop) -> Prop
 | [], _, _, g, w, K => K g w
 | _ :: _, [], _, _, _, _ => False
 | o :: rest, (hv, ks) :: pl, hist, g, w, K =>
   xY P ops g o w fun v w' =>
    match hv, ks with
    | true, [] => mM P ops rest pl (⟨true, o, g, w, v⟩ :: hist) (put g o.dst v) w' K
    | true, k :: ks => Oe P ops o g w' v hist (k :: ks) /\ mM P ops rest pl (⟨true, o, g, w, v⟩ :: hist) (put g o.dst v) w' K
    | false, [] => w' = w /\ mM P ops rest pl (⟨false, o, g, w, v⟩ :: hist) (put g o.dst v) w K
    | false, k :: ks => w' = w /\ Oe P ops o g w v hist (k :: ks) /\ mM P ops rest pl (⟨false, o, g, w, v⟩ :: hist) (put g o.dst v) w K
def iO {α : Type} (F : (α -> RM -> Prop) -> α -> RM -> Prop) (g : α) (w : RM) : Prop :=
 ∃ I : Nat -> α -> RM -> Prop, (∃ n, I n g w) /\ ∀ n g w, I n g w -> F (fun g' w' => ∃ m, m < n /\ I m g' w') g w
def sF (K : Env -> RM -> Prop) (Q : Exit -> Env -> RM -> Prop) : Exit -> Env -> RM -> Prop :=
 fun e g w => (fun (_ : Program -> Sem Next -> RM -> (RN -> RM -> Prop) -> Prop) => match e with | .normal => K g w | e => Q e g w) dQ
def NG (id : Nat) (Q : Exit -> Env -> RM -> Prop) : Exit -> Env -> RM -> Prop :=
 fun e g w => (fun (_ : Program -> Sem Next -> RM -> (RN -> RM -> Prop) -> Prop) => match e with | .exit i => (match Nat.beq i id with | true => Q .normal g w | false => Q (.exit i) g w) | e => Q e g w) dQ
inductive HT where
 | leaf (an : Lw) (pl : JU)
 | perm (π : List Nat) (es : List (Nat × Nat)) (an : Lw) (pl : JU)
 | split (a b : Nat) (x y : HT)
structure FA where
 f : FuncId
 t : Nat -> HT
def pK : List Nat -> Nat -> Nat
 | [], _ => 0
 | a :: r, i => match Nat.beq a i with | true => 0 | false => pK r i + 1
def xN (π : List Nat) (i : Nat) : List (Nat × Nat) -> List Edge
 | [] => []
 | (a, b) :: r => match Nat.beq b i with | true => ⟨pK π a, .data⟩ :: xN π i r | false => xN π i r
def Aa (π : List Nat) (es : List (Nat × Nat)) (i : Nat) (o : Oper) : Oper :=
 { dst := o.dst, op := o.op, type := o.type, pos := o.pos, after := (o.after.toList.map (fun e => (⟨pK π e.on, e.ground⟩ : Edge)) ++ xN π i es).toArray,
   guard := match o.guard with | none => none | some (j, b) => some (pK π j, b) }
def Fb (π : List Nat) (es : List (Nat × Nat)) (l : List Oper) : List Nat -> List Oper
 | [] => []
 | i :: r => match l[i]? with | some o => Aa π es i o :: Fb π es l r | none => Fb π es l r
def lW (π : List Nat) (es : List (Nat × Nat)) (ops : Array Oper) : Array Oper := (Fb π es ops.toList π).toArray
def OS (f : FuncId) (id : Nat) (ops : Array Oper) (a b : Nat) (w : RM) : Bool :=
 Nat.ble ((Region.schedule true ops (w.tape w.drawn (.order f id))).idxOf a) ((Region.schedule true ops (w.tape w.drawn (.order f id))).idxOf b)
def Ord (b : Bool) (A B : Prop) : Prop := match b with | true => A | false => B
def JV (P : Program) (f : FuncId) (id : Nat) (ops : Array Oper) : HT -> Env -> RM -> RM -> (Env -> RM -> Prop) -> Prop
 | .leaf _ pl, g, _, w, K => mM P ops ops.toList pl [] g w K
 | .perm π es _ pl, g, _, w, K => mM P (lW π es ops) (lW π es ops).toList pl [] g w K
 | .split a b x y, g, w0, w, K => Ord (OS f id ops a b w0) (JV P f id ops x g w0 w K) (JV P f id ops y g w0 w K)
def DS : Nat := 1000003
def Jk : RN -> List Deferred
 | .pointer (some a) => [{ target := .collected a.block, args := #[] }]
 | _ => []
def noMark : RN -> Bool
 | .pointer _ => false
 | _ => true
def tmpsOf (N : Nat) (g : Env) : Array RN := Array.ofFn (n := N) fun i => g i.val
def LV (P : Program) (f : FuncId) : Nat := match P.funcs[f]? with | some fn => fn.ntmps | none => 0
def Po (Q : Exit -> Env -> RM -> Prop) (g : Env) : Option Code -> RM -> Prop
 | none, w => Q .normal g w
 | some .ret, w => Q .ret g w
 | some (.exit i), w => Q (.exit i) g w
 | _, _ => False
def Px (l : Nat) (Q : Exit -> Env -> RM -> Prop) (g : Env) (w : RM) : Prop :=
 ∃ r : Loop, w.heap[l]? = some (.loop r) /\ r.state ≠ .busy /\ Po Q g r.pending (w.putObj l (.loop { r with state := .exhausted }))
def Pl (f : FuncId) (N : Nat) (ps : Array Tmp) (Qj bd : Code) (g : Env) (w : RM) : RM :=
 (w.alloc (.deferred (some []))).alloc (.loop { state := .ready, pending := none, fn := f, tmps := tmpsOf N g, params := ps, assign := Qj, body := bd, defers := w.heap.size })
def Pz (P : Program) (r : Result Next) (K : RN -> RM -> Prop) : Prop :=
 match r with
 | .ok (.enter f args) w => fK P f args w K
 | _ => False
def Er (l : Nat) : RN := .func (.yield l) #[] #[]
def RF (P : Program) (f : FuncId) (gf : Operand) (ps : Array Tmp) (Qj bd : Code) (Q : Exit -> Env -> RM -> Prop) (g : Env) (w : RM) : Prop :=
 match noMark (g DS) with
 | true => Pz P ((FN (ev g gf) [Er (w.heap.size + 1)]).run P (Pl f (LV P f) ps Qj bd g w)) fun _ w3 =>
  Px (w.heap.size + 1) Q (put g (some DS) (.pointer (some ⟨w.heap.size, 0, none⟩))) w3
 | false => False
def fY (P : Program) (ann : FA) : Code -> (Exit -> Env -> RM -> Prop) -> Env -> RM -> Prop
 | .skip, Q, g, w => Q .normal g w
 | .region id ops draw, Q, g, w => match draw with
   | false => HU P ops ops.toList g w (Q .normal)
   | true => JV P ann.f id ops (ann.t id) g w { w with drawn := w.drawn + 1 } (Q .normal)
 | .seq x y, Q, g, w => fY P ann x (sF (fun g w => fY P ann y Q g w) Q) g w
 | .cond c x y, Q, g, w => kK (ev g c) (fY P ann x Q g w) (fY P ann y Q g w)
 | .block id c, Q, g, w => fY P ann c (NG id Q) g w
 | .loop c, Q, g, w => iO (fun X g w => fY P ann c (sF X Q) g w) g w
 | .scope c, Q, g, w => fY P ann c Q g w
 | .label _, Q, g, w => Q .normal g w
 | .exit id, Q, g, w => Q (.exit id) g w
 | .ret, Q, g, w => Q .ret g w
 | .rangeFunc gf ps Qj bd, Q, g, w => RF P ann.f gf ps Qj bd Q g w
 | _, _, _, _ => False
def Lk (N : Nat) (o : Oper) : Bool := match o.dst with | some d => Nat.blt d N | none => true
def Mc (b : Array Nat) (i j : Nat) : Bool := (b.getD j 0).testBit i
def looks (ops : Array Oper) (o : Oper) : List Tmp :=
 (o.op.operands.toList.filterMap fun | .tmp t => some t | _ => none) ++ (match o.guard with | some (j, _) => (tY ops j).toList | none => [])
def M9 (ops : Array Oper) (x y : Oper) : Bool :=
 (match x.dst with | some d => (looks ops y).contains d || y.dst == some d | none => false) ||
 (match y.dst with | some d => (looks ops x).contains d | none => false)
def GD (o : Oper) : Bool := match o.op with | .select .. => true | _ => false
def Nr (o : Oper) : Bool := match o.op with | .call { callee := .value (.func _), .. } => true | _ => false
def IH (o : Oper) : Bool := match o.op with | .defer .. => true | _ => false
def IG : Operand -> Bool | .tmp t => Nat.blt t DS | _ => true
def Hp (P : Program) (o : Oper) : Bool :=
 match o.op with
 | .call c => (match c.callee with
   | .value (.func f) => (match P.funcs[f]? with | some fn => fn.body.isSome && !(fn.name == "runtime.NumGoroutine") | none => false)
   | .builtin b => (match b with | .print | .println => false | _ => true)
   | _ => true)
 | _ => true
def sY (P : Program) (o : Oper) : Bool := Hp P o && (o.op.operands.toList.all IG && (!GD o && !IH o))
def BU (o : Oper) : Bool := match o.op with | .move _ | .assign _ => true | _ => false
def CW (ops : Array Oper) (b : Array Nat) (an : Lw) (i j : Nat) (x y : Oper) : Bool :=
 Mc b i j ||
 (!M9 ops x y &&
   match lY i an.1, lY j an.1 with
   | true, true => false
   | false, false => true
   | true, false => BU y || HO i j an.2
   | false, true => BU x || HO i j an.2)
def JB (ops : Array Oper) (b : Array Nat) (an : Lw) : Bool :=
 (List.range ops.size).all fun j => (List.range j).all fun i =>
  match ops[i]?, ops[j]? with
  | some x, some y => CW ops b an i j x y
  | _, _ => false
def IK (ops : Array Oper) : Bool :=
 (List.range ops.size).all fun i => match ops[i]? with
  | some o => o.after.all fun e => !Region.binds .any e || Nat.blt e.on i
  | none => false
def IW (ops : Array Oper) (b : Array Nat) : Bool :=
 (List.range ops.size).all fun j => (List.range ops.size).all fun i =>
  !Mc b i j || (match ops[j]? with
   | some o => o.after.any fun e => Region.binds .any e && (Nat.beq e.on i || Mc b i e.on)
   | none => false)
def HX (ops : Array Oper) (an : Lw) : Bool :=
 IK ops && IW ops (Region.before ops) && JB ops (Region.before ops) an && (ops.all fun o => !GD o) &&
  (List.range ops.size).all fun i => match ops[i]? with | some o => !Nr o || lY i an.1 | none => false
def Ib (n : Nat) (an : Lw) (pl : JU) : Bool :=
 (List.range n).all fun i => match pl[i]? with
  | some (h, ks) => h == lY i an.1 && an.2.all fun p => !Nat.beq p.2 i || (Nat.blt p.1 i && ks.contains (i - 1 - p.1))
  | none => false
def KT (π : List Nat) (ops : Array Oper) : Bool :=
 Nat.beq π.length ops.size && ((List.range ops.size).all fun k => match π[k]? with | some i => Nat.beq (pK π i) k && Nat.blt i ops.size | none => false) &&
  ((List.range ops.size).all fun i => match π[pK π i]? with | some j => Nat.beq j i | none => false) &&
  ((List.range ops.size).all fun i => match ops[i]? with
    | some o => (o.after.all fun e => Nat.blt e.on ops.size) && (match o.guard with | some (j, _) => Nat.blt j ops.size | none => true)
    | none => false)
def D5 (P : Program) (N : Nat) (ops : Array Oper) : List (Nat × Nat) -> HT -> Bool
 | _, .leaf an pl => HX ops an && Ib ops.size an pl
 | path, .perm π es an pl => (es.all fun p => HO p.1 p.2 path && Nat.blt p.1 ops.size) && KT π ops && (lW π es ops).all (Lk N) && (lW π es ops).all (sY P) &&
  HX (lW π es ops) an && Ib (lW π es ops).size an pl
 | path, .split a b x y => !Nat.beq a b && D5 P N ops ((a, b) :: path) x && D5 P N ops ((b, a) :: path) y
def codeOk (P : Program) (N : Nat) (ann : FA) : Code -> Bool
 | .skip | .exit _ | .ret | .label _ => true
 | .scope c => codeOk P N ann c
 | .region id ops draw => ops.all (Lk N) && ops.all (sY P) && (!draw || D5 P N ops [] (ann.t id))
 | .seq x y => codeOk P N ann x && codeOk P N ann y
 | .cond c x y => IG c && (codeOk P N ann x && codeOk P N ann y)
 | .block _ c => codeOk P N ann c
 | .loop c => codeOk P N ann c
 | .rangeFunc gf _ _ _ => IG gf
 | _ => false
def pM : Code -> Bool
 | .seq x y => pM x && pM y
 | .cond _ x y => pM x && pM y
 | .block _ c => pM c
 | .loop c => pM c
 | .scope c => pM c
 | .rangeFunc .. => false
 | _ => true
def JS : ResultVar -> Bool
 | .tmp t => Nat.blt t DS
 | .cell a _ => Nat.blt a DS
theorem Bi (g : Env) (d i : Nat) (v : RN) : put g (some d) v i = if i = d then v else g i := by
 unfold put
 by_cases h : i = d
 .subst h; simp
 .have : Nat.beq i d = false := by
   cases hb : Nat.beq i d
   .rfl
   .exact absurd (QM hb) h
  simp [this, h]
theorem Jr {P : Program} {o : Oper} (h : sY P o = true) : Hp P o = true := by
 unfold sY at h; simp only [Qu] at h; exact h.1
theorem KR {P : Program} {o : Oper} (h : sY P o = true) : ∀ x ∈ o.op.operands, IG x = true := by
 unfold sY at h; simp only [Qu] at h
 intro x hx
 exact QS.1 h.2.1 x (by simpa using hx)
theorem KO {P : Program} {o : Oper} (h : sY P o = true) : GD o = false := by
 unfold sY at h; simp only [Qu, Q7] at h; exact h.2.2.1
theorem KP {P : Program} {o : Oper} (h : sY P o = true) : IH o = false := by
 unfold sY at h; simp only [Qu, Q7] at h; exact h.2.2.2
def DX (N : Nat) (ops : Array Oper) : Prop := ∀ (i : Nat) (o : Oper), ops[i]? = some o -> ∀ t, o.dst = some t -> t < N
structure Dr (N : Nat) (g : Env) (a : Act) : Prop where
 le : N <= DS
 defers : a.defers = Jk (g DS)
 size : a.tmps.size = N
 at_ : ∀ i, i ≠ DS -> a.tmps.getD i undef = g i
theorem Dr.ev {N : Nat} {g : Env} {a : Act} (h : Dr N g a) (x : Operand) (hx : IG x = true) : a.eval x = ev g x := by
 cases x with
 | tmp t =>
   have : t < DS := (Rm (x := t) (y := DS)) ▸ hx
   have e := h.at_ t (Nat.ne_of_lt this)
   simp [Act.eval, En.ev, <- e]
 | _ => simp [Act.eval, En.ev]
theorem Dr.put {N : Nat} {g : Env} {a : Act} (h : Dr N g a) (d : Option Tmp) (v : RN) (hd : ∀ t, d = some t -> t < N) :
 Dr N (put g d v) (a.put d v) := by
 cases d with
 | none => exact h
 | some t =>
   obtain ⟨h0, h1, h2, h3⟩ := h
   have ht := hd t rfl
   refine ⟨h0, ?_, by simp [Act.put, h2], fun i hne => ?_⟩
   .rw [Bi, if_neg (Nat.ne_of_gt (RA ht h0))]; exact h1
   .rw [Bi, <- h3 i hne]
    by_cases hi : i = t
    .subst hi; simp [Act.put, h2, ht]
    .have hi' : t ≠ i := fun e => hi e.symm
     simp [Act.put, hi, QX hi']
theorem Dr.wanted {N : Nat} {g : Env} {a : Act} (h : Dr N g a) (ops : Array Oper) (hd : DX N ops) (o : Oper) :
 Region.wanted o (yielded ops a.tmps) = match o.guard with | none => true | some (j, want) => rG g (tY ops j) want := by
 unfold Region.wanted
 cases o.guard with
 | none => rfl
 | some p =>
   obtain ⟨j, want⟩ := p
   simp only [yielded, rG, tY]
   cases ho : ops[j]? with
   | none => simp
   | some o' =>
     cases hdd : o'.dst with
     | none => simp [hdd]
     | some t =>
       have hlt := hd j o' ho t hdd
       have hle := h.le
       have h3 := h.at_ t (Nat.ne_of_lt (RA hlt hle))
       simp only [hdd, Option.bind_some, lX, P6, <- h3]
       simp only [Qx]
       cases ht : a.tmps[t]? with
       | none => simp [undef]
       | some v => cases v <;> simp
def PR (P : Program) (o : Oper) (a : Act) (next : Act -> RM -> Prop) : Result Next -> Prop
 | .ok (.value v) w' => next (a.put o.dst v) w'
 | .ok .skip w' => next (a.put o.dst undef) w'
 | .ok (.enter f args) w' => ∃ v w'', P2 P f args w' v w'' /\ next (a.put o.dst v) w''
 | .ok (.round l f tmps Qj bd) w' => ∃ v w'', Pt P l f tmps Qj bd w' v w'' /\ next (a.put o.dst v) w''
 | _ => False
def KV (P : Program) (o : Oper) (a : Act) (w : RM) (next : Act -> RM -> Prop) : Prop := IH o = false /\ PR P o a next ((execOp a.eval o).run P w)
def C1 (P : Program) (ops : Array Oper) (i : Nat) (K : Act -> RM -> Prop) (a : Act) (w : RM) : Prop :=
 match ops[i]? with
 | none => K a w
 | some o => if Region.wanted o (yielded ops a.tmps) then KV P o a w K else K (a.put o.dst undef) w
def uJ (P : Program) (ops : Array Oper) (Q : Act -> RM -> Prop) : List Nat -> Act -> RM -> Prop
 | [], a, w => Q a w
 | i :: rest, a, w => C1 P ops i (uJ P ops Q rest) a w
def Ic (P : Program) (ops : Array Oper) (Q : Act -> RM -> Prop) : Nat -> Array Bool -> Act -> RM -> Prop
 | 0, listed, a, w => Region.ready .any ops listed = [] /\ Q a w
 | fuel + 1, listed, a, w =>
   (Region.ready .any ops listed = [] -> Q a w) /\ ∀ i ∈ Region.ready .any ops listed, C1 P ops i (Ic P ops Q fuel (listed.setIfInBounds i true)) a w
theorem IT {P : Program} {o : Oper} {a : Act} {w : RM} {K K' : Act -> RM -> Prop} (h : ∀ a w, K a w -> K' a w) (hh : KV P o a w K) : KV P o a w K' := by
 refine ⟨hh.1, ?_⟩
 have hh := hh.2
 generalize (execOp a.eval o).run P w = r at *
 cases r with
 | ok x w' =>
   cases x <;> simp only [PR] at hh ⊢ <;> first | exact h _ _ hh | (obtain ⟨v, w'', h1, h2⟩ := hh; exact ⟨v, w'', h1, h _ _ h2⟩) | exact hh
 | halt x w' => exact hh.elim
theorem Kz {P : Program} {ops : Array Oper} {i : Nat} {a : Act} {w : RM} {K K' : Act -> RM -> Prop} (h : ∀ a w, K a w -> K' a w) (hh : C1 P ops i K a w) : C1 P ops i K' a w := by
 unfold C1 at *
 split
 .exact h _ _ (by simpa [*] using hh)
 .rename_i o ho
  simp only [ho] at hh
  split
  .rename_i hw; simp only [hw, if_true] at hh; exact IT h hh
  .rename_i hw; simp only [hw] at hh; exact h _ _ hh
def H0 (ro : Option Nat) : Fence := { Fence.wide with round := ro }
theorem L7 {P : Program} {ops : Array Oper} {Q : Act -> RM -> Prop} (ro : Option Nat) : ∀ (L : List Nat) (a : Act) (w : RM), uJ P ops Q L a w →
 wpOpsIn (H0 ro) 0 P ops (fun e a w => e = .normal /\ Q a w) L a w := by
 intro L
 induction L with
 | nil => intro a w h; exact ⟨rfl, h⟩
 | cons i L ih =>
   intro a w h
   simp only [uJ, C1] at h
   simp only [wpOpsIn]
   cases ho : ops[i]? with
   | none => rw [ho] at h; exact ih _ _ h
   | some o =>
     rw [ho] at h
     simp only at h ⊢
     by_cases hw : Region.wanted o (yielded ops a.tmps) = true
     .rw [if_pos hw] at h ⊢
      obtain ⟨hd, h⟩ := h
      refine ⟨fun _ _ => trivial, ?_⟩
      rw [Oper.semAt_eq _ _ _ (fun c hc => by simp [IH, hc] at hd)]
      generalize (execOp a.eval o).run P w = r at *
      cases r with
      | halt x w' => exact h.elim
      | ok x w' =>
        cases x <;> simp only [PR] at h <;> simp only [Oper.uponIn] <;> try (exact h.elim)
        .exact ih _ _ h
        .exact ih _ _ h
        .obtain ⟨v, w'', h1, h2⟩ := h
         refine ⟨fun hn => by simp [H0, Fence.wide] at hn, ?_⟩
         have := callsIn_wide (n := 0).2 h1
         refine CallsIn.mono (F := H0 ro) (n := 0) this ?_
         rintro e w3 ⟨rfl, rfl⟩
         exact ih _ _ h2
        .obtain ⟨v, w'', h1, h2⟩ := h
         refine ⟨fun hn => by simp [H0, Fence.wide] at hn, ?_⟩
         refine RoundIn.mono (F := H0 ro) (n := 0) h1 ?_
         rintro e w3 ⟨rfl, rfl⟩
         exact ih _ _ h2
     .rw [if_neg hw] at h ⊢
      exact ⟨fun _ _ => trivial, ih _ _ h⟩
section
variable {P : Program} {ops : Array Oper}
def Gw (P : Program) (ops : Array Oper) (g : Env) (o : Oper) (w : RM) (v : RN) (w' : RM) : Prop :=
 ∀ K : RN -> RM -> Prop, K v w' -> xY P ops g o w K
theorem Lt {s : Sem Next} {w : RM} {K : RN -> RM -> Prop} (h : dQ P s w K) :
 ∃ v w', (∀ K' : RN -> RM -> Prop, K' v w' -> dQ P s w K') /\ K v w' := by
 unfold dQ at *
 generalize s.run P w = r at *
 match r, h with
 | .ok (.value v) w1, h => exact ⟨v, w1, fun _ h' => h', h⟩
 | .ok .skip w1, h => exact ⟨undef, w1, fun _ h' => h', h⟩
 | .ok (.enter f args) w1, h =>
   obtain ⟨v, w', hr, hk⟩ := h
   exact ⟨v, w', fun _ h' => ⟨v, w', hr, h'⟩, hk⟩
 | .ok (.round l f tmps Qj bd) w1, h =>
   obtain ⟨v, w', hr, hk⟩ := h
   exact ⟨v, w', fun _ h' => ⟨v, w', hr, h'⟩, hk⟩
theorem IF {g : Env} {o : Oper} {w : RM} {K : RN -> RM -> Prop} (h : zL P g o w K) :
 ∃ v w', (∀ K' : RN -> RM -> Prop, K' v w' -> zL P g o w K') /\ K v w' := by
 unfold zL at *
 split at h
 .exact ⟨_, _, fun _ h' => h', h⟩
 .exact ⟨_, _, fun _ h' => h', h⟩
 .split at h
  .obtain ⟨v, w', a, b⟩ := h
   exact ⟨v, w', fun _ h' => ⟨v, w', a, h'⟩, b⟩
  .exact Lt h
 .exact Lt h
theorem NO (op : BinOp) (t : TypeId) (ox oy : Operand) (x y : RN) : fD op t ox oy x y = V (do eqGuard op t ox oy x y; binOp op t x y) := by
 cases op <;> simp [fD, zA, eqGuard]
theorem Mn {g : Env} {o : Oper} (ho : sY P o = true) : Bk g o = execOp (ev g) o := by
 have ho := Jr ho
 unfold Bk
 split
 .rename_i op t x y yt hx
  simp only [execOp, hx, NO, V]
 .rename_i fn first captured hx
  have e1 : (List.map (ev g) first.toList).toArray = first.map (ev g) := by obtain ⟨l⟩ := first; simp
  have e2 : (List.map (ev g) captured.toList).toArray = captured.map (ev g) := by obtain ⟨l⟩ := captured; simp
  simp only [execOp, hx, OC, V, e1, e2]
 .rename_i t ps hx
  have e : (List.map (fun p : Nat × Operand => (p.1, ev g p.2)) ps.toList).toArray = ps.map (fun p => (p.1, ev g p.2)) := by obtain ⟨l⟩ := ps; simp
  simp only [execOp, hx, iI, V, e]
 .rename_i t n ps hx
  have e : (List.map (fun p : Nat × Operand => (p.1, ev g p.2)) ps.toList).toArray = ps.map (fun p => (p.1, ev g p.2)) := by obtain ⟨l⟩ := ps; simp
  simp only [execOp, hx, iM, V, e]
 .rename_i c hx
  split
  .rename_i b hb
   simp only [execOp, hx, resolve, hb, pure_bind, invoke, lQ]
   unfold Hp at ho
   simp only [hx, hb] at ho
   have e : (List.map (ev g) c.args.toList).toArray = c.args.map (ev g) := by obtain ⟨l⟩ := c.args; simp
   rw [e]
   cases b <;> first | rfl | (cases ho)
  .rename_i f hb
   have e : (List.map (ev g) c.args.toList).toArray = c.args.map (ev g) := by obtain ⟨l⟩ := c.args; simp
   simp only [execOp, hx, resolve, hb, FN, e]
  .rfl
 .rfl
theorem I7 {f : FuncId} {fn : Func} (hf : P.funcs[f]? = some fn) (hb : fn.body.isSome = true) (hn : (fn.name == "runtime.NumGoroutine") = false)
 (args : Array RN) (w : RM) : (callFunc f args).run P w = .ok (.enter f args) w := by
 unfold callFunc
 have hb' : fn.body.isNone = false := by cases h : fn.body <;> simp_all
 show Sem.run P (Sem.program fun p => _) w = _
 simp only [Sem.run]
 simp only [bind, Sem.bind, hf, hn, hb', Qm, if_false]
 rfl
theorem Cb {g : Env} {o : Oper} {w : RM} {K : RN -> RM -> Prop} (h : xY P ops g o w K) :
 ∃ v w', Gw P ops g o w v w' /\ K v w' := by
 unfold Gw
 unfold xY at *
 split at h
 .obtain ⟨v, w', h1, h2⟩ := IF h
  exact ⟨v, w', h1, h2⟩
 .rename_i j want hg
  unfold Gd at *
  cases hb : rG g (tY ops j) want with
  | true =>
    simp only [hb] at h
    obtain ⟨v, w', h1, h2⟩ := IF h
    exact ⟨v, w', fun K hk => h1 K hk, h2⟩
  | false =>
    simp only [hb] at h
    exact ⟨_, _, fun K hk => hk, h⟩
theorem GB {N i : Nat} {g : Env} {a : Act} {o : Oper} {w w' : RM} {v : RN} {next : Act -> RM -> Prop}
 (hi : ops[i]? = some o) (hc : sY P o = true) (hd : DX N ops) (hr : Dr N g a) (hy : Gw P ops g o w v w') (hn : next (a.put o.dst v) w') : C1 P ops i next a w := by
 have h := hy (fun v2 w2 => v2 = v /\ w2 = w') ⟨rfl, rfl⟩
 unfold C1
 rw [hi]
 simp only [hr.wanted ops hd]
 have run : zL P g o w (fun v2 w2 => v2 = v /\ w2 = w') -> KV P o a w next := by
  intro h
  refine ⟨KP hc, ?_⟩
  have hevs : execOp a.eval o = execOp (ev g) o := execOp_congr o (fun cs b he => by have := KO hc; simp [GD, he] at this) (fun x hx => hr.ev x (KR hc x hx))
  have stp : dQ P (Bk g o) w (fun v2 w2 => v2 = v /\ w2 = w') -> PR P o a next ((execOp (ev g) o).run P w) := by
   intro h
   rw [Mn hc] at h
   unfold dQ at h
   generalize (execOp (ev g) o).run P w = r at *
   match r, h with
   | .ok (.value v) w1, h => obtain ⟨rfl, rfl⟩ := h; exact hn
   | .ok .skip w1, h => obtain ⟨rfl, rfl⟩ := h; exact hn
   | .ok (.enter f args) w1, h =>
     obtain ⟨v2, w2, hret, rfl, rfl⟩ := h
     exact ⟨_, _, hret, hn⟩
   | .ok (.round l f tmps Qj bd) w1, h =>
     obtain ⟨v2, w2, hret, rfl, rfl⟩ := h
     exact ⟨_, _, hret, hn⟩
  rw [hevs]
  unfold zL at h
  split at h
  .rename_i x hx
   obtain ⟨rfl, rfl⟩ := h
   simp only [execOp, hx]; exact hn
  .rename_i x hx
   obtain ⟨rfl, rfl⟩ := h
   simp only [execOp, hx]; exact hn
  .rename_i c hx
   split at h
   .rename_i f hcal
    obtain ⟨v2, w2, hret, rfl, rfl⟩ := h
    have e : (execOp (ev g) o).run P w = .ok (.enter f (List.map (ev g) c.args.toList).toArray) w := by
     have hc := Jr hc
     unfold Hp at hc
     simp only [hx, hcal] at hc
     cases hfn : P.funcs[f]? with
     | none => rw [hfn] at hc; cases hc
     | some fn =>
       rw [hfn] at hc
       simp only [Qu, Q7] at hc
       have ea : (List.map (ev g) c.args.toList).toArray = c.args.map (ev g) := by obtain ⟨l⟩ := c.args; simp
       rw [ea]
       simp only [execOp, hx, resolve, hcal, ev, Deferred.ofValue, pure_bind, invoke]
       simp only [Array.empty_append, Array.append_empty]
       exact I7 hfn hc.1 hc.2 _ w
    rw [e]
    exact ⟨_, _, hret, hn⟩
   .exact stp h
  .exact stp h
 unfold xY at h
 cases hg : o.guard with
 | none =>
   rw [hg] at h
   simp only [if_true]
   exact run h
 | some p =>
   obtain ⟨j, want⟩ := p
   simp only [hg] at h
   simp only
   by_cases hb : rG g (tY ops j) want = true
   .rw [if_pos hb]
    simp only [hb, Gd] at h
    exact run h
   .rw [if_neg hb]
    have hb' : rG g (tY ops j) want = false := by simpa using hb
    simp only [hb', Gd] at h
    obtain ⟨rfl, rfl⟩ := h
    exact hn
def EJ (P : Program) (ops : Array Oper) : Prop := ∀ (i : Nat) (o : Oper), ops[i]? = some o -> sY P o = true
theorem LL {N : Nat} (hd : DX N ops) (hca : EJ P ops) {Q : Act -> RM -> Prop} {K : Env -> RM -> Prop}
 (hQ : ∀ g a w, Dr N g a -> K g w -> Q a w) :
 ∀ (l : List Oper) (k : Nat) (g : Env) (a : Act) (w : RM), (∀ j, l[j]? = ops[k + j]?) -> Dr N g a -> HU P ops l g w K →
   uJ P ops Q (List.range' k l.length) a w := by
 intro l
 induction l with
 | nil => intro k g a w _ hr h; exact hQ _ _ _ hr h
 | cons o l ih =>
   intro k g a w hl hr h
   have h0 : ops[k]? = some o := by have := hl 0; simpa using this.symm
   obtain ⟨v, w', hy, hk⟩ := Cb h
   rw [QK, List.range'_succ]
   show C1 P ops k (uJ P ops Q _) a w
   refine GB h0 (hca k o h0) hd hr hy ?_
   refine ih (k + 1) _ _ _ (fun j => ?_) (hr.put _ _ (hd k o h0)) hk
   have := hl (j + 1)
   simp only [Ql] at this
   rw [this]; congr 1; omega
def Gp (an : Lw) (O : Nat -> Oper) (G : Nat -> Env) (W : Nat -> RM) (V : Nat -> RN) (i : Nat) : Rec :=
 ⟨lY i an.1, O i, G i, W i, V i⟩
def Lz (P : Program) (ops : Array Oper) (an : Lw) (O : Nat -> Oper) (G : Nat -> Env) (W : Nat -> RM) (V : Nat -> RN) (i j : Nat) : Prop :=
 D0 P ops (Gp an O G W V i) (O j) (G j) (W (j + 1)) (V j)
structure Me (P : Program) (ops : Array Oper) (an : Lw) (g0 : Env) (w0 : RM) (n : Nat) (O : Nat -> Oper) (G : Nat -> Env) (W : Nat -> RM) (V : Nat -> RN) : Prop where
 g0 : G 0 = g0
 w0 : W 0 = w0
 op : ∀ i, i < n -> ops[i]? = some (O i)
 yld : ∀ i, i < n -> Gw P ops (G i) (O i) (W i) (V i) (W (i + 1))
 light : ∀ i, i < n -> lY i an.1 = false -> W (i + 1) = W i
 env : ∀ i, i < n -> G (i + 1) = put (G i) (O i).dst (V i)
 chk : ∀ i j, i < j -> j < n -> HO i j an.2 = true -> Lz P ops an O G W V i j
theorem J0 {o : Oper} {g : Env} {w' : RM} {v : RN} {hist : List Rec} : ∀ {ks : List Nat}, Oe P ops o g w' v hist ks -> ∀ k ∈ ks, ∃ q, J3 hist k = some q /\ D0 P ops q o g w' v := by
 intro ks
 induction ks with
 | nil => intro _ k hk; cases hk
 | cons a ks ih =>
   rintro ⟨h1, h2⟩ k hk
   rcases Rk.1 hk with rfl | hk
   .cases hn : J3 hist k with
    | none => rw [hn] at h1; exact h1.elim
    | some q => rw [hn] at h1; exact ⟨q, rfl, h1⟩
   .exact ih h2 k hk
theorem LB {n : Nat} {an : Lw} {pl : JU} (h : Ib n an pl = true) {i : Nat} (hi : i < n) :
 ∃ ks, pl[i]? = some (lY i an.1, ks) /\ ∀ j, HO j i an.2 = true -> j < i /\ (i - 1 - j) ∈ ks := by
 have := QS.1 h i (QQ.2 hi)
 cases hp : pl[i]? with
 | none => rw [hp] at this; cases this
 | some p =>
   obtain ⟨hv, ks⟩ := p
   rw [hp] at this
   simp only [Qu] at this
   obtain ⟨h1, h2⟩ := this
   have h1 : hv = lY i an.1 := by simpa using h1
   refine ⟨ks, by rw [h1], fun j hj => ?_⟩
   have mm : ∀ (l : List (Nat × Nat)), HO j i l = true -> (j, i) ∈ l := by
    intro l
    induction l with
    | nil => intro h; cases h
    | cons q r ih =>
      obtain ⟨a, b⟩ := q
      intro h
      unfold HO at h
      cases ha : Nat.beq a j with
      | true =>
        simp only [ha] at h
        cases hb : Nat.beq b i with
        | true =>
          obtain rfl := QM ha
          obtain rfl := QM hb
          exact List.mem_cons_self
        | false => simp only [hb] at h; exact QE _ (ih h)
      | false => simp only [ha] at h; exact QE _ (ih h)
   have := QS.1 h2 (j, i) (mm _ hj)
   simp only [Nat.beq_refl, Qr, Bool.false_or, Qu] at this
   refine ⟨?_, by simpa using this.2⟩
   have hlt := this.1
   exact (Rm (x := j) (y := i)) ▸ hlt
theorem JT {an : Lw} {pl : JU} {g0 : Env} {w0 : RM} {K : Env -> RM -> Prop} (hpl : Ib ops.size an pl = true) :
 ∀ (l : List Oper) (m : Nat) (hist : List Rec) (O : Nat -> Oper) (G : Nat -> Env) (W : Nat -> RM) (V : Nat -> RN),
   (∀ j, l[j]? = ops[m + j]?) -> m + l.length = ops.size -> Me P ops an g0 w0 m O G W V -> (∀ i, i < m -> J3 hist (m - 1 - i) = some (Gp an O G W V i)) →
   mM P ops l (pl.drop m) hist (G m) (W m) K →
   ∃ (O : Nat -> Oper) (G : Nat -> Env) (W : Nat -> RM) (V : Nat -> RN), Me P ops an g0 w0 (m + l.length) O G W V /\ K (G (m + l.length)) (W (m + l.length)) := by
 intro l
 induction l with
 | nil => intro m hist O G W V _ _ hr _ h; exact ⟨O, G, W, V, hr, by unfold mM at h; exact h⟩
 | cons o l ih =>
   intro m hist O G W V hl hlen hr hh h
   have h0 : ops[m]? = some o := by have := hl 0; simpa using this.symm
   have hmn : m < ops.size := by rw [QK] at hlen; omega
   obtain ⟨ks, hk1, hk2⟩ := LB hpl hmn
   have hdrop : pl.drop m = (lY m an.1, ks) :: pl.drop (m + 1) := by
    have hlt : m < pl.length := by
     rcases Rp m pl.length with h | h
     .exact h
     .rw [Rq h] at hk1; cases hk1
    rw [Ry hlt]
    rw [Qv hlt] at hk1
    rw [Q1 hk1]
   rw [hdrop] at h
   obtain ⟨v, w', hy, hk⟩ := Cb h
   have key : (lY m an.1 = false -> w' = W m) /\ (∀ k ∈ ks, ∃ q, J3 hist k = some q /\ D0 P ops q o (G m) w' v) /\
       (mM P ops l (pl.drop (m + 1)) (⟨lY m an.1, o, G m, W m, v⟩ :: hist) (put (G m) o.dst v) w' K) := by
    have nil : ∀ w', ∀ k ∈ ([] : List Nat), ∃ q, J3 hist k = some q /\ D0 P ops q o (G m) w' v := fun _ k hk => (by cases hk)
    cases hm : lY m an.1 with
    | true =>
      rw [hm] at hk
      cases ks with
      | nil => exact ⟨fun e => (by cases e), nil _, hk⟩
      | cons k ks => exact ⟨fun e => (by cases e), J0 hk.1, hk.2⟩
    | false =>
      rw [hm] at hk
      cases ks with
      | nil => obtain ⟨rfl, hk⟩ := hk; exact ⟨fun _ => rfl, nil _, hk⟩
      | cons k ks => obtain ⟨rfl, hc, hk⟩ := hk; exact ⟨fun _ => rfl, J0 hc, hk⟩
   obtain ⟨kl, c1, c2⟩ := key
   let O' : Nat -> Oper := fun i => if i = m then o else O i
   let V' : Nat -> RN := fun i => if i = m then v else V i
   let G' : Nat -> Env := fun i => if i = m + 1 then put (G m) o.dst v else G i
   let W' : Nat -> RM := fun i => if i = m + 1 then w' else W i
   have eO : ∀ i, i < m -> O' i = O i := fun i hi => if_neg (by omega)
   have eV : ∀ i, i < m -> V' i = V i := fun i hi => if_neg (by omega)
   have eG : ∀ i, i <= m -> G' i = G i := fun i hi => if_neg (by omega)
   have eW : ∀ i, i <= m -> W' i = W i := fun i hi => if_neg (by omega)
   have oO : O' m = o := if_pos rfl
   have oV : V' m = v := if_pos rfl
   have oG : G' (m + 1) = put (G m) o.dst v := if_pos rfl
   have oW : W' (m + 1) = w' := if_pos rfl
   have eR : ∀ i, i < m -> Gp an O' G' W' V' i = Gp an O G W V i := fun i hi => by
    simp only [Gp, eO i hi, eV i hi, eG i (by omega), eW i (by omega)]
   have hr' : Me P ops an g0 w0 (m + 1) O' G' W' V' := by
    refine ⟨by rw [eG 0 (by omega)]; exact hr.g0, by rw [eW 0 (by omega)]; exact hr.w0, fun i hi => ?_, fun i hi => ?_, fun i hi hm => ?_, fun i hi => ?_, fun i j hij hj hm => ?_⟩
    .by_cases hi' : i = m
     .subst hi'; rw [oO]; exact h0
     .rw [eO i (by omega)]; exact hr.op i (by omega)
    .by_cases hi' : i = m
     .subst hi'; rw [oO, oV, oW, eG i (by omega), eW i (by omega)]; exact hy
     .rw [eO i (by omega), eV i (by omega), eG i (by omega), eW i (by omega), eW (i + 1) (by omega)]; exact hr.yld i (by omega)
    .by_cases hi' : i = m
     .subst hi'; rw [oW, eW i (by omega)]; exact kl hm
     .rw [eW i (by omega), eW (i + 1) (by omega)]; exact hr.light i (by omega) hm
    .by_cases hi' : i = m
     .subst hi'; rw [oO, oV, oG, eG i (by omega)]
     .rw [eO i (by omega), eV i (by omega), eG i (by omega), eG (i + 1) (by omega)]; exact hr.env i (by omega)
    .unfold Lz
     by_cases hj' : j = m
     .subst hj'
      rw [eR i (by omega), oO, oV, oW, eG j (by omega)]
      obtain ⟨q, hq, hc⟩ := c1 _ (hk2 i hm).2
      rw [hh i hij] at hq
      obtain rfl := Q1 hq
      exact hc
     .rw [eR i (by omega), eO j (by omega), eV j (by omega), eG j (by omega), eW (j + 1) (by omega)]
      exact hr.chk i j hij (by omega) hm
   have := ih (m + 1) (⟨lY m an.1, o, G m, W m, v⟩ :: hist) O' G' W' V' (fun j => by
       have := hl (j + 1)
       simp only [Ql] at this
       rw [this]; congr 1; omega) (by rw [QK] at hlen; omega) hr' (fun i hi => by
       by_cases hi' : i = m
       .subst hi'
        rw [show i + 1 - 1 - i = 0 from by omega]
        simp only [J3, Gp, oO, oV, eG i (by omega), eW i (by omega)]
       .rw [eR i (by omega), show m + 1 - 1 - i = (m - 1 - i) + 1 from by omega]
        exact hh i (by omega)) (by rw [oG, oW]; exact c2)
   rw [QK, show m + (l.length + 1) = m + 1 + l.length from by omega]
   exact this
end
section
variable {P : Program} {ops : Array Oper} {an : Lw} {g0 : Env} {w0 : RM} {O : Nat -> Oper} {G : Nat -> Env} {W : Nat -> RM} {V : Nat -> RN}
def B8 (n : Nat) (O : Nat -> Oper) (V : Nat -> RN) (g0 : Env) (S : Nat -> Prop) (g : Env) : Prop :=
 ∀ s, (∃ j, j < n /\ S j /\ (O j).dst = some s /\ (∀ k, k < n -> S k -> (O k).dst = some s -> k <= j) /\ g s = V j) ∨
   ((∀ j, j < n -> S j -> (O j).dst ≠ some s) /\ g s = g0 s)
theorem B8.agree {n : Nat} {S T : Nat -> Prop} {g g' : Env} (h : B8 n O V g0 S g) (h' : B8 n O V g0 T g') (s : Nat)
 (hs : ∀ j, j < n -> (O j).dst = some s -> (S j ↔ T j)) : g s = g' s := by
 rcases h s with ⟨j, h1, h2, h3, h4, h5⟩ | ⟨h1, h2⟩ <;> rcases h' s with ⟨k, k1, k2, k3, k4, k5⟩ | ⟨k1, k2⟩
 .have a := h4 k k1 ((hs k k1 k3).2 k2) k3
  have b := k4 j h1 ((hs j h1 h3).1 h2) h3
  have : j = k := by omega
  subst this; rw [h5, k5]
 .exact absurd h3 (k1 j h1 ((hs j h1 h3).1 h2))
 .exact absurd k3 (h1 k k1 ((hs k k1 k3).2 k2))
 .rw [h2, k2]
theorem B8.step {n : Nat} {S : Nat -> Prop} {g : Env} (h : B8 n O V g0 S g) (i : Nat) (hi : i < n)
 (hw : ∀ s, (O i).dst = some s -> ∀ j, j < n -> j ≠ i -> (O j).dst = some s -> S j -> j < i) :
 B8 n O V g0 (fun j => S j ∨ j = i) (put g (O i).dst (V i)) := by
 intro s
 cases hd : (O i).dst with
 | none =>
   rcases h s with ⟨j, h1, h2, h3, h4, h5⟩ | ⟨h1, h2⟩
   .refine .inl ⟨j, h1, .inl h2, h3, fun k k1 k2 k3 => ?_, h5⟩
    rcases k2 with k2 | rfl
    .exact h4 k k1 k2 k3
    .rw [hd] at k3; cases k3
   .refine .inr ⟨fun j h3 h4 h5 => ?_, h2⟩
    rcases h4 with h4 | rfl
    .exact h1 j h3 h4 h5
    .rw [hd] at h5; cases h5
 | some t =>
   rw [Bi]
   by_cases hst : s = t
   .subst hst
    rw [if_pos rfl]
    refine .inl ⟨i, hi, .inr rfl, hd, fun k k1 k2 k3 => ?_, rfl⟩
    rcases k2 with k2 | rfl
    .by_cases hk : k = i
     .omega
     .have := hw s hd k k1 hk k3 k2; omega
    .omega
   .rw [if_neg hst]
    rcases h s with ⟨j, h1, h2, h3, h4, h5⟩ | ⟨h1, h2⟩
    .refine .inl ⟨j, h1, .inl h2, h3, fun k k1 k2 k3 => ?_, h5⟩
     rcases k2 with k2 | rfl
     .exact h4 k k1 k2 k3
     .rw [hd] at k3; exact absurd (Q1 k3).symm hst
    .refine .inr ⟨fun j h3 h4 h5 => ?_, h2⟩
     rcases h4 with h4 | rfl
     .exact h1 j h3 h4 h5
     .rw [hd] at h5; exact absurd (Q1 h5).symm hst
theorem Me.envFor {n : Nat} (r : Me P ops an g0 w0 n O G W V) : ∀ i, i <= n -> B8 n O V g0 (fun j => j < i) (G i) := by
 intro i
 induction i with
 | zero => intro _ s; exact .inr ⟨fun j _ h => absurd h (by omega), by rw [r.g0]⟩
 | succ i ih =>
   intro hi
   have h := ih (by omega)
   have := h.step (V := V) i (by omega) (fun s _ j _ _ _ hj => hj)
   rw [<- r.env i (by omega)] at this
   intro s
   rcases this s with ⟨j, h1, h2, h3, h4, h5⟩ | ⟨h1, h2⟩
   .exact .inl ⟨j, h1, by omega, h3, fun k k1 k2 k3 => h4 k k1 (by omega) k3, h5⟩
   .exact .inr ⟨fun j a b => h1 j a (by omega), h2⟩
theorem Me.still {n : Nat} (r : Me P ops an g0 w0 n O G W V) (i : Nat) : ∀ d, i + d <= n -> (∀ h, i <= h -> h < i + d -> lY h an.1 = false) -> W (i + d) = W i := by
 intro d
 induction d with
 | zero => intro _ _; rfl
 | succ d ih =>
   intro h1 h2
   rw [<- Rw, r.light (i + d) (by omega) (h2 _ (by omega) (by omega))]
   exact ih (by omega) (fun h a b => h2 h a (by omega))
theorem Me.still' {n : Nat} (r : Me P ops an g0 w0 n O G W V) {i k : Nat} (hik : i <= k) (hk : k <= n) (hh : ∀ h, i <= h -> h < k -> lY h an.1 = false) : W k = W i := by
 have := r.still i (k - i) (by omega) (fun h a b => hh h a (by omega))
 rwa [show i + (k - i) = k from by omega] at this
theorem Jx {i k : Nat} : (∃ h, i <= h /\ h < k /\ lY h an.1 = true) -> ∃ h, i <= h /\ h < k /\ lY h an.1 = true /\ ∀ h', i <= h' -> h' < h -> lY h' an.1 = false := by
 rintro ⟨h, h1, h2, h3⟩
 induction h using Nat.strongRecOn with
 | _ h ih =>
   by_cases hx : ∃ h', i <= h' /\ h' < h /\ lY h' an.1 = true
   .obtain ⟨h', a, b, c⟩ := hx
    exact ih h' b a (by omega) c
   .refine ⟨h, h1, h2, h3, fun h' a b => ?_⟩
    cases hm : lY h' an.1
    .rfl
    .exact absurd ⟨h', a, b, hm⟩ hx
theorem HL {i k : Nat} : (∃ h, i <= h /\ h < k /\ lY h an.1 = true) -> ∃ h, i <= h /\ h < k /\ lY h an.1 = true /\ ∀ h', h < h' -> h' < k -> lY h' an.1 = false := by
 rintro ⟨h, h1, h2, h3⟩
 induction hd : k - h using Nat.strongRecOn generalizing h with
 | _ d ih =>
   by_cases hx : ∃ h', h < h' /\ h' < k /\ lY h' an.1 = true
   .obtain ⟨h', a, b, c⟩ := hx
    exact ih (k - h') (by omega) h' (by omega) b c rfl
   .refine ⟨h, h1, h2, h3, fun h' a b => ?_⟩
    cases hm : lY h' an.1
    .rfl
    .exact absurd ⟨h', a, b, hm⟩ hx
structure HA (ops : Array Oper) (an : Lw) (O : Nat -> Oper) (b : Array Nat) : Prop where
 back : ∀ i, i < ops.size -> ∀ e ∈ (O i).after, Region.binds .any e = true -> e.on < i
 closed : ∀ i j, i < ops.size -> j < ops.size -> Mc b i j = true -> ∃ e ∈ (O j).after, Region.binds .any e = true /\ (e.on = i ∨ Mc b i e.on = true)
 pair : ∀ i j, i < j -> j < ops.size -> CW ops b an i j (O i) (O j) = true
 sel : ∀ i, i < ops.size -> GD (O i) = false
 fn : ∀ i, i < ops.size -> Nr (O i) = true -> lY i an.1 = true
theorem LJ (h : HX ops an = true) (ho : ∀ i, i < ops.size -> ops[i]? = some (O i)) : HA ops an O (Region.before ops) := by
 unfold HX at h
 simp only [Qu] at h
 obtain ⟨⟨⟨⟨h1, h2⟩, h3⟩, h5⟩, h6⟩ := h
 refine ⟨fun i hi e he hb => ?_, fun i j hi hj hb => ?_, fun i j hij hj => ?_, fun i hi => ?_, fun i hi hf => ?_⟩
 .unfold IK at h1
  have := QS.1 h1 i (QQ.2 hi)
  rw [ho i hi] at this
  have := Q2.1 this e he
  simp only [hb, Qr, Bool.false_or] at this
  exact (Rm (x := e.on) (y := i)) ▸ this
 .unfold IW at h2
  have := QS.1 (QS.1 h2 j (QQ.2 hj)) i (QQ.2 hi)
  rw [ho j hj] at this
  simp only [hb, Qr, Bool.false_or] at this
  obtain ⟨e, he, h⟩ := Array.any_eq_true'.1 this
  simp only [Qu, Q4] at h
  refine ⟨e, he, h.1, h.2.imp (fun h => QM h) id⟩
 .unfold JB at h3
  have := QS.1 (QS.1 h3 j (QQ.2 hj)) i (QQ.2 hij)
  rw [ho i (by omega), ho j hj] at this
  exact this
 .have := Q2.1 h5 (O i) (RH (ho i hi))
  simpa using this
 .have := QS.1 h6 i (QQ.2 hi)
  rw [ho i hi] at this
  simpa [hf] using this
theorem MP {i j : Nat} : ∀ {l : List (Nat × Nat)}, HO i j l = true -> (i, j) ∈ l := by
 intro l
 induction l with
 | nil => intro h; cases h
 | cons p r ih =>
   obtain ⟨a, b⟩ := p
   intro h
   unfold HO at h
   cases ha : Nat.beq a i with
   | true =>
     simp only [ha] at h
     cases hb : Nat.beq b j with
     | true =>
       obtain rfl := QM ha
       obtain rfl := QM hb
       exact List.mem_cons_self
     | false => simp only [hb] at h; exact QE _ (ih h)
   | false => simp only [ha] at h; exact QE _ (ih h)
theorem HA.order {b : Array Nat} (st : HA ops an O b) {S : Nat -> Prop} {i : Nat} (hi : i < ops.size)
 (hdown : ∀ j k, j < ops.size -> k < ops.size -> S k -> Mc b j k = true -> S j) (hbi : ∀ j, j < ops.size -> Mc b j i = true -> S j) (hni : ¬ S i)
 {s : Nat} (hs : s ∈ looks ops (O i) ∨ (O i).dst = some s) {j : Nat} (hj : j < ops.size) (hji : j ≠ i) (hd : (O j).dst = some s) : S j ↔ j < i := by
 rcases Rp j i with h | h
 .refine ⟨fun _ => h, fun _ => ?_⟩
  have p := st.pair j i h hi
  unfold CW at p
  simp only [Q4, Qu, Q7] at p
  rcases p with p | p
  .exact hbi j hj p
  .exfalso
   have p1 := p.1
   unfold M9 at p1
   simp only [hd, RI] at p1
   rcases hs with hs | hs
   .have := p1.1.1; simp [hs] at this
   .have := p1.1.2; simp [hs] at this
 .have h' : i < j := by omega
  refine ⟨fun hS => ?_, fun hh => by omega⟩
  exfalso
  have p := st.pair i j h' hj
  unfold CW at p
  simp only [Q4, Qu, Q7] at p
  rcases p with p | p
  .exact hni (hdown i j hi hj hS p)
  .have p1 := p.1
   unfold M9 at p1
   simp only [hd, RI] at p1
   rcases hs with hs | hs
   .have := p1.2; simp [hs] at this
   .have := p1.1; rw [hs] at this; simp at this
theorem Bb {g g' : Env} {o : Oper} (h : ∀ s ∈ looks ops o, g s = g' s) : ∀ x ∈ o.op.operands, ev g x = ev g' x := by
 intro x hx
 cases x with
 | tmp t => exact h t (Rb _ (List.mem_filterMap.2 ⟨.tmp t, by simpa using hx, rfl⟩))
 | _ => rfl
theorem Jy {g g' : Env} {o : Oper} (hs : GD o = false) (h : ∀ s ∈ looks ops o, g s = g' s) : Bk g o = Bk g' o := by
 have e := execOp_congr o (fun cs b he => by simp [GD, he] at hs) (Bb h)
 have k := Bb h
 unfold Bk
 split
 .rename_i op t x y yt hx
  rw [k x (by simp [hx, Op.operands]), k y (by simp [hx, Op.operands])]
 .rename_i fn first captured hx
  have e1 : List.map (ev g) first.toList = List.map (ev g') first.toList := Q3 fun p hp => k p (by simp [hx, Op.operands]; exact .inl (by simpa using hp))
  have e2 : List.map (ev g) captured.toList = List.map (ev g') captured.toList := Q3 fun p hp => k p (by simp [hx, Op.operands]; exact .inr (by simpa using hp))
  rw [e1, e2]
 .rename_i t ps hx
  congr 1
  refine Q3 fun p hp => ?_
  rw [k p.2 (by simp [hx, Op.operands]; exact ⟨p.1, by simpa using hp⟩)]
 .rename_i t n ps hx
  congr 1
  refine Q3 fun p hp => ?_
  rw [k p.2 (by simp [hx, Op.operands]; exact ⟨p.1, by simpa using hp⟩)]
 .rename_i c hx
  split
  .rename_i b hb
   congr 1
   refine Q3 fun p hp => ?_
   exact k p (by simp [hx, Op.operands, Call.operands, hb]; simpa using hp)
  .rename_i f hb
   have : List.map (ev g) c.args.toList = List.map (ev g') c.args.toList := Q3 fun p hp => k p (by simp [hx, Op.operands, Call.operands, hb]; exact .inr (by simpa using hp))
   rw [this, k f (by simp [hx, Op.operands, Call.operands, hb])]
  .exact e
 .exact e
theorem Ik {g g' : Env} {o : Oper} {j : Nat} {want : Bool} (hg : o.guard = some (j, want)) (h : ∀ s ∈ looks ops o, g s = g' s) :
 rG g (tY ops j) want = rG g' (tY ops j) want := by
 cases hs : tY ops j with
 | none => rfl
 | some t =>
   have := h t (Rr _ (by simp [hg, hs]))
   simp [rG, this]
theorem Fa {g g' : Env} {o : Oper} {w : RM} {K : RN -> RM -> Prop} (hs : GD o = false) (h : ∀ s ∈ looks ops o, g s = g' s)
 (hk : xY P ops g o w K) : xY P ops g' o w K := by
 have e := Jy (ops := ops) hs h
 have run : zL P g o w = zL P g' o w := by
  funext K
  unfold zL
  split
  .rename_i x hx
   have := Bb (ops := ops) h x (by simp [hx, Op.operands])
   rw [this]
  .rename_i x hx
   have := Bb (ops := ops) h x (by simp [hx, Op.operands])
   rw [this]
  .rename_i c hx
   have k := Bb h
   have : List.map (ev g) c.args.toList = List.map (ev g') c.args.toList := Q3 fun p hp => k p (by simp [hx, Op.operands, Call.operands]; exact .inr (by simpa using hp))
   rw [this, e]
  .rw [e]
 unfold xY at *
 cases hg : o.guard with
 | none => rw [hg] at hk; simp only at hk ⊢; rwa [<- run]
 | some p =>
   obtain ⟨j, want⟩ := p
   simp only [hg] at hk ⊢
   rw [<- run, <- Ik hg h]
   exact hk
theorem Ka {n : Nat} (hn : n = ops.size) {b : Array Nat} (r : Me P ops an g0 w0 n O G W V) (st : HA ops an O b) {S : Nat -> Prop} {i k : Nat} (hi : i < n) (hk : k <= n)
 (hdown : ∀ j k, j < ops.size -> k < ops.size -> S k -> Mc b j k = true -> S j) (hbi : ∀ j, j < ops.size -> Mc b j i = true -> S j) (hni : ¬ S i)
 (hS : ∀ h, h < n -> lY h an.1 = true -> (S h ↔ h < k)) (hl : lY i an.1 = false) :
 Gw P ops (G i) (O i) (W k) (V i) (W k) := by
 subst hn
 have same : Gs (PQ ops (O i) (G i)) (fE P (Bk (G i) (O i)) (V i) (W k)) -> BU (O i) = false -> Gw P ops (G i) (O i) (W k) (V i) (W k) := by
  intro hs hm K hK
  have run : fE P (Bk (G i) (O i)) (V i) (W k) -> zL P (G i) (O i) (W k) K := by
   intro hs
   unfold fE at hs
   have stp : dQ P (Bk (G i) (O i)) (W k) K := by unfold dQ; rw [hs]; exact hK
   unfold zL
   split
   .rename_i x hx; simp [BU, hx] at hm
   .rename_i x hx; simp [BU, hx] at hm
   .rename_i c hx
    have hf : Nr (O i) = false := by
     cases hh : Nr (O i)
     .rfl
     .rw [st.fn i hi hh] at hl; cases hl
    obtain ⟨cal, cargs, cats⟩ := c
    cases cal with
    | value f =>
      cases f with
      | func f => simp [Nr, hx] at hf
      | _ => exact stp
    | _ => exact stp
   .exact stp
  have hy := r.yld i hi (fun v _ => v = V i) rfl
  unfold xY at hy ⊢
  unfold PQ at hs
  cases hg : (O i).guard with
  | none => rw [hg] at hs; exact run hs
  | some p =>
    obtain ⟨j, want⟩ := p
    rw [hg] at hs
    simp only [hg] at hs hy ⊢
    cases hb : rG (G i) (tY ops j) want with
    | true => rw [hb] at hs; exact run hs
    | false =>
      rw [hb] at hy
      have : undef = V i := hy
      show K undef (W k)
      rw [this]; exact hK
 have moved : BU (O i) = true -> Gw P ops (G i) (O i) (W k) (V i) (W k) := by
  intro hm K hK
  have hy := r.yld i hi (fun v _ => v = V i) rfl
  unfold xY at hy ⊢
  have mv : ∀ (K' : RN -> RM -> Prop) w, zL P (G i) (O i) w K' ↔ ∃ x, ((O i).op = .move x ∨ (O i).op = .assign x) /\ K' (ev (G i) x) w := by
   intro K' w
   unfold zL
   unfold BU at hm
   split
   .rename_i x hx; constructor
    .intro h; exact ⟨x, .inl hx, h⟩
    .rintro ⟨y, h | h, h'⟩
     .rw [hx] at h; cases h; exact h'
     .rw [hx] at h; cases h
   .rename_i x hx; constructor
    .intro h; exact ⟨x, .inr hx, h⟩
    .rintro ⟨y, h | h, h'⟩
     .rw [hx] at h; cases h
     .rw [hx] at h; cases h; exact h'
   .rename_i c hx; simp [hx] at hm
   .rename_i h1 h2 _; split at hm
    .rename_i x hx; exact absurd hx (h1 x)
    .rename_i x hx; exact absurd hx (h2 x)
    .cases hm
  cases hg : (O i).guard with
  | none =>
    rw [hg] at hy
    simp only at hy ⊢
    rw [mv] at hy ⊢
    obtain ⟨x, hx, h⟩ := hy
    exact ⟨x, hx, h ▸ hK⟩
  | some p =>
    obtain ⟨j, want⟩ := p
    simp only [hg] at hy ⊢
    unfold Gd at *
    cases hb : rG (G i) (tY ops j) want with
    | true =>
      simp only [hb] at hy ⊢
      rw [mv] at hy ⊢
      obtain ⟨x, hx, h⟩ := hy
      exact ⟨x, hx, h ▸ hK⟩
    | false =>
      simp only [hb] at hy ⊢
      rwa [hy]
 rcases Nat.le_total k i with hki | hki
 .by_cases hx : ∃ h, k <= h /\ h < i /\ lY h an.1 = true
  .obtain ⟨h, h1, h2, h3, h4⟩ := Jx hx
   have e : W h = W k := r.still' h1 (by omega) h4
   have p := st.pair h i h2 hi
   unfold CW at p
   simp only [Q4, Qu, Q7] at p
   rcases p with p | p
   .have := hbi h (by omega) p
    have := (hS h (by omega) h3).1 this
    omega
   .have p2 := p.2
    rw [h3, hl] at p2
    simp only [Q4] at p2
    cases hmv : BU (O i) with
    | true => exact moved hmv
    | false =>
      rcases p2 with p2 | p2
      .rw [hmv] at p2; cases p2
      .refine same ?_ hmv
       have c := r.chk h i h2 hi p2
       unfold Lz D0 Gp at c
       simp only [h3] at c
       rw [<- e]; exact c
  .have e : W i = W k := r.still' hki (by omega) (fun h a b => by
    cases hm : lY h an.1
    .rfl
    .exact absurd ⟨h, a, b, hm⟩ hx)
   have hy := r.yld i hi
   rw [r.light i hi hl, e] at hy
   exact hy
 .by_cases hx : ∃ h, i <= h /\ h < k /\ lY h an.1 = true
  .obtain ⟨h, h1, h2, h3, h4⟩ := HL hx
   have hne : h ≠ i := fun e => by rw [e, hl] at h3; cases h3
   have e : W k = W (h + 1) := r.still' (by omega) hk (fun h' a b => h4 h' (by omega) b)
   have p := st.pair i h (by omega) (by omega)
   unfold CW at p
   simp only [Q4, Qu, Q7] at p
   rcases p with p | p
   .exact absurd (hdown i h (by omega) (by omega) ((hS h (by omega) h3).2 h2) p) hni
   .have p2 := p.2
    rw [h3, hl] at p2
    simp only [Q4] at p2
    cases hmv : BU (O i) with
    | true => exact moved hmv
    | false =>
      rcases p2 with p2 | p2
      .rw [hmv] at p2; cases p2
      .refine same ?_ hmv
       have c := r.chk i h (by omega) (by omega) p2
       unfold Lz D0 Gp at c
       simp only [hl] at c
       rw [e]; exact c
  .have e : W k = W i := r.still' hki hk (fun h a b => by
    cases hm : lY h an.1
    .rfl
    .exact absurd ⟨h, a, b, hm⟩ hx)
   have hy := r.yld i hi
   rw [r.light i hi hl, <- e] at hy
   exact hy
def jZ (listed : Array Bool) (i : Nat) : Prop := listed.getD i false = true
theorem My {N n : Nat} (hn : n = ops.size) (hd : DX N ops) (hca : EJ P ops) {b : Array Nat} (r : Me P ops an g0 w0 n O G W V) (st : HA ops an O b)
 {Q : Act -> RM -> Prop} (hQ : ∀ a, Dr N (G n) a -> Q a (W n)) :
 ∀ (fuel : Nat) (listed : Array Bool) (g : Env) (a : Act) (k : Nat), listed.size = n -> Dr N g a -> k <= n →
   (∀ j, j < n -> jZ listed j -> ∀ e ∈ (O j).after, Region.binds .any e = true -> jZ listed e.on) →
   B8 n O V g0 (jZ listed) g -> (∀ h, h < n -> lY h an.1 = true -> (jZ listed h ↔ h < k)) →
   ((List.range n).filter fun i => !listed.getD i false).length <= fuel →
   Ic P ops Q fuel listed a (W k) := by
 subst hn
 have ready_iff : ∀ (listed : Array Bool), listed.size = ops.size -> ∀ i, i ∈ Region.ready .any ops listed ↔ (i < ops.size /\ ¬ jZ listed i /\ ∀ e ∈ (O i).after, Region.binds .any e = true -> jZ listed e.on) := by
  intro listed hsz i
  unfold Region.ready jZ
  rw [List.mem_filter, QQ]
  constructor
  .rintro ⟨h1, h2⟩
   rw [r.op i h1] at h2
   simp only [Qu, QR, Rv] at h2
   refine ⟨h1, ?_, fun e he hb => ?_⟩
   .have := h2.1
    rw [Qx] at this ⊢
    rw [QH (by omega)] at this ⊢
    simpa using this
   .have := Q2.1 h2.2 e he
    simpa [hb] using this
  .rintro ⟨h1, h2, h3⟩
   refine ⟨h1, ?_⟩
   rw [r.op i h1]
   simp only [Qu, QR, Rv]
   refine ⟨?_, Q2.2 fun e he => ?_⟩
   .rw [Qx] at h2 ⊢
    rw [QH (by omega)] at h2 ⊢
    simpa using h2
   .by_cases hb : Region.binds .any e = true
    .simp [hb, h3 e he hb]
    .simp [hb]
 have none_ready : ∀ (listed : Array Bool), listed.size = ops.size -> Region.ready .any ops listed = [] -> ∀ i, i < ops.size -> jZ listed i := by
  intro listed hsz hr i
  induction i using Nat.strongRecOn with
  | _ i ih =>
    intro hi
    refine Classical.byContradiction fun hl => ?_
    have : i ∈ Region.ready .any ops listed := (ready_iff listed hsz i).2 ⟨hi, hl, fun e he hb => by
     have := st.back i hi e he hb
     exact ih e.on this (by omega)⟩
    rw [hr] at this; cases this
 have all_done : ∀ (listed : Array Bool) (g : Env) (a : Act) (k : Nat), Dr N g a -> k <= ops.size -> B8 ops.size O V g0 (jZ listed) g →
     (∀ h, h < ops.size -> lY h an.1 = true -> (jZ listed h ↔ h < k)) -> (∀ i, i < ops.size -> jZ listed i) -> Q a (W k) := by
  intro listed g a k hr hk he hh hall
  have e : W ops.size = W k := r.still' hk (QD _) (fun h h1 h2 => by
   cases hm : lY h an.1
   .rfl
   .have := (hh h h2 hm).1 (hall h h2); omega)
  have eg : g = G ops.size := funext fun s => he.agree (r.envFor ops.size (QD _)) s (fun j hj _ => ⟨fun _ => hj, fun _ => hall j hj⟩)
  rw [<- e]; exact hQ a (eg ▸ hr)
 intro fuel
 induction fuel with
 | zero =>
   intro listed g a k hsz hr hk hdep henv hh hc
   have hall : ∀ i, i < ops.size -> jZ listed i := by
    intro i hi
    have hnil : ((List.range ops.size).filter fun i => !listed.getD i false) = [] := QY.1 (by omega)
    have := List.filter_eq_nil_iff.1 hnil i (QQ.2 hi)
    unfold jZ; simpa using this
   refine ⟨?_, all_done listed g a k hr hk henv hh hall⟩
   rw [List.eq_nil_iff_forall_not_mem]
   intro i hi
   have := (ready_iff listed hsz i).1 hi
   exact this.2.1 (hall i this.1)
 | succ fuel ih =>
   intro listed g a k hsz hr hk hdep henv hh hc
   refine ⟨fun hn => all_done listed g a k hr hk henv hh (none_ready listed hsz hn), fun i hi => ?_⟩
   obtain ⟨h1, h2, h3⟩ := (ready_iff listed hsz i).1 hi
   have hdown : ∀ k j, j < ops.size -> k < ops.size -> jZ listed k -> Mc b j k = true -> jZ listed j := by
    intro k
    induction k using Nat.strongRecOn with
    | _ k ihk =>
      intro j hj hk hl hb
      obtain ⟨e, he, hbi, h⟩ := st.closed j k hj hk hb
      have hle := hdep k hk hl e he hbi
      rcases h with h | h
      .exact h ▸ hle
      .have hlt := st.back k hk e he hbi
       exact ihk e.on hlt j hj (by omega) hle h
   have hbi : ∀ j, j < ops.size -> Mc b j i = true -> jZ listed j := by
    intro j hj hb
    obtain ⟨e, he, hbi, h⟩ := st.closed j i hj h1 hb
    have hle := h3 e he hbi
    rcases h with h | h
    .exact h ▸ hle
    .have hlt := st.back i h1 e he hbi
     exact hdown e.on j hj (by omega) hle h
   have hdown' : ∀ j k, j < ops.size -> k < ops.size -> jZ listed k -> Mc b j k = true -> jZ listed j := fun j k => hdown k j
   have hlooks : ∀ s ∈ looks ops (O i), (G i) s = g s := fun s hs =>
    (r.envFor i (by omega)).agree henv s (fun j hj hd => by
      by_cases hji : j = i
      .subst hji
       exact ⟨fun h => absurd h (by omega), fun h => absurd h h2⟩
      .exact (st.order h1 hdown' hbi h2 (.inl hs) hj hji hd).symm)
   have hl' : ∀ j, jZ (listed.setIfInBounds i true) j ↔ (jZ listed j ∨ j = i) := by
    intro j
    unfold jZ
    rw [Qx, Qx]
    by_cases hji : j = i
    .subst hji
     rw [QU (by omega)]
     simp
    .rw [QX (fun e => hji e.symm)]
     simp [hji]
   have next : ∀ k', k' <= ops.size -> (∀ h, h < ops.size -> lY h an.1 = true -> ((jZ listed h ∨ h = i) ↔ h < k')) -> Gw P ops g (O i) (W k) (V i) (W k') →
       C1 P ops i (Ic P ops Q fuel (listed.setIfInBounds i true)) a (W k) := by
    intro k' hk' hh' hy
    refine GB (r.op i h1) (hca i _ (r.op i h1)) hd hr hy ?_
    refine ih _ (put g (O i).dst (V i)) _ k' (by simp [hsz]) (hr.put _ _ (hd i _ (r.op i h1))) hk' ?_ ?_ ?_ ?_
    .intro j hj hlj e he hb
     rw [hl'] at hlj ⊢
     rcases hlj with hlj | rfl
     .exact .inl (hdep j hj hlj e he hb)
     .exact .inl (h3 e he hb)
    .have := henv.step i h1 (fun s hs j hj hji hd hlj => (st.order h1 hdown' hbi h2 (.inr hs) hj hji hd).1 hlj)
     intro s
     rcases this s with ⟨j, j1, j2, j3, j4, j5⟩ | ⟨j1, j2⟩
     .exact .inl ⟨j, j1, (hl' j).2 j2, j3, fun k k1 k2 k3 => j4 k k1 ((hl' k).1 k2) k3, j5⟩
     .exact .inr ⟨fun j a b => j1 j a ((hl' j).1 b), j2⟩
    .intro h a b; rw [hl']; exact hh' h a b
    .have hin : i ∈ (List.range ops.size).filter fun i => !listed.getD i false :=
      List.mem_filter.2 ⟨QQ.2 h1, by unfold jZ at h2; simpa using h2⟩
     have e1 : ((List.range ops.size).filter fun j => !(listed.setIfInBounds i true).getD j false) = ((List.range ops.size).filter fun j => !listed.getD j false).filter fun j => j != i := by
      rw [List.filter_filter]
      refine List.filter_congr fun j _ => ?_
      have := hl' j
      unfold jZ at this
      by_cases hji : j = i
      .have hh : (listed.setIfInBounds i true).getD j false = true := this.2 (.inr hji)
       rw [hh, hji]; simp
      .have hne : (j != i) = true := by simpa using hji
       rw [hne, Bool.true_and]
       cases ha : listed.getD j false with
       | true => rw [this.2 (.inl ha)]
       | false =>
         cases hb : (listed.setIfInBounds i true).getD j false with
         | false => rfl
         | true => rcases this.1 hb with h | h
                   .rw [ha] at h; cases h
                   .exact absurd h hji
     have hnd : ((List.range ops.size).filter fun j => !listed.getD j false).Nodup := List.nodup_range.filter _
     rw [e1, <- List.Nodup.erase_eq_filter hnd, List.length_erase_of_mem hin]
     omega
   cases hm : lY i an.1 with
   | true =>
     have hS : ∀ h, h < ops.size -> lY h an.1 = true -> (jZ listed h ↔ h < i) := by
      intro h hh1 hhm
      rcases Nat.lt_trichotomy h i with hlt | heq | hgt
      .refine ⟨fun _ => hlt, fun _ => ?_⟩
       have p := st.pair h i hlt h1
       unfold CW at p
       rw [hhm, hm] at p
       simp only [Q4, Qu, Qm, and_false, or_false] at p
       exact hbi h hh1 p
      .subst heq; exact ⟨fun hh => absurd hh h2, fun hh => absurd hh (by omega)⟩
      .refine ⟨fun hl => ?_, fun hh => absurd hh (by omega)⟩
       have p := st.pair i h hgt hh1
       unfold CW at p
       rw [hhm, hm] at p
       simp only [Q4, Qu, Qm, and_false, or_false] at p
       exact absurd (hdown h i h1 hh1 hl p) h2
     have eW : W k = W i := by
      rcases Nat.le_total k i with hki | hki
      .exact (r.still' hki (by omega) (fun h a b => by
        cases hx : lY h an.1
        .rfl
        .have := (hh h (by omega) hx).1 ((hS h (by omega) hx).2 b); omega)).symm
      .exact r.still' hki hk (fun h a b => by
        cases hx : lY h an.1
        .rfl
        .have := (hS h (by omega) hx).1 ((hh h (by omega) hx).2 b); omega)
     refine next (i + 1) (by omega) (fun h a b => ?_) ?_
     .rw [hS h a b]; omega
     .rw [eW]
      intro K hK
      exact Fa (ops := ops) (st.sel i h1) hlooks (r.yld i h1 K hK)
   | false =>
     refine next k hk (fun h a b => ?_) ?_
     .rw [<- hh h a b]
      constructor
      .rintro (h' | rfl)
       .exact h'
       .rw [hm] at b; cases b
      .exact .inl
     .intro K hK
      exact Fa (ops := ops) (st.sel i h1) hlooks (Ka rfl r st h1 hk hdown' hbi h2 hh hm K hK)
end
abbrev Hr (P : Program) : Machine -> Prop := Machine.fenced P Fence.wide
def Ir (P : Program) (f : FuncId) (ro : Option Nat) (c : Code) (Q : Exit -> Act -> RM -> Prop) (a : Act) (w : RM) : Prop :=
 ∀ (b : Frame) (k : List Item) (cs : List Frame), b.fn = f -> b.roundOf = ro -> ∃ e a' w', Q e a' w' /\ ArrivesIn (Hr P) P (lone (b.atR a (.code c :: k)) cs w) b k cs e a' w'
section
variable {P : Program} {f : FuncId} {ro : Option Nat} {Q : Exit -> Act -> RM -> Prop} {a : Act} {w : RM}
theorem BW {m m1 : Machine} (h : step P m = .next m1) : StepsIn (Hr P) P m m1 := .one (fenced_wide P m) h
theorem Cf {m m1 m2 : Machine} (h : step P m = .next m1) (h' : StepsIn (Hr P) P m1 m2) : StepsIn (Hr P) P m m2 := .head (fenced_wide P m) h h'
theorem M3 (h : Q .normal a w) : Ir P f ro .skip Q a w := fun _ _ _ _ _ => ⟨.normal, a, w, h, BW Go.stepR_skip⟩
theorem LO {l : Nat} (h : Q .normal a w) : Ir P f ro (.label l) Q a w := fun _ _ _ _ _ => ⟨.normal, a, w, h, BW stepR_label⟩
theorem Jn {id : Nat} (h : Q (.exit id) a w) : Ir P f ro (.exit id) Q a w :=
 fun _ k _ _ _ => ⟨.exit id, a, w, h, fun _ hk => BW (stepR_exit hk), fun _ hk => ⟨k, hk, .refl _⟩⟩
theorem Lr (h : Q .ret a w) : Ir P f ro .ret Q a w :=
 fun _ k _ _ _ => ⟨.ret, a, w, h, fun hn => ⟨_, BW (stepR_ret hn)⟩, fun _ => ⟨k, .refl _⟩⟩
theorem NT {x y : Code} (h : Ir P f ro x (Exit.then (Ir P f ro y Q) Q) a w) : Ir P f ro (.seq x y) Q a w := by
 intro b k cs hb hro
 obtain ⟨e, a1, w1, hq, har⟩ := h b (.code y :: k) cs hb hro
 cases e with
 | normal =>
   obtain ⟨e2, a2, w2, hq2, har2⟩ := hq b k cs hb hro
   exact ⟨e2, a2, w2, hq2, .of_steps (Cf stepR_seq har) har2⟩
 | _ => exact ⟨_, a1, w1, hq, .of_steps (BW stepR_seq) (.pass (x := .code y) rfl (fun _ _ => .inl (by simp)) har)⟩
theorem Na {c : Operand} {x y : Code} {t : Bool} (hc : a.eval c = .bool t) (h : Ir P f ro (if t then x else y) Q a w) : Ir P f ro (.cond c x y) Q a w :=
 fun b k cs hb hro => let ⟨e, a1, w1, q, r⟩ := h b k cs hb hro; ⟨e, a1, w1, q, .of_steps (BW (stepR_cond hc)) r⟩
theorem L2 {id : Nat} {c : Code} (h : Ir P f ro c (Exit.inBlock id Q) a w) : Ir P f ro (.block id c) Q a w := by
 intro b k cs hb hro
 obtain ⟨e, a1, w1, hq, har⟩ := h b (.inBlock id :: k) cs hb hro
 cases e with
 | normal => exact ⟨.normal, a1, w1, hq, Cf stepR_block (StepsIn.trans har (BW stepR_inBlock))⟩
 | exit i =>
   by_cases hid : i = id
   .simp only [Exit.inBlock, hid, if_true] at hq
    exact ⟨.normal, a1, w1, hq, Cf stepR_block (har.1 k (by simp [exitTo, hid]))⟩
   .simp only [Exit.inBlock, hid, if_false] at hq
    have this : (id == i) = false := by simp; exact fun h => hid h.symm
    have hx : exitTo i (.inBlock id :: k) = exitTo i k := by simp [exitTo, this]
    exact ⟨.exit i, a1, w1, hq, fun k' hk => Cf stepR_block (har.1 k' (by rw [hx]; exact hk)),
     fun hr' hk => let ⟨k1, h1, h2⟩ := har.2 hr' (by rw [hx]; exact hk); ⟨k1, h1, Cf stepR_block h2⟩⟩
 | goto l =>
   have hx : gotoIn l (.inBlock id :: k) = gotoIn l k := by simp [gotoIn]
   exact ⟨_, a1, w1, hq, fun k' hk => Cf stepR_block (har.1 k' (by rw [hx]; exact hk)),
    fun hr' hk => let ⟨k1, h1, h2⟩ := har.2 hr' (by rw [hx]; exact hk); ⟨k1, h1, Cf stepR_block h2⟩⟩
 | ret => exact ⟨_, a1, w1, hq, .of_steps (BW stepR_block) har⟩
 | panic ch => exact ⟨_, a1, w1, hq, .of_steps (BW stepR_block) har⟩
 | outgrown => exact ⟨_, a1, w1, hq, .of_steps (BW stepR_block) har⟩
theorem sJ {b : Frame} {k : List Item} {cs : List Frame} {c : Code} :
 step P (lone (b.atR a (.code (.scope c) :: k)) cs w) = .next (lone (b.atR a (.code c :: .inScope c :: k)) cs w) :=
 step_lone_go (by simp [stepG, stepG.exec, Frame.atR])
theorem Iw {b : Frame} {k : List Item} {cs : List Frame} {c : Code} :
 step P (lone (b.atR a (.inScope c :: k)) cs w) = .next (lone (b.atR a k) cs w) :=
 step_lone_go (by simp [stepG, stepG.exec, Frame.atR])
theorem LU {c : Code} (h : Ir P f ro c (Exit.noGoto Q) a w) : Ir P f ro (.scope c) Q a w := by
 intro b k cs hb hro
 obtain ⟨e, a1, w1, hq, har⟩ := h b (.inScope c :: k) cs hb hro
 cases e with
 | normal => exact ⟨.normal, a1, w1, hq, Cf sJ (StepsIn.trans har (BW Iw))⟩
 | exit id =>
   have hx : exitTo id (.inScope c :: k) = exitTo id k := by simp [exitTo]
   exact ⟨.exit id, a1, w1, hq, fun k' hk => Cf sJ (har.1 k' (by rw [hx]; exact hk)),
    fun hr' hk => let ⟨k1, h1, h2⟩ := har.2 hr' (by rw [hx]; exact hk); ⟨k1, h1, Cf sJ h2⟩⟩
 | goto l => exact hq.elim
 | ret => exact ⟨_, a1, w1, hq, .of_steps (BW sJ) har⟩
 | panic ch => exact ⟨_, a1, w1, hq, .of_steps (BW sJ) har⟩
 | outgrown => exact ⟨_, a1, w1, hq, .of_steps (BW sJ) har⟩
theorem Mg {c : Code} (I : Act -> RM -> Prop) (μ : Act -> RM -> Nat) (h0 : I a w)
 (round : ∀ a w, I a w -> Ir P f ro c (Exit.then (fun a' w' => I a' w' /\ μ a' w' < μ a w) Q) a w) : Ir P f ro (.loop c) Q a w := by
 intro b k cs hb hro
 have key : ∀ n a w, μ a w = n -> I a w →
     ∃ e a' w', Q e a' w' /\ ArrivesIn (Hr P) P (lone (b.atR a (.code c :: .inLoop c :: k)) cs w) b k cs e a' w' := by
  intro n
  induction n using Nat.strongRecOn with
  | _ n ih =>
    intro a w hn hI
    obtain ⟨e, a1, w1, hq, har⟩ := round a w hI b (.inLoop c :: k) cs hb hro
    cases e with
    | normal =>
      obtain ⟨hI1, hlt⟩ := hq
      obtain ⟨e2, a2, w2, hq2, har2⟩ := ih (μ a1 w1) (hn ▸ hlt) a1 w1 rfl hI1
      exact ⟨e2, a2, w2, hq2, .of_steps (StepsIn.trans har (BW stepR_inLoop)) har2⟩
    | _ => exact ⟨_, a1, w1, hq, .pass (x := .inLoop c) rfl (fun _ _ => .inl (by simp)) har⟩
 obtain ⟨e, a', w', hq, har⟩ := key _ a w rfl h0
 exact ⟨e, a', w', hq, .of_steps (BW stepR_loop) har⟩
theorem Ls {ops : Array Oper} {L : List Nat} (h : uJ P ops (Q .normal) L a w) (b : Frame) (k : List Item) (cs : List Frame) (hro : b.roundOf = ro) :
 ∃ e a' w', Q e a' w' /\ ArrivesIn (Hr P) P (lone (b.atR a (.inRegion ops L :: k)) cs w) b k cs e a' w' := by
 obtain ⟨e, a', w', ⟨rfl, hq⟩, hs⟩ := wp_opsIn (F := H0 ro) (n := 0) L a w (L7 ro L a w h) b k cs hro trivial (fun _ h => by simp [H0, Fence.wide] at h)
 exact ⟨.normal, a', w', hq, hs⟩
theorem Kp {id : Nat} {ops : Array Oper} (h : uJ P ops (Q .normal) (List.range ops.size) a w) : Ir P f ro (.region id ops false) Q a w := by
 intro b k cs hb hro
 obtain ⟨e, a1, w1, q, r⟩ := Ls h b k cs hro
 exact ⟨e, a1, w1, q, .of_steps (BW stepR_region) r⟩
theorem GN (hm : P.follows .mixedOrders = true) {id : Nat} {ops : Array Oper}
 (h : uJ P ops (Q .normal) (Region.schedule true ops (w.tape w.drawn (.order f id))) a { w with drawn := w.drawn + 1 }) : Ir P f ro (.region id ops true) Q a w := by
 intro b k cs hb hro
 obtain ⟨e, a1, w1, q, r⟩ := Ls h b k cs hro
 refine ⟨e, a1, w1, q, .of_steps (BW ?_) r⟩
 have := @stepR_region_draw P b a k cs w ops id
 rw [hm, hb] at this
 exact this
def AW (v : RN) (w : RM) (K : RM -> Prop) : Prop :=
 match v with
 | .pointer (some a) => w.heap[a.block]? = some (.deferred (some [])) /\ K (w.putObj a.block (.deferred none))
 | _ => K w
def LR (P : Program) (fn : Func) (R : RN -> RM -> Prop) : Exit -> Act -> RM -> Prop
 | .normal, a, w | .ret, a, w => ∃ m, a.defers = Jk m /\ AW m w fun w' => ∃ v, (results fn a.tmps).run P w' = .ok v w' /\ R v w'
 | _, _, _ => False
theorem Jp {fn : Func} {R : RN -> RM -> Prop} {fr : Frame} {cs : List Frame} (hm : fr.mode = .returning) (hf : P.funcs[fr.fn]? = some fn) (hk : fr.kind = .normal) {m : RN} (hd : fr.defers = Jk m)
 (h : AW m w fun w' => ∃ v, (results fn fr.tmps).run P w' = .ok v w' /\ R v w') :
 ∃ v w' fr', R v w' /\ Steps P (lone fr cs w) (lone fr' cs w') /\ fr'.fn = fr.fn /\ fr'.leaving P w' (.returned v) := by
 have nil : fr.defers = [] -> (∃ v, (results fn fr.tmps).run P w = .ok v w /\ R v w) →
     ∃ v w' fr', R v w' /\ Steps P (lone fr cs w) (lone fr' cs w') /\ fr'.fn = fr.fn /\ fr'.leaving P w' (.returned v) := by
  rintro hd ⟨v, hv, hR⟩
  exact ⟨v, w, fr, hR, .refl _ _, rfl, hm, hd, hk, fn, hf, hv⟩
 cases m with
 | pointer p =>
   cases p with
   | none => exact nil hd h
   | some a =>
     obtain ⟨h1, v, hv, hR⟩ := h
     have hs := step_collected (P := P) (fr := fr) (cs := cs) (w := w) (d := { target := .collected a.block, args := #[] }) (r := a.block) (ds := []) (calls := [])
      (by rw [hm]; simp) hd rfl (run_takeDeferred h1)
     exact ⟨v, _, { fr with defers := [] }, hR, .head hs (.refl _ _), rfl, hm, rfl, hk, fn, hf, hv⟩
 | _ => exact nil hd h
theorem I3 {fn : Func} {c : Code} {args : Array RN} {w : RM} {R : RN -> RM -> Prop}
 (hf : P.funcs[f]? = some fn) (hb : fn.body = some c)
 (h : Ir P f none c (LR P fn R) { tmps := args ++ Array.replicate (fn.ntmps - args.size) undef, defers := [] } w) : Calls P f args w fun e w' => ∃ v, e = .returned v /\ R v w' := by
 intro cs
 let b : Frame := { (default : Frame) with fn := f, kind := .normal, roundOf := none }
 have henter : Frame.enter P f args .normal = b.atR { tmps := args ++ Array.replicate (fn.ntmps - args.size) undef, defers := [] } [.code c] := by
  simp [Frame.enter, Frame.atR, hf, hb, b]
 obtain ⟨e, a', w', hq, har⟩ := h b [] cs rfl rfl
 rw [<- henter] at har
 cases e with
 | normal =>
   obtain ⟨m, hd, hq⟩ := hq
   obtain ⟨v, w2, fr, hR, hs, hfn, hl⟩ := Jp (P := P) (cs := cs) (fr := { b.atR a' [] with mode := .returning }) rfl hf rfl hd hq
   exact ⟨.returned v, w2, fr, ⟨v, rfl, hR⟩, (StepsIn.steps har).trans (.head (stepR_end rfl) hs), hfn, hl⟩
 | ret =>
   obtain ⟨m, hd, hq⟩ := hq
   obtain ⟨todo, hs0⟩ := har.1 rfl
   obtain ⟨v, w2, fr, hR, hs, hfn, hl⟩ := Jp (P := P) (cs := cs) (fr := { b.atR a' todo with mode := .returning }) rfl hf rfl hd hq
   exact ⟨.returned v, w2, fr, ⟨v, rfl, hR⟩, (StepsIn.steps hs0).trans hs, hfn, hl⟩
 | panic chain => exact hq.elim
 | exit id => exact hq.elim
 | goto l => exact hq.elim
 | outgrown => exact hq.elim
def Ot (P : Program) (f : FuncId) (Q : Exit -> Act -> RM -> Prop) (a : Act) (w : RM) : Option Code -> Prop
 | none => Q .normal a w
 | some c => Ir P f none c Q a w
theorem LW {gf : Operand} {ps : Array Tmp} {Qj bd : Code} {d : Deferred} {g : FuncId} {args : Array RN} {w1 : RM} {l : Nat} {mark : List Deferred} {w2 w3 : RM} {v : RN}
 (he : (Instr.enterLoop f a.tmps ps Qj bd none).run P w = .ok (l, mark) w1)
 (hres : (resolve a.eval (rangeCall gf l) 0).run P w1 = .ok d w1) (hinv : (invoke d.target d.args).run P w1 = .ok (.enter g args) w2)
 (hcall : P2 P g args w2 v w3)
 {jump : Option Code} {w4 : RM} (hend : (Instr.endLoop l).run P w3 = .ok jump w4)
 (hj : Ot P f Q { a with defers := mark ++ a.defers } w4 jump) :
 Ir P f none (.rangeFunc gf ps Qj bd) Q a w := by
 intro b k cs hb hro
 rw [<- hb, <- hro] at he
 have henter := stepR_rangeFunc (P := P) (b := b) (a := a) (k := k) (cs := cs) (w := w) he hres hinv
 obtain ⟨e, w3', fr, ⟨rfl, rfl⟩, hsteps, hfn, hleave⟩ := hcall (b.atR { a with defers := mark ++ a.defers } (.inRangeFunc l :: k) :: cs)
 have sback : StepsIn (Hr P) P (lone (b.atR a (.code (.rangeFunc gf ps Qj bd) :: k)) cs w) (lone (b.atR { a with defers := mark ++ a.defers } ((jump.map Item.code).toList ++ k)) cs w4) := by
  refine Cf henter (StepsIn.trans (stepsIn_wide.2 hsteps) (Cf (m1 := lone (b.atR { a with defers := mark ++ a.defers } (.endRangeFunc l :: k)) cs w3') ?_ (BW (stepR_endRangeFunc hend))))
  rw [<- finish_atR_inRangeFunc l v]; exact step_leave_returned hleave
 cases jump with
 | none => exact ⟨.normal, _, w4, hj, sback⟩
 | some c =>
   obtain ⟨e', a'', w5, hq, harr⟩ := hj b k cs hb hro
   exact ⟨e', a'', w5, hq, .of_steps sback harr⟩
end
def Ja (ops : Array Oper) : Nat -> Array Bool -> List Nat -> Prop
 | 0, _, L => L = []
 | _ + 1, listed, [] => Region.ready .any ops listed = []
 | n + 1, listed, i :: L => i ∈ Region.ready .any ops listed /\ Ja ops n (listed.setIfInBounds i true) L
section
variable {P : Program} {ops : Array Oper} {Q : Act -> RM -> Prop}
theorem Ny : ∀ (fuel t : Nat) (listed : Array Bool), Ja ops fuel listed (Region.linearise.go .any ops fuel t listed []) := by
 intro fuel
 induction fuel with
 | zero => intro t listed; simp [Region.linearise.go, Ja]
 | succ fuel ih =>
   intro t listed
   simp only [Region.linearise.go]
   change Ja ops (fuel + 1) listed (match (Region.ready .any ops listed)[t % (Region.ready .any ops listed).length]? with
    | some i => Region.linearise.go .any ops fuel (t / (Region.ready .any ops listed).length) (listed.setIfInBounds i true) [i]
    | none => [].reverse)
   cases hi : (Region.ready .any ops listed)[t % (Region.ready .any ops listed).length]? with
   | none =>
     have : Region.ready .any ops listed = [] := by
      cases hr : Region.ready .any ops listed with
      | nil => rfl
      | cons x xs =>
        rw [hr] at hi
        have hlt : t % (x :: xs).length < (x :: xs).length := Nat.mod_lt _ (by simp)
        rw [Qv hlt] at hi
        cases hi
     simpa [Ja] using this
   | some i =>
     simp only []
     rw [linearise_go_acc]
     exact ⟨List.mem_of_getElem? hi, ih _ _⟩
theorem FB : ∀ (fuel : Nat) (listed : Array Bool) (L : List Nat) (a : Act) (w : RM), Ic P ops Q fuel listed a w -> Ja ops fuel listed L -> uJ P ops Q L a w := by
 intro fuel
 induction fuel with
 | zero => intro listed L a w h hL; obtain rfl : L = [] := hL; exact h.2
 | succ fuel ih =>
   intro listed L a w h hL
   cases L with
   | nil => exact h.1 hL
   | cons i L =>
     exact Kz (fun a w hh => ih _ _ a w hh hL.2) (h.2 i hL.1)
end
structure Ip (π : List Nat) (ops : Array Oper) : Prop where
 len : π.length = ops.size
 to : ∀ i, i < ops.size -> pK π i < ops.size /\ π[pK π i]? = some i
 back : ∀ k, k < ops.size -> ∃ i, π[k]? = some i /\ pK π i = k /\ i < ops.size
 after : ∀ (i : Nat) (o : Oper), ops[i]? = some o -> ∀ e ∈ o.after, e.on < ops.size
 guard : ∀ (i : Nat) (o : Oper) (j : Nat) (b : Bool), ops[i]? = some o -> o.guard = some (j, b) -> j < ops.size
theorem NY {π : List Nat} {ops : Array Oper} (h : KT π ops = true) : Ip π ops := by
 unfold KT at h
 simp only [Qu] at h
 obtain ⟨⟨⟨h1, h2⟩, h3⟩, h4⟩ := h
 have h1 := QM h1
 have at4 : ∀ (i : Nat) (o : Oper), ops[i]? = some o -> (o.after.all fun e => Nat.blt e.on ops.size) = true /\ (match o.guard with | some (j, _) => Nat.blt j ops.size | none => true) = true := by
  intro i o ho
  have hi : i < ops.size := by
   rcases Rp i ops.size with h | h
   .exact h
   .rw [RD h] at ho; cases ho
  have := QS.1 h4 i (QQ.2 hi)
  rw [ho] at this
  simp only [Qu] at this
  refine ⟨this.1, ?_⟩
  have h := this.2
  revert h
  cases o.guard <;> exact id
 refine ⟨h1, fun i hi => ?_, fun k hk => ?_, fun i o ho e he => ?_, fun i o j b ho hg => ?_⟩
 .have := QS.1 h3 i (QQ.2 hi)
  cases hp : π[pK π i]? with
  | none => rw [hp] at this; cases this
  | some j =>
    rw [hp] at this
    obtain rfl := QM this
    refine ⟨?_, rfl⟩
    rcases Rp (pK π j) π.length with h | h
    .omega
    .rw [Rq h] at hp; cases hp
 .have := QS.1 h2 k (QQ.2 hk)
  cases hp : π[k]? with
  | none => rw [hp] at this; cases this
  | some i =>
    rw [hp] at this
    simp only [Qu] at this
    exact ⟨i, rfl, QM this.1, (Rm (x := i) (y := ops.size)) ▸ this.2⟩
 .have := Q2.1 (at4 i o ho).1 e he
  exact (Rm (x := e.on) (y := ops.size)) ▸ this
 .have := (at4 i o ho).2
  rw [hg] at this
  exact (Rm (x := j) (y := ops.size)) ▸ this
theorem IL {π : List Nat} {es : List (Nat × Nat)} {l : List Oper} : ∀ (r : List Nat), (∀ i ∈ r, i < l.length) -> (Fb π es l r).length = r.length /\ ∀ k i : Nat, r[k]? = some i -> (Fb π es l r)[k]? = (l[i]?).map (Aa π es i) := by
 intro r
 induction r with
 | nil => intro _; exact ⟨rfl, fun k i h => by simp at h⟩
 | cons j r ih =>
   intro h
   obtain ⟨h1, h2⟩ := ih fun i hi => h i (QE _ hi)
   have hj : j < l.length := h j (by simp)
   simp only [Fb, Qv hj]
   refine ⟨by simp [h1], fun k i hk => ?_⟩
   cases k with
   | zero => simp at hk; subst hk; simp [Qv hj]
   | succ k => simp at hk ⊢; exact h2 k i hk
section
variable {P : Program} {ops : Array Oper} {Q : Act -> RM -> Prop} {π : List Nat} {es : List (Nat × Nat)}
theorem Ip.mem (p : Ip π ops) : ∀ i ∈ π, i < ops.toList.length := by
 intro i hi
 obtain ⟨k, hk, e⟩ := List.getElem_of_mem hi
 obtain ⟨j, h1, _, h2⟩ := p.back k (by rw [<- p.len]; exact hk)
 rw [Qv hk] at h1
 cases h1
 rw [<- e]; simpa using h2
theorem Ip.size (p : Ip π ops) : (lW π es ops).size = ops.size := by
 unfold lW
 rw [List.size_toArray, (IL (es := es) (π := π) π p.mem).1, p.len]
theorem Ip.get (p : Ip π ops) {i : Nat} (hi : i < ops.size) : (lW π es ops)[pK π i]? = (ops[i]?).map (Aa π es i) := by
 unfold lW
 have := (IL (es := es) (π := π) π p.mem).2 (pK π i) i (p.to i hi).2
 rw [Array.getElem?_toList] at this
 simpa using this
theorem KA {i : Nat} {o : Oper} {a : Act} {w : RM} {K : Act -> RM -> Prop} : KV P (Aa π es i o) a w K ↔ KV P o a w K := by
 unfold KV
 have h1 : execOp a.eval (Aa π es i o) = execOp a.eval o := by
  obtain ⟨d, op, ty, ps, af, g⟩ := o
  cases op <;> rfl
 have h2 : IH (Aa π es i o) = IH o := rfl
 rw [h1, h2]
 generalize (execOp a.eval o).run P w = r
 cases r with
 | ok n w => cases n <;> exact Iff.rfl
 | halt x w => exact Iff.rfl
theorem Ju (p : Ip π ops) {i : Nat} {o : Oper} (ho : ops[i]? = some o) (tmps : Array RN) :
 Region.wanted (Aa π es i o) (yielded (lW π es ops) tmps) = Region.wanted o (yielded ops tmps) := by
 unfold Region.wanted Aa
 simp only
 cases hg : o.guard with
 | none => rfl
 | some q =>
   obtain ⟨j, b⟩ := q
   simp only
   have hj := p.guard i o j b ho hg
   have : (lW π es ops)[pK π j]?.bind (·.dst) = (ops[j]?).bind (·.dst) := by
    rw [p.get hj]
    cases ops[j]? <;> rfl
   unfold yielded
   rw [this]
theorem KZ (p : Ip π ops) : ∀ (L : List Nat), (∀ i ∈ L, i < ops.size) -> ∀ (a : Act) (w : RM), uJ P (lW π es ops) Q (L.map (pK π)) a w -> uJ P ops Q L a w := by
 intro L
 induction L with
 | nil => intro _ a w h; exact h
 | cons i L ih =>
   intro hL a w h
   rw [Rl] at h
   simp only [uJ] at h ⊢
   have hi := hL i (by simp)
   have ih := ih fun i hi => hL i (QE _ hi)
   unfold C1 at h ⊢
   rw [p.get hi] at h
   rw [QH hi] at h ⊢
   simp only [QR] at h
   rw [Ju p (QH hi)] at h
   simp only
   split
   .rename_i hw
    rw [if_pos hw, KA] at h
    exact IT (fun a w => ih a w) h
   .rename_i hw
    rw [if_neg hw] at h
    exact ih _ _ h
theorem Dq {ops : Array Oper} {listed : Array Bool} (hsz : listed.size = ops.size) (i : Nat) :
 i ∈ Region.ready .any ops listed ↔ (i < ops.size /\ listed.getD i false = false /\ ∀ o, ops[i]? = some o -> ∀ e ∈ o.after, Region.binds .any e = true -> listed.getD e.on false = true) := by
 unfold Region.ready
 rw [List.mem_filter, QQ]
 constructor
 .rintro ⟨h1, h2⟩
  rw [QH h1] at h2
  simp only [Qu, QR, Rv] at h2
  refine ⟨h1, ?_, fun o ho e he hb => ?_⟩
  .have := h2.1
   rw [Qx] at this ⊢
   rw [QH (by omega)] at this ⊢
   simpa using this
  .rw [QH h1] at ho
   cases ho
   have := Q2.1 h2.2 e he
   simpa [hb] using this
 .rintro ⟨h1, h2, h3⟩
  refine ⟨h1, ?_⟩
  rw [QH h1]
  simp only [Qu, QR, Rv]
  refine ⟨?_, Q2.2 fun e he => ?_⟩
  .rw [Qx] at h2 ⊢
   rw [QH (by omega)] at h2 ⊢
   simpa using h2
  .by_cases hb : Region.binds .any e = true
   .simp [hb, h3 _ (QH h1) e he hb]
   .simp [hb]
theorem Ms {π : List Nat} {i : Nat} : ∀ {es : List (Nat × Nat)} {e : Edge}, e ∈ xN π i es -> ∃ a, (a, i) ∈ es /\ e.on = pK π a := by
 intro es
 induction es with
 | nil => intro e h; simp [xN] at h
 | cons q r ih =>
   obtain ⟨a, b⟩ := q
   intro e h
   simp only [xN] at h
   cases hb : Nat.beq b i with
   | true =>
     rw [hb] at h
     obtain rfl := QM hb
     rcases Rk.1 h with rfl | h
     .exact ⟨a, by simp, rfl⟩
     .obtain ⟨a, h1, h2⟩ := ih h; exact ⟨a, QE _ h1, h2⟩
   | false => rw [hb] at h; obtain ⟨a, h1, h2⟩ := ih h; exact ⟨a, QE _ h1, h2⟩
theorem LA (p : Ip π ops) {L0 : List Nat} (hes : ∀ q ∈ es, L0.idxOf q.1 <= L0.idxOf q.2 /\ q.1 ≠ q.2 /\ q.1 < ops.size) :
 ∀ (fuel : Nat) (listed listed' : Array Bool) (pre L : List Nat), L0 = pre ++ L -> listed.size = ops.size -> listed'.size = ops.size →
   (∀ j, j < ops.size -> listed'.getD (pK π j) false = listed.getD j false) -> (∀ j ∈ pre, listed.getD j false = true) -> (∀ j, listed.getD j false = true -> j ∈ pre) →
   Ja ops fuel listed L -> Ja (lW π es ops) fuel listed' (L.map (pK π)) /\ ∀ i ∈ L, i < ops.size := by
 intro fuel
 induction fuel with
 | zero => intro listed listed' pre L _ _ _ _ _ _ h; obtain rfl : L = [] := h; exact ⟨rfl, by simp⟩
 | succ fuel ih =>
   intro listed listed' pre L hL0 hs hs' hrel hpre hpre' h
   have hsz : (lW π es ops).size = ops.size := p.size
   cases L with
   | nil =>
     refine ⟨?_, by simp⟩
     show Region.ready .any (lW π es ops) listed' = []
     rw [List.eq_nil_iff_forall_not_mem]
     intro k hk
     obtain ⟨h1, h2, h3⟩ := (Dq (by omega) k).1 hk
     obtain ⟨i, hi1, hi2, hi3⟩ := p.back k (by omega)
     have : i ∈ Region.ready .any ops listed := by
      refine (Dq hs i).2 ⟨hi3, ?_, fun o ho e he hb => ?_⟩
      .rw [<- hrel i hi3, hi2]; exact h2
      .have g := p.get (es := es) hi3
       rw [hi2, ho] at g
       have hon := p.after i o ho e he
       have := h3 _ g ⟨pK π e.on, e.ground⟩ (by
        simp only [Aa, List.mem_toArray, Rz, RB]
        exact .inl ⟨e, by simpa using he, rfl⟩) (by unfold Region.binds at hb ⊢; exact hb)
       rw [<- hrel e.on hon]; exact this
     rw [show Region.ready .any ops listed = [] from h] at this
     cases this
   | cons i L =>
     obtain ⟨h1, h2⟩ := h
     obtain ⟨r1, r2, r3⟩ := (Dq hs i).1 h1
     have hnot : i ∉ pre := fun hm => by rw [hpre i hm] at r2; cases r2
     have hidx : L0.idxOf i = pre.length := by
      rw [hL0, List.idxOf_append, if_neg hnot]; simp
     have ready' : pK π i ∈ Region.ready .any (lW π es ops) listed' := by
      refine (Dq (by omega) _).2 ⟨by rw [hsz]; exact (p.to i r1).1, by rw [hrel i r1]; exact r2, fun o' ho' e' he' hb => ?_⟩
      rw [p.get r1, QH r1] at ho'
      simp only [QR, Option.some.injEq] at ho'
      subst ho'
      simp only [Aa, List.mem_toArray, Rz, RB] at he'
      rcases he' with ⟨e, he, rfl⟩ | he'
      .have ho := QH r1
       have he2 : e ∈ ops[i].after := by simpa using he
       rw [hrel e.on (p.after i _ ho e he2)]
       exact r3 _ ho e he2 (by unfold Region.binds at hb ⊢; exact hb)
      .obtain ⟨a, ha, hon⟩ := Ms he'
       obtain ⟨q1, q2, q3⟩ := hes _ ha
       simp only at q1 q2 q3
       rw [hon, hrel a q3]
       refine hpre a ?_
       rw [hidx] at q1
       rw [hL0, List.idxOf_append] at q1
       by_cases hm : a ∈ pre
       .exact hm
       .rw [if_neg hm] at q1
        exfalso
        have hz : (i :: L).idxOf a = 0 := by omega
        rw [List.idxOf_cons] at hz
        cases hb : (i == a) with
        | true => exact q2 (by simpa using (beq_iff_eq.1 hb).symm)
        | false => rw [hb] at hz; simp at hz
     have hlen' : listed'.size = ops.size := hs'
     obtain ⟨k1, k2⟩ := ih (listed.setIfInBounds i true) (listed'.setIfInBounds (pK π i) true) (pre ++ [i]) L (by rw [hL0]; simp) (by simp [hs]) (by simp [hs'])
      (fun j hj => by
       by_cases hji : j = i
       .subst hji
        rw [Qx, Qx, QU (by rw [hs']; exact (p.to j hj).1), QU (by omega)]
       .have hne : pK π i ≠ pK π j := fun e => by
         have a1 := (p.to i r1).2
         have a2 := (p.to j hj).2
         rw [e] at a1
         rw [a1] at a2
         exact hji (Q1 a2).symm
        have := hrel j hj
        rw [Qx, Qx] at this ⊢
        rw [QX hne, QX (fun e => hji e.symm)]
        exact this)
      (fun j hj => by
       rw [Qx]
       rcases Rz.1 hj with hj | hj
       .by_cases hji : j = i
        .subst hji; rw [QU (by omega)] <;> rfl
        .rw [QX (fun e => hji e.symm), <- Qx]; exact hpre j hj
       .have : j = i := by simpa using hj
        subst this
        rw [QU (by omega)] <;> rfl)
      (fun j hj => by
       by_cases hji : j = i
       .subst hji; simp
       .rw [Qx, QX (fun e => hji e.symm), <- Qx] at hj
        exact Rb _ (hpre' j hj))
      h2
     exact ⟨⟨ready', k1⟩, fun j hj => (Rk.1 hj).elim (fun e => e ▸ r1) (k2 j)⟩
end
section
variable {P : Program} {ops : Array Oper}
theorem Gt {N : Nat} {an : Lw} {pl : JU} (hok : HX ops an = true) (hpl : Ib ops.size an pl = true) (hd : DX N ops) (hca : EJ P ops)
 {K : Env -> RM -> Prop} {Q : Act -> RM -> Prop} (hQ : ∀ g a w, Dr N g a -> K g w -> Q a w) {g : Env} {a : Act} {w : RM} (hr : Dr N g a)
 (h : mM P ops ops.toList pl [] g w K) : Ic P ops Q ops.size (Array.replicate ops.size false) a w := by
 have r0 : Me P ops an g w 0 (fun _ => default) (fun _ => g) (fun _ => w) (fun _ => undef) :=
  ⟨rfl, rfl, fun i hi => by omega, fun i hi => by omega, fun i hi => by omega, fun i hi => by omega, fun i j _ hj => by omega⟩
 obtain ⟨O, G, W, V, r, hk⟩ := JT hpl ops.toList 0 [] _ _ _ _ (fun j => by simp) (by simp) r0 (fun i hi => by omega) h
 simp only [Qs, QZ] at r hk
 have st := LJ hok r.op
 have := My (Q := Q) (n := ops.size) rfl hd hca r st (fun a hra => hQ _ a _ hra hk) ops.size (Array.replicate ops.size false) g a 0 (by simp) hr (by omega)
  (fun j hj hl => by unfold jZ at hl; simp [Qx, hj] at hl)
  (fun s => .inr ⟨fun j hj hl => by unfold jZ at hl; simp [Qx, hj] at hl, rfl⟩)
  (fun h hh _ => ⟨fun hl => by unfold jZ at hl; simp [Qx, hh] at hl, fun hl => by omega⟩)
  (Nat.le_trans (List.length_filter_le _ _) (by simp))
 rw [r.w0] at this
 exact this
theorem F4 {N : Nat} {ops : Array Oper} (h : ops.all (Lk N) = true) : DX N ops := by
 intro i o ho t ht
 have := Q2.1 h o (RH ho)
 unfold Lk at this
 rw [ht] at this
 exact (Rm (x := t) (y := N)) ▸ this
theorem Ia {ops : Array Oper} (h : ops.all (sY P) = true) : EJ P ops :=
 fun _ o ho => Q2.1 h o (RH ho)
theorem KE {N : Nat} {f : FuncId} {id : Nat} (hd : DX N ops) (hca : EJ P ops)
 {K : Env -> RM -> Prop} {Q : Act -> RM -> Prop} (hQ : ∀ g a w, Dr N g a -> K g w -> Q a w) {g : Env} {a : Act} {w0 w : RM} (hr : Dr N g a) :
 ∀ (T : HT) (path : List (Nat × Nat)), D5 P N ops path T = true →
   (∀ q ∈ path, (Region.schedule true ops (w0.tape w0.drawn (.order f id))).idxOf q.1 <= (Region.schedule true ops (w0.tape w0.drawn (.order f id))).idxOf q.2 /\ q.1 ≠ q.2) →
   JV P f id ops T g w0 w K -> uJ P ops Q (Region.schedule true ops (w0.tape w0.drawn (.order f id))) a w := by
 have lin : Ja ops ops.size (Array.replicate ops.size false) (Region.schedule true ops (w0.tape w0.drawn (.order f id))) := by
  unfold Region.schedule
  simp only [Bool.true_or, if_true]
  exact Ny _ _ _
 generalize hL : Region.schedule true ops (w0.tape w0.drawn (.order f id)) = L at lin ⊢
 intro T
 induction T with
 | leaf an pl =>
   intro path hok _ h
   simp only [D5, Qu] at hok
   exact FB _ _ _ _ _ (Gt hok.1 hok.2 hd hca hQ hr h) lin
 | perm π es an pl =>
   intro path hok hpath h
   simp only [D5, Qu] at hok
   obtain ⟨⟨⟨⟨⟨h1, h2⟩, h3⟩, h4⟩, h5⟩, h6⟩ := hok
   have p := NY h2
   have hes : ∀ q ∈ es, L.idxOf q.1 <= L.idxOf q.2 /\ q.1 ≠ q.2 /\ q.1 < ops.size := fun q hq => by
    have := QS.1 h1 q hq
    simp only [Qu] at this
    have hp := hpath q (MP this.1)
    exact ⟨hp.1, hp.2, (Rm (x := q.1) (y := ops.size)) ▸ this.2⟩
   obtain ⟨k1, k2⟩ := LA (es := es) p hes ops.size (Array.replicate ops.size false) (Array.replicate ops.size false) [] L rfl (by simp) (by simp)
    (fun j hj => by simp [Qx, hj, (p.to j hj).1]) (by simp)
    (fun j hj => by rw [Qx] at hj; by_cases hh : j < ops.size <;> simp [hh] at hj) lin
   have hw := Gt h5 h6 (F4 h3) (Ia h4) hQ hr h
   rw [p.size] at hw
   exact KZ (es := es) p L k2 a w (FB _ _ _ _ _ hw k1)
 | split x y A B ihA ihB =>
   intro path hok hpath h
   simp only [D5, Qu] at hok
   have hne : x ≠ y := by
    intro e
    have := hok.1.1
    rw [e] at this
    simp at this
   simp only [JV] at h
   unfold Ord OS at h
   rw [hL] at h
   cases hb : Nat.ble (L.idxOf x) (L.idxOf y) with
   | true =>
     rw [hb] at h
     refine ihA _ hok.1.2 (fun q hq => ?_) h
     rcases Rk.1 hq with rfl | hq
     .exact ⟨Rs hb, hne⟩
     .exact hpath q hq
   | false =>
     rw [hb] at h
     refine ihB _ hok.2 (fun q hq => ?_) h
     rcases Rk.1 hq with rfl | hq
     .refine ⟨?_, hne.symm⟩
      simp only
      rcases Rp (L.idxOf y) (L.idxOf x) with hh | hh
      .omega
      .have := Nat.ble_eq_true_of_le hh; rw [this] at hb; cases hb
     .exact hpath q hq
end
section
variable {P : Program} {ann : FA}
def kZ : List Oper -> List Nat
 | [] => []
 | o :: r => match o.dst with | some d => d :: kZ r | none => kZ r
def Du : Code -> List Nat
 | .region _ ops _ => kZ ops.toList
 | .seq x y => Du x ++ Du y
 | .cond _ x y => Du x ++ Du y
 | .block _ c => Du c
 | .scope c => Du c
 | .loop c => Du c
 | .rangeFunc .. => [DS]
 | _ => []
def jX (l : List Nat) (g g' : Env) : Prop := ∀ s, s ∉ l -> g' s = g s
theorem jX.refl (l : List Nat) (g : Env) : jX l g g := fun _ _ => rfl
theorem jX.trans {l l1 l2 : List Nat} {a b c : Env} (h : jX l1 a b) (k : jX l2 b c) (h1 : ∀ s, s ∈ l1 -> s ∈ l) (h2 : ∀ s, s ∈ l2 -> s ∈ l) : jX l a c :=
 fun s hs => (k s fun h => hs (h2 s h)).trans (h s fun h => hs (h1 s h))
theorem jX.mono {l l1 : List Nat} {a b : Env} (h : jX l1 a b) (h1 : ∀ s, s ∈ l1 -> s ∈ l) : jX l a b := fun s hs => h s fun hh => hs (h1 s hh)
theorem jX.put {l : List Nat} {a : Env} (d : Option Tmp) (v : RN) (h : ∀ t, d = some t -> t ∈ l) : jX l a (put a d v) := by
 intro s hs
 cases d with
 | none => rfl
 | some t =>
   rw [Bi, if_neg (fun e => hs (by rw [e]; exact h t rfl))]
theorem KH {ops : Array Oper} {K : Env -> RM -> Prop} : ∀ (l : List Oper) (g : Env) (w : RM), HU P ops l g w K →
 ∃ g' w', K g' w' /\ jX (kZ l) g g' /\ ∀ K' : Env -> RM -> Prop, K' g' w' -> HU P ops l g w K' := by
 intro l
 induction l with
 | nil => intro g w h; exact ⟨g, w, h, jX.refl _ _, fun _ h => h⟩
 | cons o l ih =>
   intro g w h
   obtain ⟨v, w1, hy, h1⟩ := Cb h
   obtain ⟨g', w', hk, ha, hall⟩ := ih _ _ h1
   refine ⟨g', w', hk, ?_, fun K' hk' => hy _ (hall K' hk')⟩
   refine jX.trans (jX.put o.dst v (l := kZ (o :: l)) fun t ht => by simp [kZ, ht]) ha (fun _ h => h) (fun s hs => ?_)
   unfold kZ
   split
   .exact QE _ hs
   .exact hs
theorem GC {ops : Array Oper} {K : Env -> RM -> Prop} : ∀ (l : List Oper) (pl : JU) (hist : List Rec) (g : Env) (w : RM), mM P ops l pl hist g w K →
 ∃ g' w', K g' w' /\ jX (kZ l) g g' /\ ∀ K' : Env -> RM -> Prop, K' g' w' -> mM P ops l pl hist g w K' := by
 intro l
 induction l with
 | nil => intro pl hist g w h; unfold mM at h; exact ⟨g, w, h, jX.refl _ _, fun _ h => (by unfold mM; exact h)⟩
 | cons o l ih =>
   intro pl hist g w h
   cases pl with
   | nil => exact h.elim
   | cons p pl =>
     obtain ⟨hv, ks⟩ := p
     obtain ⟨v, w1, hy, h1⟩ := Cb h
     have tail : ∀ (w2 : RM) (hist' : List Rec), mM P ops l pl hist' (put g o.dst v) w2 K →
         ∃ g' w', K g' w' /\ jX (kZ (o :: l)) g g' /\ ∀ K' : Env -> RM -> Prop, K' g' w' -> mM P ops l pl hist' (put g o.dst v) w2 K' := by
      intro w2 hist' c2
      obtain ⟨g', w', hk, ha, hall⟩ := ih _ _ _ _ c2
      refine ⟨g', w', hk, ?_, hall⟩
      refine jX.trans (jX.put o.dst v (l := kZ (o :: l)) fun t ht => by simp [kZ, ht]) ha (fun _ h => h) (fun s hs => ?_)
      unfold kZ
      split
      .exact QE _ hs
      .exact hs
     cases hv with
     | true =>
       cases ks with
       | nil =>
         obtain ⟨g', w', hk, ha, hall⟩ := tail w1 _ h1
         exact ⟨g', w', hk, ha, fun K' hk' => hy _ (hall K' hk')⟩
       | cons k ks =>
         obtain ⟨hc, h1⟩ := h1
         obtain ⟨g', w', hk, ha, hall⟩ := tail w1 _ h1
         exact ⟨g', w', hk, ha, fun K' hk' => hy _ ⟨hc, hall K' hk'⟩⟩
     | false =>
       cases ks with
       | nil =>
         obtain ⟨rfl, h1⟩ := h1
         obtain ⟨g', w', hk, ha, hall⟩ := tail w1 _ h1
         exact ⟨g', w', hk, ha, fun K' hk' => hy _ ⟨rfl, hall K' hk'⟩⟩
       | cons k ks =>
         obtain ⟨rfl, hc, h1⟩ := h1
         obtain ⟨g', w', hk, ha, hall⟩ := tail w1 _ h1
         exact ⟨g', w', hk, ha, fun K' hk' => hy _ ⟨rfl, hc, hall K' hk'⟩⟩
theorem zK {l : List Oper} {s : Nat} : s ∈ kZ l ↔ ∃ o ∈ l, o.dst = some s := by
 induction l with
 | nil => simp [kZ]
 | cons o l ih =>
   unfold kZ
   cases hd : o.dst with
   | none => simp [ih, hd]
   | some d => simp [ih, hd, eq_comm]
theorem Lb {π : List Nat} {es : List (Nat × Nat)} {l : List Oper} {s : Nat} : ∀ (r : List Nat), s ∈ kZ (Fb π es l r) -> s ∈ kZ l := by
 intro r
 induction r with
 | nil => intro h; simp [Fb, kZ] at h
 | cons i r ih =>
   intro h
   simp only [Fb] at h
   cases ho : l[i]? with
   | none => rw [ho] at h; exact ih h
   | some o =>
     rw [ho] at h
     obtain ⟨o', h1, h2⟩ := zK.1 h
     rcases Rk.1 h1 with rfl | h1
     .exact zK.2 ⟨o, List.mem_of_getElem? ho, h2⟩
     .exact ih (zK.2 ⟨o', h1, h2⟩)
theorem MB {f : FuncId} {id : Nat} {ops : Array Oper} {K : Env -> RM -> Prop} {g : Env} {w0 : RM} : ∀ (T : HT) (w : RM), JV P f id ops T g w0 w K →
 ∃ g' w', K g' w' /\ jX (kZ ops.toList) g g' /\ ∀ K' : Env -> RM -> Prop, K' g' w' -> JV P f id ops T g w0 w K' := by
 intro T
 induction T with
 | leaf an pl => intro w h; exact GC _ _ _ _ _ h
 | perm π es an pl =>
   intro w h
   obtain ⟨g', w', a, b, c⟩ := GC _ _ _ _ _ h
   exact ⟨g', w', a, b.mono (fun s hs => Lb π (by simpa [lW] using hs)), c⟩
 | split x y A B ihA ihB =>
   intro w h
   simp only [JV, Ord] at h ⊢
   cases hb : OS f id ops x y w0 with
   | true => rw [hb] at h; exact ihA w h
   | false => rw [hb] at h; exact ihB w h
theorem iO.head {α : Type} {F : (α -> RM -> Prop) -> α -> RM -> Prop} (hmono : ∀ X Y g w, (∀ g w, X g w -> Y g w) -> F X g w -> F Y g w)
 {g : α} {w : RM} (h : F (fun g' w' => iO F g' w') g w) (hdet : ∃ g' w', iO F g' w' /\ ∀ X : α -> RM -> Prop, X g' w' -> F X g w) : iO F g w := by
 obtain ⟨g1, w1, ⟨I, ⟨n1, h1⟩, hI⟩, hF⟩ := hdet
 refine ⟨fun n g' w' => I n g' w' ∨ (n = n1 + 1 /\ g' = g /\ w' = w), ⟨n1 + 1, .inr ⟨rfl, rfl, rfl⟩⟩, ?_⟩
 rintro n g' w' (h | ⟨rfl, rfl, rfl⟩)
 .exact hmono _ _ _ _ (fun _ _ ⟨m, hm, hh⟩ => ⟨m, hm, .inl hh⟩) (hI _ _ _ h)
 .exact hF _ ⟨n1, by omega, .inl h1⟩
theorem O7 {f : FuncId} {gf : Operand} {ps : Array Tmp} {Qj bd : Code} {Q : Exit -> Env -> RM -> Prop} {g : Env} {w : RM} (h : RF P f gf ps Qj bd Q g w) :
 ∃ e g' w', Q e g' w' /\ jX [DS] g g' /\ ∀ Q' : Exit -> Env -> RM -> Prop, Q' e g' w' -> RF P f gf ps Qj bd Q' g w := by
 unfold RF at h ⊢
 cases hn : noMark (g DS) with
 | false => rw [hn] at h; exact h.elim
 | true =>
   rw [hn] at h
   simp only at h ⊢
   generalize (FN (ev g gf) [Er (w.heap.size + 1)]).run P (Pl f (LV P f) ps Qj bd g w) = r at *
   match r, h with
   | .ok (.enter f2 args) w1, h =>
     obtain ⟨v, w3, hret, r, h1, h2, h3⟩ := h
     have ha : jX [DS] g (put g (some DS) (.pointer (some ⟨w.heap.size, 0, none⟩))) := jX.put _ _ (fun t ht => by cases ht; simp)
     cases hp : r.pending with
     | none =>
       rw [hp] at h3
       exact ⟨.normal, _, _, h3, ha, fun Q' h => ⟨v, w3, hret, r, h1, h2, by rw [hp]; exact h⟩⟩
     | some c =>
       rw [hp] at h3
       cases c <;> first
        | exact h3.elim
        | exact ⟨.ret, _, _, h3, ha, fun Q' h => ⟨v, w3, hret, r, h1, h2, by rw [hp]; exact h⟩⟩
        | exact ⟨.exit _, _, _, h3, ha, fun Q' h => ⟨v, w3, hret, r, h1, h2, by rw [hp]; exact h⟩⟩
theorem Ly : ∀ (c : Code) (Q : Exit -> Env -> RM -> Prop) (g : Env) (w : RM), fY P ann c Q g w →
 ∃ e g' w', Q e g' w' /\ jX (Du c) g g' /\ ∀ Q' : Exit -> Env -> RM -> Prop, Q' e g' w' -> fY P ann c Q' g w := by
 intro c
 induction c with
 | skip => intro Q g w h; exact ⟨_, _, _, h, jX.refl _ _, fun _ h => h⟩
 | region id ops draw =>
   intro Q g w h
   cases draw with
   | false =>
     obtain ⟨g', w', a, b, c⟩ := KH _ _ _ h
     exact ⟨.normal, g', w', a, b, fun Q' h => c _ h⟩
   | true =>
     obtain ⟨g', w', a, b, c⟩ := MB _ _ h
     exact ⟨.normal, g', w', a, b, fun Q' h => c _ h⟩
 | seq x y ihx ihy =>
   intro Q g w h
   obtain ⟨e, g1, w1, a, b, c⟩ := ihx _ _ _ h
   cases e with
   | normal =>
     obtain ⟨e2, g2, w2, a2, b2, c2⟩ := ihy _ _ _ a
     exact ⟨e2, g2, w2, a2, b.trans b2 (fun s h => Rb _ h) (fun s h => Rr _ h), fun Q' h => c _ (c2 _ h)⟩
   | _ => exact ⟨_, g1, w1, a, b.mono (fun s h => Rb _ h), fun Q' h => c _ h⟩
 | cond c x y ihx ihy =>
   intro Q g w h
   simp only [fY] at h ⊢
   unfold kK at h ⊢
   cases hc : ev g c with
   | bool b =>
     rw [hc] at h
     cases b with
     | true =>
       obtain ⟨e, g', w', a, b, c⟩ := ihx _ _ _ h
       exact ⟨e, g', w', a, b.mono (fun s h => Rb _ h), c⟩
     | false =>
       obtain ⟨e, g', w', a, b, c⟩ := ihy _ _ _ h
       exact ⟨e, g', w', a, b.mono (fun s h => Rr _ h), c⟩
   | _ => rw [hc] at h; exact h.elim
 | block id c ih =>
   intro Q g w h
   obtain ⟨e, g', w', a, b, c⟩ := ih _ _ _ h
   cases e with
   | exit i =>
     simp only [NG] at a
     cases hb : Nat.beq i id with
     | true =>
       simp only [hb] at a
       refine ⟨.normal, g', w', a, b, fun Q' h => c _ ?_⟩
       simp only [NG, hb]; exact h
     | false =>
       simp only [hb] at a
       refine ⟨.exit i, g', w', a, b, fun Q' h => c _ ?_⟩
       simp only [NG, hb]; exact h
   | _ => exact ⟨_, g', w', a, b, fun Q' h => c _ h⟩
 | loop c ih =>
   intro Q g w h
   have hmono : ∀ (Q : Exit -> Env -> RM -> Prop) (X Y : Env -> RM -> Prop) g w, (∀ g w, X g w -> Y g w) -> fY P ann c (sF X Q) g w -> fY P ann c (sF Y Q) g w := by
    intro Q X Y g w hxy h
    obtain ⟨e, g', w', a, _, k⟩ := ih _ _ _ h
    refine k _ ?_
    cases e with
    | normal => exact hxy _ _ a
    | _ => exact a
   obtain ⟨I, ⟨n, h0⟩, hI⟩ := h
   have key : ∀ n g w, I n g w -> ∃ e g' w', Q e g' w' /\ jX (Du c) g g' /\ ∀ Q' : Exit -> Env -> RM -> Prop, Q' e g' w' -> iO (fun X g w => fY P ann c (sF X Q') g w) g w := by
    intro n
    induction n using Nat.strongRecOn with
    | _ n ih2 =>
      intro g w hg
      obtain ⟨e, g1, w1, a, b, k⟩ := ih _ _ _ (hI n g w hg)
      have once : ∀ (Q' : Exit -> Env -> RM -> Prop), (∀ X : Env -> RM -> Prop, fY P ann c (sF X Q') g w) -> iO (fun X g w => fY P ann c (sF X Q') g w) g w := by
       intro Q' h
       refine ⟨fun n g' w' => g' = g /\ w' = w, ⟨0, rfl, rfl⟩, ?_⟩
       rintro _ g' w' ⟨rfl, rfl⟩
       exact h _
      cases e with
      | normal =>
        obtain ⟨m, hm, hIm⟩ := a
        obtain ⟨e2, g2, w2, a2, b2, k2⟩ := ih2 m hm g1 w1 hIm
        refine ⟨e2, g2, w2, a2, b.trans b2 (fun _ h => h) (fun _ h => h), fun Q' h => ?_⟩
        have hl := k2 Q' h
        exact iO.head (hmono Q') (k _ hl) ⟨g1, w1, hl, fun X hx => k _ hx⟩
      | _ => exact ⟨_, g1, w1, a, b, fun Q' h => once Q' fun X => k _ h⟩
   exact key n g w h0
 | exit id => intro Q g w h; exact ⟨_, _, _, h, jX.refl _ _, fun _ h => h⟩
 | label l => intro Q g w h; exact ⟨_, _, _, h, jX.refl _ _, fun _ h => h⟩
 | scope c ih => intro Q g w h; exact ih Q g w h
 | ret => intro Q g w h; exact ⟨_, _, _, h, jX.refl _ _, fun _ h => h⟩
 | rangeFunc gf ps Qj bd => intro Q g w h; exact O7 h
 | _ => intro Q g w h; exact h.elim
theorem vF {c : Code} {Q Q' : Exit -> Env -> RM -> Prop} {g : Env} {w : RM} (h : fY P ann c Q g w)
 (hq : ∀ e g' w', jX (Du c) g g' -> Q e g' w' -> Q' e g' w') : fY P ann c Q' g w :=
 let ⟨_, _, _, a, b, k⟩ := Ly c Q g w h
 k _ (hq _ _ _ b a)
def OU (Q : Exit -> Env -> RM -> Prop) : Exit -> Env -> RM -> Prop
 | .goto _, _, _ => False
 | e, g, w => Q e g w
theorem KX : ∀ (c : Code) (Q : Exit -> Env -> RM -> Prop) (g : Env) (w : RM), fY P ann c Q g w -> fY P ann c (OU Q) g w := by
 intro c
 induction c with
 | skip => intro Q g w h; exact h
 | region id ops draw => intro Q g w h; cases draw <;> exact h
 | seq x y ihx ihy =>
   intro Q g w h
   show fY P ann x (sF (fun g w => fY P ann y (OU Q) g w) (OU Q)) g w
   refine vF (ihx _ _ _ h) (fun e g' w' _ hq => ?_)
   cases e with
   | normal => exact ihy _ _ _ hq
   | goto l => exact hq.elim
   | _ => exact hq
 | cond c x y ihx ihy =>
   intro Q g w h
   simp only [fY] at h ⊢
   unfold kK at h ⊢
   cases hc : ev g c with
   | bool b =>
     rw [hc] at h
     cases b with
     | true => exact ihx _ _ _ h
     | false => exact ihy _ _ _ h
   | _ => rw [hc] at h; exact h.elim
 | block id c ih =>
   intro Q g w h
   show fY P ann c (NG id (OU Q)) g w
   refine vF (ih _ _ _ h) (fun e g' w' _ hq => ?_)
   cases e with
   | exit i =>
     simp only [OU, NG] at hq ⊢
     cases hb : Nat.beq i id with
     | true => rw [hb] at hq; exact hq
     | false => rw [hb] at hq; exact hq
   | goto l => exact hq.elim
   | _ => exact hq
 | loop c ih =>
   intro Q g w h
   obtain ⟨I, h0, hI⟩ := h
   refine ⟨I, h0, fun n g w hi => ?_⟩
   refine vF (ih _ _ _ (hI n g w hi)) (fun e g' w' _ hq => ?_)
   cases e with
   | normal => exact hq
   | goto l => exact hq.elim
   | _ => exact hq
 | exit id => intro Q g w h; exact h
 | label l => intro Q g w h; exact h
 | scope c ih => intro Q g w h; exact ih Q g w h
 | ret => intro Q g w h; exact h
 | rangeFunc gf ps Qj bd =>
   intro Q g w h
   have h : RF P ann.f gf ps Qj bd Q g w := h
   show RF P ann.f gf ps Qj bd (OU Q) g w
   unfold RF at h ⊢
   cases hn : noMark (g DS) with
   | false => rw [hn] at h; exact h.elim
   | true =>
     rw [hn] at h
     simp only at h ⊢
     generalize (FN (ev g gf) [Er (w.heap.size + 1)]).run P (Pl ann.f (LV P ann.f) ps Qj bd g w) = r at *
     match r, h with
     | .ok (.enter f2 args) w1, h =>
       obtain ⟨v, w3, hret, r, h1, h2, h3⟩ := h
       refine ⟨v, w3, hret, r, h1, h2, ?_⟩
       cases hp : r.pending with
       | none => rw [hp] at h3; exact h3
       | some c => rw [hp] at h3; cases c <;> exact h3
 | _ => intro Q g w h; exact h.elim
theorem HY {N : Nat} {g : Env} {a : Act} (h : Dr N g a) : a.tmps = tmpsOf N g := by
 refine Array.ext (by simp [tmpsOf, h.size]) fun i h1 h2 => ?_
 have hi : i < N := by rw [<- h.size]; exact h1
 have := h.at_ i (Nat.ne_of_lt (RA hi h.le))
 rw [Qx, QH h1] at this
 simp [tmpsOf] at this ⊢
 exact this
theorem MK {v : RN} (h : noMark v = true) : Jk v = [] := by cases v <;> first | rfl | cases h
theorem L4 {N : Nat} (hm : P.follows .mixedOrders = true) {ro : Option Nat} (hN : LV P ann.f = N) : ∀ (c : Code), codeOk P N ann c = true -> ro = none ∨ pM c = true →
 ∀ (Q : Exit -> Env -> RM -> Prop) (QA : Exit -> Act -> RM -> Prop) (g : Env) (a : Act) (w : RM), Dr N g a →
   (∀ e g a w, Dr N g a -> Q e g w -> QA e a w) -> fY P ann c Q g w -> Ir P ann.f ro c QA a w := by
 intro c
 induction c with
 | skip => intro _ _ Q QA g a w hr hq h; exact M3 (hq _ _ _ _ hr h)
 | region id ops draw =>
   intro hok _ Q QA g a w hr hq h
   simp only [codeOk, Qu, Q4, Q7] at hok
   have hd := F4 hok.1.1
   have hca := Ia hok.1.2
   cases draw with
   | false =>
     refine Kp ?_
     have := LL hd hca (P := P) (Q := QA .normal) (K := Q .normal) (fun g a w => hq .normal g a w) ops.toList 0 g a w (fun j => by simp) hr h
     rw [List.range_eq_range']
     simpa using this
   | true =>
     rcases hok.2 with h1 | h1
     .cases h1
     .exact GN hm (KE hd hca (fun g a w => hq .normal g a w) hr _ [] h1 (by simp) h)
 | seq x y ihx ihy =>
   intro hok hfl Q QA g a w hr hq h
   simp only [codeOk, Qu] at hok
   have hfx : ro = none ∨ pM x = true := hfl.imp id fun h => by simp only [pM, Qu] at h; exact h.1
   have hfy : ro = none ∨ pM y = true := hfl.imp id fun h => by simp only [pM, Qu] at h; exact h.2
   refine NT (ihx hok.1 hfx _ _ g a w hr (fun e g a w hr h => ?_) h)
   cases e with
   | normal => exact ihy hok.2 hfy _ _ g a w hr hq h
   | _ => exact hq _ _ _ _ hr h
 | cond c x y ihx ihy =>
   intro hok hfl Q QA g a w hr hq h
   simp only [codeOk, Qu] at hok
   have hfx : ro = none ∨ pM x = true := hfl.imp id fun h => by simp only [pM, Qu] at h; exact h.1
   have hfy : ro = none ∨ pM y = true := hfl.imp id fun h => by simp only [pM, Qu] at h; exact h.2
   simp only [fY] at h
   unfold kK at h
   have he := hr.ev c hok.1
   cases hc : ev g c with
   | bool b =>
     rw [hc] at h he
     refine Na he ?_
     cases b with
     | true => exact ihx hok.2.1 hfx _ _ g a w hr hq h
     | false => exact ihy hok.2.2 hfy _ _ g a w hr hq h
   | _ => rw [hc] at h; exact h.elim
 | block id c ih =>
   intro hok hfl Q QA g a w hr hq h
   refine L2 (ih hok hfl _ _ g a w hr (fun e g a w hr h => ?_) h)
   cases e with
   | exit i =>
     unfold Exit.inBlock
     simp only [NG] at h
     by_cases hi : i = id
     .subst hi
      simp only [if_true]
      simp only [Nat.beq_refl] at h
      exact hq _ _ _ _ hr h
     .simp only [hi, if_false]
      have : Nat.beq i id = false := by
       cases hb : Nat.beq i id
       .rfl
       .exact absurd (QM hb) hi
      simp only [this] at h
      exact hq _ _ _ _ hr h
   | _ => exact hq _ _ _ _ hr h
 | loop c ih =>
   intro hok hfl Q QA g a w hr hq h
   obtain ⟨I, h0, hround⟩ := h
   have hex : ∀ a w, (∃ n g, Dr N g a /\ I n g w) -> ∃ n, (∃ g, Dr N g a /\ I n g w) /\ ∀ m, (∃ g, Dr N g a /\ I m g w) -> n <= m := by
    rintro a w ⟨n, hn⟩
    induction n using Nat.strongRecOn with
    | _ n ih2 =>
      by_cases hx : ∃ m, m < n /\ ∃ g, Dr N g a /\ I m g w
      .obtain ⟨m, hm, h⟩ := hx; exact ih2 m hm h
      .exact ⟨n, hn, fun m hm => Nat.le_of_not_lt fun hlt => hx ⟨m, hlt, hm⟩⟩
   have hdec : ∀ a w, Decidable (∃ n g, Dr N g a /\ I n g w) := fun a w => Classical.propDecidable _
   let μ : Act -> RM -> Nat := fun a w => if hh : ∃ n g, Dr N g a /\ I n g w then Classical.choose (hex a w hh) else 0
   have hμ : ∀ a w n g, Dr N g a -> I n g w -> μ a w <= n /\ ∃ g, Dr N g a /\ I (μ a w) g w := by
    intro a w n g hr hI
    have hh : ∃ n g, Dr N g a /\ I n g w := ⟨n, g, hr, hI⟩
    have e : μ a w = Classical.choose (hex a w hh) := dif_pos hh
    have s := Classical.choose_spec (hex a w hh)
    rw [e]
    exact ⟨s.2 n ⟨g, hr, hI⟩, s.1⟩
   obtain ⟨n0, h0⟩ := h0
   refine Mg (fun a w => ∃ n g, Dr N g a /\ I n g w) μ ⟨n0, g, hr, h0⟩ ?_
   rintro a w ⟨n, g, hr, hI⟩
   obtain ⟨_, g', hr', hI'⟩ := hμ a w n g hr hI
   refine ih hok hfl _ _ g' a w hr' (fun e g1 a1 w1 hr1 h => ?_) (hround _ _ _ hI')
   cases e with
   | normal =>
     obtain ⟨m, hm, hIm⟩ := h
     have := hμ a1 w1 m g1 hr1 hIm
     exact ⟨⟨m, g1, hr1, hIm⟩, by omega⟩
   | _ => exact hq _ _ _ _ hr1 h
 | label l => intro _ _ Q QA g a w hr hq h; exact LO (hq _ _ _ _ hr h)
 | scope c ih =>
   intro hok hfl Q QA g a w hr hq h
   refine LU (ih hok hfl (OU Q) _ g a w hr (fun e g a w hr h => ?_) (KX c _ g w h))
   cases e with
   | goto l => exact h.elim
   | _ => exact hq _ _ _ _ hr h
 | exit id => intro _ _ Q QA g a w hr hq h; exact Jn (hq _ _ _ _ hr h)
 | ret => intro _ _ Q QA g a w hr hq h; exact Lr (hq _ _ _ _ hr h)
 | rangeFunc gf ps Qj bd =>
   intro hok hfl Q QA g a w hr hq h
   have hro : ro = none := hfl.resolve_right (by simp [pM])
   subst hro
   have hok : IG gf = true := hok
   have h : RF P ann.f gf ps Qj bd Q g w := h
   unfold RF at h
   cases hn : noMark (g DS) with
   | false => rw [hn] at h; exact h.elim
   | true =>
     rw [hn] at h
     simp only [hN] at h
     have ed : a.defers = [] := by rw [hr.defers, MK hn]
     have er := run_enterLoop_outer (P := P) (w := w) ann.f a.tmps ps Qj bd
     rw [HY hr] at er
     have er : (Instr.enterLoop ann.f a.tmps ps Qj bd none).run P w = .ok (w.heap.size + 1, [{ target := .collected w.heap.size, args := #[] }]) (Pl ann.f N ps Qj bd g w) := by rw [HY hr]; exact er
     generalize Pl ann.f N ps Qj bd g w = w1 at *
     have ee := hr.ev gf hok
     unfold FN at h
     have hres : resolve a.eval (rangeCall gf (w.heap.size + 1)) 0 = Deferred.ofValue (ev g gf) #[Er (w.heap.size + 1)] := by
      have : resolve a.eval (rangeCall gf (w.heap.size + 1)) 0 = Deferred.ofValue (a.eval gf) #[Er (w.heap.size + 1)] := by
       simp only [resolve, List.map_toArray, Rl, RJ]; rfl
      rw [this, ee]
     rw [show ([Er (w.heap.size + 1)] : List RN).toArray = #[Er (w.heap.size + 1)] from rfl, <- hres, Sem.run_bind] at h
     cases hv : (resolve a.eval (rangeCall gf (w.heap.size + 1)) 0).run P w1 with
     | halt x wx => rw [hv] at h; exact h.elim
     | ok d wx =>
       have hwx : wx = w1 := by
        rw [hres] at hv
        unfold Deferred.ofValue at hv
        split at hv <;> first | (simp only [Sem.run_pure] at hv; cases hv; rfl) | (simp [stuck] at hv)
       subst hwx
       rw [hv] at h
       simp only [Result.andThen] at h
       cases hi : (invoke d.target d.args).run P wx with
       | halt x w2 => rw [hi] at h; exact h.elim
       | ok nx w2 =>
         rw [hi] at h
         cases nx <;> try (exact h.elim)
         obtain ⟨v, w3, hret, r, h1, h2, h3⟩ := h
         have hrel : ∀ w, Dr N (put g (some DS) (.pointer (some ⟨w, 0, none⟩))) { a with defers := [{ target := .collected w, args := #[] }] ++ a.defers } := fun w => by
          refine ⟨hr.le, ?_, hr.size, fun i hi => ?_⟩
          .rw [Bi, if_pos rfl, ed] <;> rfl
          .rw [Bi, if_neg hi]; exact hr.at_ i hi
         have key : ∀ (j : Option Code) (w5 : RM), Po Q (put g (some DS) (.pointer (some ⟨w.heap.size, 0, none⟩))) j w5 →
             Ot P ann.f QA { a with defers := [{ target := .collected w.heap.size, args := #[] }] ++ a.defers } w5 j := by
          intro j w5 h
          cases j with
          | none => exact hq _ _ _ _ (hrel _) h
          | some c =>
            cases c <;> first
             | exact h.elim
             | exact Lr (hq _ _ _ _ (hrel _) h)
             | exact Jn (hq _ _ _ _ (hrel _) h)
         exact LW er hv hi hret (run_endLoop h1 h2) (key _ _ h3)
 | _ => intro hok; simp [codeOk] at hok
def mO (P : Program) : List ResultVar -> Env -> RM -> (List RN -> Prop) -> Prop
 | [], _, _, K => K []
 | .tmp t :: r, g, w, K => mO P r g w fun vs => K (g t :: vs)
 | .cell a t :: r, g, w, K => ∃ v, (do loadVar t (<- asAddr (g a)) : Sem RN).run P w = .ok v w /\ mO P r g w fun vs => K (v :: vs)
def Ix : List RN -> RN
 | [v] => v
 | vs => .tuple vs.toArray
def Ps (P : Program) (rs : List ResultVar) (R : RN -> RM -> Prop) : Exit -> Env -> RM -> Prop
 | .normal, g, w => mO P rs g w fun vs => R (Ix vs) w
 | .ret, g, w => mO P rs g w fun vs => R (Ix vs) w
 | _, _, _ => False
theorem JH {N : Nat} {g : Env} {a : Act} {w : RM} (hr : Dr N g a) : ∀ (rs : List ResultVar), rs.all JS = true -> ∀ (K : List RN -> Prop), mO P rs g w K →
 ∃ vs, K vs /\ (rs.mapM fun | .tmp t => pure (a.tmps.getD t undef) | .cell b t => do loadVar t (<- asAddr (a.tmps.getD b undef)) : Sem (List RN)).run P w = .ok vs w := by
 have ne : ∀ t : Nat, Nat.blt t DS = true -> a.tmps.getD t undef = g t := fun t h => hr.at_ t (Nat.ne_of_lt ((Rm (x := t) (y := DS)) ▸ h))
 intro rs
 induction rs with
 | nil => intro _ K h; exact ⟨[], h, by simp⟩
 | cons r rs ih =>
   intro hok K h
   simp only [List.all_cons, Qu] at hok
   cases r with
   | tmp t =>
     obtain ⟨vs, h1, h2⟩ := ih hok.2 _ h
     refine ⟨_, h1, ?_⟩
     rw [List.mapM_cons]
     rw [pure_bind, Sem.run_bind]
     simp only [h2, Result.andThen, Sem.run_pure, ne t hok.1]
   | cell b t =>
     obtain ⟨v, hv, h⟩ := h
     obtain ⟨vs, h1, h2⟩ := ih hok.2 _ h
     refine ⟨_, h1, ?_⟩
     rw [List.mapM_cons]
     rw [<- ne b hok.1] at hv
     rw [Sem.run_bind]
     simp only [hv, Result.andThen]
     rw [Sem.run_bind]
     simp only [h2, Result.andThen]
     rfl
theorem OV (vs : Array RN) : (if h : vs.size = 1 then vs[0] else Value.tuple vs) = Ix vs.toList := by
 obtain ⟨l⟩ := vs
 match l with
 | [] => rfl
 | [v] => rfl
 | a :: b :: r => simp [Ix]
theorem Ki {N : Nat} {g : Env} {a : Act} {w : RM} (fn : Func) {rs : List ResultVar} (hok : rs.all JS = true) (hrs : fn.results = rs.toArray) (hr : Dr N g a) {R : RN -> RM -> Prop}
 (h : mO P rs g w fun vs => R (Ix vs) w) : ∃ v, (results fn a.tmps).run P w = .ok v w /\ R v w := by
 obtain ⟨vs, h1, h2⟩ := JH hr rs hok _ h
 refine ⟨Ix vs, ?_, h1⟩
 unfold results
 rw [hrs, Array.mapM_eq_mapM_toList, List.toList_toArray]
 simp only [bind_assoc, map_eq_pure_bind]
 rw [Sem.run_bind]
 refine Eq.trans (congrArg (fun r => Result.andThen r _) h2) ?_
 simp only [Result.andThen]
 simp only [pure_bind, Sem.run_pure, OV]
def HV (args : List RN) : Env := fun i => args.getD i undef
def PF (P : Program) (rs : List ResultVar) (R : RN -> RM -> Prop) : Exit -> Env -> RM -> Prop
 | .normal, g, w => AW (g DS) w fun w => mO P rs g w fun vs => R (Ix vs) w
 | .ret, g, w => AW (g DS) w fun w => mO P rs g w fun vs => R (Ix vs) w
 | _, _, _ => False
theorem JQ {g : Env} {w : RM} : ∀ (rs : List ResultVar) (K : List RN -> Prop), mO P rs g w K -> ∃ vs, K vs /\ ∀ K' : List RN -> Prop, K' vs -> mO P rs g w K' := by
 intro rs
 induction rs with
 | nil => intro K h; exact ⟨_, h, fun _ h => h⟩
 | cons r rs ih =>
   intro K h
   cases r with
   | tmp t =>
     obtain ⟨vs, a, b⟩ := ih _ h
     exact ⟨_, a, fun K' h => b _ h⟩
   | cell b t =>
     obtain ⟨v, hv, h⟩ := h
     obtain ⟨vs, a, b⟩ := ih _ h
     exact ⟨_, a, fun K' h => ⟨v, hv, b _ h⟩⟩
theorem IA {v : RN} {w : RM} {K : RM -> Prop} (h : AW v w K) : ∃ w', K w' /\ ∀ K' : RM -> Prop, K' w' -> AW v w K' := by
 cases v with
 | pointer p =>
   cases p with
   | none => exact ⟨_, h, fun _ h => h⟩
   | some a => exact ⟨_, h.2, fun _ h' => ⟨h.1, h'⟩⟩
 | _ => exact ⟨_, h, fun _ h => h⟩
theorem Km {v : RN} {w : RM} {K K' : RM -> Prop} (h : AW v w K) (hk : ∀ w, K w -> K' w) : AW v w K' :=
 let ⟨w', a, b⟩ := IA h; b _ (hk w' a)
theorem J7 {args : List RN} {N i : Nat} (hle : args.length <= N) (hi : N <= i) : HV args i = undef := by
 unfold HV
 rw [QG, Rq (by omega)] <;> rfl
theorem IY {f : FuncId} {fn : Func} {c : Code} {args : List RN} {w : RM} {rs : List ResultVar} {R : RN -> RM -> Prop} (hm : P.follows .mixedOrders = true) (hAf : ann.f = f)
 (hf : P.funcs[f]? = some fn) (hb : fn.body = some c) (hrs : fn.results = rs.toArray) {N : Nat} (hN : fn.ntmps = N) (hle : args.length <= N)
 (hok : codeOk P N ann c = true) (hro : rs.all JS = true) (hND : Nat.ble N DS = true) (h : fY P ann c (PF P rs R) (HV args) w) : fK P f args.toArray w R := by
 obtain ⟨e, g', w', hq, _, hall⟩ := Ly _ _ _ _ h
 have hND := Rs hND
 have hNt : LV P ann.f = N := by unfold LV; rw [hAf, hf]; exact hN
 have hrv : AW (g' DS) w' fun w => mO P rs g' w fun vs => R (Ix vs) w := by cases e <;> first | exact hq | exact hq.elim
 obtain ⟨w2, hrv2, hsh⟩ := IA hrv
 obtain ⟨vs, hv, hrest⟩ := JQ _ _ hrv2
 refine ⟨Ix vs, w2, ?_, hv⟩
 have hrel : Dr N (HV args) { tmps := args.toArray ++ Array.replicate (fn.ntmps - args.toArray.size) undef, defers := [] } := by
  refine ⟨hND, by rw [J7 hle hND] <;> rfl, by simp [hN]; omega, fun i _ => ?_⟩
  simp only [HV, Qx, QG]
  by_cases hi : i < args.length
  .simp [Array.getElem?_append, hi]
  .simp only [Array.getElem?_append, List.size_toArray, hi, if_false, Array.getElem?_replicate]
   rw [Rq (by omega)]
   split <;> rfl
 have key := I3 (P := P) (f := f) hf hb (R := fun v3 w3 => v3 = Ix vs /\ w3 = w2) (args := args.toArray) (w := w)
  (hAf ▸ L4 hm hNt c hok (.inl rfl) (PF P rs fun v3 w3 => v3 = Ix vs /\ w3 = w2) _ _ _ _ hrel (fun e g a w hr h => ?_) (hall _ ?_))
 .refine Calls.mono key ?_
  rintro e w3 ⟨v, rfl, rfl, rfl⟩
  exact ⟨rfl, rfl⟩
 .have hx : ∀ {w}, (AW (g DS) w fun w => mO P rs g w fun vs' => Ix vs' = Ix vs /\ w = w2) -> ∃ m, a.defers = Jk m /\ AW m w fun w' => ∃ v, (results fn a.tmps).run P w' = .ok v w' /\ (v = Ix vs /\ w' = w2) := by
   intro w h
   exact ⟨_, hr.defers, Km h fun w h => Ki fn hro hrs hr (R := fun v3 w3 => v3 = Ix vs /\ w3 = w2) h⟩
  cases e with
  | normal => exact hx h
  | ret => exact hx h
  | _ => exact h.elim
 .have := hsh (fun w => mO P rs g' w fun vs' => Ix vs' = Ix vs /\ w = w2) (hrest _ ⟨rfl, rfl⟩)
  cases e <;> first | exact this | exact hq.elim
theorem NU {N : Nat} : ∀ (c : Code), codeOk P N ann c = true -> pM c = true -> ∀ s ∈ Du c, s < N := by
 intro c
 induction c with
 | region id ops draw =>
   intro hok _ s hs
   simp only [codeOk, Qu] at hok
   obtain ⟨o, h1, h2⟩ := zK.1 hs
   obtain ⟨i, hi, rfl⟩ := List.getElem_of_mem h1
   exact F4 hok.1.1 i _ (by simp at hi ⊢) s h2
 | seq x y ihx ihy =>
   intro hok hfl s hs
   simp only [codeOk, pM, Qu] at hok hfl
   rcases Rz.1 hs with hs | hs
   .exact ihx hok.1 hfl.1 s hs
   .exact ihy hok.2 hfl.2 s hs
 | cond c x y ihx ihy =>
   intro hok hfl s hs
   simp only [codeOk, pM, Qu] at hok hfl
   rcases Rz.1 hs with hs | hs
   .exact ihx hok.2.1 hfl.1 s hs
   .exact ihy hok.2.2 hfl.2 s hs
 | block id c ih => intro hok hfl s hs; exact ih hok hfl s hs
 | loop c ih => intro hok hfl s hs; exact ih hok hfl s hs
 | scope c ih => intro hok hfl s hs; exact ih hok hfl s hs
 | rangeFunc => intro _ hfl; simp [pM] at hfl
 | _ => intro _ _ s hs; simp [Du] at hs
theorem JL {f : FuncId} {fn : Func} {c : Code} {args : List RN} {w : RM} {rs : List ResultVar} {R : RN -> RM -> Prop} (hm : P.follows .mixedOrders = true) (hAf : ann.f = f)
 (hf : P.funcs[f]? = some fn) (hb : fn.body = some c) (hrs : fn.results = rs.toArray) {N : Nat} (hN : fn.ntmps = N) (hle : args.length <= N)
 (hok : codeOk P N ann c = true) (hro : rs.all JS = true) (hND : Nat.ble N DS = true) (hfl : pM c = true) (h : fY P ann c (Ps P rs R) (HV args) w) : fK P f args.toArray w R := by
 refine IY hm hAf hf hb hrs hN hle hok hro hND (vF h fun e g' w' ha hq => ?_)
 have hND := Rs hND
 have : g' DS = undef := by
  rw [ha DS (fun hd => absurd (NU c hok hfl DS hd) (Nat.not_lt.2 hND)), J7 hle hND]
 cases e with
 | normal => show AW (g' DS) w' (fun w => mO P rs g' w fun vs => R (Ix vs) w); rw [this]; exact hq
 | ret => show AW (g' DS) w' (fun w => mO P rs g' w fun vs => R (Ix vs) w); rw [this]; exact hq
 | _ => exact hq.elim
theorem Iq {f : FuncId} {args : Array RN} {w : RM} {R : RN -> RM -> Prop} (h : fK P f args w R) :
 Calls P f args w fun e w' => ∃ v, e = .returned v /\ R v w' := by
 obtain ⟨v, w', hr, hR⟩ := h
 refine Calls.mono hr ?_
 rintro e w'' ⟨rfl, rfl⟩
 exact ⟨v, rfl, hR⟩
end
def sA : Code -> Code | .seq a _ => a | c => c
def cT : Code -> Code | .cond _ a _ => a | c => c
def cE : Code -> Code | .cond _ _ b => b | c => c
def bI : Code -> Code | .block _ c => c | .loop c => c | .scope c => c | c => c
def iK (f : Func) : Code := match f.body with | some c => c | none => .skip
def fF : Nat -> Code -> Code
 | 0, c => c
 | 1, c => sA c
 | n + 1, .seq a b => .seq a (fF n b)
 | _, c => c
def dU : Nat -> Code -> Code
 | 0, c => c
 | n + 1, .seq _ b => dU n b
 | _, c => c
def KG : Nat -> Code -> Bool
 | 1, .seq _ _ => true
 | n + 1, .seq _ b => KG n b
 | _, _ => false
def dr (w : RM) : RM := { w with drawn := w.drawn + 1 }
def FT (P : Program) (t : TypeId) (a : RN) (w : RM) (K : RN -> Prop) : Prop := ∃ v, (do loadVar t (<- asAddr a) : Sem RN).run P w = .ok v w /\ K v
def PT : List (Nat × (Env -> RM -> Prop)) -> Nat -> Env -> RM -> Prop
 | [], _, _, _ => False
 | (j, k) :: r, i, g, w => match Nat.beq i j with | true => k g w | false => PT r i g w
def P7 (kn kr : Env -> RM -> Prop) (l : List (Nat × (Env -> RM -> Prop))) : Exit -> Env -> RM -> Prop
 | .normal, g, w => kn g w
 | .ret, g, w => kr g w
 | .exit i, g, w => PT l i g w
 | _, _, _ => False
def Lo (Q : Exit -> Env -> RM -> Prop) : List (Nat × (Env -> RM -> Prop)) -> Prop
 | [] => True
 | (i, k) :: r => (∀ g w, k g w -> Q (.exit i) g w) /\ Lo Q r
def nF (c a b : RN) : Sem Next := do pure (.value (if <- asBool c then a else b))
def lZ (t : TypeId) : Sem Next := V (Instr.alloc t true (.tuple #[]))
def I6 (t : TypeId) (x : RN) : Sem Next := V (Instr.box t x)
def fM (t : TypeId) (a : RN) : Sem Next := V (Instr.loadAt t a)
def fR (t : TypeId) (a x : RN) : Sem Next := U (Instr.storeAt t a x)
def jP (x : RN) : Sem Next := execOp (fun _ => x) ⟨none, .nilCheck (.tmp 0), 0, default, #[], none⟩
def Nv (op : UnOp) (x : RN) : Sem Next := V (Op.unary op x)
def jC (s d : TypeId) (x : RN) : Sem Next := V (convert s d x)
def Mw (t : TypeId) (x : RN) : Sem Next := V (Instr.makeInterface t x)
def CN (t : TypeId) (l c : RN) : Sem Next := V (Instr.makeSlice t l c)
def iB (t : TypeId) (x : RN) (lo hi mx : Option RN) : Sem Next := V (Instr.sliceAt t x lo hi mx)
def fJ (t : TypeId) (x : RN) (f : Nat) : Sem Next := V (Instr.fieldAt t x f)
def iP (t : TypeId) (x i : RN) : Sem Next := V (Instr.indexAt t x i)
def Ek (t : TypeId) (x i : RN) : Sem Next := V (Instr.index t x i)
def iJ (t : RN) (i : Nat) : Sem Next := V (Instr.extract t i)
section
variable {P : Program} {ann : FA}
theorem OX {Q : Exit -> Env -> RM -> Prop} : ∀ {l : List (Nat × (Env -> RM -> Prop))}, Lo Q l -> ∀ {i : Nat} {g : Env} {w : RM}, PT l i g w -> Q (.exit i) g w := by
 intro l
 induction l with
 | nil => intro _ i g w h; exact h.elim
 | cons p r ih =>
   obtain ⟨j, k⟩ := p
   rintro ⟨h1, h2⟩ i g w h
   simp only [PT] at h
   cases hb : Nat.beq i j with
   | true =>
     simp only [hb] at h
     obtain rfl := QM hb
     exact h1 _ _ h
   | false => simp only [hb] at h; exact ih h2 h
theorem NI {c : Code} {kn kr : Env -> RM -> Prop} {l : List (Nat × (Env -> RM -> Prop))} {Q : Exit -> Env -> RM -> Prop} {g : Env} {w : RM} {A : Prop}
 (e : A = fY P ann c (P7 kn kr l) g w) (h : A) (hn : ∀ g w, kn g w -> Q .normal g w) (hr : ∀ g w, kr g w -> Q .ret g w) (hl : Lo Q l) : fY P ann c Q g w := by
 rw [e] at h
 refine vF h (fun e g' w' _ hq => ?_)
 cases e with
 | normal => exact hn _ _ hq
 | ret => exact hr _ _ hq
 | exit i => exact OX hl hq
 | _ => exact hq.elim
theorem L9 {x y z : Code} {Q : Exit -> Env -> RM -> Prop} {g : Env} {w : RM} (h : fY P ann (.seq (.seq x y) z) Q g w) : fY P ann (.seq x (.seq y z)) Q g w := by
 show fY P ann x (sF (fun g w => fY P ann y (sF (fun g w => fY P ann z Q g w) Q) g w) Q) g w
 have h : fY P ann x (sF (fun g w => fY P ann y (sF (fun g w => fY P ann z Q g w) Q) g w) (sF (fun g w => fY P ann z Q g w) Q)) g w := h
 refine vF h (fun e g' w' _ hq => ?_)
 cases e <;> exact hq
theorem fL {K : Env -> RM -> Prop} {Q : Exit -> Env -> RM -> Prop} {g : Env} {w : RM} (h : K g w) : sF K Q .normal g w := h
theorem L1 {Q : Exit -> Env -> RM -> Prop} : ∀ (n : Nat) (c : Code) (g : Env) (w : RM), KG n c = true -> fY P ann (.seq (fF n c) (dU n c)) Q g w -> fY P ann c Q g w := by
 intro n
 induction n with
 | zero => intro c g w h; simp [KG] at h
 | succ n ih =>
   intro c g w h hd
   cases c with
   | seq a b =>
     cases n with
     | zero => exact hd
     | succ n =>
       have hb : KG (n + 1) b = true := by simpa [KG] using h
       have hd' : fY P ann (.seq (.seq a (fF (n + 1) b)) (dU (n + 1) b)) Q g w := hd
       have := L9 hd'
       show fY P ann a (sF (fun g w => fY P ann b Q g w) Q) g w
       have h2 : fY P ann a (sF (fun g w => fY P ann (.seq (fF (n + 1) b) (dU (n + 1) b)) Q g w) Q) g w := this
       refine vF h2 (fun e g' w' _ hq => ?_)
       cases e with
       | normal => exact ih b g' w' hb hq
       | _ => exact hq
   | _ => cases n <;> simp [KG] at h
def Ou (id : Nat) : Code -> Bool | .block i _ => Nat.beq i id | _ => false
def Mq : Code -> Bool | .loop _ => true | _ => false
def Nk : Code -> Option Operand | .cond o _ _ => some o | _ => none
theorem Oi {Q : Exit -> Env -> RM -> Prop} (id : Nat) (c : Code) (g : Env) (w : RM) (h : Ou id c = true) (hd : fY P ann (bI c) (NG id Q) g w) : fY P ann c Q g w := by
 cases c with
 | block i c =>
   obtain rfl := QM (show Nat.beq i id = true from h)
   exact hd
 | _ => cases h
def OD : Code -> Bool | .scope _ => true | _ => false
theorem NP {Q : Exit -> Env -> RM -> Prop} (c : Code) (g : Env) (w : RM) (h : OD c = true) (hd : fY P ann (bI c) Q g w) : fY P ann c Q g w := by
 cases c with
 | scope c => exact hd
 | _ => cases h
theorem NB {Q : Exit -> Env -> RM -> Prop} (o : Operand) (c : Code) (g : Env) (w : RM) (h : Nk c = some o)
 (hd : kK (ev g o) (fY P ann (cT c) Q g w) (fY P ann (cE c) Q g w)) : fY P ann c Q g w := by
 cases c with
 | cond o' a b => obtain rfl := Q1 h; exact hd
 | _ => cases h
theorem MX {v : RN} {A B A' B' : Prop} (ha : A -> A') (hb : B -> B') (h : kK v A B) : kK v A' B' := by
 unfold kK at *
 cases v with
 | bool b => cases b <;> first | exact ha h | exact hb h
 | _ => exact h
theorem MI {T : Type} (proj : Env -> T) (F : (T -> RM -> Prop) -> T -> RM -> Prop) {c : Code} {Q : Exit -> Env -> RM -> Prop} {g : Env} {w : RM}
 (hF : ∀ (X : T -> RM -> Prop) g' w', jX (Du c) g g' -> F X (proj g') w' -> fY P ann c (sF (fun g'' w'' => X (proj g'') w'') Q) g' w')
 (h : iO F (proj g) w) : fY P ann (.loop c) Q g w := by
 obtain ⟨I, ⟨n, h0⟩, hI⟩ := h
 refine ⟨fun n g' w' => jX (Du c) g g' /\ I n (proj g') w', ⟨n, jX.refl _ _, h0⟩, ?_⟩
 rintro n g' w' ⟨ha, hi⟩
 have := hF _ g' w' ha (hI n _ _ hi)
 refine vF this (fun e g2 w2 ha2 hq => ?_)
 cases e with
 | normal =>
   obtain ⟨m, hm, hh⟩ := hq
   exact ⟨m, hm, ha.trans ha2 (fun _ h => h) (fun _ h => h), hh⟩
 | _ => exact hq
theorem L5 {T : Type} (proj : Env -> T) (F : (T -> RM -> Prop) -> T -> RM -> Prop) (c : Code) {Q : Exit -> Env -> RM -> Prop} {g : Env} {w : RM} (hl : Mq c = true)
 (h : iO F (proj g) w)
 (hF : ∀ (X : T -> RM -> Prop) g' w', jX (Du (bI c)) g g' -> F X (proj g') w' -> fY P ann (bI c) (sF (fun g'' w'' => X (proj g'') w'') Q) g' w') : fY P ann c Q g w := by
 cases c with
 | loop c => exact MI proj F hF h
 | _ => cases hl
theorem Ld {l : List Nat} {s : Nat} (hs : lY s l = false) : s ∉ l := by
 induction l with
 | nil => simp
 | cons a r ih =>
   unfold lY at hs
   cases hb : Nat.beq a s with
   | true => simp only [hb] at hs; cases hs
   | false =>
     simp only [hb] at hs
     intro hm
     rcases Rk.1 hm with e | hm
     .subst e; simp at hb
     .exact ih hs hm
theorem MD {l : List Nat} {g g' : Env} (h : jX l g g') {s : Nat} (hs : lY s l = false) : g' s = g s := h s (Ld hs)
theorem iO.rule {α : Type} {F : (α -> RM -> Prop) -> α -> RM -> Prop} (I : Nat -> α -> RM -> Prop) {g : α} {w : RM} (n : Nat) (h0 : I n g w)
 (hr : ∀ n g w, I n g w -> F (fun g' w' => ∃ m, m < n /\ I m g' w') g w) : iO F g w := ⟨I, ⟨n, h0⟩, hr⟩
theorem dI (A B : Prop) : kK (.bool true) A B = A := Eq.trans rfl rfl
theorem cY (A B : Prop) : kK (.bool false) A B = B := Eq.trans rfl rfl
theorem dN (s : (RN -> RM -> Prop) -> Prop) (w : RM) (K : RN -> RM -> Prop) : Gd true s w K = s K := Eq.trans rfl rfl
theorem dM (s : (RN -> RM -> Prop) -> Prop) (w : RM) (K : RN -> RM -> Prop) : Gd false s w K = K undef w := Eq.trans rfl rfl
theorem dO (p : Prop) : Gs true p = p := Eq.trans rfl rfl
theorem dL (p : Prop) : Gs false p = True := Eq.trans rfl rfl
theorem dS : lX (.bool true) true = true := Eq.trans rfl rfl
theorem dW : lX (.bool true) false = false := Eq.trans rfl rfl
theorem dV : lX (.bool false) true = false := Eq.trans rfl rfl
theorem dT : lX (.bool false) false = true := Eq.trans rfl rfl
def fI : Operand := .tmp 0
theorem jQ {c : Code} {kn kr : Env -> RM -> Prop} {l : List (Nat × (Env -> RM -> Prop))} {Q : Exit -> Env -> RM -> Prop} {g : Env} {w : RM} {A : Prop}
 (h : A) (hn : ∀ g w, kn g w -> Q .normal g w) (hr : ∀ g w, kr g w -> Q .ret g w) (hl : Lo Q l) (e : A = fY P ann c (P7 kn kr l) g w := by kernel_rfl) : fY P ann c Q g w := NI e h hn hr hl
theorem oA {Q : Exit -> Env -> RM -> Prop} (n : Nat) {c : Code} {g : Env} {w : RM}
 (hd : fY P ann (fF n c) (sF (fun g w => fY P ann (dU n c) Q g w) Q) g w) (h : KG n c = true := by kernel_rfl) : fY P ann c Q g w := L1 n c g w h hd
theorem Hm {Q : Exit -> Env -> RM -> Prop} (id : Nat) {c : Code} {g : Env} {w : RM} (hd : fY P ann (bI c) (NG id Q) g w) (h : Ou id c = true := by kernel_rfl) : fY P ann c Q g w := Oi id c g w h hd
theorem Qe {Q : Exit -> Env -> RM -> Prop} {c : Code} {g : Env} {w : RM} (hd : fY P ann (bI c) Q g w) (h : OD c = true := by kernel_rfl) : fY P ann c Q g w := NP c g w h hd
theorem P9 {Q : Exit -> Env -> RM -> Prop} (o : Operand) {c : Code} {g : Env} {w : RM} {A B : Prop} (ha : A -> fY P ann (cT c) Q g w) (hb : B -> fY P ann (cE c) Q g w) (hd : kK (ev g o) A B) (h : Nk c = some o := by kernel_rfl) : fY P ann c Q g w :=
 NB o c g w h (MX ha hb hd)
theorem IU {T : Type} (proj : Env -> T) (F : (T -> RM -> Prop) -> T -> RM -> Prop) {c : Code} {Q : Exit -> Env -> RM -> Prop} {g : Env} {w : RM}
 (h : iO F (proj g) w)
 (hF : ∀ (X : T -> RM -> Prop) g' w', jX (Du (bI c)) g g' -> F X (proj g') w' -> fY P ann (bI c) (sF (fun g'' w'' => X (proj g'') w'') Q) g' w') (hl : Mq c = true := by kernel_rfl) : fY P ann c Q g w := L5 proj F c hl h hF
theorem CB {l : List Nat} {g g' : Env} (s : Nat) (h : jX l g g') (hs : lY s l = false := by kernel_rfl) : g' s = g s := MD h hs
theorem AX {ann : FA} (fn : Func) (c : Code) (args : List RN) (rs : List ResultVar) (N : Nat) {f : FuncId} {w : RM} {R : RN -> RM -> Prop} (hm : P.follows .mixedOrders = true)
 (hf : P.funcs[f]? = some fn) (h : fY P ann c (Ps P rs R) (HV args) w) (hAf : ann.f = f := by kernel_rfl) (hb : fn.body = some c := by kernel_rfl) (hrs : fn.results = rs.toArray := by kernel_rfl) (hN : fn.ntmps = N := by kernel_rfl) (hle : Nat.ble args.length N = true := by kernel_rfl)
 (hok : codeOk P N ann c = true := by kernel_rfl) (hro : rs.all JS = true := by kernel_rfl) (hND : Nat.ble N DS = true := by kernel_rfl) (hfl : pM c = true := by kernel_rfl) : fK P f args.toArray w R :=
 JL hm hAf hf hb hrs hN (Rs hle) hok hro hND hfl h
end
end Go.En
namespace Go.Proofs.YthohephggmkeeaaDoor
open Go Go.En
noncomputable abbrev pg : Program := Tryd.prog
theorem TrydM.mixed : pg.follows .mixedOrders = true := Tryd.checked.mixed
abbrev K0 := RM -> Prop
abbrev K1 := RN -> K0
abbrev K2 := RN -> K1
abbrev K3 := RN -> K2
abbrev K4 := RN -> K3
abbrev K5 := RN -> K4
abbrev K6 := RN -> K5
abbrev K7 := RN -> K6
abbrev K8 := RN -> K7
abbrev HR (rs : List ResultVar) (R : K1) (Q : Exit -> Env -> RM -> Prop) : Prop := ∀ g w, (mO pg rs g w fun vs => R (Ix vs) w) -> Q .ret g w
abbrev no : Env -> RM -> Prop := fun _ _ => False
theorem kV {Q : Env -> RM -> Prop} : ∀ g w, no g w -> Q g w := fun _ _ h => h.elim
abbrev sC : FuncId := 4
abbrev uV : FuncId := 7
abbrev uY : FuncId := 8
abbrev jW : FuncId := 9
abbrev nX : FuncId := 10
abbrev rA : FuncId := 11
abbrev BZ : FuncId := 12
abbrev qB : FuncId := 13
abbrev kO : FuncId := 14
abbrev nZ : FuncId := 15
abbrev uD : FuncId := 16
abbrev jR : FuncId := 17
abbrev iW : FuncId := 18
abbrev iN : FuncId := 19
abbrev fX : FuncId := 20
abbrev gU : FuncId := 21
abbrev mD : FuncId := 22
abbrev mP : FuncId := 23
abbrev tM : FuncId := 24
abbrev mQ : FuncId := 25
abbrev kL : FuncId := 26
abbrev jG : FuncId := 27
abbrev wX : FuncId := 28
abbrev nY : FuncId := 29
abbrev mJ : FuncId := 30
abbrev kC : FuncId := 31
abbrev xL : FuncId := 32
abbrev sQ : FuncId := 33
abbrev jK : FuncId := 34
abbrev pD : FuncId := 35
abbrev mG : FuncId := 36
abbrev Hl : FuncId := 37
abbrev Dj : FuncId := 38
abbrev rE : FuncId := 39
abbrev Dm : FuncId := 43
abbrev qG : FuncId := 44
abbrev tG : FuncId := 45
abbrev Fc : FuncId := 46
abbrev oZ : FuncId := 47
abbrev sI : FuncId := 60
abbrev qD : FuncId := 61
abbrev pA : FuncId := 62
abbrev hY : FuncId := 63
abbrev N0 (Q : Exit -> Env -> RM -> Prop) (k : K0) : Prop := ∀ g w, k w -> Q .normal g w
abbrev E0 (Q : Exit -> Env -> RM -> Prop) (k : K0) (x0 : Nat) : Prop := ∀ g w, k w -> Q (.exit x0) g w
abbrev N1 (Q : Exit -> Env -> RM -> Prop) (k : K1) (a_ : Nat) : Prop := ∀ g w, k (g a_) w -> Q .normal g w
abbrev E1 (Q : Exit -> Env -> RM -> Prop) (k : K1) (x0 : Nat) (a_ : Nat) : Prop := ∀ g w, k (g a_) w -> Q (.exit x0) g w
abbrev N2 (Q : Exit -> Env -> RM -> Prop) (k : K2) (a_ b_ : Nat) : Prop := ∀ g w, k (g a_) (g b_) w -> Q .normal g w
abbrev E2 (Q : Exit -> Env -> RM -> Prop) (k : K2) (x0 : Nat) (a_ b_ : Nat) : Prop := ∀ g w, k (g a_) (g b_) w -> Q (.exit x0) g w
abbrev N3 (Q : Exit -> Env -> RM -> Prop) (k : K3) (a_ b_ c_ : Nat) : Prop := ∀ g w, k (g a_) (g b_) (g c_) w -> Q .normal g w
abbrev E3 (Q : Exit -> Env -> RM -> Prop) (k : K3) (x0 : Nat) (a_ b_ c_ : Nat) : Prop := ∀ g w, k (g a_) (g b_) (g c_) w -> Q (.exit x0) g w
abbrev N4 (Q : Exit -> Env -> RM -> Prop) (k : K4) (a_ b_ c_ d_ : Nat) : Prop := ∀ g w, k (g a_) (g b_) (g c_) (g d_) w -> Q .normal g w
abbrev E4 (Q : Exit -> Env -> RM -> Prop) (k : K4) (x0 : Nat) (a_ b_ c_ d_ : Nat) : Prop := ∀ g w, k (g a_) (g b_) (g c_) (g d_) w -> Q (.exit x0) g w
abbrev N5 (Q : Exit -> Env -> RM -> Prop) (k : K5) (a_ b_ c_ d_ e_ : Nat) : Prop := ∀ g w, k (g a_) (g b_) (g c_) (g d_) (g e_) w -> Q .normal g w
abbrev N6 (Q : Exit -> Env -> RM -> Prop) (k : K6) (a_ b_ c_ d_ e_ f_ : Nat) : Prop := ∀ g w, k (g a_) (g b_) (g c_) (g d_) (g e_) (g f_) w -> Q .normal g w
abbrev N7 (Q : Exit -> Env -> RM -> Prop) (k : K7) (a_ b_ c_ d_ e_ f_ g_ : Nat) : Prop := ∀ g w, k (g a_) (g b_) (g c_) (g d_) (g e_) (g f_) (g g_) w -> Q .normal g w
abbrev N8 (Q : Exit -> Env -> RM -> Prop) (k : K8) (a_ b_ c_ d_ e_ f_ g_ h_ : Nat) : Prop := ∀ g w, k (g a_) (g b_) (g c_) (g d_) (g e_) (g f_) (g g_) (g h_) w -> Q .normal g w
abbrev RO (n_ : Int) : RN := .int .i64 n_
end Go.Proofs.YthohephggmkeeaaDoor
namespace Go.Proofs.YthohephggmkeeaaDoor
open Go Go.En
set_option maxRecDepth 20000
attribute [local irreducible] Go.En.fY
variable (Q : Exit -> Env -> RM -> Prop) (g : Env) (w : RM)
def fZ : FA := ⟨sC, fun i => .leaf ([], []) []⟩
def iG : List ResultVar := [.tmp 6]
noncomputable def fU : Code := iK Tryd.f4
def kW (R : K1) (qV fO fS iD : RN) (w : RM) : Prop :=
 fK pg jW #[fO, (RO 20), (RO 1048576)] w fun m4 w =>
 dQ pg (iJ m4 0) w fun m5 w =>
 dQ pg (iJ m4 1) w fun m6 w =>
 fK pg nX #[fO, (RO 20), (RO 1048576)] w fun m9 w =>
 dQ pg (iJ m9 0) w fun n0 w =>
 dQ pg (iJ m9 1) w fun n1 w =>
 dQ pg (iJ m9 2) w fun n2 w =>
 dQ pg (fD .eql 26 (.tmp 93) (.const (RO 0)) m6 (RO 0)) w fun n4 w =>
 Gd (lX n4 true) (fun K => K m5 w) w fun n6 w =>
 Gd (lX n4 true) (fun K => dQ pg (jC 22 9 n6) w K) w fun n7 w =>
 Gd (lX n4 true) (fun K => K fS w) w fun n8 w =>
 Gd (lX n4 true) (fun K => dQ pg (fD .eql 9 (.tmp 97) (.tmp 98) n7 n8) w K) w fun n9 w =>
 dQ pg (nF n4 n9 (.bool false)) w fun o0 w =>
 Gd (lX o0 true) (fun K => K n2 w) w fun o2 w =>
 Gd (lX o0 true) (fun K => dQ pg (fD .eql 26 (.tmp 102) (.const (RO 0)) o2 (RO 0)) w K) w fun o3 w =>
 dQ pg (nF o0 o3 (.bool false)) w fun o4 w =>
 Gd (lX o4 true) (fun K => K n0 w) w fun o6 w =>
 Gd (lX o4 true) (fun K => K qV w) w fun o7 w =>
 Gd (lX o4 true) (fun K => dQ pg (lQ .len #[30] 3 [o7]) w K) w fun o8 w =>
 Gd (lX o4 true) (fun K => dQ pg (fD .eql 3 (.tmp 106) (.tmp 108) o6 o8) w K) w fun o9 w =>
 dQ pg (nF o4 o9 (.bool false)) w fun p0 w =>
 Gd (lX p0 true) (fun K => K n1 w) w fun p2 w =>
 Gd (lX p0 true) (fun K => K iD w) w fun p3 w =>
 Gd (lX p0 true) (fun K => dQ pg (fD .eql 3 (.tmp 112) (.tmp 113) p2 p3) w K) w fun p4 w =>
 dQ pg (nF p0 p4 (.bool false)) w fun p5 w =>
 R p5 w
theorem BK (R : K1) (hr : HR iG R Q) (h : kW R (g 0) (g 8) (g 9) (g 10) w) : fY pg fZ (dU 1 (dU 7 fU)) Q g w :=
 jQ (kn := no) (l := []) h kV hr trivial
def jT (kn : K7) (qV fP gQ fO fS iD jN : RN) (w : RM) : Prop :=
 dQ pg (fD .add 3 fI fI jN (RO 1)) w fun d8 w =>
 kn qV fP gQ fO fS iD d8 w
theorem BN (kn : K7) (hn : N7 Q kn 0 1 2 8 9 10 11) (h : jT kn (g 0) (g 1) (g 2) (g 8) (g 9) (g 10) (g 11) w) : fY pg fZ (dU 1 (dU 1 (bI (bI (dU 1 (fF 1 (dU 7 fU))))))) Q g w :=
 jQ (kr := no) (l := []) h hn kV trivial
def jV (kn : K7) (qV fP gQ fO fS iD jN : RN) (w : RM) : Prop :=
 dQ pg (iP 30 qV jN) w fun j8 w =>
 dQ pg (fM 22 j8) w fun j9 w =>
 dQ pg (fD .rem 3 fI fI jN (RO 2)) w fun l1 w =>
 dQ pg (fD .eql 3 (.tmp 71) (.const (RO 0)) l1 (RO 0)) w fun l2 w =>
 fK pg uY #[j9, (RO 100), l2] w fun l3 w =>
 dQ pg (lQ .append #[22, 22] 22 [fO, l3]) w fun l4 w =>
 dQ pg (iP 30 qV jN) w fun l8 w =>
 dQ pg (fM 22 l8) w fun l9 w =>
 dQ pg (jC 22 9 l9) w fun m0 w =>
 dQ pg (fD .add 9 fI fI fS m0) w fun m1 w =>
 kn qV fP gQ l4 m1 iD jN w
theorem BE (kn : K7) (hn : N7 Q kn 0 1 2 8 9 10 11) (h : jV kn (g 0) (g 1) (g 2) (g 8) (g 9) (g 10) (g 11) w) : fY pg fZ (dU 2 (bI (fF 1 (dU 1 (bI (bI (dU 1 (fF 1 (dU 7 fU))))))))) Q g w :=
 jQ (kr := no) (l := []) h hn kV trivial
def qL (kn : K7) (R : K1) (qV fP gQ fO fS iD jN : RN) (w : RM) : Prop :=
 dQ pg (iP 30 qV jN) w fun e1 w =>
 dQ pg (fM 22 e1) w fun e2 w =>
 dQ pg (lQ .len #[22] 3 [e2]) w fun e3 w =>
 dQ pg (fD .gtr 3 fI fI e3 (RO 300)) w fun e4 w =>
 kK e4
  (R (.bool true) w)
  (dQ pg (lQ .len #[22] 3 [fP]) w fun e7 w =>
  dQ pg (fD .lss 3 fI fI jN e7) w fun e8 w =>
  Gd (lX e8 true) (fun K => K fP w) w fun f0 w =>
  Gd (lX e8 true) (fun K => K jN w) w fun f1 w =>
  Gd (lX e8 true) (fun K => dQ pg (iP 22 f0 f1) w K) w fun f2 w =>
  Gd (lX e8 true) (fun K => dQ pg (fM 5 f2) w K) w fun f3 w =>
  Gd (lX e8 true) (fun K => dQ pg (fD .lss 5 fI fI f3 (.int .u8 40)) w K) w fun f4 w =>
  dQ pg (nF e8 f4 (.bool false)) w fun f5 w =>
  kK f5
   (dQ pg (fD .and 5 fI fI gQ (.int .u8 15)) w fun f8 w =>
   dQ pg (fD .add 5 fI fI (.int .u8 80) f8) w fun f9 w =>
   dQ pg (iP 22 fP jN) w fun i2 w =>
   dQ pg (fM 5 i2) w fun i3 w =>
   dQ pg (iM 22 8 [(0, f9), (1, (.int .u8 42)), (2, (.int .u8 77)), (3, (.int .u8 24)), (4, i3), (5, (.int .u8 0)), (6, (.int .u8 0)), (7, (.int .u8 0))]) w fun i4 w =>
   dQ pg (lQ .append #[22, 22] 22 [fO, i4]) w fun i5 w =>
   dQ pg (iP 22 fP jN) w fun i9 w =>
   dQ pg (fM 5 i9) w fun j0 w =>
   dQ pg (jC 5 3 j0) w fun j1 w =>
   dQ pg (lQ .append #[22, 3] 22 [i5, j1]) w fun j2 w =>
   dQ pg (fD .add 3 fI fI iD (RO 1)) w fun j4 w =>
   kn qV fP gQ j2 fS j4 jN w)
   (kn qV fP gQ fO fS iD jN w))
theorem BB (kn : K7) (R : K1) (hn : N7 Q kn 0 1 2 8 9 10 11) (hr : HR iG R Q) (h : qL kn R (g 0) (g 1) (g 2) (g 8) (g 9) (g 10) (g 11) w) : fY pg fZ (fF 2 (bI (fF 1 (dU 1 (bI (bI (dU 1 (fF 1 (dU 7 fU))))))))) Q g w :=
 jQ (l := []) h hn hr trivial
def wR (kn : K7) (R : K1) (qV fP gQ fO fS iD jN : RN) (w : RM) : Prop :=
 qL (fun qV fP gQ fO fS iD jN w => jV kn qV fP gQ fO fS iD jN w) R qV fP gQ fO fS iD jN w
def qM (kn : K7) (R : K1) (qV fP gQ fO fS iD jN : RN) (w : RM) : Prop :=
 wR kn R qV fP gQ fO fS iD jN w
def qP (kn : K7) (R : K1) (qV fP gQ fO fS iD jN : RN) (w : RM) : Prop :=
 qM (fun qV fP gQ fO fS iD jN w => jT kn qV fP gQ fO fS iD jN w) R qV fP gQ fO fS iD jN w
theorem BF (kn : K7) (R : K1) (hn : N7 Q kn 0 1 2 8 9 10 11) (hr : HR iG R Q) (h : qM kn R (g 0) (g 1) (g 2) (g 8) (g 9) (g 10) (g 11) w) : fY pg fZ (fF 1 (dU 1 (bI (bI (dU 1 (fF 1 (dU 7 fU))))))) Q g w :=
 Hm 1 (oA 2 (BB _ g w (jV kn) R (fun g w h => fL (BE _ g w kn hn h)) hr h))
def qQ (kn : K7) (k0 : K4) (qV fP gQ fO fS iD jN : RN) (w : RM) : Prop :=
 dQ pg (lQ .len #[30] 3 [qV]) w fun d5 w =>
 dQ pg (fD .lss 3 fI fI jN d5) w fun d6 w =>
 kK d6
  (kn qV fP gQ fO fS iD jN w)
  (k0 qV fO fS iD w)
theorem BS (kn : K7) (k0 : K4) (hn : N7 Q kn 0 1 2 8 9 10 11) (h0 : E4 Q k0 0 0 8 9 10) (h : qQ kn k0 (g 0) (g 1) (g 2) (g 8) (g 9) (g 10) (g 11) w) : fY pg fZ (fF 1 (bI (bI (dU 1 (fF 1 (dU 7 fU)))))) Q g w :=
 jQ (kr := no) (l := [(0, fun g w => k0 (g 0) (g 8) (g 9) (g 10) w)]) h hn kV ⟨h0, trivial⟩
def kX (kn : K7) (k0 : K4) (R : K1) (qV fP gQ fO fS iD jN : RN) (w : RM) : Prop :=
 qQ (fun qV fP gQ fO fS iD jN w => qP kn R qV fP gQ fO fS iD jN w) k0 qV fP gQ fO fS iD jN w
def pH (k0 : K4) (R : K1) (qV fP gQ fO fS iD jN : RN) (w : RM) : Prop :=
 iO (fun (X : (RN × RN × RN × RN) -> K0) (t : RN × RN × RN × RN) (w : RM) => kX (fun _ _ _ fO fS iD jN w => X (fO, fS, iD, jN) w) k0 R qV fP gQ t.1 t.2.1 t.2.2.1 t.2.2.2 w) (fO, fS, iD, jN) w
theorem BJ (kn : K7) (k0 : K4) (R : K1) (hn : N7 Q kn 0 1 2 8 9 10 11) (h0 : E4 Q k0 0 0 8 9 10) (hr : HR iG R Q) (h : kX kn k0 R (g 0) (g 1) (g 2) (g 8) (g 9) (g 10) (g 11) w) : fY pg fZ (bI (bI (dU 1 (fF 1 (dU 7 fU))))) Q g w :=
 oA 1 (BS _ g w (qP kn R) k0 (fun g w h => fL (oA 1 (BF _ g w (jT kn) R (fun g w h => fL (BN _ g w kn hn h)) hr h))) h0 h)
theorem A0 (k0 : K4) (R : K1) (h0 : E4 Q k0 0 0 8 9 10) (hr : HR iG R Q) (h : pH k0 R (g 0) (g 1) (g 2) (g 8) (g 9) (g 10) (g 11) w) : fY pg fZ (bI (dU 1 (fF 1 (dU 7 fU)))) Q g w := by
 refine IU (fun g : Env => (g 8, g 9, g 10, g 11)) (fun X t w => kX (fun _ _ _ fO fS iD jN w => X (fO, fS, iD, jN) w) k0 R (g 0) (g 1) (g 2) t.1 t.2.1 t.2.2.1 t.2.2.2 w) h (fun X g1 w1 ha hL => ?_)
 rw [<- CB 0 ha, <- CB 1 ha, <- CB 2 ha] at hL
 exact (BJ _ g1 w1 (fun _ _ _ fO fS iD jN w => X (fO, fS, iD, jN) w) k0 R (fun _ _ h => h) h0 hr hL)
def pJ (kn : K4) (R : K1) (qV fP gQ fO fS iD jN : RN) (w : RM) : Prop :=
 pH kn R qV fP gQ fO fS iD jN w
def pT (kn : K7) (qV fP gQ fO fS iD : RN) (w : RM) : Prop :=
 kn qV fP gQ fO fS iD (RO 0) w
theorem A5 (kn : K7) (hn : N7 Q kn 0 1 2 8 9 10 11) (h : pT kn (g 0) (g 1) (g 2) (g 8) (g 9) (g 10) w) : fY pg fZ (fF 1 (fF 1 (dU 7 fU))) Q g w :=
 jQ (kr := no) (l := []) h hn kV trivial
def pX (kn : K4) (R : K1) (qV fP gQ fO fS iD : RN) (w : RM) : Prop :=
 pT (fun qV fP gQ fO fS iD jN w => pJ kn R qV fP gQ fO fS iD jN w) qV fP gQ fO fS iD w
def kN (R : K1) (qV fP gQ fO fS iD : RN) (w : RM) : Prop :=
 pX (fun qV fO fS iD w => kW R qV fO fS iD w) R qV fP gQ fO fS iD w
theorem Bc (kn : K4) (R : K1) (hn : N4 Q kn 0 8 9 10) (hr : HR iG R Q) (h : pX kn R (g 0) (g 1) (g 2) (g 8) (g 9) (g 10) w) : fY pg fZ (fF 1 (dU 7 fU)) Q g w :=
 oA 1 (A5 _ g w (pJ kn R) (fun g w h => fL (Hm 0 (A0 _ g w kn R hn hr h))) h)
def pW (kn : K6) (R : K1) (qV fP gQ : RN) (w : RM) : Prop :=
 fK pg uV #[] w fun c7 w =>
 dQ pg (Nv .not c7) w fun c9 w =>
 kK c9
  (R (.bool false) w)
  (dQ pg (lQ .len #[30] 3 [qV]) w fun d1 w =>
  dQ pg (fD .gtr 3 fI fI d1 (RO 10)) w fun d2 w =>
  kK d2
   (R (.bool true) w)
   (kn qV fP gQ (.slice none 0 0) (.string ⟨#[]⟩) (RO 0) w))
theorem A2 (kn : K6) (R : K1) (hn : N6 Q kn 0 1 2 8 9 10) (hr : HR iG R Q) (h : pW kn R (g 0) (g 1) (g 2) w) : fY pg fZ (fF 7 fU) Q g w :=
 jQ (l := []) h hn hr trivial
def pR (R : K1) (qV fP gQ : RN) (w : RM) : Prop :=
 pW (fun qV fP gQ fO fS iD w => kN R qV fP gQ fO fS iD w) R qV fP gQ w
theorem A8 (R : K1) (hr : HR iG R Q) (h : pR R (g 0) (g 1) (g 2) w) : fY pg fZ fU Q g w :=
 oA 7 (A2 _ g w (kN R) R (fun g w h => fL (oA 1 (Bc _ g w (kW R) R (fun g w h => fL (BK _ g w R hr h)) hr h))) hr h)
def Bf (a0 a1 a2 : RN) (w : RM) (R : K1) : Prop :=
 pR R a0 a1 a2 w
theorem Ct {a0 a1 a2 : RN} {w : RM} {R : K1} (h : Bf a0 a1 a2 w R) : fK pg sC #[a0, a1, a2] w R := by
 refine AX (ann := fZ) Tryd.f4 fU [a0, a1, a2] iG 116 TrydM.mixed Tryd.func4 ?_
 exact (A8 _ _ _ R (fun _ _ h => h) h)
def Ci : FA := ⟨uV, fun i => .leaf ([], []) []⟩
def CU : List ResultVar := [.tmp 0]
noncomputable def Br : Code := iK Tryd.f7
def yX (R : K1)  (w : RM) : Prop :=
 dQ pg (iM 22 11 [(0, (.int .u8 40)), (1, (.int .u8 181)), (2, (.int .u8 47)), (3, (.int .u8 253)), (4, (.int .u8 32)), (5, (.int .u8 2)), (6, (.int .u8 17)), (7, (.int .u8 0)), (8, (.int .u8 0)), (9, (.int .u8 7)), (10, (.int .u8 8))]) w fun c1 w =>
 dQ pg (jC 22 22 c1) w fun c2 w =>
 fK pg jW #[c2, (RO 20), (RO 100)] w fun c3 w =>
 dQ pg (iJ c3 0) w fun c4 w =>
 dQ pg (iJ c3 1) w fun c5 w =>
 dQ pg (iM 22 3 [(0, (.int .u8 1)), (1, (.int .u8 2)), (2, (.int .u8 3))]) w fun c7 w =>
 fK pg jW #[c7, (RO 20), (RO 100)] w fun c8 w =>
 dQ pg (iJ c8 0) w fun c9 w =>
 dQ pg (iJ c8 1) w fun d0 w =>
 fK pg jW #[(.slice none 0 0), (RO 9), (RO 100)] w fun d2 w =>
 dQ pg (iJ d2 0) w fun d3 w =>
 dQ pg (iJ d2 1) w fun d4 w =>
 dQ pg (iM 22 9 [(0, (.int .u8 80)), (1, (.int .u8 42)), (2, (.int .u8 77)), (3, (.int .u8 24)), (4, (.int .u8 1)), (5, (.int .u8 0)), (6, (.int .u8 0)), (7, (.int .u8 0)), (8, (.int .u8 9))]) w fun d6 w =>
 dQ pg (jC 22 22 d6) w fun d7 w =>
 fK pg nX #[d7, (RO 20), (RO 100)] w fun d8 w =>
 dQ pg (iJ d8 0) w fun d9 w =>
 dQ pg (iJ d8 1) w fun e0 w =>
 dQ pg (iJ d8 2) w fun e1 w =>
 dQ pg (jC 22 9 c4) w fun e3 w =>
 dQ pg (fD .eql 9 (.tmp 33) (.const (.string ⟨#[7, 8]⟩)) e3 (.string ⟨#[7, 8]⟩)) w fun e4 w =>
 Gd (lX e4 true) (fun K => K c5 w) w fun e6 w =>
 Gd (lX e4 true) (fun K => dQ pg (fD .eql 26 (.tmp 36) (.const (RO 0)) e6 (RO 0)) w K) w fun e7 w =>
 dQ pg (nF e4 e7 (.bool false)) w fun e8 w =>
 Gd (lX e8 true) (fun K => K d0 w) w fun f0 w =>
 Gd (lX e8 true) (fun K => dQ pg (fD .eql 26 (.tmp 40) (.const (RO 10)) f0 (RO 10)) w K) w fun f1 w =>
 dQ pg (nF e8 f1 (.bool false)) w fun f2 w =>
 Gd (lX f2 true) (fun K => K d4 w) w fun f4 w =>
 Gd (lX f2 true) (fun K => dQ pg (fD .eql 26 (.tmp 44) (.const (RO 1)) f4 (RO 1)) w K) w fun f5 w =>
 dQ pg (nF f2 f5 (.bool false)) w fun f6 w =>
 Gd (lX f6 true) (fun K => K d9 w) w fun f8 w =>
 Gd (lX f6 true) (fun K => dQ pg (fD .eql 3 (.tmp 48) (.const (RO 0)) f8 (RO 0)) w K) w fun f9 w =>
 dQ pg (nF f6 f9 (.bool false)) w fun i0 w =>
 Gd (lX i0 true) (fun K => K e0 w) w fun i2 w =>
 Gd (lX i0 true) (fun K => dQ pg (fD .eql 3 (.tmp 52) (.const (RO 1)) i2 (RO 1)) w K) w fun i3 w =>
 dQ pg (nF i0 i3 (.bool false)) w fun i4 w =>
 Gd (lX i4 true) (fun K => K e1 w) w fun i6 w =>
 Gd (lX i4 true) (fun K => dQ pg (fD .eql 26 (.tmp 56) (.const (RO 0)) i6 (RO 0)) w K) w fun i7 w =>
 dQ pg (nF i4 i7 (.bool false)) w fun i8 w =>
 R i8 w
theorem EI (R : K1) (hr : HR CU R Q) (h : yX R w) : fY pg Ci Br Q g w :=
 jQ (kn := no) (l := []) h kV hr trivial
def Gr (w : RM) (R : K1) : Prop :=
 yX R w
theorem FG {w : RM} {R : K1} (h : Gr w R) : fK pg uV #[] w R := by
 refine AX (ann := Ci) Tryd.f7 Br [] CU 59 TrydM.mixed Tryd.func7 ?_
 exact (EI _ _ _ R (fun _ _ h => h) h)
def gY : FA := ⟨uY, fun i => .leaf ([], []) []⟩
def yD : List ResultVar := [.tmp 6]
noncomputable def gS : Code := iK Tryd.f8
def pI (R : K1) (fT : RN) (w : RM) : Prop :=
 R fT w
theorem Fq (R : K1) (hr : HR yD R Q) (h : pI R (g 7) w) : fY pg gY (dU 1 (dU 1 (dU 3 gS))) Q g w :=
 jQ (kn := no) (l := []) h kV hr trivial
def xZ (kn : K1) (iE gM fT : RN) (w : RM) : Prop :=
 kK gM
  (dQ pg (jC 22 9 iE) w fun l4 w =>
  fK pg BZ #[l4] w fun l5 w =>
  dQ pg (jC 40 5 l5) w fun l8 w =>
  dQ pg (fD .shr 40 fI fI l5 (.int .u64 8)) w fun m0 w =>
  dQ pg (jC 40 5 m0) w fun m1 w =>
  dQ pg (fD .shr 40 fI fI l5 (.int .u64 16)) w fun m3 w =>
  dQ pg (jC 40 5 m3) w fun m4 w =>
  dQ pg (fD .shr 40 fI fI l5 (.int .u64 24)) w fun m6 w =>
  dQ pg (jC 40 5 m6) w fun m7 w =>
  dQ pg (iM 22 4 [(0, l8), (1, m1), (2, m4), (3, m7)]) w fun m8 w =>
  dQ pg (lQ .append #[22, 22] 22 [fT, m8]) w fun m9 w =>
  kn m9 w)
  (kn fT w)
theorem EY (kn : K1) (hn : N1 Q kn 7) (h : xZ kn (g 0) (g 2) (g 7) w) : fY pg gY (fF 1 (dU 1 (dU 3 gS))) Q g w :=
 jQ (kr := no) (l := []) h hn kV trivial
def lL (R : K1) (iE gM fT : RN) (w : RM) : Prop :=
 xZ (fun fT w => pI R fT w) iE gM fT w
def mU (kn : K6) (iE fV gM fT iT nS : RN) (w : RM) : Prop :=
 dQ pg (fD .add 3 fI fI nS (RO 1)) w fun d4 w =>
 kn iE fV gM fT iT d4 w
theorem ET (kn : K6) (hn : N6 Q kn 0 1 2 7 8 9) (h : mU kn (g 0) (g 1) (g 2) (g 7) (g 8) (g 9) w) : fY pg gY (dU 1 (dU 1 (bI (bI (dU 1 (fF 1 (dU 3 gS))))))) Q g w :=
 jQ (kr := no) (l := []) h hn kV trivial
def pS (kn : K6) (k0 : K3) (iE fV gM fT iT nS iD Lc : RN) (w : RM) : Prop :=
 dQ pg (jC 3 5 Lc) w fun f8 w =>
 dQ pg (fD .quo 3 fI fI Lc (RO 256)) w fun i0 w =>
 dQ pg (jC 3 5 i0) w fun i1 w =>
 dQ pg (fD .quo 3 fI fI Lc (RO 65536)) w fun i3 w =>
 dQ pg (jC 3 5 i3) w fun i4 w =>
 dQ pg (iM 22 3 [(0, f8), (1, i1), (2, i4)]) w fun i5 w =>
 dQ pg (lQ .append #[22, 22] 22 [fT, i5]) w fun i6 w =>
 dQ pg (fD .add 3 fI fI iT iD) w fun j2 w =>
 dQ pg (iB 22 iE (some iT) (some j2) none) w fun j3 w =>
 dQ pg (lQ .append #[22, 22] 22 [i6, j3]) w fun j4 w =>
 dQ pg (fD .add 3 fI fI iT iD) w fun j7 w =>
 dQ pg (lQ .len #[22] 3 [iE]) w fun l0 w =>
 dQ pg (fD .eql 3 (.tmp 68) (.tmp 70) j7 l0) w fun l1 w =>
 kK l1
  (k0 iE gM j4 w)
  (kn iE fV gM j4 j7 nS w)
theorem EK (kn : K6) (k0 : K3) (hn : N6 Q kn 0 1 2 7 8 9) (h0 : E3 Q k0 0 0 2 7) (h : pS kn k0 (g 0) (g 1) (g 2) (g 7) (g 8) (g 9) (g 10) (g 11) w) : fY pg gY (dU 2 (dU 2 (bI (fF 1 (dU 1 (bI (bI (dU 1 (fF 1 (dU 3 gS)))))))))) Q g w :=
 jQ (kr := no) (l := [(0, fun g w => k0 (g 0) (g 2) (g 7) w)]) h hn kV ⟨h0, trivial⟩
def xX (kn : K8) (iE fV gM fT iT nS iD : RN) (w : RM) : Prop :=
 dQ pg (fD .mul 3 fI fI (RO 8) iD) w fun e7 w =>
 dQ pg (fD .add 3 fI fI iT iD) w fun f0 w =>
 dQ pg (lQ .len #[22] 3 [iE]) w fun f2 w =>
 dQ pg (fD .eql 3 (.tmp 40) (.tmp 42) f0 f2) w fun f3 w =>
 kK f3
  (dQ pg (fD .add 3 fI fI e7 (RO 1)) w fun f5 w =>
  kn iE fV gM fT iT nS iD f5 w)
  (kn iE fV gM fT iT nS iD e7 w)
theorem Fv (kn : K8) (hn : N8 Q kn 0 1 2 7 8 9 10 11) (h : xX kn (g 0) (g 1) (g 2) (g 7) (g 8) (g 9) (g 10) w) : fY pg gY (fF 2 (dU 2 (bI (fF 1 (dU 1 (bI (bI (dU 1 (fF 1 (dU 3 gS)))))))))) Q g w :=
 jQ (kr := no) (l := []) h hn kV trivial
def tN (kn : K6) (k0 : K3) (iE fV gM fT iT nS iD : RN) (w : RM) : Prop :=
 xX (fun iE fV gM fT iT nS iD Lc w => pS kn k0 iE fV gM fT iT nS iD Lc w) iE fV gM fT iT nS iD w
def yJ (kn : K7) (iE fV gM fT iT nS : RN) (w : RM) : Prop :=
 dQ pg (lQ .len #[22] 3 [iE]) w fun d8 w =>
 dQ pg (fD .sub 3 fI fI d8 iT) w fun e0 w =>
 dQ pg (fD .gtr 3 fI fI fV e0) w fun e1 w =>
 kK e1
  (dQ pg (lQ .len #[22] 3 [iE]) w fun e3 w =>
  dQ pg (fD .sub 3 fI fI e3 iT) w fun e5 w =>
  kn iE fV gM fT iT nS e5 w)
  (kn iE fV gM fT iT nS fV w)
theorem FC (kn : K7) (hn : N7 Q kn 0 1 2 7 8 9 10) (h : yJ kn (g 0) (g 1) (g 2) (g 7) (g 8) (g 9) w) : fY pg gY (fF 2 (bI (fF 1 (dU 1 (bI (bI (dU 1 (fF 1 (dU 3 gS))))))))) Q g w :=
 jQ (kr := no) (l := []) h hn kV trivial
def Dc (kn : K6) (k0 : K3) (iE fV gM fT iT nS : RN) (w : RM) : Prop :=
 yJ (fun iE fV gM fT iT nS iD w => tN kn k0 iE fV gM fT iT nS iD w) iE fV gM fT iT nS w
def vP (kn : K6) (k0 : K3) (iE fV gM fT iT nS : RN) (w : RM) : Prop :=
 Dc kn k0 iE fV gM fT iT nS w
def wE (kn : K6) (k0 : K3) (iE fV gM fT iT nS : RN) (w : RM) : Prop :=
 vP (fun iE fV gM fT iT nS w => mU kn iE fV gM fT iT nS w) k0 iE fV gM fT iT nS w
theorem EE (kn : K6) (k0 : K3) (hn : N6 Q kn 0 1 2 7 8 9) (h0 : E3 Q k0 0 0 2 7) (h : vP kn k0 (g 0) (g 1) (g 2) (g 7) (g 8) (g 9) w) : fY pg gY (fF 1 (dU 1 (bI (bI (dU 1 (fF 1 (dU 3 gS))))))) Q g w :=
 Hm 1 (oA 2 (FC _ g w (tN kn k0) (fun g w h => fL (oA 2 (Fv _ g w (pS kn k0) (fun g w h => fL (EK _ g w kn k0 hn h0 h)) h))) h))
def wC (kn : K6) (k0 : K3) (iE fV gM fT iT nS : RN) (w : RM) : Prop :=
 dQ pg (lQ .len #[22] 3 [iE]) w fun d1 w =>
 dQ pg (fD .leq 3 fI fI nS d1) w fun d2 w =>
 kK d2
  (kn iE fV gM fT iT nS w)
  (k0 iE gM fT w)
theorem EF (kn : K6) (k0 : K3) (hn : N6 Q kn 0 1 2 7 8 9) (h0 : E3 Q k0 0 0 2 7) (h : wC kn k0 (g 0) (g 1) (g 2) (g 7) (g 8) (g 9) w) : fY pg gY (fF 1 (bI (bI (dU 1 (fF 1 (dU 3 gS)))))) Q g w :=
 jQ (kr := no) (l := [(0, fun g w => k0 (g 0) (g 2) (g 7) w)]) h hn kV ⟨h0, trivial⟩
def nT (kn : K6) (k0 : K3) (iE fV gM fT iT nS : RN) (w : RM) : Prop :=
 wC (fun iE fV gM fT iT nS w => wE kn k0 iE fV gM fT iT nS w) k0 iE fV gM fT iT nS w
def wG (k0 : K3) (iE fV gM fT iT nS : RN) (w : RM) : Prop :=
 iO (fun (X : (RN × RN × RN) -> K0) (t : RN × RN × RN) (w : RM) => nT (fun _ _ _ fT iT nS w => X (fT, iT, nS) w) k0 iE fV gM t.1 t.2.1 t.2.2 w) (fT, iT, nS) w
theorem D9 (kn : K6) (k0 : K3) (hn : N6 Q kn 0 1 2 7 8 9) (h0 : E3 Q k0 0 0 2 7) (h : nT kn k0 (g 0) (g 1) (g 2) (g 7) (g 8) (g 9) w) : fY pg gY (bI (bI (dU 1 (fF 1 (dU 3 gS))))) Q g w :=
 oA 1 (EF _ g w (wE kn k0) k0 (fun g w h => fL (oA 1 (EE _ g w (mU kn) k0 (fun g w h => fL (ET _ g w kn hn h)) h0 h))) h0 h)
theorem DZ (k0 : K3) (h0 : E3 Q k0 0 0 2 7) (h : wG k0 (g 0) (g 1) (g 2) (g 7) (g 8) (g 9) w) : fY pg gY (bI (dU 1 (fF 1 (dU 3 gS)))) Q g w := by
 refine IU (fun g : Env => (g 7, g 8, g 9)) (fun X t w => nT (fun _ _ _ fT iT nS w => X (fT, iT, nS) w) k0 (g 0) (g 1) (g 2) t.1 t.2.1 t.2.2 w) h (fun X g1 w1 ha hL => ?_)
 rw [<- CB 0 ha, <- CB 1 ha, <- CB 2 ha] at hL
 exact (D9 _ g1 w1 (fun _ _ _ fT iT nS w => X (fT, iT, nS) w) k0 (fun _ _ h => h) h0 hL)
def wH (kn : K3) (iE fV gM fT iT nS : RN) (w : RM) : Prop :=
 wG kn iE fV gM fT iT nS w
def vS (kn : K6) (iE fV gM fT iT : RN) (w : RM) : Prop :=
 kn iE fV gM fT iT (RO 0) w
theorem D2 (kn : K6) (hn : N6 Q kn 0 1 2 7 8 9) (h : vS kn (g 0) (g 1) (g 2) (g 7) (g 8) w) : fY pg gY (fF 1 (fF 1 (dU 3 gS))) Q g w :=
 jQ (kr := no) (l := []) h hn kV trivial
def vY (kn : K3) (iE fV gM fT iT : RN) (w : RM) : Prop :=
 vS (fun iE fV gM fT iT nS w => wH kn iE fV gM fT iT nS w) iE fV gM fT iT w
def nV (R : K1) (iE fV gM fT iT : RN) (w : RM) : Prop :=
 vY (fun iE gM fT w => lL R iE gM fT w) iE fV gM fT iT w
theorem Eb (kn : K3) (hn : N3 Q kn 0 2 7) (h : vY kn (g 0) (g 1) (g 2) (g 7) (g 8) w) : fY pg gY (fF 1 (dU 3 gS)) Q g w :=
 oA 1 (D2 _ g w (wH kn) (fun g w h => fL (Hm 0 (DZ _ g w kn hn h))) h)
def vZ (kn : K5) (iE fV gM : RN) (w : RM) : Prop :=
 dQ pg (lQ .len #[22] 3 [iE]) w fun c4 w =>
 dQ pg (jC 3 40 c4) w fun c5 w =>
 fK pg rA #[c5, gM] w fun c7 w =>
 dQ pg (jC 9 22 c7) w fun c8 w =>
 kn iE fV gM c8 (RO 0) w
theorem Ez (kn : K5) (hn : N5 Q kn 0 1 2 7 8) (h : vZ kn (g 0) (g 1) (g 2) w) : fY pg gY (fF 3 gS) Q g w :=
 jQ (kr := no) (l := []) h hn kV trivial
def vX (R : K1) (iE fV gM : RN) (w : RM) : Prop :=
 vZ (fun iE fV gM fT iT w => nV R iE fV gM fT iT w) iE fV gM w
theorem D4 (R : K1) (hr : HR yD R Q) (h : vX R (g 0) (g 1) (g 2) w) : fY pg gY gS Q g w :=
 oA 3 (Ez _ g w (nV R) (fun g w h => fL (oA 1 (Eb _ g w (lL R) (fun g w h => fL (oA 1 (EY _ g w (pI R) (fun g w h => fL (Fq _ g w R hr h)) h))) h))) h)
def GF (a0 a1 a2 : RN) (w : RM) (R : K1) : Prop :=
 vX R a0 a1 a2 w
theorem FJ {a0 a1 a2 : RN} {w : RM} {R : K1} (h : GF a0 a1 a2 w R) : fK pg uY #[a0, a1, a2] w R := by
 refine AX (ann := gY) Tryd.f8 gS [a0, a1, a2] yD 91 TrydM.mixed Tryd.func8 ?_
 exact (D4 _ _ _ R (fun _ _ h => h) h)
def zO : FA := ⟨jW, fun i => .leaf ([], []) []⟩
def A3 : List ResultVar := [.tmp 6, .tmp 7]
noncomputable def yR : Code := iK Tryd.f9
def qF (R : K1) (iE DR C4 : RN) (w : RM) : Prop :=
 fK pg qB #[iE, DR, C4] w fun c4 w =>
 dQ pg (iJ c4 0) w fun c5 w =>
 dQ pg (iJ c4 1) w fun c6 w =>
 dQ pg (fD .neq 26 (.tmp 17) (.const (RO 0)) c6 (RO 0)) w fun c8 w =>
 kK c8
  (R (.tuple #[(.slice none 0 0), c6]) w)
  (dQ pg (jP c5) w fun d1 w =>
  dQ pg (fJ 47 d1 3) w fun d2 w =>
  dQ pg (fM 22 d2) w fun d3 w =>
  R (.tuple #[d3, (RO 0)]) w)
theorem Dz (R : K1) (hr : HR A3 R Q) (h : qF R (g 0) (g 1) (g 2) w) : fY pg zO yR Q g w :=
 jQ (kn := no) (l := []) h kV hr trivial
def AG (a0 a1 a2 : RN) (w : RM) (R : K1) : Prop :=
 qF R a0 a1 a2 w
theorem yK {a0 a1 a2 : RN} {w : RM} {R : K1} (h : AG a0 a1 a2 w R) : fK pg jW #[a0, a1, a2] w R := by
 refine AX (ann := zO) Tryd.f9 yR [a0, a1, a2] A3 24 TrydM.mixed Tryd.func9 ?_
 exact (Dz _ _ _ R (fun _ _ h => h) h)
def zP : FA := ⟨nX, fun i => match Nat.beq i 4 with | true => .leaf ([], []) [(false, []), (false, []), (false, []), (false, []), (false, []), (false, []), (false, []), (false, []), (false, []), (false, []), (false, [])] | false => .leaf ([], []) []⟩
def A7 : List ResultVar := [.tmp 6, .tmp 7, .tmp 8]
noncomputable def yC : Code := iK Tryd.f10
def uL (R : K1) (iE DR C4 : RN) (w : RM) : Prop :=
 fK pg qB #[iE, DR, C4] w fun c5 w =>
 dQ pg (iJ c5 0) w fun c6 w =>
 dQ pg (iJ c5 1) w fun c7 w =>
 dQ pg (fD .neq 26 (.tmp 18) (.const (RO 0)) c7 (RO 0)) w fun c9 w =>
 kK c9
  (R (.tuple #[(RO 0), (RO 0), c7]) w)
  ((dr w) = (dr w) /\
  dQ pg (jP c6) (dr w) fun d2 w_ => w_ = (dr w) /\
  dQ pg (fJ 47 d2 4) (dr w) fun d3 w_ => w_ = (dr w) /\
  dQ pg (fM 3 d3) (dr w) fun d4 w_ => w_ = (dr w) /\
  (dr w) = (dr w) /\
  dQ pg (jP c6) (dr w) fun d6 w_ => w_ = (dr w) /\
  dQ pg (fJ 47 d6 5) (dr w) fun d7 w_ => w_ = (dr w) /\
  dQ pg (fM 3 d7) (dr w) fun d8 w_ => w_ = (dr w) /\
  (dr w) = (dr w) /\
  (dr w) = (dr w) /\
  (dr w) = (dr w) /\
  R (.tuple #[d4, d8, (RO 0)]) (dr w))
theorem DE (R : K1) (hr : HR A7 R Q) (h : uL R (g 0) (g 1) (g 2) w) : fY pg zP yC Q g w :=
 jQ (kn := no) (l := []) h kV hr trivial
def DK (a0 a1 a2 : RN) (w : RM) (R : K1) : Prop :=
 uL R a0 a1 a2 w
theorem Eo {a0 a1 a2 : RN} {w : RM} {R : K1} (h : DK a0 a1 a2 w R) : fK pg nX #[a0, a1, a2] w R := by
 refine AX (ann := zP) Tryd.f10 yC [a0, a1, a2] A7 29 TrydM.mixed Tryd.func10 ?_
 exact (DE _ _ _ R (fun _ _ h => h) h)
def rF : FA := ⟨rA, fun i => .leaf ([], []) []⟩
def xV : List ResultVar := [.tmp 4]
noncomputable def qE : Code := iK Tryd.f11
def pU (R : K1) (qN OE : RN) (w : RM) : Prop :=
 dQ pg (fD .lss 40 fI fI qN (.int .u64 256)) w fun c1 w =>
 kK c1
  (fK pg kO #[OE, (RO 1)] w fun c4 w =>
  dQ pg (fD .add 9 fI fI (.string ⟨#[40, 181, 47, 253]⟩) c4) w fun c5 w =>
  fK pg kO #[qN, (RO 1)] w fun c7 w =>
  dQ pg (fD .add 9 fI fI c5 c7) w fun c8 w =>
  R c8 w)
  (dQ pg (fD .lss 40 fI fI qN (.int .u64 65792)) w fun d0 w =>
  kK d0
   (dQ pg (fD .add 40 fI fI OE (.int .u64 64)) w fun d3 w =>
   fK pg kO #[d3, (RO 1)] w fun d4 w =>
   dQ pg (fD .add 9 fI fI (.string ⟨#[40, 181, 47, 253]⟩) d4) w fun d5 w =>
   dQ pg (fD .sub 40 fI fI qN (.int .u64 256)) w fun d7 w =>
   fK pg kO #[d7, (RO 2)] w fun d8 w =>
   dQ pg (fD .add 9 fI fI d5 d8) w fun d9 w =>
   R d9 w)
   (dQ pg (fD .lss 40 fI fI qN (.int .u64 4294967296)) w fun e1 w =>
   kK e1
    (dQ pg (fD .add 40 fI fI OE (.int .u64 128)) w fun e4 w =>
    fK pg kO #[e4, (RO 1)] w fun e5 w =>
    dQ pg (fD .add 9 fI fI (.string ⟨#[40, 181, 47, 253]⟩) e5) w fun e6 w =>
    fK pg kO #[qN, (RO 4)] w fun e8 w =>
    dQ pg (fD .add 9 fI fI e6 e8) w fun e9 w =>
    R e9 w)
    (dQ pg (fD .add 40 fI fI OE (.int .u64 192)) w fun f2 w =>
    fK pg kO #[f2, (RO 1)] w fun f3 w =>
    dQ pg (fD .add 9 fI fI (.string ⟨#[40, 181, 47, 253]⟩) f3) w fun f4 w =>
    fK pg kO #[qN, (RO 8)] w fun f6 w =>
    dQ pg (fD .add 9 fI fI f4 f6) w fun f7 w =>
    R f7 w)))
theorem EU (R : K1) (hr : HR xV R Q) (h : pU R (g 0) (g 5) w) : fY pg rF (dU 3 qE) Q g w :=
 jQ (kn := no) (l := []) h kV hr trivial
def yF (kn : K2) (qN Nl : RN) (w : RM) : Prop :=
 kK Nl
  (dQ pg (fD .add 40 fI fI (.int .u64 32) (.int .u64 4)) w fun b9 w =>
  kn qN b9 w)
  (kn qN (.int .u64 32) w)
theorem EX (kn : K2) (hn : N2 Q kn 0 5) (h : yF kn (g 0) (g 1) w) : fY pg rF (fF 3 qE) Q g w :=
 jQ (kr := no) (l := []) h hn kV trivial
def yP (R : K1) (qN Nl : RN) (w : RM) : Prop :=
 yF (fun qN OE w => pU R qN OE w) qN Nl w
theorem Ft (R : K1) (hr : HR xV R Q) (h : yP R (g 0) (g 1) w) : fY pg rF qE Q g w :=
 oA 3 (EX _ g w (pU R) (fun g w h => fL (EU _ g w R hr h)) h)
def Gz (a0 a1 : RN) (w : RM) (R : K1) : Prop :=
 yP R a0 a1 w
theorem Ga {a0 a1 : RN} {w : RM} {R : K1} (h : Gz a0 a1 w R) : fK pg rA #[a0, a1] w R := by
 refine AX (ann := rF) Tryd.f11 qE [a0, a1] xV 48 TrydM.mixed Tryd.func11 ?_
 exact (Ft _ _ _ R (fun _ _ h => h) h)
def fQ : FA := ⟨BZ, fun i => match Nat.beq i 10 with | true => .leaf ([9, 10, 12], [(2, 9), (3, 9)]) [(false, []), (false, []), (false, []), (false, []), (false, []), (false, []), (false, []), (false, []), (false, []), (true, [5, 6]), (true, []), (false, []), (true, [])] | false => match Nat.beq i 12 with | true => .leaf ([2, 5, 9, 13], [(2, 3), (2, 4), (2, 7), (2, 8), (2, 11), (2, 12), (5, 7), (5, 8), (5, 11), (5, 12), (6, 9), (6, 13), (9, 11), (9, 12), (10, 13)]) [(false, []), (false, []), (true, []), (false, [0]), (false, [1]), (true, []), (false, []), (false, [1, 4]), (false, [2, 5]), (true, [2]), (false, []), (false, [1, 5, 8]), (false, [2, 6, 9]), (true, [2, 6]), (false, []), (false, [])] | false => .leaf ([], []) []⟩
def CT : List ResultVar := [.tmp 2]
noncomputable def fN : Code := iK Tryd.f12
def zS (R : K1) (lG : RN) (w : RM) : Prop :=
 dQ pg (fD .shr 40 fI fI lG (.int .u64 33)) w fun q5 w =>
 dQ pg (fD .xor 40 fI fI lG q5) w fun q6 w =>
 dQ pg (fD .mul 40 fI fI q6 (.int .u64 14029467366897019727)) w fun q7 w =>
 dQ pg (fD .shr 40 fI fI q7 (.int .u64 29)) w fun s0 w =>
 dQ pg (fD .xor 40 fI fI q7 s0) w fun s1 w =>
 dQ pg (fD .mul 40 fI fI s1 (.int .u64 1609587929392839161)) w fun s2 w =>
 dQ pg (fD .shr 40 fI fI s2 (.int .u64 32)) w fun s5 w =>
 dQ pg (fD .xor 40 fI fI s2 s5) w fun s6 w =>
 R s6 w
theorem HH (R : K1) (hr : HR CT R Q) (h : zS R (g 3) w) : fY pg fQ (dU 1 (dU 1 (dU 1 (dU 1 (dU 1 (dU 3 fN)))))) Q g w :=
 jQ (kn := no) (l := []) h kV hr trivial
def vD (kn : K3) (k8 : K1) (gK lG iR : RN) (w : RM) : Prop :=
 dQ pg (lQ .len #[9] 3 [gK]) w fun o9 w =>
 dQ pg (fD .lss 3 fI fI iR o9) w fun p0 w =>
 kK p0
  (dQ pg (Ek 9 gK iR) w fun p3 w =>
  dQ pg (jC 5 40 p3) w fun p4 w =>
  dQ pg (fD .mul 40 fI fI p4 (.int .u64 2870177450012600261)) w fun p5 w =>
  dQ pg (fD .xor 40 fI fI lG p5) w fun p8 w =>
  fK pg jR #[p8, (.int .u64 11)] w fun p9 w =>
  dQ pg (fD .mul 40 fI fI p9 (.int .u64 11400714785074694791)) w fun q0 w =>
  dQ pg (fD .add 3 fI fI iR (RO 1)) w fun q2 w =>
  kn gK q0 q2 w)
  (k8 lG w)
theorem HP (kn : K3) (k8 : K1) (hn : N3 Q kn 0 3 4) (h8 : E1 Q k8 8 3) (h : vD kn k8 (g 0) (g 3) (g 4) w) : fY pg fQ (bI (bI (fF 1 (dU 1 (dU 1 (dU 1 (dU 1 (dU 3 fN)))))))) Q g w :=
 jQ (kr := no) (l := [(8, fun g w => k8 (g 3) w)]) h hn kV ⟨h8, trivial⟩
def CX (k8 : K1) (gK lG iR : RN) (w : RM) : Prop :=
 iO (fun (X : (RN × RN) -> K0) (t : RN × RN) (w : RM) => vD (fun _ lG iR w => X (lG, iR) w) k8 gK t.1 t.2 w) (lG, iR) w
theorem Hs (k8 : K1) (h8 : E1 Q k8 8 3) (h : CX k8 (g 0) (g 3) (g 4) w) : fY pg fQ (bI (fF 1 (dU 1 (dU 1 (dU 1 (dU 1 (dU 3 fN))))))) Q g w := by
 refine IU (fun g : Env => (g 3, g 4)) (fun X t w => vD (fun _ lG iR w => X (lG, iR) w) k8 (g 0) t.1 t.2 w) h (fun X g1 w1 ha hL => ?_)
 rw [<- CB 0 ha] at hL
 exact (HP _ g1 w1 (fun _ lG iR w => X (lG, iR) w) k8 (fun _ _ h => h) h8 hL)
def Di (kn : K1) (gK lG iR : RN) (w : RM) : Prop :=
 CX kn gK lG iR w
def zQ (R : K1) (gK lG iR : RN) (w : RM) : Prop :=
 Di (fun lG w => zS R lG w) gK lG iR w
theorem HZ (kn : K1) (hn : N1 Q kn 3) (h : Di kn (g 0) (g 3) (g 4) w) : fY pg fQ (fF 1 (dU 1 (dU 1 (dU 1 (dU 1 (dU 3 fN)))))) Q g w :=
 Hm 8 (Hs _ g w kn hn h)
def C5 (kn : K3) (gK lG iR : RN) (w : RM) : Prop :=
 dQ pg (fD .add 3 fI fI iR (RO 4)) w fun n1 w =>
 dQ pg (lQ .len #[9] 3 [gK]) w fun n3 w =>
 dQ pg (fD .leq 3 fI fI n1 n3) w fun n4 w =>
 kK n4
  (fK pg uD #[gK, iR, (RO 4)] w fun n7 w =>
  dQ pg (fD .mul 40 fI fI n7 (.int .u64 11400714785074694791)) w fun n8 w =>
  dQ pg (fD .xor 40 fI fI lG n8) w fun o1 w =>
  fK pg jR #[o1, (.int .u64 23)] w fun o2 w =>
  dQ pg (fD .mul 40 fI fI o2 (.int .u64 14029467366897019727)) w fun o3 w =>
  dQ pg (fD .add 40 fI fI o3 (.int .u64 1609587929392839161)) w fun o4 w =>
  dQ pg (fD .add 3 fI fI iR (RO 4)) w fun o6 w =>
  kn gK o4 o6 w)
  (kn gK lG iR w)
theorem HN (kn : K3) (hn : N3 Q kn 0 3 4) (h : C5 kn (g 0) (g 3) (g 4) w) : fY pg fQ (fF 1 (dU 1 (dU 1 (dU 1 (dU 3 fN))))) Q g w :=
 jQ (kr := no) (l := []) h hn kV trivial
def CV (R : K1) (gK lG iR : RN) (w : RM) : Prop :=
 C5 (fun gK lG iR w => zQ R gK lG iR w) gK lG iR w
def vC (kn : K3) (k6 : K3) (gK lG iR : RN) (w : RM) : Prop :=
 dQ pg (fD .add 3 fI fI iR (RO 8)) w fun l5 w =>
 dQ pg (lQ .len #[9] 3 [gK]) w fun l7 w =>
 dQ pg (fD .leq 3 fI fI l5 l7) w fun l8 w =>
 kK l8
  (fK pg uD #[gK, iR, (RO 8)] w fun m2 w =>
  fK pg nZ #[(.int .u64 0), m2] w fun m3 w =>
  dQ pg (fD .xor 40 fI fI lG m3) w fun m4 w =>
  fK pg jR #[m4, (.int .u64 27)] w fun m5 w =>
  dQ pg (fD .mul 40 fI fI m5 (.int .u64 11400714785074694791)) w fun m6 w =>
  dQ pg (fD .add 40 fI fI m6 (.int .u64 9650029242287828579)) w fun m7 w =>
  dQ pg (fD .add 3 fI fI iR (RO 8)) w fun m9 w =>
  kn gK m7 m9 w)
  (k6 gK lG iR w)
theorem HJ (kn : K3) (k6 : K3) (hn : N3 Q kn 0 3 4) (h6 : E3 Q k6 6 0 3 4) (h : vC kn k6 (g 0) (g 3) (g 4) w) : fY pg fQ (bI (bI (fF 1 (dU 1 (dU 1 (dU 3 fN)))))) Q g w :=
 jQ (kr := no) (l := [(6, fun g w => k6 (g 0) (g 3) (g 4) w)]) h hn kV ⟨h6, trivial⟩
def Da (k6 : K3) (gK lG iR : RN) (w : RM) : Prop :=
 iO (fun (X : (RN × RN) -> K0) (t : RN × RN) (w : RM) => vC (fun _ lG iR w => X (lG, iR) w) k6 gK t.1 t.2 w) (lG, iR) w
theorem Hz (k6 : K3) (h6 : E3 Q k6 6 0 3 4) (h : Da k6 (g 0) (g 3) (g 4) w) : fY pg fQ (bI (fF 1 (dU 1 (dU 1 (dU 3 fN))))) Q g w := by
 refine IU (fun g : Env => (g 3, g 4)) (fun X t w => vC (fun _ lG iR w => X (lG, iR) w) k6 (g 0) t.1 t.2 w) h (fun X g1 w1 ha hL => ?_)
 rw [<- CB 0 ha] at hL
 exact (HJ _ g1 w1 (fun _ lG iR w => X (lG, iR) w) k6 (fun _ _ h => h) h6 hL)
def B0 (kn : K3) (gK lG iR : RN) (w : RM) : Prop :=
 Da kn gK lG iR w
def xD (R : K1) (gK lG iR : RN) (w : RM) : Prop :=
 B0 (fun gK lG iR w => CV R gK lG iR w) gK lG iR w
theorem GR (kn : K3) (hn : N3 Q kn 0 3 4) (h : B0 kn (g 0) (g 3) (g 4) w) : fY pg fQ (fF 1 (dU 1 (dU 1 (dU 3 fN)))) Q g w :=
 Hm 6 (Hz _ g w kn hn h)
def xE (kn : K3) (gK lG iR : RN) (w : RM) : Prop :=
 dQ pg (lQ .len #[9] 3 [gK]) w fun l1 w =>
 dQ pg (jC 3 40 l1) w fun l2 w =>
 dQ pg (fD .add 40 fI fI lG l2) w fun l3 w =>
 kn gK l3 iR w
theorem GM (kn : K3) (hn : N3 Q kn 0 3 4) (h : xE kn (g 0) (g 3) (g 4) w) : fY pg fQ (fF 1 (dU 1 (dU 3 fN))) Q g w :=
 jQ (kr := no) (l := []) h hn kV trivial
def wZ (R : K1) (gK lG iR : RN) (w : RM) : Prop :=
 xE (fun gK lG iR w => xD R gK lG iR w) gK lG iR w
def tE (kn : K5) (k4 : K3) (gK lG iR nR J2 : RN) (w : RM) : Prop :=
 dQ pg (fD .lss 3 fI fI J2 (RO 4)) w fun i8 w =>
 kK i8
  (dQ pg (iP 49 nR J2) w fun j3 w =>
  dQ pg (fM 40 j3) w fun j4 w =>
  fK pg nZ #[(.int .u64 0), j4] w fun j5 w =>
  dQ pg (fD .xor 40 fI fI lG j5) w fun j6 w =>
  dQ pg (fD .mul 40 fI fI j6 (.int .u64 11400714785074694791)) w fun j7 w =>
  dQ pg (fD .add 40 fI fI j7 (.int .u64 9650029242287828579)) w fun j8 w =>
  dQ pg (fD .add 3 fI fI J2 (RO 1)) w fun j0 w =>
  kn gK j8 iR nR j0 w)
  (k4 gK lG iR w)
theorem GP (kn : K5) (k4 : K3) (hn : N5 Q kn 0 3 4 6 8) (h4 : E3 Q k4 4 0 3 4) (h : tE kn k4 (g 0) (g 3) (g 4) (g 6) (g 8) w) : fY pg fQ (bI (bI (dU 2 (dU 1 (dU 2 (cT (dU 1 (fF 1 (dU 3 fN))))))))) Q g w :=
 jQ (kr := no) (l := [(4, fun g w => k4 (g 0) (g 3) (g 4) w)]) h hn kV ⟨h4, trivial⟩
def BA (k4 : K3) (gK lG iR nR J2 : RN) (w : RM) : Prop :=
 iO (fun (X : (RN × RN) -> K0) (t : RN × RN) (w : RM) => tE (fun _ lG _ _ J2 w => X (lG, J2) w) k4 gK t.1 iR nR t.2 w) (lG, J2) w
theorem G3 (k4 : K3) (h4 : E3 Q k4 4 0 3 4) (h : BA k4 (g 0) (g 3) (g 4) (g 6) (g 8) w) : fY pg fQ (bI (dU 2 (dU 1 (dU 2 (cT (dU 1 (fF 1 (dU 3 fN)))))))) Q g w := by
 refine IU (fun g : Env => (g 3, g 8)) (fun X t w => tE (fun _ lG _ _ J2 w => X (lG, J2) w) k4 (g 0) t.1 (g 4) (g 6) t.2 w) h (fun X g1 w1 ha hL => ?_)
 rw [<- CB 0 ha, <- CB 4 ha, <- CB 6 ha] at hL
 exact (GP _ g1 w1 (fun _ lG _ _ J2 w => X (lG, J2) w) k4 (fun _ _ h => h) h4 hL)
def BD (kn : K3) (gK lG iR nR J2 : RN) (w : RM) : Prop :=
 BA kn gK lG iR nR J2 w
def B7 (kn : K5) (gK iR nR : RN) (w : RM) : Prop :=
 dQ pg (iP 49 nR (RO 0)) (dr w) fun f2 w_ => w_ = (dr w) /\
 dQ pg (fM 40 f2) (dr w) fun f3 w_ => w_ = (dr w) /\
 fK pg jR #[f3, (.int .u64 1)] (dr w) fun f4 EO =>
 dQ pg (iP 49 nR (RO 1)) EO fun f5 w_ => w_ = EO /\
 (fE pg (iP 49 nR (RO 1)) f5 (dr w) /\ True) /\
 dQ pg (fM 40 f5) EO fun f6 w_ => w_ = EO /\
 (fE pg (fM 40 f5) f6 (dr w) /\ True) /\
 fK pg jR #[f6, (.int .u64 7)] EO fun f7 Fe =>
 dQ pg (fD .add 40 fI fI f4 f7) Fe fun f8 w_ => w_ = Fe /\
 dQ pg (iP 49 nR (RO 2)) Fe fun f9 w_ => w_ = Fe /\
 (fE pg (iP 49 nR (RO 2)) f9 EO /\ fE pg (iP 49 nR (RO 2)) f9 (dr w) /\ True) /\
 dQ pg (fM 40 f9) Fe fun i0 w_ => w_ = Fe /\
 (fE pg (fM 40 f9) i0 EO /\ fE pg (fM 40 f9) i0 (dr w) /\ True) /\
 fK pg jR #[i0, (.int .u64 12)] Fe fun i1 Gl =>
 (fE pg (fD .add 40 fI fI f4 f7) f8 Gl /\ True) /\
 dQ pg (fD .add 40 fI fI f8 i1) Gl fun i2 w_ => w_ = Gl /\
 dQ pg (iP 49 nR (RO 3)) Gl fun i3 w_ => w_ = Gl /\
 (fE pg (iP 49 nR (RO 3)) i3 Fe /\ fE pg (iP 49 nR (RO 3)) i3 EO /\ fE pg (iP 49 nR (RO 3)) i3 (dr w) /\ True) /\
 dQ pg (fM 40 i3) Gl fun i4 w_ => w_ = Gl /\
 (fE pg (fM 40 i3) i4 Fe /\ fE pg (fM 40 i3) i4 EO /\ fE pg (fM 40 i3) i4 (dr w) /\ True) /\
 fK pg jR #[i4, (.int .u64 18)] Gl fun i5 Ew =>
 (fE pg (fD .add 40 fI fI f8 i1) i2 Ew /\ fE pg (fD .add 40 fI fI f4 f7) f8 Ew /\ True) /\
 dQ pg (fD .add 40 fI fI i2 i5) Ew fun i6 w_ => w_ = Ew /\
 Ew = Ew /\
 kn gK i6 iR nR (RO 0) Ew
theorem GZ (kn : K5) (hn : N5 Q kn 0 3 4 6 8) (h : B7 kn (g 0) (g 4) (g 6) w) : fY pg fQ (fF 2 (dU 1 (dU 2 (cT (dU 1 (fF 1 (dU 3 fN))))))) Q g w :=
 jQ (kr := no) (l := []) h hn kV trivial
def xK (kn : K3) (gK iR nR : RN) (w : RM) : Prop :=
 B7 (fun gK lG iR nR J2 w => BD kn gK lG iR nR J2 w) gK iR nR w
def xM (kn : K3) (gK iR nR : RN) (w : RM) : Prop :=
 dQ pg (fD .add 3 fI fI iR (RO 32)) w fun f1 w =>
 kn gK f1 nR w
theorem Ha (kn : K3) (hn : N3 Q kn 0 4 6) (h : xM kn (g 0) (g 4) (g 6) w) : fY pg fQ (dU 1 (bI (dU 1 (bI (bI (fF 1 (dU 2 (cT (dU 1 (fF 1 (dU 3 fN))))))))))) Q g w :=
 jQ (kr := no) (l := []) h hn kV trivial
def sP (kn : K4) (k2 : K3) (gK iR nR IV : RN) (w : RM) : Prop :=
 dQ pg (fD .lss 3 fI fI IV (RO 4)) w fun d5 w =>
 kK d5
  ((dr w) = (dr w) /\
  (dr w) = (dr w) /\
  dQ pg (iP 49 nR IV) (dr w) fun e0 w_ => w_ = (dr w) /\
  dQ pg (fM 40 e0) (dr w) fun e1 w_ => w_ = (dr w) /\
  (dr w) = (dr w) /\
  (dr w) = (dr w) /\
  (dr w) = (dr w) /\
  dQ pg (fD .mul 3 fI fI (RO 8) IV) (dr w) fun e5 w_ => w_ = (dr w) /\
  dQ pg (fD .add 3 fI fI iR e5) (dr w) fun e6 w_ => w_ = (dr w) /\
  fK pg uD #[gK, e6, (RO 8)] (dr w) fun e7 MG =>
  (fE pg (fM 40 e0) e1 MG /\ fE pg (iP 49 nR IV) e0 MG /\ True) /\
  fK pg nZ #[e1, e7] MG fun e8 KM =>
  dQ pg (iP 49 nR IV) KM fun e9 w_ => w_ = KM /\
  dQ pg (fR 40 e9 e8) KM fun _u12 OO =>
  dQ pg (fD .add 3 fI fI IV (RO 1)) OO fun d7 w =>
  kn gK iR nR d7 w)
  (k2 gK iR nR w)
theorem GK (kn : K4) (k2 : K3) (hn : N4 Q kn 0 4 6 7) (h2 : E3 Q k2 2 0 4 6) (h : sP kn k2 (g 0) (g 4) (g 6) (g 7) w) : fY pg fQ (bI (bI (dU 1 (fF 1 (bI (dU 1 (bI (bI (fF 1 (dU 2 (cT (dU 1 (fF 1 (dU 3 fN)))))))))))))) Q g w :=
 jQ (kr := no) (l := [(2, fun g w => k2 (g 0) (g 4) (g 6) w)]) h hn kV ⟨h2, trivial⟩
def xB (k2 : K3) (gK iR nR IV : RN) (w : RM) : Prop :=
 iO (fun (X : RN -> K0) (t : RN) (w : RM) => sP (fun _ _ _ IV w => X IV w) k2 gK iR nR t w) IV w
theorem G0 (k2 : K3) (h2 : E3 Q k2 2 0 4 6) (h : xB k2 (g 0) (g 4) (g 6) (g 7) w) : fY pg fQ (bI (dU 1 (fF 1 (bI (dU 1 (bI (bI (fF 1 (dU 2 (cT (dU 1 (fF 1 (dU 3 fN))))))))))))) Q g w := by
 refine IU (fun g : Env => g 7) (fun X t w => sP (fun _ _ _ IV w => X IV w) k2 (g 0) (g 4) (g 6) t w) h (fun X g1 w1 ha hL => ?_)
 rw [<- CB 0 ha, <- CB 4 ha, <- CB 6 ha] at hL
 exact (GK _ g1 w1 (fun _ _ _ IV w => X IV w) k2 (fun _ _ h => h) h2 hL)
def wY (kn : K3) (gK iR nR IV : RN) (w : RM) : Prop :=
 xB kn gK iR nR IV w
def xF (kn : K4) (gK iR nR : RN) (w : RM) : Prop :=
 kn gK iR nR (RO 0) w
theorem Hi (kn : K4) (hn : N4 Q kn 0 4 6 7) (h : xF kn (g 0) (g 4) (g 6) w) : fY pg fQ (fF 1 (fF 1 (bI (dU 1 (bI (bI (fF 1 (dU 2 (cT (dU 1 (fF 1 (dU 3 fN)))))))))))) Q g w :=
 jQ (kr := no) (l := []) h hn kV trivial
def xC (kn : K3) (gK iR nR : RN) (w : RM) : Prop :=
 xF (fun gK iR nR IV w => wY kn gK iR nR IV w) gK iR nR w
def BI (kn : K3) (gK iR nR : RN) (w : RM) : Prop :=
 xC (fun gK iR nR w => xM kn gK iR nR w) gK iR nR w
theorem GS (kn : K3) (hn : N3 Q kn 0 4 6) (h : xC kn (g 0) (g 4) (g 6) w) : fY pg fQ (fF 1 (bI (dU 1 (bI (bI (fF 1 (dU 2 (cT (dU 1 (fF 1 (dU 3 fN))))))))))) Q g w :=
 oA 1 (Hi _ g w (wY kn) (fun g w h => fL (Hm 2 (G0 _ g w kn hn h))) h)
def wW (kn : K3) (gK iR nR : RN) (w : RM) : Prop :=
 BI kn gK iR nR w
def xA (kn : K3) (k0 : K3) (gK iR nR : RN) (w : RM) : Prop :=
 dQ pg (fD .add 3 fI fI iR (RO 32)) w fun d0 w =>
 dQ pg (lQ .len #[9] 3 [gK]) w fun d2 w =>
 dQ pg (fD .leq 3 fI fI d0 d2) w fun d3 w =>
 kK d3
  (kn gK iR nR w)
  (k0 gK iR nR w)
theorem G6 (kn : K3) (k0 : K3) (hn : N3 Q kn 0 4 6) (h0 : E3 Q k0 0 0 4 6) (h : xA kn k0 (g 0) (g 4) (g 6) w) : fY pg fQ (fF 1 (bI (bI (fF 1 (dU 2 (cT (dU 1 (fF 1 (dU 3 fN))))))))) Q g w :=
 jQ (kr := no) (l := [(0, fun g w => k0 (g 0) (g 4) (g 6) w)]) h hn kV ⟨h0, trivial⟩
def sS (kn : K3) (k0 : K3) (gK iR nR : RN) (w : RM) : Prop :=
 xA (fun gK iR nR w => wW kn gK iR nR w) k0 gK iR nR w
def BX (k0 : K3) (gK iR nR : RN) (w : RM) : Prop :=
 iO (fun (X : RN -> K0) (t : RN) (w : RM) => sS (fun _ iR _ w => X iR w) k0 gK t nR w) iR w
theorem GX (kn : K3) (k0 : K3) (hn : N3 Q kn 0 4 6) (h0 : E3 Q k0 0 0 4 6) (h : sS kn k0 (g 0) (g 4) (g 6) w) : fY pg fQ (bI (bI (fF 1 (dU 2 (cT (dU 1 (fF 1 (dU 3 fN)))))))) Q g w :=
 oA 1 (G6 _ g w (wW kn) k0 (fun g w h => fL (Hm 1 (oA 1 (GS _ g w (xM kn) (fun g w h => fL (Ha _ g w kn hn h)) h)))) h0 h)
theorem GJ (k0 : K3) (h0 : E3 Q k0 0 0 4 6) (h : BX k0 (g 0) (g 4) (g 6) w) : fY pg fQ (bI (fF 1 (dU 2 (cT (dU 1 (fF 1 (dU 3 fN))))))) Q g w := by
 refine IU (fun g : Env => g 4) (fun X t w => sS (fun _ iR _ w => X iR w) k0 (g 0) t (g 6) w) h (fun X g1 w1 ha hL => ?_)
 rw [<- CB 0 ha, <- CB 6 ha] at hL
 exact (GX _ g1 w1 (fun _ iR _ w => X iR w) k0 (fun _ _ h => h) h0 hL)
def xJ (kn : K3) (gK iR nR : RN) (w : RM) : Prop :=
 BX kn gK iR nR w
def By (kn : K3) (gK iR nR : RN) (w : RM) : Prop :=
 xJ (fun gK iR nR w => xK kn gK iR nR w) gK iR nR w
theorem Hf (kn : K3) (hn : N3 Q kn 0 4 6) (h : xJ kn (g 0) (g 4) (g 6) w) : fY pg fQ (fF 1 (dU 2 (cT (dU 1 (fF 1 (dU 3 fN)))))) Q g w :=
 Hm 0 (GJ _ g w kn hn h)
def Bz (kn : K3) (gK iR : RN) (w : RM) : Prop :=
 dQ pg (fD .add 40 fI fI (.int .u64 11400714785074694791) (.int .u64 14029467366897019727)) w fun c5 w =>
 dQ pg (fD .sub 40 fI fI (.int .u64 0) (.int .u64 11400714785074694791)) w fun c7 w =>
 dQ pg (iI 49 [(0, c5), (1, (.int .u64 14029467366897019727)), (2, (.int .u64 0)), (3, c7)]) w fun c8 w =>
 dQ pg (lZ 49) w fun nR w =>
 dQ pg (fR 49 nR c8) w fun _u w =>
 kn gK iR nR w
theorem Hj (kn : K3) (hn : N3 Q kn 0 4 6) (h : Bz kn (g 0) (g 4) w) : fY pg fQ (fF 2 (cT (dU 1 (fF 1 (dU 3 fN))))) Q g w :=
 jQ (kr := no) (l := []) h hn kV trivial
def Fp (kn : K3) (gK iR : RN) (w : RM) : Prop :=
 Bz (fun gK iR nR w => By kn gK iR nR w) gK iR w
def B4 (kn : K3) (gK lG iR : RN) (w : RM) : Prop :=
 kn gK lG iR w
theorem GV (kn : K3) (hn : N3 Q kn 0 3 4) (h : B4 kn (g 0) (g 3) (g 4) w) : fY pg fQ (cE (dU 1 (fF 1 (dU 3 fN)))) Q g w :=
 jQ (kr := no) (l := []) h hn kV trivial
def BT (kn : K3) (gK lG iR c3 : RN) (w : RM) : Prop :=
 kK c3 (Fp kn gK iR w) (B4 kn gK lG iR w)
def Bx (kn : K4) (gK lG iR : RN) (w : RM) : Prop :=
 dQ pg (lQ .len #[9] 3 [gK]) w fun c2 w =>
 dQ pg (fD .geq 3 fI fI c2 (RO 32)) w fun c3 w =>
 kn gK lG iR c3 w
theorem GO (kn : K4) (hn : N4 Q kn 0 3 4 13) (h : Bx kn (g 0) (g 3) (g 4) w) : fY pg fQ (fF 1 (fF 1 (dU 3 fN))) Q g w :=
 jQ (kr := no) (l := []) h hn kV trivial
def BV (kn : K3) (gK lG iR : RN) (w : RM) : Prop :=
 Bx (fun gK lG iR c3 w => BT kn gK lG iR c3 w) gK lG iR w
def Bw (R : K1) (gK lG iR : RN) (w : RM) : Prop :=
 BV (fun gK lG iR w => wZ R gK lG iR w) gK lG iR w
theorem GW (kn : K3) (hn : N3 Q kn 0 3 4) (h : BV kn (g 0) (g 3) (g 4) w) : fY pg fQ (fF 1 (dU 3 fN)) Q g w :=
 oA 1 (GO _ g w (BT kn) (fun g w h => fL (P9 (.tmp 13) (fun h => (oA 2 (Hj _ g w (By kn) (fun g w h => fL (oA 1 (Hf _ g w (xK kn) (fun g w h => fL (oA 2 (GZ _ g w (BD kn) (fun g w h => fL (Hm 4 (G3 _ g w kn hn h))) h))) h))) h))) (fun h => (GV _ g w kn hn h)) h)) h)
def B3 (kn : K3) (gK : RN) (w : RM) : Prop :=
 kn gK (.int .u64 2870177450012600261) (RO 0) w
theorem GL (kn : K3) (hn : N3 Q kn 0 3 4) (h : B3 kn (g 0) w) : fY pg fQ (fF 3 fN) Q g w :=
 jQ (kr := no) (l := []) h hn kV trivial
def Bu (R : K1) (gK : RN) (w : RM) : Prop :=
 B3 (fun gK lG iR w => Bw R gK lG iR w) gK w
theorem Hd (R : K1) (hr : HR CT R Q) (h : Bu R (g 0) w) : fY pg fQ fN Q g w :=
 oA 3 (GL _ g w (Bw R) (fun g w h => fL (oA 1 (GW _ g w (wZ R) (fun g w h => fL (oA 1 (GM _ g w (xD R) (fun g w h => fL (oA 1 (GR _ g w (CV R) (fun g w h => fL (oA 1 (HN _ g w (zQ R) (fun g w h => fL (oA 1 (HZ _ g w (zS R) (fun g w h => fL (HH _ g w R hr h)) h))) h))) h))) h))) h))) h)
def J8 (a0 : RN) (w : RM) (R : K1) : Prop :=
 Bu R a0 w
theorem Iv {a0 : RN} {w : RM} {R : K1} (h : J8 a0 w R) : fK pg BZ #[a0] w R := by
 refine AX (ann := fQ) Tryd.f12 fN [a0] CT 137 TrydM.mixed Tryd.func12 ?_
 exact (Hd _ _ _ R (fun _ _ h => h) h)
def jH : FA := ⟨qB, fun i => match Nat.beq i 3 with | true => .leaf ([1, 6], [(1, 3)]) [(false, []), (true, []), (false, []), (false, [1]), (false, []), (false, []), (true, []), (false, [])] | false => .leaf ([], []) []⟩
def kJ : List ResultVar := [.tmp 6, .tmp 7]
noncomputable def iX : Code := iK Tryd.f13
def uW (R : K1) (zM : RN) (w : RM) : Prop :=
 R (.tuple #[zM, (RO 0)]) w
theorem FP (R : K1) (hr : HR kJ R Q) (h : uW R (g 8) w) : fY pg jH (dU 1 (dU 3 iX)) Q g w :=
 jQ (kn := no) (l := []) h kV hr trivial
def oB (kn : K1) (R : K1) (zM LK : RN) (w : RM) : Prop :=
 dQ pg (fD .neq 26 (.tmp 64) (.const (RO 0)) LK (RO 0)) w fun j5 w =>
 kK j5
  (R (.tuple #[(.pointer none), LK]) w)
  (kn zM w)
theorem FQ (kn : K1) (R : K1) (hn : N1 Q kn 8) (hr : HR kJ R Q) (h : oB kn R (g 8) (g 10) w) : fY pg jH (dU 4 (bI (dU 1 (bI (bI (fF 1 (dU 3 iX))))))) Q g w :=
 jQ (l := []) h hn hr trivial
def Ay (kn : K2) (R : K1) (zM : RN) (w : RM) : Prop :=
 dQ pg (jP zM) w fun e5 w =>
 dQ pg (fJ 47 e5 0) w fun e6 w =>
 dQ pg (fM 45 e6) w fun e7 w =>
 fK pg fX #[e7, (RO 4)] w fun e8 w =>
 dQ pg (jP zM) w fun f0 w =>
 dQ pg (fJ 47 f0 0) w fun f1 w =>
 dQ pg (fM 45 f1) w fun f2 w =>
 fK pg gU #[f2] w fun f3 w =>
 dQ pg (fD .neq 26 (.tmp 43) (.const (RO 0)) f3 (RO 0)) w fun f4 w =>
 kK f4
  (dQ pg (jP zM) w fun f6 w =>
  dQ pg (fJ 47 f6 0) w fun f7 w =>
  dQ pg (fM 45 f7) w fun f8 w =>
  fK pg gU #[f8] w fun f9 w =>
  R (.tuple #[(.pointer none), f9]) w)
  (dQ pg (fD .eql 40 (.tmp 51) (.const (.int .u64 4247762216)) e8 (.int .u64 4247762216)) w fun i2 w =>
  kK i2
   (fK pg mD #[zM] w fun i4 w =>
   kn zM i4 w)
   (dQ pg (fD .geq 40 fI fI e8 (.int .u64 407710288)) w fun i7 w =>
   Gd (lX i7 true) (fun K => K e8 w) w fun i9 w =>
   Gd (lX i7 true) (fun K => dQ pg (fD .lss 40 fI fI i9 (.int .u64 407710304)) w K) w fun j0 w =>
   dQ pg (nF i7 j0 (.bool false)) w fun j1 w =>
   kK j1
    (fK pg mP #[zM] w fun j3 w =>
    kn zM j3 w)
    (kn zM (RO 11) w)))
theorem Gf (kn : K2) (R : K1) (hn : N2 Q kn 8 10) (hr : HR kJ R Q) (h : Ay kn R (g 8) w) : fY pg jH (fF 4 (bI (dU 1 (bI (bI (fF 1 (dU 3 iX))))))) Q g w :=
 jQ (l := []) h hn hr trivial
def DN (kn : K1) (R : K1) (zM : RN) (w : RM) : Prop :=
 Ay (fun zM LK w => oB kn R zM LK w) R zM w
def Ac (kn : K1) (R : K1) (zM : RN) (w : RM) : Prop :=
 DN kn R zM w
def Ao (kn : K1) (k0 : K1) (zM : RN) (w : RM) : Prop :=
 dQ pg (jP zM) w fun d9 w =>
 dQ pg (fJ 47 d9 0) w fun e0 w =>
 dQ pg (fM 45 e0) w fun e1 w =>
 fK pg iN #[e1] w fun e2 w =>
 dQ pg (fD .gtr 3 fI fI e2 (RO 0)) w fun e3 w =>
 kK e3
  (kn zM w)
  (k0 zM w)
theorem FV (kn : K1) (k0 : K1) (hn : N1 Q kn 8) (h0 : E1 Q k0 0 8) (h : Ao kn k0 (g 8) w) : fY pg jH (fF 1 (bI (bI (fF 1 (dU 3 iX))))) Q g w :=
 jQ (kr := no) (l := [(0, fun g w => k0 (g 8) w)]) h hn kV ⟨h0, trivial⟩
def uR (kn : K1) (k0 : K1) (R : K1) (zM : RN) (w : RM) : Prop :=
 Ao (fun zM w => Ac kn R zM w) k0 zM w
def Ae (k0 : K1) (R : K1) (zM : RN) (w : RM) : Prop :=
 iO (fun (X : Unit -> K0) (t : Unit) (w : RM) => uR (fun _ w => X () w) k0 R zM w) () w
theorem FW (kn : K1) (k0 : K1) (R : K1) (hn : N1 Q kn 8) (h0 : E1 Q k0 0 8) (hr : HR kJ R Q) (h : uR kn k0 R (g 8) w) : fY pg jH (bI (bI (fF 1 (dU 3 iX)))) Q g w :=
 oA 1 (FV _ g w (Ac kn R) k0 (fun g w h => fL (Hm 1 (oA 4 (Gf _ g w (oB kn R) R (fun g w h => fL (FQ _ g w kn R hn hr h)) hr h)))) h0 h)
theorem Ge (k0 : K1) (R : K1) (h0 : E1 Q k0 0 8) (hr : HR kJ R Q) (h : Ae k0 R (g 8) w) : fY pg jH (bI (fF 1 (dU 3 iX))) Q g w := by
 refine IU (fun _ : Env => ()) (fun X t w => uR (fun _ w => X () w) k0 R (g 8) w) h (fun X g1 w1 ha hL => ?_)
 rw [<- CB 8 ha] at hL
 exact (FW _ g1 w1 (fun _ w => X () w) k0 R (fun _ _ h => h) h0 hr hL)
def Az (kn : K1) (R : K1) (zM : RN) (w : RM) : Prop :=
 Ae kn R zM w
def tB (R : K1) (zM : RN) (w : RM) : Prop :=
 Az (fun zM w => uW R zM w) R zM w
theorem F9 (kn : K1) (R : K1) (hn : N1 Q kn 8) (hr : HR kJ R Q) (h : Az kn R (g 8) w) : fY pg jH (fF 1 (dU 3 iX)) Q g w :=
 Hm 0 (Ge _ g w kn R hn hr h)
def sN (kn : K1) (R : K1) (iE DR C4 : RN) (w : RM) : Prop :=
 dQ pg (fD .lss 3 fI fI DR (RO 10)) w fun c2 w =>
 Gd (lX c2 false) (fun K => K DR w) w fun c4 w =>
 Gd (lX c2 false) (fun K => dQ pg (fD .gtr 3 fI fI c4 (RO 22)) w K) w fun c5 w =>
 dQ pg (nF c2 (.bool true) c5) w fun c6 w =>
 Gd (lX c6 false) (fun K => K C4 w) w fun c8 w =>
 Gd (lX c6 false) (fun K => dQ pg (fD .lss 3 fI fI c8 (RO 0)) w K) w fun c9 w =>
 dQ pg (nF c6 (.bool true) c9) w fun d0 w =>
 kK d0
  (R (.tuple #[(.pointer none), (RO 1)]) w)
  ((dr w) = (dr w) /\
  fK pg iW #[iE] (dr w) fun d2 mT =>
  mT = mT /\
  dQ pg (fD .shl 40 fI fI (.int .u64 1) DR) mT fun d4 w_ => w_ = mT /\
  (fE pg (fD .shl 40 fI fI (.int .u64 1) DR) d4 (dr w) /\ True) /\
  mT = mT /\
  dQ pg (iI 47 [(0, d2), (1, d4), (2, C4)]) mT fun d6 w_ => w_ = mT /\
  dQ pg (I6 47 d6) mT fun d7 OH =>
  OH = OH /\
  kn d7 OH)
theorem Fg (kn : K1) (R : K1) (hn : N1 Q kn 8) (hr : HR kJ R Q) (h : sN kn R (g 0) (g 1) (g 2) w) : fY pg jH (fF 3 iX) Q g w :=
 jQ (l := []) h hn hr trivial
def tA (R : K1) (iE DR C4 : RN) (w : RM) : Prop :=
 sN (fun zM w => tB R zM w) R iE DR C4 w
theorem Fw (R : K1) (hr : HR kJ R Q) (h : tA R (g 0) (g 1) (g 2) w) : fY pg jH iX Q g w :=
 oA 3 (Fg _ g w (tB R) R (fun g w h => fL (oA 1 (F9 _ g w (uW R) R (fun g w h => fL (FP _ g w R hr h)) hr h))) hr h)
def Et (a0 a1 a2 : RN) (w : RM) (R : K1) : Prop :=
 tA R a0 a1 a2 w
theorem Cr {a0 a1 a2 : RN} {w : RM} {R : K1} (h : Et a0 a1 a2 w R) : fK pg qB #[a0, a1, a2] w R := by
 refine AX (ann := jH) Tryd.f13 iX [a0, a1, a2] kJ 68 TrydM.mixed Tryd.func13 ?_
 exact (Fw _ _ _ R (fun _ _ h => h) h)
def lB : FA := ⟨kO, fun i => .leaf ([], []) []⟩
def xH : List ResultVar := [.tmp 4]
noncomputable def kM : Code := iK Tryd.f14
def xI (R : K1) (lA : RN) (w : RM) : Prop :=
 dQ pg (jC 22 9 lA) w fun d3 w =>
 R d3 w
theorem GU (R : K1) (hr : HR xH R Q) (h : xI R (g 5) w) : fY pg lB (dU 1 (dU 3 kM)) Q g w :=
 jQ (kn := no) (l := []) h kV hr trivial
def sR (kn : K4) (k0 : K1) (qU oY lA Kk : RN) (w : RM) : Prop :=
 dQ pg (fD .lss 3 fI fI Kk oY) w fun c1 w =>
 kK c1
  (dQ pg (fD .rem 40 fI fI qU (.int .u64 256)) w fun c6 w =>
  dQ pg (jC 40 5 c6) w fun c7 w =>
  dQ pg (iM 22 1 [(0, c7)]) w fun c8 w =>
  dQ pg (lQ .append #[22, 22] 22 [lA, c8]) w fun c9 w =>
  dQ pg (fD .quo 40 fI fI qU (.int .u64 256)) w fun d1 w =>
  dQ pg (fD .add 3 fI fI Kk (RO 1)) w fun c3 w =>
  kn d1 oY c9 c3 w)
  (k0 lA w)
theorem Hn (kn : K4) (k0 : K1) (hn : N4 Q kn 0 1 5 6) (h0 : E1 Q k0 0 5) (h : sR kn k0 (g 0) (g 1) (g 5) (g 6) w) : fY pg lB (bI (bI (dU 1 (fF 1 (dU 3 kM))))) Q g w :=
 jQ (kr := no) (l := [(0, fun g w => k0 (g 5) w)]) h hn kV ⟨h0, trivial⟩
def BG (k0 : K1) (qU oY lA Kk : RN) (w : RM) : Prop :=
 iO (fun (X : (RN × RN × RN) -> K0) (t : RN × RN × RN) (w : RM) => sR (fun qU _ lA Kk w => X (qU, lA, Kk) w) k0 t.1 oY t.2.1 t.2.2 w) (qU, lA, Kk) w
theorem G4 (k0 : K1) (h0 : E1 Q k0 0 5) (h : BG k0 (g 0) (g 1) (g 5) (g 6) w) : fY pg lB (bI (dU 1 (fF 1 (dU 3 kM)))) Q g w := by
 refine IU (fun g : Env => (g 0, g 5, g 6)) (fun X t w => sR (fun qU _ lA Kk w => X (qU, lA, Kk) w) k0 t.1 (g 1) t.2.1 t.2.2 w) h (fun X g1 w1 ha hL => ?_)
 rw [<- CB 1 ha] at hL
 exact (Hn _ g1 w1 (fun qU _ lA Kk w => X (qU, lA, Kk) w) k0 (fun _ _ h => h) h0 hL)
def Bt (kn : K1) (qU oY lA Kk : RN) (w : RM) : Prop :=
 BG kn qU oY lA Kk w
def Bv (kn : K4) (qU oY lA : RN) (w : RM) : Prop :=
 kn qU oY lA (RO 0) w
theorem Hb (kn : K4) (hn : N4 Q kn 0 1 5 6) (h : Bv kn (g 0) (g 1) (g 5) w) : fY pg lB (fF 1 (fF 1 (dU 3 kM))) Q g w :=
 jQ (kr := no) (l := []) h hn kV trivial
def B9 (kn : K1) (qU oY lA : RN) (w : RM) : Prop :=
 Bv (fun qU oY lA Kk w => Bt kn qU oY lA Kk w) qU oY lA w
def BH (R : K1) (qU oY lA : RN) (w : RM) : Prop :=
 B9 (fun lA w => xI R lA w) qU oY lA w
theorem GQ (kn : K1) (hn : N1 Q kn 5) (h : B9 kn (g 0) (g 1) (g 5) w) : fY pg lB (fF 1 (dU 3 kM)) Q g w :=
 oA 1 (Hb _ g w (Bt kn) (fun g w h => fL (Hm 0 (G4 _ g w kn hn h))) h)
def B6 (kn : K3) (R : K1) (qU oY : RN) (w : RM) : Prop :=
 dQ pg (fD .gtr 3 fI fI oY (RO 8)) w fun b8 w =>
 kK b8
  (R (.string ⟨#[]⟩) w)
  (kn qU oY (.slice none 0 0) w)
theorem G8 (kn : K3) (R : K1) (hn : N3 Q kn 0 1 5) (hr : HR xH R Q) (h : B6 kn R (g 0) (g 1) w) : fY pg lB (fF 3 kM) Q g w :=
 jQ (l := []) h hn hr trivial
def BL (R : K1) (qU oY : RN) (w : RM) : Prop :=
 B6 (fun qU oY lA w => BH R qU oY lA w) R qU oY w
theorem G9 (R : K1) (hr : HR xH R Q) (h : BL R (g 0) (g 1) w) : fY pg lB kM Q g w :=
 oA 3 (G8 _ g w (BH R) R (fun g w h => fL (oA 1 (GQ _ g w (xI R) (fun g w h => fL (GU _ g w R hr h)) h))) hr h)
def II (a0 a1 : RN) (w : RM) (R : K1) : Prop :=
 BL R a0 a1 w
theorem H2 {a0 a1 : RN} {w : RM} {R : K1} (h : II a0 a1 w R) : fK pg kO #[a0, a1] w R := by
 refine AX (ann := lB) Tryd.f14 kM [a0, a1] xH 24 TrydM.mixed Tryd.func14 ?_
 exact (G9 _ _ _ R (fun _ _ h => h) h)
def Cq : FA := ⟨nZ, fun i => .leaf ([], []) []⟩
def CO : List ResultVar := [.tmp 4]
noncomputable def Bd : Code := iK Tryd.f15
def yW (R : K1) (P3 PY : RN) (w : RM) : Prop :=
 dQ pg (fD .mul 40 fI fI PY (.int .u64 14029467366897019727)) w fun b8 w =>
 dQ pg (fD .add 40 fI fI P3 b8) w fun b9 w =>
 fK pg jR #[b9, (.int .u64 31)] w fun c1 w =>
 dQ pg (fD .mul 40 fI fI c1 (.int .u64 11400714785074694791)) w fun c2 w =>
 R c2 w
theorem EW (R : K1) (hr : HR CO R Q) (h : yW R (g 0) (g 1) w) : fY pg Cq Bd Q g w :=
 jQ (kn := no) (l := []) h kV hr trivial
def Gq (a0 a1 : RN) (w : RM) (R : K1) : Prop :=
 yW R a0 a1 w
theorem FI {a0 a1 : RN} {w : RM} {R : K1} (h : Gq a0 a1 w R) : fK pg nZ #[a0, a1] w R := by
 refine AX (ann := Cq) Tryd.f15 Bd [a0, a1] CO 13 TrydM.mixed Tryd.func15 ?_
 exact (EW _ _ _ R (fun _ _ h => h) h)
def EN : FA := ⟨uD, fun i => .leaf ([], []) []⟩
def Gn : List ResultVar := [.tmp 6]
noncomputable def DG : Code := iK Tryd.f16
def CQ (R : K1) (gK Qi Qg : RN) (w : RM) : Prop :=
 dQ pg (iB 9 gK (some Qi) none none) w fun c2 w =>
 dQ pg (iI 58 [(0, c2)]) w fun c3 w =>
 fK pg tM #[c3, Qg] w fun c5 w =>
 dQ pg (iJ c5 0) w fun c6 w =>
 dQ pg (iJ c5 1) w fun c7 w =>
 dQ pg (lZ 58) w fun b7 w =>
 dQ pg (fR 58 b7 c6) w fun _u w =>
 R c7 w
theorem H4 (R : K1) (hr : HR Gn R Q) (h : CQ R (g 0) (g 1) (g 2) w) : fY pg EN DG Q g w :=
 jQ (kn := no) (l := []) h kV hr trivial
def Jm (a0 a1 a2 : RN) (w : RM) (R : K1) : Prop :=
 CQ R a0 a1 a2 w
theorem Il {a0 a1 a2 : RN} {w : RM} {R : K1} (h : Jm a0 a1 a2 w R) : fK pg uD #[a0, a1, a2] w R := by
 refine AX (ann := EN) Tryd.f16 DG [a0, a1, a2] Gn 19 TrydM.mixed Tryd.func16 ?_
 exact (H4 _ _ _ R (fun _ _ h => h) h)
def Df : FA := ⟨jR, fun i => .leaf ([], []) []⟩
def DQ : List ResultVar := [.tmp 4]
noncomputable def Co : Code := iK Tryd.f17
def Af (R : K1) (qU oY : RN) (w : RM) : Prop :=
 dQ pg (fD .shl 40 fI fI qU oY) w fun b7 w =>
 dQ pg (fD .sub 35 fI fI (.int .u64 64) oY) w fun c0 w =>
 dQ pg (fD .shr 40 fI fI qU c0) w fun c1 w =>
 dQ pg (fD .or 40 fI fI b7 c1) w fun c2 w =>
 R c2 w
theorem FO (R : K1) (hr : HR DQ R Q) (h : Af R (g 0) (g 1) w) : fY pg Df Co Q g w :=
 jQ (kn := no) (l := []) h kV hr trivial
def HG (a0 a1 : RN) (w : RM) (R : K1) : Prop :=
 Af R a0 a1 w
theorem G5 {a0 a1 : RN} {w : RM} {R : K1} (h : HG a0 a1 w R) : fK pg jR #[a0, a1] w R := by
 refine AX (ann := Df) Tryd.f17 Co [a0, a1] DQ 13 TrydM.mixed Tryd.func17 ?_
 exact (FO _ _ _ R (fun _ _ h => h) h)
def vH : FA := ⟨iW, fun i => .leaf ([], []) []⟩
def wQ : List ResultVar := [.tmp 2]
noncomputable def tP : Code := iK Tryd.f18
def qO (R : K1) (iE : RN) (w : RM) : Prop :=
 fK pg mQ #[iE] w fun b4 w =>
 dQ pg (iI 63 [(0, b4)]) w fun b5 w =>
 dQ pg (I6 63 b5) w fun b6 w =>
 R b6 w
theorem BC (R : K1) (hr : HR wQ R Q) (h : qO R (g 0) w) : fY pg vH tP Q g w :=
 jQ (kn := no) (l := []) h kV hr trivial
def AU (a0 : RN) (w : RM) (R : K1) : Prop :=
 qO R a0 w
theorem Cu {a0 : RN} {w : RM} {R : K1} (h : AU a0 w R) : fK pg iW #[a0] w R := by
 refine AX (ann := vH) Tryd.f18 tP [a0] wQ 7 TrydM.mixed Tryd.func18 ?_
 exact (BC _ _ _ R (fun _ _ h => h) h)
def sO : FA := ⟨iN, fun i => .leaf ([], []) []⟩
def tW : List ResultVar := [.tmp 2]
noncomputable def sD : Code := iK Tryd.f19
def oX (R : K1) (CK : RN) (w : RM) : Prop :=
 dQ pg (fD .eql 45 (.tmp 3) (.const (.pointer none)) CK (.pointer none)) w fun b4 w =>
 kK b4
  (R (RO 0) w)
  (dQ pg (jP CK) w fun b6 w =>
  dQ pg (fJ 63 b6 0) w fun b7 w =>
  dQ pg (fM 22 b7) w fun b8 w =>
  dQ pg (lQ .len #[22] 3 [b8]) w fun b9 w =>
  R b9 w)
theorem AQ (R : K1) (hr : HR tW R Q) (h : oX R (g 0) w) : fY pg sO sD Q g w :=
 jQ (kn := no) (l := []) h kV hr trivial
def yY (a0 : RN) (w : RM) (R : K1) : Prop :=
 oX R a0 w
theorem Be {a0 : RN} {w : RM} {R : K1} (h : yY a0 w R) : fK pg iN #[a0] w R := by
 refine AX (ann := sO) Tryd.f19 sD [a0] tW 10 TrydM.mixed Tryd.func19 ?_
 exact (AQ _ _ _ R (fun _ _ h => h) h)
def hU : FA := ⟨fX, fun i => .leaf ([], []) []⟩
def kS : List ResultVar := [.tmp 4]
noncomputable def hE : Code := iK Tryd.f20
def kT (R : K1) (DU : RN) (w : RM) : Prop :=
 R DU w
theorem xT (R : K1) (hr : HR kS R Q) (h : kT R (g 5) w) : fY pg hU (dU 1 (dU 3 hE)) Q g w :=
 jQ (kn := no) (l := []) h kV hr trivial
def kU (kn : K4) (k0 : K1) (DU c8 c9 d0 : RN) (w : RM) : Prop :=
 dQ pg (fD .lss 3 fI fI d0 c9) w fun d1 w =>
 kK d1
  (dQ pg (iP 22 c8 d0) w fun d3 w =>
  dQ pg (fM 5 d3) w fun d4 w =>
  dQ pg (jC 5 40 d4) w fun d7 w =>
  dQ pg (fD .mul 3 fI fI (RO 8) d0) w fun d9 w =>
  dQ pg (jC 3 35 d9) w fun e0 w =>
  dQ pg (fD .shl 40 fI fI d7 e0) w fun e1 w =>
  dQ pg (fD .or 40 fI fI DU e1) w fun e2 w =>
  dQ pg (fD .add 3 fI fI d0 (RO 1)) w fun e3 w =>
  kn e2 c8 c9 e3 w)
  (k0 DU w)
theorem xP (kn : K4) (k0 : K1) (hn : N4 Q kn 5 18 19 20) (h0 : E1 Q k0 0 5) (h : kU kn k0 (g 5) (g 18) (g 19) (g 20) w) : fY pg hU (bI (bI (dU 1 (fF 1 (dU 3 hE))))) Q g w :=
 jQ (kr := no) (l := [(0, fun g w => k0 (g 5) w)]) h hn kV ⟨h0, trivial⟩
def mS (k0 : K1) (DU c8 c9 d0 : RN) (w : RM) : Prop :=
 iO (fun (X : (RN × RN) -> K0) (t : RN × RN) (w : RM) => kU (fun DU _ _ d0 w => X (DU, d0) w) k0 t.1 c8 c9 t.2 w) (DU, d0) w
theorem yG (k0 : K1) (h0 : E1 Q k0 0 5) (h : mS k0 (g 5) (g 18) (g 19) (g 20) w) : fY pg hU (bI (dU 1 (fF 1 (dU 3 hE)))) Q g w := by
 refine IU (fun g : Env => (g 5, g 20)) (fun X t w => kU (fun DU _ _ d0 w => X (DU, d0) w) k0 t.1 (g 18) (g 19) t.2 w) h (fun X g1 w1 ha hL => ?_)
 rw [<- CB 18 ha, <- CB 19 ha] at hL
 exact (xP _ g1 w1 (fun DU _ _ d0 w => X (DU, d0) w) k0 (fun _ _ h => h) h0 hL)
def nA (kn : K1) (DU c8 c9 d0 : RN) (w : RM) : Prop :=
 mS kn DU c8 c9 d0 w
def mW (kn : K4) (CK oY DU : RN) (w : RM) : Prop :=
 dQ pg (fD .geq 3 fI fI oY (RO 1)) w fun c3 w =>
 Gd (lX c3 true) (fun K => K oY w) w fun c5 w =>
 Gd (lX c3 true) (fun K => dQ pg (fD .leq 3 fI fI c5 (RO 8)) w K) w fun c6 w =>
 dQ pg (nF c3 c6 (.bool false)) w fun c7 w =>
 fK pg kL #[CK, oY, c7] w fun c8 w =>
 dQ pg (lQ .len #[22] 3 [c8]) w fun c9 w =>
 kn DU c8 c9 (RO 0) w
theorem xR (kn : K4) (hn : N4 Q kn 5 18 19 20) (h : mW kn (g 0) (g 1) (g 5) w) : fY pg hU (fF 1 (fF 1 (dU 3 hE))) Q g w :=
 jQ (kr := no) (l := []) h hn kV trivial
def mV (kn : K1) (CK oY DU : RN) (w : RM) : Prop :=
 mW (fun DU c8 c9 d0 w => nA kn DU c8 c9 d0 w) CK oY DU w
def nD (R : K1) (CK oY DU : RN) (w : RM) : Prop :=
 mV (fun DU w => kT R DU w) CK oY DU w
theorem yU (kn : K1) (hn : N1 Q kn 5) (h : mV kn (g 0) (g 1) (g 5) w) : fY pg hU (fF 1 (dU 3 hE)) Q g w :=
 oA 1 (xR _ g w (nA kn) (fun g w h => fL (Hm 0 (yG _ g w kn hn h))) h)
def mX (kn : K3) (R : K1) (CK oY : RN) (w : RM) : Prop :=
 dQ pg (fD .eql 45 (.tmp 8) (.const (.pointer none)) CK (.pointer none)) w fun b9 w =>
 kK b9
  (R (.int .u64 0) w)
  (kn CK oY (.int .u64 0) w)
theorem xW (kn : K3) (R : K1) (hn : N3 Q kn 0 1 5) (hr : HR kS R Q) (h : mX kn R (g 0) (g 1) w) : fY pg hU (fF 3 hE) Q g w :=
 jQ (l := []) h hn hr trivial
def nE (R : K1) (CK oY : RN) (w : RM) : Prop :=
 mX (fun CK oY DU w => nD R CK oY DU w) R CK oY w
theorem yM (R : K1) (hr : HR kS R Q) (h : nE R (g 0) (g 1) w) : fY pg hU hE Q g w :=
 oA 3 (xW _ g w (nD R) R (fun g w h => fL (oA 1 (yU _ g w (kT R) (fun g w h => fL (xT _ g w R hr h)) h))) hr h)
def vB (a0 a1 : RN) (w : RM) (R : K1) : Prop :=
 nE R a0 a1 w
theorem zE {a0 a1 : RN} {w : RM} {R : K1} (h : vB a0 a1 w R) : fK pg fX #[a0, a1] w R := by
 refine AX (ann := hU) Tryd.f20 hE [a0, a1] kS 35 TrydM.mixed Tryd.func20 ?_
 exact (yM _ _ _ R (fun _ _ h => h) h)
def tT : FA := ⟨gU, fun i => .leaf ([], []) []⟩
def vJ : List ResultVar := [.tmp 2]
noncomputable def sZ : Code := iK Tryd.f21
def pQ (R : K1) (CK : RN) (w : RM) : Prop :=
 dQ pg (fD .eql 45 (.tmp 3) (.const (.pointer none)) CK (.pointer none)) w fun b4 w =>
 kK b4
  (R (RO 1) w)
  (dQ pg (jP CK) w fun b6 w =>
  dQ pg (fJ 63 b6 1) w fun b7 w =>
  dQ pg (fM 26 b7) w fun b8 w =>
  R b8 w)
theorem A4 (R : K1) (hr : HR vJ R Q) (h : pQ R (g 0) w) : fY pg tT sZ Q g w :=
 jQ (kn := no) (l := []) h kV hr trivial
def zX (a0 : RN) (w : RM) (R : K1) : Prop :=
 pQ R a0 w
theorem BO {a0 : RN} {w : RM} {R : K1} (h : zX a0 w R) : fK pg gU #[a0] w R := by
 refine AX (ann := tT) Tryd.f21 sZ [a0] vJ 9 TrydM.mixed Tryd.func21 ?_
 exact (A4 _ _ _ R (fun _ _ h => h) h)
def hP : FA := ⟨mD, fun i => match Nat.beq i 1 with | true => .leaf ([8, 9], [(1, 8), (2, 8), (3, 8)]) [(false, []), (false, []), (false, []), (false, []), (false, []), (false, []), (false, []), (false, []), (true, [4, 5, 6]), (true, []), (false, [])] | false => match Nat.beq i 6 with | true => .leaf ([], []) [(false, []), (false, []), (false, []), (false, []), (false, []), (false, []), (false, []), (false, []), (false, []), (false, []), (false, []), (false, []), (false, []), (false, []), (false, []), (false, []), (false, []), (false, []), (false, []), (false, []), (false, []), (false, []), (false, []), (false, []), (false, []), (false, []), (false, [])] | false => .leaf ([], []) []⟩
def iF : List ResultVar := [.tmp 2]
noncomputable def gW : Code := iK Tryd.f22
def iS (R : K1) (gK fO : RN) (w : RM) : Prop :=
 dQ pg (jP gK) w fun p1 w =>
 dQ pg (fJ 47 p1 3) w fun p2 w =>
 dQ pg (fM 22 p2) w fun p3 w =>
 dQ pg (lQ .append #[22, 22] 22 [p3, fO]) w fun p5 w =>
 dQ pg (jP gK) w fun p6 w =>
 dQ pg (fJ 47 p6 3) w fun p7 w =>
 dQ pg (fR 22 p7 p5) w fun _u w =>
 dQ pg (jP gK) w fun p9 w =>
 dQ pg (fJ 47 p9 4) w fun q0 w =>
 dQ pg (fM 3 q0) w fun q1 w =>
 dQ pg (fD .add 3 fI fI q1 (RO 1)) w fun q2 w =>
 dQ pg (jP gK) w fun q3 w =>
 dQ pg (fJ 47 q3 4) w fun q4 w =>
 dQ pg (fR 3 q4 q2) w fun _u w =>
 R (RO 0) w
theorem Ap (R : K1) (hr : HR iF R Q) (h : iS R (g 0) (g 8) w) : fY pg hP (dU 2 (dU 1 (dU 8 (bI (dU 1 gW))))) Q g w :=
 jQ (kn := no) (l := []) h kV hr trivial
def oU (kn : K2) (R : K1) (gK Eg fO : RN) (w : RM) : Prop :=
 dQ pg (fJ 67 Eg 2) w fun n1 w =>
 dQ pg (fM 4 n1) w fun n2 w =>
 Gd (lX n2 true) (fun K => K fO w) w fun n4 w =>
 Gd (lX n2 true) (fun K => dQ pg (lQ .len #[22] 3 [n4]) w K) w fun n5 w =>
 Gd (lX n2 true) (fun K => dQ pg (jC 3 40 n5) w K) w fun n6 w =>
 Gd (lX n2 true) (fun K => dQ pg (fJ 67 Eg 1) w K) w fun n7 w =>
 Gd (lX n2 true) (fun K => dQ pg (fM 40 n7) w K) w fun n8 w =>
 Gd (lX n2 true) (fun K => dQ pg (fD .neq 40 (.tmp 96) (.tmp 98) n6 n8) w K) w fun n9 w =>
 dQ pg (nF n2 n9 (.bool false)) w fun o0 w =>
 kK o0
  (R (RO 11) w)
  (dQ pg (fJ 67 Eg 3) w fun o1 w =>
  dQ pg (fM 4 o1) w fun o2 w =>
  kK o2
   (fK pg kC #[gK, fO] w fun o5 w =>
   dQ pg (fD .neq 26 (.tmp 106) (.const (RO 0)) o5 (RO 0)) w fun o7 w =>
   kK o7
    (R o5 w)
    (kn gK fO w))
   (kn gK fO w))
theorem Av (kn : K2) (R : K1) (hn : N2 Q kn 0 8) (hr : HR iF R Q) (h : oU kn R (g 0) (g 4) (g 8) w) : fY pg hP (fF 2 (dU 1 (dU 8 (bI (dU 1 gW))))) Q g w :=
 jQ (l := []) h hn hr trivial
def kD (R : K1) (gK Eg fO : RN) (w : RM) : Prop :=
 oU (fun gK fO w => iS R gK fO w) R gK Eg fO w
def lS (kn : K4) (k0 : K3) (R : K1) (gK Eg I4 fO : RN) (w : RM) : Prop :=
 dQ pg (fM 80 I4) w fun j9 w =>
 dQ pg (fJ 67 Eg 0) w fun l0 w =>
 dQ pg (fM 40 l0) w fun l1 w =>
 fK pg mJ #[gK, fO, j9, l1] w fun l2 w =>
 dQ pg (iJ l2 0) w fun l3 w =>
 dQ pg (iJ l2 1) w fun l4 w =>
 dQ pg (iJ l2 2) w fun l5 w =>
 dQ pg (iJ l2 3) w fun l6 w =>
 dQ pg (fR 80 I4 l4) w fun _u w =>
 dQ pg (fD .neq 26 (.tmp 77) (.const (RO 0)) l6 (RO 0)) w fun l8 w =>
 kK l8
  (R l6 w)
  (dQ pg (fJ 67 Eg 2) w fun m0 w =>
  dQ pg (fM 4 m0) w fun m1 w =>
  Gd (lX m1 true) (fun K => K l3 w) w fun m3 w =>
  Gd (lX m1 true) (fun K => dQ pg (lQ .len #[22] 3 [m3]) w K) w fun m4 w =>
  Gd (lX m1 true) (fun K => dQ pg (jC 3 40 m4) w K) w fun m5 w =>
  Gd (lX m1 true) (fun K => dQ pg (fJ 67 Eg 1) w K) w fun m6 w =>
  Gd (lX m1 true) (fun K => dQ pg (fM 40 m6) w K) w fun m7 w =>
  Gd (lX m1 true) (fun K => dQ pg (fD .gtr 40 fI fI m5 m7) w K) w fun m8 w =>
  dQ pg (nF m1 m8 (.bool false)) w fun m9 w =>
  kK m9
   (R (RO 11) w)
   (kK l5
    (k0 gK Eg l3 w)
    (kn gK Eg I4 l3 w)))
theorem Aq (kn : K4) (k0 : K3) (R : K1) (hn : N4 Q kn 0 4 7 8) (h0 : E3 Q k0 0 0 4 8) (hr : HR iF R Q) (h : lS kn k0 R (g 0) (g 4) (g 7) (g 8) w) : fY pg hP (bI (bI (fF 1 (dU 8 (bI (dU 1 gW)))))) Q g w :=
 jQ (l := [(0, fun g w => k0 (g 0) (g 4) (g 8) w)]) h hn hr ⟨h0, trivial⟩
def oL (k0 : K3) (R : K1) (gK Eg I4 fO : RN) (w : RM) : Prop :=
 iO (fun (X : RN -> K0) (t : RN) (w : RM) => lS (fun _ _ _ fO w => X fO w) k0 R gK Eg I4 t w) fO w
theorem AK (k0 : K3) (R : K1) (h0 : E3 Q k0 0 0 4 8) (hr : HR iF R Q) (h : oL k0 R (g 0) (g 4) (g 7) (g 8) w) : fY pg hP (bI (fF 1 (dU 8 (bI (dU 1 gW))))) Q g w := by
 refine IU (fun g : Env => g 8) (fun X t w => lS (fun _ _ _ fO w => X fO w) k0 R (g 0) (g 4) (g 7) t w) h (fun X g1 w1 ha hL => ?_)
 rw [<- CB 0 ha, <- CB 4 ha, <- CB 7 ha] at hL
 exact (Aq _ g1 w1 (fun _ _ _ fO w => X fO w) k0 R (fun _ _ h => h) h0 hr hL)
def oF (kn : K3) (R : K1) (gK Eg I4 fO : RN) (w : RM) : Prop :=
 oL kn R gK Eg I4 fO w
def kF (R : K1) (gK Eg I4 fO : RN) (w : RM) : Prop :=
 oF (fun gK Eg fO w => kD R gK Eg fO w) R gK Eg I4 fO w
theorem Ai (kn : K3) (R : K1) (hn : N3 Q kn 0 4 8) (hr : HR iF R Q) (h : oF kn R (g 0) (g 4) (g 7) (g 8) w) : fY pg hP (fF 1 (dU 8 (bI (dU 1 gW)))) Q g w :=
 Hm 0 (AK _ g w kn R hn hr h)
def oI (kn : K4) (R : K1) (gK : RN) (w : RM) : Prop :=
 (dr w) = (dr w) /\
 dQ pg (jP gK) (dr w) fun c2 w_ => w_ = (dr w) /\
 dQ pg (fJ 47 c2 0) (dr w) fun c3 w_ => w_ = (dr w) /\
 dQ pg (fM 45 c3) (dr w) fun c4 w_ => w_ = (dr w) /\
 (dr w) = (dr w) /\
 dQ pg (jP gK) (dr w) fun c6 w_ => w_ = (dr w) /\
 dQ pg (fJ 47 c6 0) (dr w) fun c7 w_ => w_ = (dr w) /\
 dQ pg (fM 45 c7) (dr w) fun c8 w_ => w_ = (dr w) /\
 fK pg iN #[c8] (dr w) fun c9 NK =>
 (fE pg (fM 45 c3) c4 NK /\ fE pg (fJ 47 c2 0) c3 NK /\ fE pg (jP gK) c2 NK /\ True) /\
 fK pg jG #[c4, c9] NK fun d0 OP =>
 OP = OP /\
 fK pg wX #[d0] OP fun d3 w =>
 dQ pg (iJ d3 0) w fun d4 w =>
 dQ pg (iJ d3 1) w fun d5 w =>
 dQ pg (iJ d3 2) w fun d6 w =>
 dQ pg (lZ 67) w fun Eg w =>
 dQ pg (fR 67 Eg d4) w fun _u w =>
 dQ pg (fD .neq 26 (.tmp 27) (.const (RO 0)) d6 (RO 0)) w fun d8 w =>
 kK d8
  (R d6 w)
  (dQ pg (iB 22 d0 (some d5) none none) w fun e3 w =>
  fK pg iW #[e3] w fun e4 w =>
  dQ pg (jP gK) w fun e5 w =>
  dQ pg (fJ 47 e5 0) w fun e6 w =>
  dQ pg (fR 45 e6 e4) w fun _u w =>
  dQ pg (fJ 67 Eg 0) (dr w) fun e7 w_ => w_ = (dr w) /\
  dQ pg (fM 40 e7) (dr w) fun e8 w_ => w_ = (dr w) /\
  (dr w) = (dr w) /\
  dQ pg (jP gK) (dr w) fun f0 w_ => w_ = (dr w) /\
  dQ pg (fJ 47 f0 1) (dr w) fun f1 w_ => w_ = (dr w) /\
  dQ pg (fM 40 f1) (dr w) fun f2 w_ => w_ = (dr w) /\
  dQ pg (fD .gtr 40 fI fI e8 f2) (dr w) fun f3 w_ => w_ = (dr w) /\
  (dr w) = (dr w) /\
  Gd (lX f3 false) (fun K => dQ pg (fJ 67 Eg 2) (dr w) K) (dr w) fun f5 w_ => w_ = (dr w) /\
  Gd (lX f3 false) (fun K => dQ pg (fM 4 f5) (dr w) K) (dr w) fun f6 w_ => w_ = (dr w) /\
  Gd (lX f3 false) (fun K => K f6 (dr w)) (dr w) fun f7 w_ => w_ = (dr w) /\
  Gd (lX f7 true) (fun K => dQ pg (fJ 67 Eg 1) (dr w) K) (dr w) fun f8 w_ => w_ = (dr w) /\
  Gd (lX f7 true) (fun K => dQ pg (fM 40 f8) (dr w) K) (dr w) fun f9 w_ => w_ = (dr w) /\
  Gd (lX f7 true) (fun K => K gK (dr w)) (dr w) fun i0 w_ => w_ = (dr w) /\
  Gd (lX f7 true) (fun K => dQ pg (jP i0) (dr w) K) (dr w) fun i1 w_ => w_ = (dr w) /\
  Gd (lX f7 true) (fun K => dQ pg (fJ 47 i1 2) (dr w) K) (dr w) fun i2 w_ => w_ = (dr w) /\
  Gd (lX f7 true) (fun K => dQ pg (fM 3 i2) (dr w) K) (dr w) fun i3 w_ => w_ = (dr w) /\
  Gd (lX f7 true) (fun K => K gK (dr w)) (dr w) fun i4 w_ => w_ = (dr w) /\
  Gd (lX f7 true) (fun K => dQ pg (jP i4) (dr w) K) (dr w) fun i5 w_ => w_ = (dr w) /\
  Gd (lX f7 true) (fun K => dQ pg (fJ 47 i5 3) (dr w) K) (dr w) fun i6 w_ => w_ = (dr w) /\
  Gd (lX f7 true) (fun K => dQ pg (fM 22 i6) (dr w) K) (dr w) fun i7 w_ => w_ = (dr w) /\
  Gd (lX f7 true) (fun K => dQ pg (lQ .len #[22] 3 [i7]) (dr w) K) (dr w) fun i8 w_ => w_ = (dr w) /\
  Gd (lX f7 true) (fun K => dQ pg (fD .sub 3 fI fI i3 i8) (dr w) K) (dr w) fun i9 w_ => w_ = (dr w) /\
  Gd (lX f7 true) (fun K => dQ pg (jC 3 40 i9) (dr w) K) (dr w) fun j0 w_ => w_ = (dr w) /\
  Gd (lX f7 true) (fun K => dQ pg (fD .gtr 40 fI fI f9 j0) (dr w) K) (dr w) fun j1 w_ => w_ = (dr w) /\
  Gd (lX f3 false) (fun K => dQ pg (nF f7 j1 (.bool false)) (dr w) K) (dr w) fun j2 w_ => w_ = (dr w) /\
  dQ pg (nF f3 (.bool true) j2) (dr w) fun j3 w_ => w_ = (dr w) /\
  kK j3
   (R (RO 12) (dr w))
   (fK pg nY #[] (dr w) fun j4 w =>
   dQ pg (iI 80 [(2, j4)]) w fun j5 w =>
   dQ pg (lZ 80) w fun I4 w =>
   dQ pg (fR 80 I4 j5) w fun _u w =>
   kn gK Eg I4 (.slice none 0 0) w))
theorem AD (kn : K4) (R : K1) (hn : N4 Q kn 0 4 7 8) (hr : HR iF R Q) (h : oI kn R (g 0) w) : fY pg hP (fF 8 (bI (dU 1 gW))) Q g w :=
 jQ (l := []) h hn hr trivial
def tQ (R : K1) (gK : RN) (w : RM) : Prop :=
 oI (fun gK Eg I4 fO w => kF R gK Eg I4 fO w) R gK w
def nI (R : K1) (gK : RN) (w : RM) : Prop :=
 tQ R gK w
def nH (kn : K1) (gK : RN) (w : RM) : Prop :=
 kn gK w
theorem zG (kn : K1) (hn : N1 Q kn 0) (h : nH kn (g 0) w) : fY pg hP (fF 1 gW) Q g w :=
 jQ (kr := no) (l := []) h hn kV trivial
def nQ (R : K1) (gK : RN) (w : RM) : Prop :=
 nH (fun gK w => nI R gK w) gK w
theorem yZ (R : K1) (hr : HR iF R Q) (h : nQ R (g 0) w) : fY pg hP gW Q g w :=
 oA 1 (zG _ g w (nI R) (fun g w h => fL (Qe (oA 8 (AD _ g w (kF R) R (fun g w h => fL (oA 1 (Ai _ g w (kD R) R (fun g w h => fL (oA 2 (Av _ g w (iS R) R (fun g w h => fL (Ap _ g w R hr h)) hr h))) hr h))) hr h)))) h)
def yH (a0 : RN) (w : RM) (R : K1) : Prop :=
 nQ R a0 w
theorem A1 {a0 : RN} {w : RM} {R : K1} (h : yH a0 w R) : fK pg mD #[a0] w R := by
 refine AX (ann := hP) Tryd.f22 gW [a0] iF 125 TrydM.mixed Tryd.func22 ?_
 exact (yZ _ _ _ R (fun _ _ h => h) h)
def tS : FA := ⟨mP, fun i => .leaf ([], []) []⟩
def vG : List ResultVar := [.tmp 2]
noncomputable def tJ : Code := iK Tryd.f23
def pO (R : K1) (gK : RN) (w : RM) : Prop :=
 dQ pg (jP gK) w fun b5 w =>
 dQ pg (fJ 47 b5 0) w fun b6 w =>
 dQ pg (fM 45 b6) w fun b7 w =>
 fK pg fX #[b7, (RO 4)] w fun b8 w =>
 dQ pg (jP gK) w fun c0 w =>
 dQ pg (fJ 47 c0 0) w fun c1 w =>
 dQ pg (fM 45 c1) w fun c2 w =>
 fK pg gU #[c2] w fun c3 w =>
 dQ pg (fD .neq 26 (.tmp 13) (.const (RO 0)) c3 (RO 0)) w fun c4 w =>
 Gd (lX c4 false) (fun K => K b8 w) w fun c6 w =>
 Gd (lX c4 false) (fun K => K gK w) w fun c7 w =>
 Gd (lX c4 false) (fun K => dQ pg (jP c7) w K) w fun c8 w =>
 Gd (lX c4 false) (fun K => dQ pg (fJ 47 c8 0) w K) w fun c9 w =>
 Gd (lX c4 false) (fun K => dQ pg (fM 45 c9) w K) w fun d0 w =>
 Gd (lX c4 false) (fun K => fK pg iN #[d0] w K) w fun d1 w =>
 Gd (lX c4 false) (fun K => dQ pg (jC 3 40 d1) w K) w fun d2 w =>
 Gd (lX c4 false) (fun K => dQ pg (fD .gtr 40 fI fI c6 d2) w K) w fun d3 w =>
 dQ pg (nF c4 (.bool true) d3) w fun d4 w =>
 kK d4
  (R (RO 10) w)
  (dQ pg (jP gK) w fun d6 w =>
  dQ pg (fJ 47 d6 0) w fun d7 w =>
  dQ pg (fM 45 d7) w fun d8 w =>
  dQ pg (jC 40 3 b8) w fun e0 w =>
  fK pg jG #[d8, e0] w fun e1 w =>
  dQ pg (jP gK) w fun e3 w =>
  dQ pg (fJ 47 e3 5) w fun e4 w =>
  dQ pg (fM 3 e4) w fun e5 w =>
  dQ pg (fD .add 3 fI fI e5 (RO 1)) w fun e6 w =>
  dQ pg (jP gK) w fun e7 w =>
  dQ pg (fJ 47 e7 5) w fun e8 w =>
  dQ pg (fR 3 e8 e6) w fun _u w =>
  R (RO 0) w)
theorem Bg (R : K1) (hr : HR vG R Q) (h : pO R (g 0) w) : fY pg tS tJ Q g w :=
 jQ (kn := no) (l := []) h kV hr trivial
def zJ (a0 : RN) (w : RM) (R : K1) : Prop :=
 pO R a0 w
theorem BQ {a0 : RN} {w : RM} {R : K1} (h : zJ a0 w R) : fK pg mP #[a0] w R := by
 refine AX (ann := tS) Tryd.f23 tJ [a0] vG 39 TrydM.mixed Tryd.func23 ?_
 exact (Bg _ _ _ R (fun _ _ h => h) h)
def jD : FA := ⟨tM, fun i => .leaf ([], []) []⟩
def wI : List ResultVar := [.cell 4 58, .tmp 5]
noncomputable def iU : Code := iK Tryd.f24
def rM (R : K1) (vE b4 DI : RN) (w : RM) : Prop :=
 dQ pg (fM 58 vE) w fun f4 w =>
 dQ pg (fR 58 b4 f4) w fun _u w =>
 FT pg 58 b4 w fun r0 => R (.tuple #[r0, DI]) w
theorem EA (R : K1) (hr : HR wI R Q) (h : rM R (g 2) (g 4) (g 7) w) : fY pg jD (dU 1 (dU 3 (dU 2 iU))) Q g w :=
 jQ (kn := no) (l := []) h kV hr trivial
def nW (kn : K6) (k0 : K3) (vE b4 Io DI Gj nS : RN) (w : RM) : Prop :=
 dQ pg (lQ .len #[9] 3 [Io]) w fun e0 w =>
 dQ pg (fD .lss 3 fI fI nS e0) w fun e1 w =>
 kK e1
  (dQ pg (Ek 9 Io nS) w fun e7 w =>
  dQ pg (jC 5 40 e7) w fun e8 w =>
  dQ pg (fD .mul 40 fI fI e8 Gj) w fun f0 w =>
  dQ pg (fD .add 40 fI fI DI f0) w fun f1 w =>
  dQ pg (fD .mul 40 fI fI Gj (.int .u64 256)) w fun f3 w =>
  dQ pg (fD .add 3 fI fI nS (RO 1)) w fun e3 w =>
  kn vE b4 Io f1 f3 e3 w)
  (k0 vE b4 DI w)
theorem D6 (kn : K6) (k0 : K3) (hn : N6 Q kn 2 4 6 7 8 9) (h0 : E3 Q k0 0 2 4 7) (h : nW kn k0 (g 2) (g 4) (g 6) (g 7) (g 8) (g 9) w) : fY pg jD (bI (bI (dU 1 (fF 1 (dU 3 (dU 2 iU)))))) Q g w :=
 jQ (kr := no) (l := [(0, fun g w => k0 (g 2) (g 4) (g 7) w)]) h hn kV ⟨h0, trivial⟩
def wJ (k0 : K3) (vE b4 Io DI Gj nS : RN) (w : RM) : Prop :=
 iO (fun (X : (RN × RN × RN) -> K0) (t : RN × RN × RN) (w : RM) => nW (fun _ _ _ DI Gj nS w => X (DI, Gj, nS) w) k0 vE b4 Io t.1 t.2.1 t.2.2 w) (DI, Gj, nS) w
theorem Ed (k0 : K3) (h0 : E3 Q k0 0 2 4 7) (h : wJ k0 (g 2) (g 4) (g 6) (g 7) (g 8) (g 9) w) : fY pg jD (bI (dU 1 (fF 1 (dU 3 (dU 2 iU))))) Q g w := by
 refine IU (fun g : Env => (g 7, g 8, g 9)) (fun X t w => nW (fun _ _ _ DI Gj nS w => X (DI, Gj, nS) w) k0 (g 2) (g 4) (g 6) t.1 t.2.1 t.2.2 w) h (fun X g1 w1 ha hL => ?_)
 rw [<- CB 2 ha, <- CB 4 ha, <- CB 6 ha] at hL
 exact (D6 _ g1 w1 (fun _ _ _ DI Gj nS w => X (DI, Gj, nS) w) k0 (fun _ _ h => h) h0 hL)
def wD (kn : K3) (vE b4 Io DI Gj nS : RN) (w : RM) : Prop :=
 wJ kn vE b4 Io DI Gj nS w
def wO (kn : K6) (vE b4 Io DI Gj : RN) (w : RM) : Prop :=
 kn vE b4 Io DI Gj (RO 0) w
theorem EC (kn : K6) (hn : N6 Q kn 2 4 6 7 8 9) (h : wO kn (g 2) (g 4) (g 6) (g 7) (g 8) w) : fY pg jD (fF 1 (fF 1 (dU 3 (dU 2 iU)))) Q g w :=
 jQ (kr := no) (l := []) h hn kV trivial
def vQ (kn : K3) (vE b4 Io DI Gj : RN) (w : RM) : Prop :=
 wO (fun vE b4 Io DI Gj nS w => wD kn vE b4 Io DI Gj nS w) vE b4 Io DI Gj w
def vT (R : K1) (vE b4 Io DI Gj : RN) (w : RM) : Prop :=
 vQ (fun vE b4 DI w => rM R vE b4 DI w) vE b4 Io DI Gj w
theorem Ec (kn : K3) (hn : N3 Q kn 2 4 7) (h : vQ kn (g 2) (g 4) (g 6) (g 7) (g 8) w) : fY pg jD (fF 1 (dU 3 (dU 2 iU))) Q g w :=
 oA 1 (EC _ g w (wD kn) (fun g w h => fL (Hm 0 (Ed _ g w kn hn h))) h)
def wB (kn : K5) (oY vE b4 : RN) (w : RM) : Prop :=
 dQ pg (fM 58 vE) w fun d3 w =>
 fK pg xL #[d3, oY] w fun d5 w =>
 dQ pg (iJ d5 0) w fun d6 w =>
 dQ pg (iJ d5 1) w fun d7 w =>
 dQ pg (fR 58 vE d6) w fun _u w =>
 kn vE b4 d7 (.int .u64 0) (.int .u64 1) w
theorem Em (kn : K5) (hn : N5 Q kn 2 4 6 7 8) (h : wB kn (g 1) (g 2) (g 4) w) : fY pg jD (fF 3 (dU 2 iU)) Q g w :=
 jQ (kr := no) (l := []) h hn kV trivial
def wF (R : K1) (oY vE b4 : RN) (w : RM) : Prop :=
 wB (fun vE b4 Io DI Gj w => vT R vE b4 Io DI Gj w) oY vE b4 w
def uA (kn : K3) (CK oY : RN) (w : RM) : Prop :=
 dQ pg (I6 58 CK) w fun vE w =>
 dQ pg (lZ 58) w fun b4 w =>
 dQ pg (fJ 58 vE 1) w fun c0 w =>
 dQ pg (fM 26 c0) w fun c1 w =>
 dQ pg (fD .eql 26 (.tmp 11) (.const (RO 0)) c1 (RO 0)) w fun c2 w =>
 Gd (lX c2 true) (fun K => K oY w) w fun c4 w =>
 Gd (lX c2 true) (fun K => dQ pg (fD .lss 3 fI fI c4 (RO 1)) w K) w fun c5 w =>
 Gd (lX c2 true) (fun K => K c5 w) w fun c6 w =>
 Gd (lX c6 false) (fun K => K oY w) w fun c7 w =>
 Gd (lX c6 false) (fun K => dQ pg (fD .gtr 3 fI fI c7 (RO 8)) w K) w fun c8 w =>
 Gd (lX c2 true) (fun K => dQ pg (nF c6 (.bool true) c8) w K) w fun c9 w =>
 dQ pg (nF c2 c9 (.bool false)) w fun d0 w =>
 kK d0
  (dQ pg (fJ 58 vE 1) w fun d1 w =>
  dQ pg (fR 26 d1 (RO 1)) w fun _u w =>
  kn oY vE b4 w)
  (kn oY vE b4 w)
theorem Dt (kn : K3) (hn : N3 Q kn 1 2 4) (h : uA kn (g 0) (g 1) w) : fY pg jD (fF 2 iU) Q g w :=
 jQ (kr := no) (l := []) h hn kV trivial
def uF (R : K1) (CK oY : RN) (w : RM) : Prop :=
 uA (fun oY vE b4 w => wF R oY vE b4 w) CK oY w
theorem DA (R : K1) (hr : HR wI R Q) (h : uF R (g 0) (g 1) w) : fY pg jD iU Q g w :=
 oA 2 (Dt _ g w (wF R) (fun g w h => fL (oA 3 (Em _ g w (vT R) (fun g w h => fL (oA 1 (Ec _ g w (rM R) (fun g w h => fL (EA _ g w R hr h)) h))) h))) h)
def ER (a0 a1 : RN) (w : RM) (R : K1) : Prop :=
 uF R a0 a1 w
theorem Fj {a0 a1 : RN} {w : RM} {R : K1} (h : ER a0 a1 w R) : fK pg tM #[a0, a1] w R := by
 refine AX (ann := jD) Tryd.f24 iU [a0, a1] wI 46 TrydM.mixed Tryd.func24 ?_
 exact (DA _ _ _ R (fun _ _ h => h) h)
def tO : FA := ⟨mQ, fun i => .leaf ([], []) []⟩
def vL : List ResultVar := [.tmp 2]
noncomputable def tI : Code := iK Tryd.f25
def pN (R : K1) (gK : RN) (w : RM) : Prop :=
 dQ pg (fD .eql 22 (.tmp 3) (.const (.slice none 0 0)) gK (.slice none 0 0)) w fun b4 w =>
 kK b4
  (R (.slice none 0 0) w)
  (dQ pg (iM 22 0 []) w fun b5 w =>
  dQ pg (lQ .append #[22, 22] 22 [b5, gK]) w fun b7 w =>
  R b7 w)
theorem Bo (R : K1) (hr : HR vL R Q) (h : pN R (g 0) w) : fY pg tO tI Q g w :=
 jQ (kn := no) (l := []) h kV hr trivial
def zR (a0 : RN) (w : RM) (R : K1) : Prop :=
 pN R a0 w
theorem BP {a0 : RN} {w : RM} {R : K1} (h : zR a0 w R) : fK pg mQ #[a0] w R := by
 refine AX (ann := tO) Tryd.f25 tI [a0] vL 8 TrydM.mixed Tryd.func25 ?_
 exact (Bo _ _ _ R (fun _ _ h => h) h)
def tC : FA := ⟨kL, fun i => .leaf ([], []) []⟩
def tR : List ResultVar := [.tmp 6]
noncomputable def sE : Code := iK Tryd.f26
def oR (R : K1) (CK oY Pp : RN) (w : RM) : Prop :=
 dQ pg (jP CK) w fun c0 w =>
 dQ pg (fJ 63 c0 1) w fun c1 w =>
 dQ pg (fM 26 c1) w fun c2 w =>
 dQ pg (fD .neq 26 (.tmp 12) (.const (RO 0)) c2 (RO 0)) w fun c3 w =>
 kK c3
  (R (.slice none 0 0) w)
  (dQ pg (Nv .not Pp) w fun c6 w =>
  kK c6
   (dQ pg (jP CK) w fun c8 w =>
   dQ pg (fJ 63 c8 1) w fun c9 w =>
   dQ pg (fR 26 c9 (RO 1)) w fun _u w =>
   R (.slice none 0 0) w)
   (dQ pg (jP CK) w fun d3 w =>
   dQ pg (fJ 63 d3 0) w fun d4 w =>
   dQ pg (fM 22 d4) w fun d5 w =>
   dQ pg (lQ .len #[22] 3 [d5]) w fun d6 w =>
   dQ pg (fD .gtr 3 fI fI oY d6) w fun d7 w =>
   kK d7
    (dQ pg (jP CK) w fun d9 w =>
    dQ pg (fJ 63 d9 1) w fun e0 w =>
    dQ pg (fR 26 e0 (RO 10)) w fun _u w =>
    R (.slice none 0 0) w)
    (dQ pg (jP CK) w fun e2 w =>
    dQ pg (fJ 63 e2 0) w fun e3 w =>
    dQ pg (fM 22 e3) w fun e4 w =>
    dQ pg (iB 22 e4 none (some oY) (some oY)) w fun e7 w =>
    dQ pg (jP CK) w fun f0 w =>
    dQ pg (fJ 63 f0 0) w fun f1 w =>
    dQ pg (fM 22 f1) w fun f2 w =>
    dQ pg (iB 22 f2 (some oY) none none) w fun f4 w =>
    dQ pg (jP CK) w fun f5 w =>
    dQ pg (fJ 63 f5 0) w fun f6 w =>
    dQ pg (fR 22 f6 f4) w fun _u w =>
    R e7 w)))
theorem Aj (R : K1) (hr : HR tR R Q) (h : oR R (g 0) (g 1) (g 2) w) : fY pg tC sE Q g w :=
 jQ (kn := no) (l := []) h kV hr trivial
def xQ (a0 a1 a2 : RN) (w : RM) (R : K1) : Prop :=
 oR R a0 a1 a2 w
theorem AV {a0 a1 a2 : RN} {w : RM} {R : K1} (h : xQ a0 a1 a2 w R) : fK pg kL #[a0, a1, a2] w R := by
 refine AX (ann := tC) Tryd.f26 sE [a0, a1, a2] tR 48 TrydM.mixed Tryd.func26 ?_
 exact (Aj _ _ _ R (fun _ _ h => h) h)
def sH : FA := ⟨jG, fun i => .leaf ([], []) []⟩
def sW : List ResultVar := [.tmp 4]
noncomputable def qY : Code := iK Tryd.f27
def nO (R : K1) (CK oY : RN) (w : RM) : Prop :=
 dQ pg (fD .eql 45 (.tmp 5) (.const (.pointer none)) CK (.pointer none)) w fun b6 w =>
 kK b6
  (R (.slice none 0 0) w)
  (dQ pg (fD .geq 3 fI fI oY (RO 0)) w fun c0 w =>
  fK pg kL #[CK, oY, c0] w fun c1 w =>
  R c1 w)
theorem zD (R : K1) (hr : HR sW R Q) (h : nO R (g 0) (g 1) w) : fY pg sH qY Q g w :=
 jQ (kn := no) (l := []) h kV hr trivial
def wT (a0 a1 : RN) (w : RM) (R : K1) : Prop :=
 nO R a0 a1 w
theorem AF {a0 a1 : RN} {w : RM} {R : K1} (h : wT a0 a1 w R) : fK pg jG #[a0, a1] w R := by
 refine AX (ann := sH) Tryd.f27 qY [a0, a1] sW 12 TrydM.mixed Tryd.func27 ?_
 exact (zD _ _ _ R (fun _ _ h => h) h)
def jO : FA := ⟨wX, fun i => match Nat.beq i 28 with | true => .leaf ([4, 6], [(0, 4), (2, 4), (2, 6), (5, 6)]) [(false, []), (false, []), (false, []), (false, []), (true, [1, 3]), (false, []), (true, [0, 3]), (false, []), (false, [])] | false => .leaf ([], []) []⟩
def uQ : List ResultVar := [.cell 2 67, .tmp 3, .tmp 4]
noncomputable def jI : Code := iK Tryd.f28
def qZ (R : K1) (iE b2 uX sK iH : RN) (w : RM) : Prop :=
 fK pg gU #[uX] w fun l9 w =>
 dQ pg (fD .neq 26 (.tmp 79) (.const (RO 0)) l9 (RO 0)) w fun m0 w =>
 kK m0
  (dQ pg (iI 67 []) w fun m1 w =>
  fK pg gU #[uX] w fun m3 w =>
  dQ pg (fR 67 b2 m1) w fun _u w =>
  FT pg 67 b2 w fun r0 => R (.tuple #[r0, (RO 0), m3]) w)
  (dQ pg (fD .neq 40 (.tmp 85) (.const (.int .u64 0)) iH (.int .u64 0)) w fun m6 w =>
  kK m6
   (dQ pg (iI 67 []) w fun m7 w =>
   dQ pg (fR 67 b2 m7) w fun _u w =>
   FT pg 67 b2 w fun r0 => R (.tuple #[r0, (RO 0), (RO 14)]) w)
   (dQ pg (fM 67 sK) (dr w) fun m8 w_ => w_ = (dr w) /\
   (dr w) = (dr w) /\
   dQ pg (lQ .len #[22] 3 [iE]) (dr w) fun n0 w_ => w_ = (dr w) /\
   (dr w) = (dr w) /\
   fK pg iN #[uX] (dr w) fun n2 JI =>
   (fE pg (lQ .len #[22] 3 [iE]) n0 JI /\ fE pg (fM 67 sK) m8 JI /\ True) /\
   dQ pg (fD .sub 3 fI fI n0 n2) JI fun n3 w_ => w_ = JI /\
   dQ pg (fR 67 b2 m8) JI fun _u6 GH =>
   (fE pg (fD .sub 3 fI fI n0 n2) n3 GH /\ fE pg (lQ .len #[22] 3 [iE]) n0 GH /\ True) /\
   GH = GH /\
   GH = GH /\
   FT pg 67 b2 GH fun r0 => R (.tuple #[r0, n3, (RO 0)]) GH))
theorem F8 (R : K1) (hr : HR uQ R Q) (h : qZ R (g 0) (g 2) (g 5) (g 7) (g 9) w) : fY pg jO (dU 1 (dU 1 (dU 1 (dU 2 (dU 2 (dU 7 jI)))))) Q g w :=
 jQ (kn := no) (l := []) h kV hr trivial
def Ar (kn : K5) (iE b2 uX sK iY iH : RN) (w : RM) : Prop :=
 kK iY
  (dQ pg (fJ 67 sK 1) w fun l4 w =>
  dQ pg (fM 40 l4) w fun l5 w =>
  dQ pg (fJ 67 sK 0) w fun l6 w =>
  dQ pg (fR 40 l6 l5) w fun _u w =>
  kn iE b2 uX sK iH w)
  (kn iE b2 uX sK iH w)
theorem Gg (kn : K5) (hn : N5 Q kn 0 2 5 7 9) (h : Ar kn (g 0) (g 2) (g 5) (g 7) (g 8) (g 9) w) : fY pg jO (fF 1 (dU 1 (dU 1 (dU 2 (dU 2 (dU 7 jI)))))) Q g w :=
 jQ (kr := no) (l := []) h hn kV trivial
def uU (R : K1) (iE b2 uX sK iY iH : RN) (w : RM) : Prop :=
 Ar (fun iE b2 uX sK iH w => qZ R iE b2 uX sK iH w) iE b2 uX sK iY iH w
def As (kn : K6) (iE b2 uX sK iY iH CC : RN) (w : RM) : Prop :=
 dQ pg (fD .eql 3 (.tmp 67) (.const (RO 2)) CC (RO 2)) w fun j8 w =>
 kK j8
  (dQ pg (fJ 67 sK 1) w fun j9 w =>
  dQ pg (fM 40 j9) w fun l0 w =>
  dQ pg (fD .add 40 fI fI l0 (.int .u64 256)) w fun l1 w =>
  dQ pg (fJ 67 sK 1) w fun l2 w =>
  dQ pg (fR 40 l2 l1) w fun _u w =>
  kn iE b2 uX sK iY iH w)
  (kn iE b2 uX sK iY iH w)
theorem F1 (kn : K6) (hn : N6 Q kn 0 2 5 7 8 9) (h : As kn (g 0) (g 2) (g 5) (g 7) (g 8) (g 9) (g 11) w) : fY pg jO (fF 1 (dU 1 (dU 2 (dU 2 (dU 7 jI))))) Q g w :=
 jQ (kr := no) (l := []) h hn kV trivial
def uZ (R : K1) (iE b2 uX sK iY iH CC : RN) (w : RM) : Prop :=
 As (fun iE b2 uX sK iY iH w => uU R iE b2 uX sK iY iH w) iE b2 uX sK iY iH CC w
def Ab (kn : K7) (iE b2 uX sK iY iH CC : RN) (w : RM) : Prop :=
 dQ pg (fD .gtr 3 fI fI CC (RO 0)) w fun j1 w =>
 kK j1
  (fK pg fX #[uX, CC] w fun j4 w =>
  dQ pg (fJ 67 sK 1) w fun j5 w =>
  dQ pg (fR 40 j5 j4) w fun _u w =>
  dQ pg (fJ 67 sK 2) w fun j6 w =>
  dQ pg (fR 4 j6 (.bool true)) w fun _u w =>
  kn iE b2 uX sK iY iH CC w)
  (kn iE b2 uX sK iY iH CC w)
theorem F0 (kn : K7) (hn : N7 Q kn 0 2 5 7 8 9 11) (h : Ab kn (g 0) (g 2) (g 5) (g 7) (g 8) (g 9) (g 11) w) : fY pg jO (fF 1 (dU 2 (dU 2 (dU 7 jI)))) Q g w :=
 jQ (kr := no) (l := []) h hn kV trivial
def qW (R : K1) (iE b2 uX sK iY iH CC : RN) (w : RM) : Prop :=
 Ab (fun iE b2 uX sK iY iH CC w => uZ R iE b2 uX sK iY iH CC w) iE b2 uX sK iY iH CC w
def AP (kn : K7) (iE b2 uX J6 sK iY iH : RN) (w : RM) : Prop :=
 dQ pg (iI 87 [(0, (RO 0)), (1, (RO 2)), (2, (RO 4)), (3, (RO 8))]) w fun i1 w =>
 dQ pg (fD .shr 3 fI fI J6 (.int .u64 6)) w fun i3 w =>
 dQ pg (Ek 87 i1 i3) w fun i4 w =>
 Gd (lX iY true) (fun K => K i4 w) w fun i7 w =>
 Gd (lX iY true) (fun K => dQ pg (fD .eql 3 (.tmp 57) (.const (RO 0)) i7 (RO 0)) w K) w fun i8 w =>
 dQ pg (nF iY i8 (.bool false)) w fun i9 w =>
 kK i9
  (kn iE b2 uX sK iY iH (RO 1) w)
  (kn iE b2 uX sK iY iH i4 w)
theorem F7 (kn : K7) (hn : N7 Q kn 0 2 5 7 8 9 11) (h : AP kn (g 0) (g 2) (g 5) (g 6) (g 7) (g 8) (g 9) w) : fY pg jO (fF 2 (dU 2 (dU 7 jI))) Q g w :=
 jQ (kr := no) (l := []) h hn kV trivial
def rD (R : K1) (iE b2 uX J6 sK iY iH : RN) (w : RM) : Prop :=
 AP (fun iE b2 uX sK iY iH CC w => qW R iE b2 uX sK iY iH CC w) iE b2 uX J6 sK iY iH w
def yA (kn : K7) (iE b2 uX J6 sK iY : RN) (w : RM) : Prop :=
 dQ pg (iI 87 [(0, (RO 0)), (1, (RO 1)), (2, (RO 2)), (3, (RO 4))]) w fun f2 w =>
 dQ pg (fD .and 3 fI fI J6 (RO 3)) w fun f4 w =>
 dQ pg (Ek 87 f2 f4) w fun f5 w =>
 dQ pg (fD .gtr 3 fI fI f5 (RO 0)) w fun f7 w =>
 kK f7
  (fK pg fX #[uX, f5] w fun i0 w =>
  kn iE b2 uX J6 sK iY i0 w)
  (kn iE b2 uX J6 sK iY (.int .u64 0) w)
theorem Fs (kn : K7) (hn : N7 Q kn 0 2 5 6 7 8 9) (h : yA kn (g 0) (g 2) (g 5) (g 6) (g 7) (g 8) w) : fY pg jO (fF 2 (dU 7 jI)) Q g w :=
 jQ (kr := no) (l := []) h hn kV trivial
def tF (R : K1) (iE b2 uX J6 sK iY : RN) (w : RM) : Prop :=
 yA (fun iE b2 uX J6 sK iY iH w => rD R iE b2 uX J6 sK iY iH w) iE b2 uX J6 sK iY w
def yN (kn : K6) (R : K1) (iE : RN) (w : RM) : Prop :=
 dQ pg (lZ 67) w fun b2 w =>
 fK pg iW #[iE] w fun c3 w =>
 fK pg fX #[c3, (RO 1)] w fun c5 w =>
 dQ pg (jC 40 3 c5) w fun c6 w =>
 fK pg gU #[c3] w fun c9 w =>
 dQ pg (fD .neq 26 (.tmp 19) (.const (RO 0)) c9 (RO 0)) w fun d0 w =>
 kK d0
  (dQ pg (iI 67 []) w fun d1 w =>
  fK pg gU #[c3] w fun d3 w =>
  dQ pg (fR 67 b2 d1) w fun _u w =>
  FT pg 67 b2 w fun r0 => R (.tuple #[r0, (RO 0), d3]) w)
  (dQ pg (fD .and 3 fI fI c6 (RO 8)) w fun d6 w =>
  dQ pg (fD .neq 3 (.tmp 26) (.const (RO 0)) d6 (RO 0)) w fun d7 w =>
  kK d7
   (dQ pg (iI 67 []) w fun d8 w =>
   dQ pg (fR 67 b2 d8) w fun _u w =>
   FT pg 67 b2 w fun r0 => R (.tuple #[r0, (RO 0), (RO 11)]) w)
   (dQ pg (fD .and 3 fI fI c6 (RO 4)) w fun e0 w =>
   dQ pg (fD .neq 3 (.tmp 30) (.const (RO 0)) e0 (RO 0)) w fun e1 w =>
   dQ pg (iI 67 [(3, e1)]) w fun e2 w =>
   dQ pg (lZ 67) w fun sK w =>
   dQ pg (fR 67 sK e2) w fun _u w =>
   dQ pg (fD .and 3 fI fI c6 (RO 32)) w fun e4 w =>
   dQ pg (fD .neq 3 (.tmp 34) (.const (RO 0)) e4 (RO 0)) w fun e5 w =>
   dQ pg (Nv .not e5) w fun e7 w =>
   kK e7
    (fK pg fX #[c3, (RO 1)] w fun e9 w =>
    fK pg sQ #[e9] w fun f0 w =>
    dQ pg (fJ 67 sK 0) w fun f1 w =>
    dQ pg (fR 40 f1 f0) w fun _u w =>
    kn iE b2 c3 c6 sK e5 w)
    (kn iE b2 c3 c6 sK e5 w)))
theorem EL (kn : K6) (R : K1) (hn : N6 Q kn 0 2 5 6 7 8) (hr : HR uQ R Q) (h : yN kn R (g 0) w) : fY pg jO (fF 7 jI) Q g w :=
 jQ (l := []) h hn hr trivial
def yV (R : K1) (iE : RN) (w : RM) : Prop :=
 yN (fun iE b2 uX J6 sK iY w => tF R iE b2 uX J6 sK iY w) R iE w
theorem Fy (R : K1) (hr : HR uQ R Q) (h : yV R (g 0) w) : fY pg jO jI Q g w :=
 oA 7 (EL _ g w (tF R) R (fun g w h => fL (oA 2 (Fs _ g w (rD R) (fun g w h => fL (oA 2 (F7 _ g w (qW R) (fun g w h => fL (oA 1 (F0 _ g w (uZ R) (fun g w h => fL (oA 1 (F1 _ g w (uU R) (fun g w h => fL (oA 1 (Gg _ g w (qZ R) (fun g w h => fL (F8 _ g w R hr h)) h))) h))) h))) h))) h))) hr h)
def HF (a0 : RN) (w : RM) (R : K1) : Prop :=
 yV R a0 w
theorem Hg {a0 : RN} {w : RM} {R : K1} (h : HF a0 w R) : fK pg wX #[a0] w R := by
 refine AX (ann := jO) Tryd.f28 jI [a0] uQ 94 TrydM.mixed Tryd.func28 ?_
 exact (Fy _ _ _ R (fun _ _ h => h) h)
def zT : FA := ⟨nY, fun i => .leaf ([], []) []⟩
def A9 : List ResultVar := [.cell 0 72]
noncomputable def yT : Code := iK Tryd.f29
def uG (R : K1)  (w : RM) : Prop :=
 dQ pg (lZ 72) w fun b0 w =>
 dQ pg (iI 72 [(0, (.int .u32 1)), (1, (.int .u32 4)), (2, (.int .u32 8))]) w fun b1 w =>
 dQ pg (fR 72 b0 b1) w fun _u w =>
 FT pg 72 b0 w fun r0 => R r0 w
theorem Dv (R : K1) (hr : HR A9 R Q) (h : uG R w) : fY pg zT yT Q g w :=
 jQ (kn := no) (l := []) h kV hr trivial
def DL (w : RM) (R : K1) : Prop :=
 uG R w
theorem Ee {w : RM} {R : K1} (h : DL w R) : fK pg nY #[] w R := by
 refine AX (ann := zT) Tryd.f29 yT [] A9 2 TrydM.mixed Tryd.func29 ?_
 exact (Dv _ _ _ R (fun _ _ h => h) h)
def jS : FA := ⟨mJ, fun i => match Nat.beq i 24 with | true => .leaf ([], []) [(false, []), (false, []), (false, []), (false, []), (false, []), (false, []), (false, []), (false, []), (false, []), (false, []), (false, []), (false, []), (false, [])] | false => match Nat.beq i 26 with | true => .leaf ([5], [(2, 5), (3, 5)]) [(false, []), (false, []), (false, []), (false, []), (false, []), (true, [1, 2]), (false, []), (false, [])] | false => .leaf ([], []) []⟩
def kA : List ResultVar := [.tmp 8, .cell 9 80, .tmp 10, .tmp 11]
noncomputable def jM : Code := iK Tryd.f30
def jF (R : K1) (gK pZ IC b9 wK : RN) (w : RM) : Prop :=
 (dr w) = (dr w) /\
 dQ pg (jP gK) (dr w) fun m8 w_ => w_ = (dr w) /\
 dQ pg (fJ 47 m8 3) (dr w) fun m9 w_ => w_ = (dr w) /\
 dQ pg (fM 22 m9) (dr w) fun n0 w_ => w_ = (dr w) /\
 dQ pg (lQ .len #[22] 3 [n0]) (dr w) fun n1 w_ => w_ = (dr w) /\
 (dr w) = (dr w) /\
 dQ pg (lQ .len #[22] 3 [pZ]) (dr w) fun n3 w_ => w_ = (dr w) /\
 dQ pg (fD .add 3 fI fI n1 n3) (dr w) fun n4 w_ => w_ = (dr w) /\
 (dr w) = (dr w) /\
 dQ pg (jP gK) (dr w) fun n6 w_ => w_ = (dr w) /\
 dQ pg (fJ 47 n6 2) (dr w) fun n7 w_ => w_ = (dr w) /\
 dQ pg (fM 3 n7) (dr w) fun n8 w_ => w_ = (dr w) /\
 dQ pg (fD .gtr 3 fI fI n4 n8) (dr w) fun n9 w_ => w_ = (dr w) /\
 kK n9
  (dQ pg (iI 80 []) (dr w) fun o0 w =>
  dQ pg (fR 80 b9 o0) w fun _u w =>
  FT pg 80 b9 w fun r1 => R (.tuple #[(.slice none 0 0), r1, (.bool false), (RO 12)]) w)
  ((dr (dr w)) = (dr (dr w)) /\
  dQ pg (fM 80 IC) (dr (dr w)) fun o2 w_ => w_ = (dr (dr w)) /\
  dQ pg (fJ 90 wK 0) (dr (dr w)) fun o3 w_ => w_ = (dr (dr w)) /\
  dQ pg (fM 4 o3) (dr (dr w)) fun o4 w_ => w_ = (dr (dr w)) /\
  (dr (dr w)) = (dr (dr w)) /\
  dQ pg (fR 80 b9 o2) (dr (dr w)) fun _u5 Gu =>
  (fE pg (fM 4 o3) o4 Gu /\ fE pg (fJ 90 wK 0) o3 Gu /\ True) /\
  Gu = Gu /\
  Gu = Gu /\
  FT pg 80 b9 Gu fun r1 => R (.tuple #[pZ, r1, o4, (RO 0)]) Gu)
theorem Al (R : K1) (hr : HR kA R Q) (h : jF R (g 0) (g 1) (g 6) (g 9) (g 15) w) : fY pg jS (dU 2 (dU 9 jM)) Q g w :=
 jQ (kn := no) (l := []) h kV hr trivial
def oE (kn : K5) (R : K1) (gK pZ mR IC b9 xS wK Kx : RN) (w : RM) : Prop :=
 fK pg jK #[gK, Kx] w fun i1 w =>
 dQ pg (iJ i1 0) w fun i2 w =>
 dQ pg (iJ i1 1) w fun i3 w =>
 dQ pg (fD .neq 26 (.tmp 54) (.const (RO 0)) i3 (RO 0)) w fun i5 w =>
 kK i5
  (dQ pg (iI 80 []) w fun i6 w =>
  dQ pg (fR 80 b9 i6) w fun _u w =>
  FT pg 80 b9 w fun r1 => R (.tuple #[(.slice none 0 0), r1, (.bool false), i3]) w)
  (dQ pg (fJ 90 wK 1) w fun i8 w =>
  dQ pg (fM 3 i8) w fun i9 w =>
  dQ pg (fD .eql 3 (.tmp 59) (.const (RO 0)) i9 (RO 0)) w fun l5 w =>
  kK l5
   (dQ pg (lQ .append #[22, 22] 22 [pZ, i2]) w fun l8 w =>
   kn gK l8 IC b9 wK w)
   (dQ pg (fD .eql 3 (.tmp 59) (.const (RO 1)) i9 (RO 1)) w fun m0 w =>
   kK m0
    (dQ pg (fJ 90 wK 2) w fun m3 w =>
    dQ pg (fM 3 m3) w fun m4 w =>
    fK pg mG #[i2, m4] w fun m5 w =>
    dQ pg (lQ .append #[22, 22] 22 [pZ, m5]) w fun m6 w =>
    kn gK m6 IC b9 wK w)
    (dQ pg (fM 80 IC) w fun j3 w =>
    fK pg Hl #[i2, pZ, j3, mR, xS] w fun j6 w =>
    dQ pg (iJ j6 0) w fun j7 w =>
    dQ pg (iJ j6 1) w fun j8 w =>
    dQ pg (iJ j6 2) w fun j9 w =>
    dQ pg (fR 80 IC j8) w fun _u w =>
    dQ pg (fD .neq 26 (.tmp 70) (.const (RO 0)) j9 (RO 0)) w fun l1 w =>
    kK l1
     (dQ pg (iI 80 []) w fun l2 w =>
     dQ pg (fR 80 b9 l2) w fun _u w =>
     FT pg 80 b9 w fun r1 => R (.tuple #[(.slice none 0 0), r1, (.bool false), j9]) w)
     (kn gK j7 IC b9 wK w))))
theorem AH (kn : K5) (R : K1) (hn : N5 Q kn 0 1 6 9 15) (hr : HR kA R Q) (h : oE kn R (g 0) (g 1) (g 3) (g 6) (g 9) (g 12) (g 15) (g 16) w) : fY pg jS (fF 2 (dU 9 jM)) Q g w :=
 jQ (l := []) h hn hr trivial
def kE (R : K1) (gK pZ mR IC b9 xS wK Kx : RN) (w : RM) : Prop :=
 oE (fun gK pZ IC b9 wK w => jF R gK pZ IC b9 wK w) R gK pZ mR IC b9 xS wK Kx w
def oM (kn : K8) (R : K1) (gK pZ PW mR : RN) (w : RM) : Prop :=
 dQ pg (I6 80 PW) w fun IC w =>
 dQ pg (lZ 80) w fun b9 w =>
 dQ pg (lQ .min #[40, 40] 40 [mR, (.int .u64 131072)]) w fun c8 w =>
 dQ pg (jC 40 3 c8) w fun c9 w =>
 fK pg jK #[gK, (RO 3)] w fun d2 w =>
 dQ pg (iJ d2 0) w fun d3 w =>
 dQ pg (iJ d2 1) w fun d4 w =>
 dQ pg (fD .neq 26 (.tmp 25) (.const (RO 0)) d4 (RO 0)) w fun d6 w =>
 kK d6
  (dQ pg (iI 80 []) w fun d7 w =>
  dQ pg (fR 80 b9 d7) w fun _u w =>
  FT pg 80 b9 w fun r1 => R (.tuple #[(.slice none 0 0), r1, (.bool false), d4]) w)
  (fK pg pD #[d3] w fun e1 w =>
  dQ pg (iJ e1 0) w fun e2 w =>
  dQ pg (iJ e1 1) w fun e3 w =>
  dQ pg (lZ 90) w fun wK w =>
  dQ pg (fR 90 wK e2) w fun _u w =>
  dQ pg (fD .neq 26 (.tmp 34) (.const (RO 0)) e3 (RO 0)) w fun e5 w =>
  kK e5
   (dQ pg (iI 80 []) w fun e6 w =>
   dQ pg (fR 80 b9 e6) w fun _u w =>
   FT pg 80 b9 w fun r1 => R (.tuple #[(.slice none 0 0), r1, (.bool false), e3]) w)
   (dQ pg (fJ 90 wK 2) w fun e8 w =>
   dQ pg (fM 3 e8) w fun e9 w =>
   dQ pg (fD .gtr 3 fI fI e9 c9) w fun f1 w =>
   kK f1
    (dQ pg (iI 80 []) w fun f2 w =>
    dQ pg (fR 80 b9 f2) w fun _u w =>
    FT pg 80 b9 w fun r1 => R (.tuple #[(.slice none 0 0), r1, (.bool false), (RO 12)]) w)
    (dQ pg (fJ 90 wK 2) w fun f3 w =>
    dQ pg (fM 3 f3) w fun f4 w =>
    dQ pg (fJ 90 wK 1) w fun f5 w =>
    dQ pg (fM 3 f5) w fun f6 w =>
    dQ pg (fD .eql 3 (.tmp 46) (.const (RO 1)) f6 (RO 1)) w fun f7 w =>
    kK f7
     (kn gK pZ mR IC b9 c9 wK (RO 1) w)
     (kn gK pZ mR IC b9 c9 wK f4 w))))
theorem Au (kn : K8) (R : K1) (hn : N8 Q kn 0 1 3 6 9 12 15 16) (hr : HR kA R Q) (h : oM kn R (g 0) (g 1) (g 2) (g 3) w) : fY pg jS (fF 9 jM) Q g w :=
 jQ (l := []) h hn hr trivial
def oQ (R : K1) (gK pZ PW mR : RN) (w : RM) : Prop :=
 oM (fun gK pZ mR IC b9 xS wK Kx w => kE R gK pZ mR IC b9 xS wK Kx w) R gK pZ PW mR w
theorem AA (R : K1) (hr : HR kA R Q) (h : oQ R (g 0) (g 1) (g 2) (g 3) w) : fY pg jS jM Q g w :=
 oA 9 (Au _ g w (kE R) R (fun g w h => fL (oA 2 (AH _ g w (jF R) R (fun g w h => fL (Al _ g w R hr h)) hr h))) hr h)
def yE (a0 a1 a2 a3 : RN) (w : RM) (R : K1) : Prop :=
 oQ R a0 a1 a2 a3 w
theorem AY {a0 a1 a2 a3 : RN} {w : RM} {R : K1} (h : yE a0 a1 a2 a3 w R) : fK pg mJ #[a0, a1, a2, a3] w R := by
 refine AX (ann := jS) Tryd.f30 jM [a0, a1, a2, a3] kA 105 TrydM.mixed Tryd.func30 ?_
 exact (AA _ _ _ R (fun _ _ h => h) h)
def sM : FA := ⟨kC, fun i => .leaf ([], []) []⟩
def tD : List ResultVar := [.tmp 4]
noncomputable def rB : Code := iK Tryd.f31
def nN (R : K1) (gK pZ : RN) (w : RM) : Prop :=
 fK pg jK #[gK, (RO 4)] w fun c0 w =>
 dQ pg (iJ c0 0) w fun c1 w =>
 dQ pg (iJ c0 1) w fun c2 w =>
 dQ pg (fD .neq 26 (.tmp 13) (.const (RO 0)) c2 (RO 0)) w fun c4 w =>
 kK c4
  (R c2 w)
  (fK pg iW #[c1] w fun c7 w =>
  fK pg fX #[c7, (RO 4)] w fun c8 w =>
  fK pg Dj #[pZ] w fun d1 w =>
  dQ pg (fD .and 40 fI fI d1 (.int .u64 4294967295)) w fun d2 w =>
  dQ pg (fD .neq 40 (.tmp 19) (.tmp 22) c8 d2) w fun d3 w =>
  kK d3
   (R (RO 13) w)
   (R (RO 0) w))
theorem zB (R : K1) (hr : HR tD R Q) (h : nN R (g 0) (g 1) w) : fY pg sM rB Q g w :=
 jQ (kn := no) (l := []) h kV hr trivial
def wU (a0 a1 : RN) (w : RM) (R : K1) : Prop :=
 nN R a0 a1 w
theorem AB {a0 a1 : RN} {w : RM} {R : K1} (h : wU a0 a1 w R) : fK pg kC #[a0, a1] w R := by
 refine AX (ann := sM) Tryd.f31 rB [a0, a1] tD 24 TrydM.mixed Tryd.func31 ?_
 exact (zB _ _ _ R (fun _ _ h => h) h)
def CR : FA := ⟨xL, fun i => .leaf ([], []) []⟩
def DO : List ResultVar := [.cell 4 58, .tmp 5]
noncomputable def Cp : Code := iK Tryd.f32
def AR (R : K1) (CK oY : RN) (w : RM) : Prop :=
 dQ pg (I6 58 CK) w fun vE w =>
 dQ pg (lZ 58) w fun b4 w =>
 dQ pg (fJ 58 vE 1) w fun b7 w =>
 dQ pg (fM 26 b7) w fun b8 w =>
 dQ pg (fD .neq 26 (.tmp 8) (.const (RO 0)) b8 (RO 0)) w fun b9 w =>
 kK b9
  (dQ pg (fM 58 vE) w fun c0 w =>
  dQ pg (fR 58 b4 c0) w fun _u w =>
  FT pg 58 b4 w fun r0 => R (.tuple #[r0, (.string ⟨#[]⟩)]) w)
  (dQ pg (fD .lss 3 fI fI oY (RO 0)) w fun c2 w =>
  kK c2
   (dQ pg (fJ 58 vE 1) w fun c3 w =>
   dQ pg (fR 26 c3 (RO 1)) w fun _u w =>
   dQ pg (fM 58 vE) w fun c4 w =>
   dQ pg (fR 58 b4 c4) w fun _u w =>
   FT pg 58 b4 w fun r0 => R (.tuple #[r0, (.string ⟨#[]⟩)]) w)
   (dQ pg (fJ 58 vE 0) w fun c6 w =>
   dQ pg (fM 9 c6) w fun c7 w =>
   dQ pg (lQ .len #[9] 3 [c7]) w fun c8 w =>
   dQ pg (fD .gtr 3 fI fI oY c8) w fun c9 w =>
   kK c9
    (dQ pg (fJ 58 vE 1) w fun d0 w =>
    dQ pg (fR 26 d0 (RO 10)) w fun _u w =>
    dQ pg (fM 58 vE) w fun d1 w =>
    dQ pg (fR 58 b4 d1) w fun _u w =>
    FT pg 58 b4 w fun r0 => R (.tuple #[r0, (.string ⟨#[]⟩)]) w)
    (dQ pg (fJ 58 vE 0) w fun d2 w =>
    dQ pg (fM 9 d2) w fun d3 w =>
    dQ pg (iB 9 d3 none (some oY) none) w fun d5 w =>
    dQ pg (fJ 58 vE 0) w fun d6 w =>
    dQ pg (fM 9 d6) w fun d7 w =>
    dQ pg (iB 9 d7 (some oY) none none) w fun d9 w =>
    dQ pg (fJ 58 vE 0) w fun e0 w =>
    dQ pg (fR 9 e0 d9) w fun _u w =>
    dQ pg (fM 58 vE) w fun e1 w =>
    dQ pg (fR 58 b4 e1) w fun _u w =>
    FT pg 58 b4 w fun r0 => R (.tuple #[r0, d5]) w)))
theorem F3 (R : K1) (hr : HR DO R Q) (h : AR R (g 0) (g 1) w) : fY pg CR Cp Q g w :=
 jQ (kn := no) (l := []) h kV hr trivial
def HK (a0 a1 : RN) (w : RM) (R : K1) : Prop :=
 AR R a0 a1 w
theorem G2 {a0 a1 : RN} {w : RM} {R : K1} (h : HK a0 a1 w R) : fK pg xL #[a0, a1] w R := by
 refine AX (ann := CR) Tryd.f32 Cp [a0, a1] DO 33 TrydM.mixed Tryd.func32 ?_
 exact (F3 _ _ _ R (fun _ _ h => h) h)
def AT : FA := ⟨sQ, fun i => .leaf ([], []) []⟩
def Cj : List ResultVar := [.tmp 2]
noncomputable def zI : Code := iK Tryd.f33
def wM (R : K1) (Qb : RN) (w : RM) : Prop :=
 dQ pg (fD .shr 40 fI fI Qb (.int .u64 3)) w fun b5 w =>
 dQ pg (fD .add 40 fI fI (.int .u64 10) b5) w fun b6 w =>
 dQ pg (fD .shl 40 fI fI (.int .u64 1) b6) w fun b7 w =>
 dQ pg (fD .quo 40 fI fI b7 (.int .u64 8)) w fun c0 w =>
 dQ pg (fD .and 40 fI fI Qb (.int .u64 7)) w fun c2 w =>
 dQ pg (fD .mul 40 fI fI c0 c2) w fun c3 w =>
 dQ pg (fD .add 40 fI fI b7 c3) w fun c4 w =>
 R c4 w
theorem El (R : K1) (hr : HR Cj R Q) (h : wM R (g 0) w) : fY pg AT zI Q g w :=
 jQ (kn := no) (l := []) h kV hr trivial
def Fu (a0 : RN) (w : RM) (R : K1) : Prop :=
 wM R a0 w
theorem Fh {a0 : RN} {w : RM} {R : K1} (h : Fu a0 w R) : fK pg sQ #[a0] w R := by
 refine AX (ann := AT) Tryd.f33 zI [a0] Cj 15 TrydM.mixed Tryd.func33 ?_
 exact (El _ _ _ R (fun _ _ h => h) h)
def tH : FA := ⟨jK, fun i => .leaf ([], []) []⟩
def tV : List ResultVar := [.tmp 4, .tmp 5]
noncomputable def sL : Code := iK Tryd.f34
def oK (R : K1) (gK oY : RN) (w : RM) : Prop :=
 dQ pg (jP gK) w fun b8 w =>
 dQ pg (fJ 47 b8 0) w fun b9 w =>
 dQ pg (fM 45 b9) w fun c0 w =>
 fK pg iN #[c0] w fun c1 w =>
 dQ pg (fD .gtr 3 fI fI oY c1) w fun c2 w =>
 kK c2
  (R (.tuple #[(.slice none 0 0), (RO 10)]) w)
  (dQ pg (jP gK) w fun c4 w =>
  dQ pg (fJ 47 c4 0) w fun c5 w =>
  dQ pg (fM 45 c5) w fun c6 w =>
  fK pg jG #[c6, oY] w fun c8 w =>
  R (.tuple #[c8, (RO 0)]) w)
theorem AN (R : K1) (hr : HR tV R Q) (h : oK R (g 0) (g 1) w) : fY pg tH sL Q g w :=
 jQ (kn := no) (l := []) h kV hr trivial
def yQ (a0 a1 : RN) (w : RM) (R : K1) : Prop :=
 oK R a0 a1 w
theorem Bm {a0 a1 : RN} {w : RM} {R : K1} (h : yQ a0 a1 w R) : fK pg jK #[a0, a1] w R := by
 refine AX (ann := tH) Tryd.f34 sL [a0, a1] tV 19 TrydM.mixed Tryd.func34 ?_
 exact (AN _ _ _ R (fun _ _ h => h) h)
def wS : FA := ⟨pD, fun i => .leaf ([], []) []⟩
def xU : List ResultVar := [.cell 2 90, .tmp 3]
noncomputable def vN : Code := iK Tryd.f35
def rS (R : K1) (iE : RN) (w : RM) : Prop :=
 dQ pg (lZ 90) w fun b2 w =>
 fK pg iW #[iE] w fun b7 w =>
 fK pg fX #[b7, (RO 3)] w fun b9 w =>
 dQ pg (jC 40 3 b9) w fun c0 w =>
 fK pg gU #[b7] w fun c3 w =>
 dQ pg (fD .neq 26 (.tmp 13) (.const (RO 0)) c3 (RO 0)) w fun c4 w =>
 kK c4
  (dQ pg (iI 90 []) w fun c5 w =>
  fK pg gU #[b7] w fun c7 w =>
  dQ pg (fR 90 b2 c5) w fun _u w =>
  FT pg 90 b2 w fun r0 => R (.tuple #[r0, c7]) w)
  (dQ pg (fD .shr 3 fI fI c0 (.int .u64 1)) w fun d0 w =>
  dQ pg (fD .and 3 fI fI d0 (RO 3)) w fun d1 w =>
  dQ pg (fD .gtr 3 fI fI d1 (RO 2)) w fun d2 w =>
  kK d2
   (dQ pg (iI 90 []) w fun d3 w =>
   dQ pg (fR 90 b2 d3) w fun _u w =>
   FT pg 90 b2 w fun r0 => R (.tuple #[r0, (RO 11)]) w)
   (dQ pg (fD .and 3 fI fI c0 (RO 1)) w fun d5 w =>
   dQ pg (fD .eql 3 (.tmp 25) (.const (RO 1)) d5 (RO 1)) w fun d6 w =>
   dQ pg (fD .shr 3 fI fI c0 (.int .u64 1)) w fun d8 w =>
   dQ pg (fD .and 3 fI fI d8 (RO 3)) w fun d9 w =>
   dQ pg (fD .shr 3 fI fI c0 (.int .u64 3)) w fun e1 w =>
   dQ pg (iI 90 [(0, d6), (1, d9), (2, e1)]) w fun e2 w =>
   dQ pg (fR 90 b2 e2) w fun _u w =>
   FT pg 90 b2 w fun r0 => R (.tuple #[r0, (RO 0)]) w))
theorem Cy (R : K1) (hr : HR xU R Q) (h : rS R (g 0) w) : fY pg wS vN Q g w :=
 jQ (kn := no) (l := []) h kV hr trivial
def Ck (a0 : RN) (w : RM) (R : K1) : Prop :=
 rS R a0 w
theorem C3 {a0 : RN} {w : RM} {R : K1} (h : Ck a0 w R) : fK pg pD #[a0] w R := by
 refine AX (ann := wS) Tryd.f35 vN [a0] xU 33 TrydM.mixed Tryd.func35 ?_
 exact (Cy _ _ _ R (fun _ _ h => h) h)
def hG : FA := ⟨mG, fun i => match Nat.beq i 9 with | true => .leaf ([7], []) [(false, []), (false, []), (false, []), (false, []), (false, []), (false, []), (false, []), (true, []), (false, []), (false, [])] | false => .leaf ([], []) []⟩
def oC : List ResultVar := [.tmp 4]
noncomputable def gX : Code := iK Tryd.f36
def lT (R : K1) (iC : RN) (w : RM) : Prop :=
 R iC w
theorem zZ (R : K1) (hr : HR oC R Q) (h : lT R (g 7) w) : fY pg hG (dU 1 (dU 2 (dU 2 (dU 2 gX)))) Q g w :=
 jQ (kn := no) (l := []) h kV hr trivial
def lR (kn : K2) (k0 : K1) (iC ID : RN) (w : RM) : Prop :=
 dQ pg (lQ .len #[22] 3 [iC]) w fun e6 w =>
 dQ pg (fD .lss 3 fI fI ID e6) w fun e7 w =>
 kK e7
  ((dr w) = (dr w) /\
  (dr w) = (dr w) /\
  (dr w) = (dr w) /\
  dQ pg (iB 22 iC (some ID) none none) (dr w) fun f1 w_ => w_ = (dr w) /\
  (dr w) = (dr w) /\
  (dr w) = (dr w) /\
  dQ pg (iB 22 iC none (some ID) none) (dr w) fun f4 w_ => w_ = (dr w) /\
  dQ pg (lQ .copy #[22, 22] 3 [f1, f4]) (dr w) fun f5 MC =>
  dQ pg (fD .add 3 fI fI ID f5) MC fun f6 w_ => w_ = MC /\
  MC = MC /\
  kn iC f6 MC)
  (k0 iC w)
theorem Aw (kn : K2) (k0 : K1) (hn : N2 Q kn 7 8) (h0 : E1 Q k0 0 7) (h : lR kn k0 (g 7) (g 8) w) : fY pg hG (bI (bI (fF 1 (dU 2 (dU 2 (dU 2 gX)))))) Q g w :=
 jQ (kr := no) (l := [(0, fun g w => k0 (g 7) w)]) h hn kV ⟨h0, trivial⟩
def oS (k0 : K1) (iC ID : RN) (w : RM) : Prop :=
 iO (fun (X : RN -> K0) (t : RN) (w : RM) => lR (fun _ ID w => X ID w) k0 iC t w) ID w
theorem Am (k0 : K1) (h0 : E1 Q k0 0 7) (h : oS k0 (g 7) (g 8) w) : fY pg hG (bI (fF 1 (dU 2 (dU 2 (dU 2 gX))))) Q g w := by
 refine IU (fun g : Env => g 8) (fun X t w => lR (fun _ ID w => X ID w) k0 (g 7) t w) h (fun X g1 w1 ha hL => ?_)
 rw [<- CB 7 ha] at hL
 exact (Aw _ g1 w1 (fun _ ID w => X ID w) k0 (fun _ _ h => h) h0 hL)
def oD (kn : K1) (iC ID : RN) (w : RM) : Prop :=
 oS kn iC ID w
def lV (R : K1) (iC ID : RN) (w : RM) : Prop :=
 oD (fun iC w => lT R iC w) iC ID w
theorem AO (kn : K1) (hn : N1 Q kn 7) (h : oD kn (g 7) (g 8) w) : fY pg hG (fF 1 (dU 2 (dU 2 (dU 2 gX)))) Q g w :=
 Hm 0 (Am _ g w kn hn h)
def oH (kn : K2) (qU Ky : RN) (w : RM) : Prop :=
 dQ pg (jC 35 3 Ky) w fun d9 w =>
 dQ pg (CN 22 d9 d9) w fun e0 w =>
 dQ pg (lQ .copy #[22, 22] 3 [e0, qU]) w fun e3 w =>
 kn e0 e3 w
theorem AJ (kn : K2) (hn : N2 Q kn 7 8) (h : oH kn (g 0) (g 6) w) : fY pg hG (fF 2 (dU 2 (dU 2 gX))) Q g w :=
 jQ (kr := no) (l := []) h hn kV trivial
def oJ (R : K1) (qU Ky : RN) (w : RM) : Prop :=
 oH (fun iC ID w => lV R iC ID w) qU Ky w
def oT (kn : K2) (qU qC : RN) (w : RM) : Prop :=
 dQ pg (lQ .len #[22] 3 [qU]) w fun c4 w =>
 dQ pg (jC 3 35 c4) w fun c5 w =>
 dQ pg (jC 3 35 qC) w fun c7 w =>
 fK pg rE #[c5, c7] w fun c8 w =>
 dQ pg (iJ c8 0) w fun c9 w =>
 dQ pg (iJ c8 1) w fun d0 w =>
 dQ pg (fD .gtr 35 fI fI c9 (.int .u64 0)) w fun d2 w =>
 Gd (lX d2 false) (fun K => K d0 w) w fun d4 w =>
 Gd (lX d2 false) (fun K => dQ pg (fD .gtr 35 fI fI d4 (.int .u64 9223372036854775807)) w K) w fun d5 w =>
 dQ pg (nF d2 (.bool true) d5) w fun d6 w =>
 kK d6
  (dQ pg (Mw 9 (.string ⟨#[116, 104, 101, 32, 114, 101, 115, 117, 108, 116, 32, 111, 102, 32, 40, 108, 101, 110, 40, 120, 41, 32, 42, 32, 99, 111, 117, 110, 116, 41, 32, 111, 118, 101, 114, 102, 108, 111, 119, 115]⟩)) w fun d7 w =>
  dQ pg (V (Instr.panic d7)) w fun _u w =>
  kn qU d0 w)
  (kn qU d0 w)
theorem AE (kn : K2) (hn : N2 Q kn 0 6) (h : oT kn (g 0) (g 1) w) : fY pg hG (fF 2 (dU 2 gX)) Q g w :=
 jQ (kr := no) (l := []) h hn kV trivial
def oN (R : K1) (qU qC : RN) (w : RM) : Prop :=
 oT (fun qU Ky w => oJ R qU Ky w) qU qC w
def nK (kn : K2) (qU qC : RN) (w : RM) : Prop :=
 dQ pg (fD .lss 3 fI fI qC (RO 0)) w fun c0 w =>
 kK c0
  (dQ pg (Mw 9 (.string ⟨#[99, 97, 110, 110, 111, 116, 32, 98, 101, 32, 110, 101, 103, 97, 116, 105, 118, 101]⟩)) w fun c1 w =>
  dQ pg (V (Instr.panic c1)) w fun _u w =>
  kn qU qC w)
  (kn qU qC w)
theorem zC (kn : K2) (hn : N2 Q kn 0 1) (h : nK kn (g 0) (g 1) w) : fY pg hG (fF 2 gX) Q g w :=
 jQ (kr := no) (l := []) h hn kV trivial
def nL (R : K1) (qU qC : RN) (w : RM) : Prop :=
 nK (fun qU qC w => oN R qU qC w) qU qC w
theorem zF (R : K1) (hr : HR oC R Q) (h : nL R (g 0) (g 1) w) : fY pg hG gX Q g w :=
 oA 2 (zC _ g w (oN R) (fun g w h => fL (oA 2 (AE _ g w (oJ R) (fun g w h => fL (oA 2 (AJ _ g w (lV R) (fun g w h => fL (oA 1 (AO _ g w (lT R) (fun g w h => fL (zZ _ g w R hr h)) h))) h))) h))) h)
def yO (a0 a1 : RN) (w : RM) (R : K1) : Prop :=
 nL R a0 a1 w
theorem Bn {a0 a1 : RN} {w : RM} {R : K1} (h : yO a0 a1 w R) : fK pg mG #[a0, a1] w R := by
 refine AX (ann := hG) Tryd.f36 gX [a0, a1] oC 48 TrydM.mixed Tryd.func36 ?_
 exact (zF _ _ _ R (fun _ _ h => h) h)
def HW : FA := ⟨Dj, fun i => .leaf ([], []) []⟩
def IN : List ResultVar := [.tmp 2]
noncomputable def Gi : Code := iK Tryd.f38
def Gc (R : K1) (iE : RN) (w : RM) : Prop :=
 fK pg Dm #[] w fun b4 w =>
 fK pg qG #[b4, iE] w fun b7 w =>
 fK pg tG #[b4] w fun b9 w =>
 R b9 w
theorem I0 (R : K1) (hr : HR IN R Q) (h : Gc R (g 0) w) : fY pg HW Gi Q g w :=
 jQ (kn := no) (l := []) h kV hr trivial
def MY (a0 : RN) (w : RM) (R : K1) : Prop :=
 Gc R a0 w
theorem JK {a0 : RN} {w : RM} {R : K1} (h : MY a0 w R) : fK pg Dj #[a0] w R := by
 refine AX (ann := HW) Tryd.f38 Gi [a0] IN 10 TrydM.mixed Tryd.func38 ?_
 exact (I0 _ _ _ R (fun _ _ h => h) h)
def zU : FA := ⟨rE, fun i => .leaf ([], []) []⟩
def Bh : List ResultVar := [.tmp 4, .tmp 5]
noncomputable def yS : Code := iK Tryd.f39
def uO (R : K1) (qU Pf : RN) (w : RM) : Prop :=
 kK (.bool false)
  (dQ pg (jC 35 70 qU) w fun c2 w =>
  dQ pg (jC 35 70 Pf) w fun c4 w =>
  fK pg Fc #[c2, c4] w fun c5 w =>
  dQ pg (iJ c5 0) w fun c6 w =>
  dQ pg (iJ c5 1) w fun c7 w =>
  dQ pg (jC 70 35 c6) w fun c9 w =>
  dQ pg (jC 70 35 c7) w fun d1 w =>
  R (.tuple #[c9, d1]) w)
  (fK pg oZ #[qU, Pf] w fun d5 w =>
  dQ pg (iJ d5 0) w fun d6 w =>
  dQ pg (iJ d5 1) w fun d7 w =>
  R (.tuple #[d6, d7]) w)
theorem Dx (R : K1) (hr : HR Bh R Q) (h : uO R (g 0) (g 1) w) : fY pg zU yS Q g w :=
 jQ (kn := no) (l := []) h kV hr trivial
def DP (a0 a1 : RN) (w : RM) (R : K1) : Prop :=
 uO R a0 a1 w
theorem EB {a0 a1 : RN} {w : RM} {R : K1} (h : DP a0 a1 w R) : fK pg rE #[a0, a1] w R := by
 refine AX (ann := zU) Tryd.f39 yS [a0, a1] Bh 30 TrydM.mixed Tryd.func39 ?_
 exact (Dx _ _ _ R (fun _ _ h => h) h)
def Gy : FA := ⟨Dm, fun i => .leaf ([], []) []⟩
def HB : List ResultVar := [.tmp 0]
noncomputable def Ff : Code := iK Tryd.f43
def D8 (R : K1)  (w : RM) : Prop :=
 dQ pg (fD .add 40 fI fI (.int .u64 11400714785074694791) (.int .u64 14029467366897019727)) w fun b3 w =>
 dQ pg (Nv .neg (.int .u64 11400714785074694791)) w fun b5 w =>
 dQ pg (iI 49 [(0, b3), (1, (.int .u64 14029467366897019727)), (2, (.int .u64 0)), (3, b5)]) w fun b6 w =>
 dQ pg (iI 138 [(0, b6)]) w fun b7 w =>
 dQ pg (I6 138 b7) w fun b8 w =>
 R b8 w
theorem Ih (R : K1) (hr : HR HB R Q) (h : D8 R w) : fY pg Gy Ff Q g w :=
 jQ (kn := no) (l := []) h kV hr trivial
def Lu (w : RM) (R : K1) : Prop :=
 D8 R w
theorem I5 {w : RM} {R : K1} (h : Lu w R) : fK pg Dm #[] w R := by
 refine AX (ann := Gy) Tryd.f43 Ff [] HB 9 TrydM.mixed Tryd.func43 ?_
 exact (Ih _ _ _ R (fun _ _ h => h) h)
def gR : FA := ⟨qG, fun i => match Nat.beq i 3 with | true => .leaf ([9], []) [(false, []), (false, []), (false, []), (false, []), (false, []), (false, []), (false, []), (false, []), (false, []), (true, []), (false, [])] | false => match Nat.beq i 10 with | true => .leaf ([17, 18, 22], [(4, 17), (5, 17), (6, 17), (7, 17), (17, 19), (17, 20), (18, 19), (18, 20)]) [(false, []), (false, []), (false, []), (false, []), (false, []), (false, []), (false, []), (false, []), (false, []), (false, []), (false, []), (false, []), (false, []), (false, []), (false, []), (false, []), (false, []), (true, [9, 10, 11, 12]), (true, []), (false, [0, 1]), (false, [1, 2]), (false, []), (true, [])] | false => .leaf ([], []) []⟩
def tL : List ResultVar := []
noncomputable def gJ : Code := iK Tryd.f44
def kR (kn : K2) (jU qT : RN) (w : RM) : Prop :=
 dQ pg (jP jU) w fun l4 w =>
 dQ pg (fJ 138 l4 2) w fun l5 w =>
 dQ pg (fR 3 l5 (RO 0)) w fun _u w =>
 kn jU qT w
theorem C8 (kn : K2) (hn : N2 Q kn 0 1) (h : kR kn (g 0) (g 1) w) : fY pg gR (dU 1 (cT (dU 4 (bI (dU 1 (bI (bI (dU 2 gJ)))))))) Q g w :=
 jQ (kr := no) (l := []) h hn kV trivial
def mK (kn : K3) (k2 : K2) (jU qT f7 : RN) (w : RM) : Prop :=
 dQ pg (fD .lss 3 fI fI f7 (RO 4)) w fun f8 w =>
 kK f8
  ((dr w) = (dr w) /\
  (dr w) = (dr w) /\
  (dr w) = (dr w) /\
  (dr w) = (dr w) /\
  dQ pg (jP jU) (dr w) fun i4 w_ => w_ = (dr w) /\
  dQ pg (fJ 138 i4 0) (dr w) fun i5 w_ => w_ = (dr w) /\
  dQ pg (iP 49 i5 f7) (dr w) fun i6 w_ => w_ = (dr w) /\
  dQ pg (fM 40 i6) (dr w) fun i7 w_ => w_ = (dr w) /\
  (dr w) = (dr w) /\
  dQ pg (jP jU) (dr w) fun i9 w_ => w_ = (dr w) /\
  dQ pg (fJ 138 i9 1) (dr w) fun j0 w_ => w_ = (dr w) /\
  (dr w) = (dr w) /\
  dQ pg (fD .mul 3 fI fI (RO 8) f7) (dr w) fun j2 w_ => w_ = (dr w) /\
  (dr w) = (dr w) /\
  dQ pg (fD .mul 3 fI fI (RO 8) f7) (dr w) fun j4 w_ => w_ = (dr w) /\
  dQ pg (fD .add 3 fI fI j4 (RO 8)) (dr w) fun j5 w_ => w_ = (dr w) /\
  dQ pg (iB 136 j0 (some j2) (some j5) none) (dr w) fun j6 w_ => w_ = (dr w) /\
  fK pg qD #[j6] (dr w) fun j7 Ea =>
  (fE pg (fM 40 i6) i7 Ea /\ fE pg (iP 49 i5 f7) i6 Ea /\ fE pg (fJ 138 i4 0) i5 Ea /\ fE pg (jP jU) i4 Ea /\ True) /\
  fK pg sI #[i7, j7] Ea fun j8 Ey =>
  dQ pg (jP jU) Ey fun j9 w_ => w_ = Ey /\
  (fE pg (jP jU) j9 Ea /\ fE pg (jP jU) j9 (dr w) /\ True) /\
  dQ pg (fJ 138 j9 0) Ey fun l0 w_ => w_ = Ey /\
  (fE pg (fJ 138 j9 0) l0 Ea /\ fE pg (fJ 138 j9 0) l0 (dr w) /\ True) /\
  dQ pg (iP 49 l0 f7) Ey fun l1 w_ => w_ = Ey /\
  dQ pg (fR 40 l1 j8) Ey fun _u22 O6 =>
  dQ pg (fD .add 3 fI fI f7 (RO 1)) O6 fun l2 w =>
  kn jU qT l2 w)
  (k2 jU qT w)
theorem CS (kn : K3) (k2 : K2) (hn : N3 Q kn 0 1 47) (h2 : E2 Q k2 2 0 1) (h : mK kn k2 (g 0) (g 1) (g 47) w) : fY pg gR (bI (bI (dU 1 (fF 1 (cT (dU 4 (bI (dU 1 (bI (bI (dU 2 gJ))))))))))) Q g w :=
 jQ (kr := no) (l := [(2, fun g w => k2 (g 0) (g 1) w)]) h hn kV ⟨h2, trivial⟩
def sU (k2 : K2) (jU qT f7 : RN) (w : RM) : Prop :=
 iO (fun (X : RN -> K0) (t : RN) (w : RM) => mK (fun _ _ f7 w => X f7 w) k2 jU qT t w) f7 w
theorem Db (k2 : K2) (h2 : E2 Q k2 2 0 1) (h : sU k2 (g 0) (g 1) (g 47) w) : fY pg gR (bI (dU 1 (fF 1 (cT (dU 4 (bI (dU 1 (bI (bI (dU 2 gJ)))))))))) Q g w := by
 refine IU (fun g : Env => g 47) (fun X t w => mK (fun _ _ f7 w => X f7 w) k2 (g 0) (g 1) t w) h (fun X g1 w1 ha hL => ?_)
 rw [<- CB 0 ha, <- CB 1 ha] at hL
 exact (CS _ g1 w1 (fun _ _ f7 w => X f7 w) k2 (fun _ _ h => h) h2 hL)
def sV (kn : K2) (jU qT f7 : RN) (w : RM) : Prop :=
 sU kn jU qT f7 w
def tK (kn : K3) (jU qT : RN) (w : RM) : Prop :=
 kn jU qT (RO 0) w
theorem Dh (kn : K3) (hn : N3 Q kn 0 1 47) (h : tK kn (g 0) (g 1) w) : fY pg gR (fF 1 (fF 1 (cT (dU 4 (bI (dU 1 (bI (bI (dU 2 gJ))))))))) Q g w :=
 jQ (kr := no) (l := []) h hn kV trivial
def pB (kn : K2) (jU qT : RN) (w : RM) : Prop :=
 tK (fun jU qT f7 w => sV kn jU qT f7 w) jU qT w
def pC (kn : K2) (jU qT : RN) (w : RM) : Prop :=
 pB (fun jU qT w => kR kn jU qT w) jU qT w
theorem CZ (kn : K2) (hn : N2 Q kn 0 1) (h : pB kn (g 0) (g 1) w) : fY pg gR (fF 1 (cT (dU 4 (bI (dU 1 (bI (bI (dU 2 gJ)))))))) Q g w :=
 oA 1 (Dh _ g w (sV kn) (fun g w h => fL (Hm 2 (Db _ g w kn hn h))) h)
def mF (kn : K2) (jU qT : RN) (w : RM) : Prop :=
 kn jU qT w
theorem C7 (kn : K2) (hn : N2 Q kn 0 1) (h : mF kn (g 0) (g 1) w) : fY pg gR (cE (dU 4 (bI (dU 1 (bI (bI (dU 2 gJ))))))) Q g w :=
 jQ (kr := no) (l := []) h hn kV trivial
def mC (kn : K2) (jU qT f6 : RN) (w : RM) : Prop :=
 kK f6 (pC kn jU qT w) (mF kn jU qT w)
def lJ (kn : K3) (jU qT : RN) (w : RM) : Prop :=
 (dr w) = (dr w) /\
 dQ pg (jP jU) (dr w) fun d2 w_ => w_ = (dr w) /\
 dQ pg (fJ 138 d2 1) (dr w) fun d3 w_ => w_ = (dr w) /\
 (dr w) = (dr w) /\
 dQ pg (jP jU) (dr w) fun d5 w_ => w_ = (dr w) /\
 dQ pg (fJ 138 d5 2) (dr w) fun d6 w_ => w_ = (dr w) /\
 dQ pg (fM 3 d6) (dr w) fun d7 w_ => w_ = (dr w) /\
 dQ pg (iB 136 d3 (some d7) none none) (dr w) fun d8 w_ => w_ = (dr w) /\
 (dr w) = (dr w) /\
 dQ pg (lQ .copy #[22, 22] 3 [d8, qT]) (dr w) fun e0 Pa =>
 Pa = Pa /\
 dQ pg (jP jU) Pa fun e2 w =>
 dQ pg (fJ 138 e2 2) w fun e3 w =>
 dQ pg (fM 3 e3) w fun e4 w =>
 dQ pg (fD .add 3 fI fI e4 e0) w fun e6 w =>
 dQ pg (jP jU) w fun e7 w =>
 dQ pg (fJ 138 e7 2) w fun e8 w =>
 dQ pg (fR 3 e8 e6) w fun _u w =>
 dQ pg (iB 22 qT (some e0) none none) w fun f1 w =>
 dQ pg (jP jU) w fun f3 w =>
 dQ pg (fJ 138 f3 2) w fun f4 w =>
 dQ pg (fM 3 f4) w fun f5 w =>
 dQ pg (fD .eql 3 (.tmp 45) (.const (RO 32)) f5 (RO 32)) w fun f6 w =>
 kn jU f1 f6 w
theorem Cv (kn : K3) (hn : N3 Q kn 0 1 46) (h : lJ kn (g 0) (g 1) w) : fY pg gR (fF 4 (bI (dU 1 (bI (bI (dU 2 gJ)))))) Q g w :=
 jQ (kr := no) (l := []) h hn kV trivial
def nP (kn : K2) (jU qT : RN) (w : RM) : Prop :=
 lJ (fun jU qT f6 w => mC kn jU qT f6 w) jU qT w
def lP (kn : K2) (jU qT : RN) (w : RM) : Prop :=
 nP kn jU qT w
def lO (kn : K2) (k0 : K0) (jU qT : RN) (w : RM) : Prop :=
 dQ pg (lQ .len #[22] 3 [qT]) w fun c9 w =>
 dQ pg (fD .gtr 3 fI fI c9 (RO 0)) w fun d0 w =>
 kK d0
  (kn jU qT w)
  (k0 w)
theorem CJ (kn : K2) (k0 : K0) (hn : N2 Q kn 0 1) (h0 : E0 Q k0 0) (h : lO kn k0 (g 0) (g 1) w) : fY pg gR (fF 1 (bI (bI (dU 2 gJ)))) Q g w :=
 jQ (kr := no) (l := [(0, fun g w => k0 w)]) h hn kV ⟨h0, trivial⟩
def kG (kn : K2) (k0 : K0) (jU qT : RN) (w : RM) : Prop :=
 lO (fun jU qT w => lP kn jU qT w) k0 jU qT w
def nJ (k0 : K0) (jU qT : RN) (w : RM) : Prop :=
 iO (fun (X : RN -> K0) (t : RN) (w : RM) => kG (fun _ qT w => X qT w) k0 jU t w) qT w
theorem CM (kn : K2) (k0 : K0) (hn : N2 Q kn 0 1) (h0 : E0 Q k0 0) (h : kG kn k0 (g 0) (g 1) w) : fY pg gR (bI (bI (dU 2 gJ))) Q g w :=
 oA 1 (CJ _ g w (lP kn) k0 (fun g w h => fL (Hm 1 (oA 4 (Cv _ g w (mC kn) (fun g w h => fL (P9 (.tmp 46) (fun h => (oA 1 (CZ _ g w (kR kn) (fun g w h => fL (C8 _ g w kn hn h)) h))) (fun h => (C7 _ g w kn hn h)) h)) h)))) h0 h)
theorem CE (k0 : K0) (h0 : E0 Q k0 0) (h : nJ k0 (g 0) (g 1) w) : fY pg gR (bI (dU 2 gJ)) Q g w := by
 refine IU (fun g : Env => g 1) (fun X t w => kG (fun _ qT w => X qT w) k0 (g 0) t w) h (fun X g1 w1 ha hL => ?_)
 rw [<- CB 0 ha] at hL
 exact (CM _ g1 w1 (fun _ qT w => X qT w) k0 (fun _ _ h => h) h0 hL)
def rY (kn : K0) (jU qT : RN) (w : RM) : Prop :=
 nJ kn jU qT w
def rP (kn : K2) (R : K1) (jU qT : RN) (w : RM) : Prop :=
 dQ pg (fD .eql 106 (.tmp 6) (.const (.pointer none)) jU (.pointer none)) w fun b7 w =>
 kK b7
  (R (.tuple #[]) w)
  (dQ pg (jP jU) w fun b9 w =>
  dQ pg (fJ 138 b9 3) w fun c0 w =>
  dQ pg (fM 40 c0) w fun c1 w =>
  dQ pg (lQ .len #[22] 3 [qT]) w fun c3 w =>
  dQ pg (jC 3 40 c3) w fun c4 w =>
  dQ pg (fD .add 40 fI fI c1 c4) w fun c5 w =>
  dQ pg (jP jU) w fun c6 w =>
  dQ pg (fJ 138 c6 3) w fun c7 w =>
  dQ pg (fR 40 c7 c5) w fun _u w =>
  kn jU qT w)
theorem CF (kn : K2) (R : K1) (hn : N2 Q kn 0 1) (hr : HR tL R Q) (h : rP kn R (g 0) (g 1) w) : fY pg gR (fF 2 gJ) Q g w :=
 jQ (l := []) h hn hr trivial
def rV (kn : K0) (R : K1) (jU qT : RN) (w : RM) : Prop :=
 rP (fun jU qT w => rY kn jU qT w) R jU qT w
theorem Cs (kn : K0) (R : K1) (hn : N0 Q kn) (hr : HR tL R Q) (h : rV kn R (g 0) (g 1) w) : fY pg gR gJ Q g w :=
 oA 2 (CF _ g w (rY kn) R (fun g w h => fL (Hm 0 (CE _ g w kn hn h))) hr h)
def C2 (a0 a1 : RN) (w : RM) (R : K1) : Prop :=
 rV (fun  w => R (.tuple #[]) w) R a0 a1 w
theorem DF {a0 a1 : RN} {w : RM} {R : K1} (h : C2 a0 a1 w R) : fK pg qG #[a0, a1] w R := by
 refine AX (ann := gR) Tryd.f44 gJ [a0, a1] tL 76 TrydM.mixed Tryd.func44 ?_
 exact (Cs _ _ _ (fun  w => R (.tuple #[]) w) R (fun _ _ h => h) (fun _ _ h => h) h)
def iA : FA := ⟨tG, fun i => match Nat.beq i 3 with | true => .leaf ([1], [(1, 3), (1, 4), (1, 5)]) [(false, []), (true, []), (false, []), (false, [1]), (false, [2]), (false, [3]), (false, []), (false, [])] | false => match Nat.beq i 4 with | true => .leaf ([], []) [(false, []), (false, []), (false, []), (false, []), (false, []), (false, []), (false, []), (false, []), (false, [])] | false => .leaf ([], []) []⟩
def rO : List ResultVar := [.tmp 2]
noncomputable def hZ : Code := iK Tryd.f45
def rH (R : K1) (iQ : RN) (w : RM) : Prop :=
 dQ pg (fD .shr 40 fI fI iQ (.int .u64 33)) w fun j9 w =>
 dQ pg (fD .xor 40 fI fI iQ j9) w fun l0 w =>
 dQ pg (fD .mul 40 fI fI l0 (.int .u64 14029467366897019727)) w fun l1 w =>
 dQ pg (fD .shr 40 fI fI l1 (.int .u64 29)) w fun l4 w =>
 dQ pg (fD .xor 40 fI fI l1 l4) w fun l5 w =>
 dQ pg (fD .mul 40 fI fI l5 (.int .u64 1609587929392839161)) w fun l6 w =>
 dQ pg (fD .shr 40 fI fI l6 (.int .u64 32)) w fun l9 w =>
 dQ pg (fD .xor 40 fI fI l6 l9) w fun m0 w =>
 R m0 w
theorem Ex (R : K1) (hr : HR rO R Q) (h : rH R (g 3) w) : fY pg iA (dU 1 (dU 1 (dU 1 (dU 4 hZ)))) Q g w :=
 jQ (kn := no) (l := []) h kV hr trivial
def nU (kn : K4) (k2 : K1) (iQ i3 i4 i5 : RN) (w : RM) : Prop :=
 dQ pg (fD .lss 3 fI fI i5 i4) w fun i6 w =>
 kK i6
  (dQ pg (iP 22 i3 i5) w fun i7 w =>
  dQ pg (fM 5 i7) w fun i8 w =>
  dQ pg (jC 5 40 i8) w fun j1 w =>
  dQ pg (fD .mul 40 fI fI j1 (.int .u64 2870177450012600261)) w fun j2 w =>
  dQ pg (fD .xor 40 fI fI iQ j2) w fun j3 w =>
  fK pg hY #[j3, (RO 11)] w fun j4 w =>
  dQ pg (fD .mul 40 fI fI j4 (.int .u64 11400714785074694791)) w fun j5 w =>
  dQ pg (fD .add 3 fI fI i5 (RO 1)) w fun j6 w =>
  kn j5 i3 i4 j6 w)
  (k2 iQ w)
theorem Es (kn : K4) (k2 : K1) (hn : N4 Q kn 3 53 54 55) (h2 : E1 Q k2 2 3) (h : nU kn k2 (g 3) (g 53) (g 54) (g 55) w) : fY pg iA (bI (bI (dU 1 (fF 1 (dU 1 (dU 1 (dU 4 hZ))))))) Q g w :=
 jQ (kr := no) (l := [(2, fun g w => k2 (g 3) w)]) h hn kV ⟨h2, trivial⟩
def wA (k2 : K1) (iQ i3 i4 i5 : RN) (w : RM) : Prop :=
 iO (fun (X : (RN × RN) -> K0) (t : RN × RN) (w : RM) => nU (fun iQ _ _ i5 w => X (iQ, i5) w) k2 t.1 i3 i4 t.2 w) (iQ, i5) w
theorem Ev (k2 : K1) (h2 : E1 Q k2 2 3) (h : wA k2 (g 3) (g 53) (g 54) (g 55) w) : fY pg iA (bI (dU 1 (fF 1 (dU 1 (dU 1 (dU 4 hZ)))))) Q g w := by
 refine IU (fun g : Env => (g 3, g 55)) (fun X t w => nU (fun iQ _ _ i5 w => X (iQ, i5) w) k2 t.1 (g 53) (g 54) t.2 w) h (fun X g1 w1 ha hL => ?_)
 rw [<- CB 53 ha, <- CB 54 ha] at hL
 exact (Es _ g1 w1 (fun iQ _ _ i5 w => X (iQ, i5) w) k2 (fun _ _ h => h) h2 hL)
def wN (kn : K1) (iQ i3 i4 i5 : RN) (w : RM) : Prop :=
 wA kn iQ i3 i4 i5 w
def vV (kn : K4) (iQ AS : RN) (w : RM) : Prop :=
 dQ pg (lQ .len #[22] 3 [AS]) w fun i4 w =>
 kn iQ AS i4 (RO 0) w
theorem DY (kn : K4) (hn : N4 Q kn 3 53 54 55) (h : vV kn (g 3) (g 4) w) : fY pg iA (fF 1 (fF 1 (dU 1 (dU 1 (dU 4 hZ))))) Q g w :=
 jQ (kr := no) (l := []) h hn kV trivial
def vU (kn : K1) (iQ AS : RN) (w : RM) : Prop :=
 vV (fun iQ i3 i4 i5 w => wN kn iQ i3 i4 i5 w) iQ AS w
def rK (R : K1) (iQ AS : RN) (w : RM) : Prop :=
 vU (fun iQ w => rH R iQ w) iQ AS w
theorem Eu (kn : K1) (hn : N1 Q kn 3) (h : vU kn (g 3) (g 4) w) : fY pg iA (fF 1 (dU 1 (dU 1 (dU 4 hZ)))) Q g w :=
 oA 1 (DY _ g w (wN kn) (fun g w h => fL (Hm 2 (Ev _ g w kn hn h))) h)
def rL (kn : K2) (iQ AS : RN) (w : RM) : Prop :=
 dQ pg (lQ .len #[22] 3 [AS]) w fun f0 w =>
 dQ pg (fD .geq 3 fI fI f0 (RO 4)) w fun f1 w =>
 kK f1
  (dQ pg (iB 22 AS none (some (RO 4)) none) w fun f4 w =>
  fK pg qD #[f4] w fun f5 w =>
  dQ pg (fD .mul 40 fI fI f5 (.int .u64 11400714785074694791)) w fun f6 w =>
  dQ pg (fD .xor 40 fI fI iQ f6) w fun f7 w =>
  fK pg hY #[f7, (RO 23)] w fun f8 w =>
  dQ pg (fD .mul 40 fI fI f8 (.int .u64 14029467366897019727)) w fun f9 w =>
  dQ pg (fD .add 40 fI fI f9 (.int .u64 1609587929392839161)) w fun i0 w =>
  dQ pg (iB 22 AS (some (RO 4)) none none) w fun i2 w =>
  kn i0 i2 w)
  (kn iQ AS w)
theorem Ef (kn : K2) (hn : N2 Q kn 3 4) (h : rL kn (g 3) (g 4) w) : fY pg iA (fF 1 (dU 1 (dU 4 hZ))) Q g w :=
 jQ (kr := no) (l := []) h hn kV trivial
def rN (R : K1) (iQ AS : RN) (w : RM) : Prop :=
 rL (fun iQ AS w => rK R iQ AS w) iQ AS w
def nB (kn : K2) (k0 : K2) (iQ AS : RN) (w : RM) : Prop :=
 dQ pg (lQ .len #[22] 3 [AS]) w fun d6 w =>
 dQ pg (fD .geq 3 fI fI d6 (RO 8)) w fun d7 w =>
 kK d7
  (dQ pg (iB 22 AS none (some (RO 8)) none) w fun e0 w =>
  fK pg qD #[e0] w fun e1 w =>
  fK pg sI #[(.int .u64 0), e1] w fun e2 w =>
  dQ pg (fD .xor 40 fI fI iQ e2) w fun e3 w =>
  fK pg hY #[e3, (RO 27)] w fun e4 w =>
  dQ pg (fD .mul 40 fI fI e4 (.int .u64 11400714785074694791)) w fun e5 w =>
  dQ pg (fD .add 40 fI fI e5 (.int .u64 9650029242287828579)) w fun e6 w =>
  dQ pg (iB 22 AS (some (RO 8)) none none) w fun e8 w =>
  kn e6 e8 w)
  (k0 iQ AS w)
theorem DB (kn : K2) (k0 : K2) (hn : N2 Q kn 3 4) (h0 : E2 Q k0 0 3 4) (h : nB kn k0 (g 3) (g 4) w) : fY pg iA (bI (bI (fF 1 (dU 4 hZ)))) Q g w :=
 jQ (kr := no) (l := [(0, fun g w => k0 (g 3) (g 4) w)]) h hn kV ⟨h0, trivial⟩
def uK (k0 : K2) (iQ AS : RN) (w : RM) : Prop :=
 iO (fun (X : (RN × RN) -> K0) (t : RN × RN) (w : RM) => nB (fun iQ AS w => X (iQ, AS) w) k0 t.1 t.2 w) (iQ, AS) w
theorem Dw (k0 : K2) (h0 : E2 Q k0 0 3 4) (h : uK k0 (g 3) (g 4) w) : fY pg iA (bI (fF 1 (dU 4 hZ))) Q g w := by
 refine IU (fun g : Env => (g 3, g 4)) (fun X t w => nB (fun iQ AS w => X (iQ, AS) w) k0 t.1 t.2 w) h (fun X g1 w1 ha hL => ?_)
 exact (DB _ g1 w1 (fun iQ AS w => X (iQ, AS) w) k0 (fun _ _ h => h) h0 hL)
def uN (kn : K2) (iQ AS : RN) (w : RM) : Prop :=
 uK kn iQ AS w
def qH (R : K1) (iQ AS : RN) (w : RM) : Prop :=
 uN (fun iQ AS w => rN R iQ AS w) iQ AS w
theorem DD (kn : K2) (hn : N2 Q kn 3 4) (h : uN kn (g 3) (g 4) w) : fY pg iA (fF 1 (dU 4 hZ)) Q g w :=
 Hm 0 (Dw _ g w kn hn h)
def uM (kn : K2) (R : K1) (jU : RN) (w : RM) : Prop :=
 dQ pg (fD .eql 106 (.tmp 7) (.const (.pointer none)) jU (.pointer none)) w fun b8 w =>
 kK b8
  (fK pg Dj #[(.slice none 0 0)] w fun b9 w =>
  R b9 w)
  ((dr w) = (dr w) /\
  fK pg pA #[jU] (dr w) fun c1 mT =>
  mT = mT /\
  dQ pg (jP jU) mT fun c3 w_ => w_ = mT /\
  (fE pg (jP jU) c3 (dr w) /\ True) /\
  dQ pg (fJ 138 c3 3) mT fun c4 w_ => w_ = mT /\
  (fE pg (fJ 138 c3 3) c4 (dr w) /\ True) /\
  dQ pg (fM 40 c4) mT fun c5 w_ => w_ = mT /\
  (fE pg (fM 40 c4) c5 (dr w) /\ True) /\
  dQ pg (fD .add 40 fI fI c1 c5) mT fun c6 w_ => w_ = mT /\
  mT = mT /\
  (dr mT) = (dr mT) /\
  dQ pg (jP jU) (dr mT) fun c8 w_ => w_ = (dr mT) /\
  dQ pg (fJ 138 c8 1) (dr mT) fun c9 w_ => w_ = (dr mT) /\
  (dr mT) = (dr mT) /\
  dQ pg (jP jU) (dr mT) fun d1 w_ => w_ = (dr mT) /\
  dQ pg (fJ 138 d1 2) (dr mT) fun d2 w_ => w_ = (dr mT) /\
  dQ pg (fM 3 d2) (dr mT) fun d3 w_ => w_ = (dr mT) /\
  dQ pg (iB 136 c9 none (some d3) none) (dr mT) fun d4 w_ => w_ = (dr mT) /\
  (dr mT) = (dr mT) /\
  kn c6 d4 (dr mT))
theorem DC (kn : K2) (R : K1) (hn : N2 Q kn 3 4) (hr : HR rO R Q) (h : uM kn R (g 0) w) : fY pg iA (fF 4 hZ) Q g w :=
 jQ (l := []) h hn hr trivial
def uE (R : K1) (jU : RN) (w : RM) : Prop :=
 uM (fun iQ AS w => qH R iQ AS w) R jU w
theorem Ds (R : K1) (hr : HR rO R Q) (h : uE R (g 0) w) : fY pg iA hZ Q g w :=
 oA 4 (DC _ g w (qH R) R (fun g w h => fL (oA 1 (DD _ g w (rN R) (fun g w h => fL (oA 1 (Ef _ g w (rK R) (fun g w h => fL (oA 1 (Eu _ g w (rH R) (fun g w h => fL (Ex _ g w R hr h)) h))) h))) h))) hr h)
def ES (a0 : RN) (w : RM) (R : K1) : Prop :=
 uE R a0 w
theorem Fo {a0 : RN} {w : RM} {R : K1} (h : ES a0 w R) : fK pg tG #[a0] w R := by
 refine AX (ann := iA) Tryd.f45 hZ [a0] rO 81 TrydM.mixed Tryd.func45 ?_
 exact (Ds _ _ _ R (fun _ _ h => h) h)
def wP : FA := ⟨oZ, fun i => .leaf ([], []) []⟩
def yI : List ResultVar := [.tmp 4, .tmp 5]
noncomputable def vA : Code := iK Tryd.f47
def rW (R : K1) (qU Pf : RN) (w : RM) : Prop :=
 dQ pg (fD .and 40 fI fI qU (.int .u64 4294967295)) w fun c5 w =>
 dQ pg (fD .shr 40 fI fI qU (.int .u64 32)) w fun c7 w =>
 dQ pg (fD .and 40 fI fI Pf (.int .u64 4294967295)) w fun c9 w =>
 dQ pg (fD .shr 40 fI fI Pf (.int .u64 32)) w fun d1 w =>
 dQ pg (fD .mul 40 fI fI c5 c9) w fun d4 w =>
 dQ pg (fD .mul 40 fI fI c7 c9) w fun d7 w =>
 dQ pg (fD .shr 40 fI fI d4 (.int .u64 32)) w fun d9 w =>
 dQ pg (fD .add 40 fI fI d7 d9) w fun e0 w =>
 dQ pg (fD .and 40 fI fI e0 (.int .u64 4294967295)) w fun e2 w =>
 dQ pg (fD .shr 40 fI fI e0 (.int .u64 32)) w fun e4 w =>
 dQ pg (fD .mul 40 fI fI c5 d1) w fun e8 w =>
 dQ pg (fD .add 40 fI fI e2 e8) w fun e9 w =>
 dQ pg (fD .mul 40 fI fI c7 d1) w fun f2 w =>
 dQ pg (fD .add 40 fI fI f2 e4) w fun f4 w =>
 dQ pg (fD .shr 40 fI fI e9 (.int .u64 32)) w fun f6 w =>
 dQ pg (fD .add 40 fI fI f4 f6) w fun f7 w =>
 dQ pg (fD .mul 40 fI fI qU Pf) w fun i0 w =>
 R (.tuple #[f7, i0]) w
theorem CL (R : K1) (hr : HR yI R Q) (h : rW R (g 0) (g 1) w) : fY pg wP vA Q g w :=
 jQ (kn := no) (l := []) h kV hr trivial
def Cn (a0 a1 : RN) (w : RM) (R : K1) : Prop :=
 rW R a0 a1 w
theorem CP {a0 a1 : RN} {w : RM} {R : K1} (h : Cn a0 a1 w R) : fK pg oZ #[a0, a1] w R := by
 refine AX (ann := wP) Tryd.f47 vA [a0, a1] yI 51 TrydM.mixed Tryd.func47 ?_
 exact (CL _ _ _ R (fun _ _ h => h) h)
def DH : FA := ⟨sI, fun i => .leaf ([], []) []⟩
def Fz : List ResultVar := [.tmp 4]
noncomputable def Dk : Code := iK Tryd.f60
def B1 (R : K1) (P3 PY : RN) (w : RM) : Prop :=
 dQ pg (fD .mul 40 fI fI PY (.int .u64 14029467366897019727)) w fun b7 w =>
 dQ pg (fD .add 40 fI fI P3 b7) w fun b8 w =>
 fK pg hY #[b8, (RO 31)] w fun b9 w =>
 dQ pg (fD .mul 40 fI fI b9 (.int .u64 11400714785074694791)) w fun c0 w =>
 R c0 w
theorem Hc (R : K1) (hr : HR Fz R Q) (h : B1 R (g 0) (g 1) w) : fY pg DH Dk Q g w :=
 jQ (kn := no) (l := []) h kV hr trivial
def IJ (a0 a1 : RN) (w : RM) (R : K1) : Prop :=
 B1 R a0 a1 w
theorem Hw {a0 a1 : RN} {w : RM} {R : K1} (h : IJ a0 a1 w R) : fK pg sI #[a0, a1] w R := by
 refine AX (ann := DH) Tryd.f60 Dk [a0, a1] Fz 11 TrydM.mixed Tryd.func60 ?_
 exact (Hc _ _ _ R (fun _ _ h => h) h)
def kP : FA := ⟨qD, fun i => .leaf ([], []) []⟩
def Ax : List ResultVar := [.tmp 2]
noncomputable def jY : Code := iK Tryd.f61
def uS (R : K1) (iQ : RN) (w : RM) : Prop :=
 R iQ w
theorem FM (R : K1) (hr : HR Ax R Q) (h : uS R (g 3) w) : fY pg kP (dU 1 (dU 2 jY)) Q g w :=
 jQ (kn := no) (l := []) h kV hr trivial
def rC (kn : K4) (k0 : K1) (iQ b6 b7 b8 : RN) (w : RM) : Prop :=
 dQ pg (fD .lss 3 fI fI b8 b7) w fun b9 w =>
 kK b9
  (dQ pg (iP 22 b6 b8) w fun c1 w =>
  dQ pg (fM 5 c1) w fun c2 w =>
  dQ pg (jC 5 40 c2) w fun c5 w =>
  dQ pg (fD .mul 3 fI fI (RO 8) b8) w fun c7 w =>
  dQ pg (jC 3 35 c7) w fun c8 w =>
  dQ pg (fD .shl 40 fI fI c5 c8) w fun c9 w =>
  dQ pg (fD .or 40 fI fI iQ c9) w fun d0 w =>
  dQ pg (fD .add 3 fI fI b8 (RO 1)) w fun d1 w =>
  kn d0 b6 b7 d1 w)
  (k0 iQ w)
theorem FE (kn : K4) (k0 : K1) (hn : N4 Q kn 3 6 7 8) (h0 : E1 Q k0 0 3) (h : rC kn k0 (g 3) (g 6) (g 7) (g 8) w) : fY pg kP (bI (bI (dU 1 (fF 1 (dU 2 jY))))) Q g w :=
 jQ (kr := no) (l := [(0, fun g w => k0 (g 3) w)]) h hn kV ⟨h0, trivial⟩
def AM (k0 : K1) (iQ b6 b7 b8 : RN) (w : RM) : Prop :=
 iO (fun (X : (RN × RN) -> K0) (t : RN × RN) (w : RM) => rC (fun iQ _ _ b8 w => X (iQ, b8) w) k0 t.1 b6 b7 t.2 w) (iQ, b8) w
theorem FR (k0 : K1) (h0 : E1 Q k0 0 3) (h : AM k0 (g 3) (g 6) (g 7) (g 8) w) : fY pg kP (bI (dU 1 (fF 1 (dU 2 jY)))) Q g w := by
 refine IU (fun g : Env => (g 3, g 8)) (fun X t w => rC (fun iQ _ _ b8 w => X (iQ, b8) w) k0 t.1 (g 6) (g 7) t.2 w) h (fun X g1 w1 ha hL => ?_)
 rw [<- CB 6 ha, <- CB 7 ha] at hL
 exact (FE _ g1 w1 (fun iQ _ _ b8 w => X (iQ, b8) w) k0 (fun _ _ h => h) h0 hL)
def Ah (kn : K1) (iQ b6 b7 b8 : RN) (w : RM) : Prop :=
 AM kn iQ b6 b7 b8 w
def An (kn : K4) (iE iQ : RN) (w : RM) : Prop :=
 dQ pg (lQ .len #[22] 3 [iE]) w fun b7 w =>
 kn iQ iE b7 (RO 0) w
theorem F6 (kn : K4) (hn : N4 Q kn 3 6 7 8) (h : An kn (g 0) (g 3) w) : fY pg kP (fF 1 (fF 1 (dU 2 jY))) Q g w :=
 jQ (kr := no) (l := []) h hn kV trivial
def AL (kn : K1) (iE iQ : RN) (w : RM) : Prop :=
 An (fun iQ b6 b7 b8 w => Ah kn iQ b6 b7 b8 w) iE iQ w
def Ak (R : K1) (iE iQ : RN) (w : RM) : Prop :=
 AL (fun iQ w => uS R iQ w) iE iQ w
theorem FK (kn : K1) (hn : N1 Q kn 3) (h : AL kn (g 0) (g 3) w) : fY pg kP (fF 1 (dU 2 jY)) Q g w :=
 oA 1 (F6 _ g w (Ah kn) (fun g w h => fL (Hm 0 (FR _ g w kn hn h))) h)
def Ad (kn : K2) (iE : RN) (w : RM) : Prop :=
 kn iE (.int .u64 0) w
theorem FY (kn : K2) (hn : N2 Q kn 0 3) (h : Ad kn (g 0) w) : fY pg kP (fF 2 jY) Q g w :=
 jQ (kr := no) (l := []) h hn kV trivial
def Ag (R : K1) (iE : RN) (w : RM) : Prop :=
 Ad (fun iE iQ w => Ak R iE iQ w) iE w
theorem FZ (R : K1) (hr : HR Ax R Q) (h : Ag R (g 0) w) : fY pg kP jY Q g w :=
 oA 2 (FY _ g w (Ak R) (fun g w h => fL (oA 1 (FK _ g w (uS R) (fun g w h => fL (FM _ g w R hr h)) h))) h)
def Hv (a0 : RN) (w : RM) (R : K1) : Prop :=
 Ag R a0 w
theorem G1 {a0 : RN} {w : RM} {R : K1} (h : Hv a0 w R) : fK pg qD #[a0] w R := by
 refine AX (ann := kP) Tryd.f61 jY [a0] Ax 23 TrydM.mixed Tryd.func61 ?_
 exact (FZ _ _ _ R (fun _ _ h => h) h)
def gT : FA := ⟨pA, fun i => .leaf ([], []) []⟩
def nG : List ResultVar := [.tmp 2]
noncomputable def gN : Code := iK Tryd.f62
def nM (R : K1) (iQ : RN) (w : RM) : Prop :=
 R iQ w
theorem CD (R : K1) (hr : HR nG R Q) (h : nM R (g 3) w) : fY pg gT (dU 1 (dU 1 (dU 3 gN))) Q g w :=
 jQ (kn := no) (l := []) h kV hr trivial
def lM (kn : K3) (k2 : K1) (iQ e2 e3 : RN) (w : RM) : Prop :=
 dQ pg (fD .lss 3 fI fI e3 (RO 4)) w fun e4 w =>
 kK e4
  (dQ pg (Ek 49 e2 e3) w fun e5 w =>
  fK pg sI #[(.int .u64 0), e5] w fun e8 w =>
  dQ pg (fD .xor 40 fI fI iQ e8) w fun e9 w =>
  dQ pg (fD .mul 40 fI fI e9 (.int .u64 11400714785074694791)) w fun f0 w =>
  dQ pg (fD .add 40 fI fI f0 (.int .u64 9650029242287828579)) w fun f1 w =>
  dQ pg (fD .add 3 fI fI e3 (RO 1)) w fun f2 w =>
  kn f1 e2 f2 w)
  (k2 iQ w)
theorem CG (kn : K3) (k2 : K1) (hn : N3 Q kn 3 32 33) (h2 : E1 Q k2 2 3) (h : lM kn k2 (g 3) (g 32) (g 33) w) : fY pg gT (bI (bI (dU 1 (fF 1 (dU 1 (dU 3 gN)))))) Q g w :=
 jQ (kr := no) (l := [(2, fun g w => k2 (g 3) w)]) h hn kV ⟨h2, trivial⟩
def rX (k2 : K1) (iQ e2 e3 : RN) (w : RM) : Prop :=
 iO (fun (X : (RN × RN) -> K0) (t : RN × RN) (w : RM) => lM (fun iQ _ e3 w => X (iQ, e3) w) k2 t.1 e2 t.2 w) (iQ, e3) w
theorem CH (k2 : K1) (h2 : E1 Q k2 2 3) (h : rX k2 (g 3) (g 32) (g 33) w) : fY pg gT (bI (dU 1 (fF 1 (dU 1 (dU 3 gN))))) Q g w := by
 refine IU (fun g : Env => (g 3, g 33)) (fun X t w => lM (fun iQ _ e3 w => X (iQ, e3) w) k2 t.1 (g 32) t.2 w) h (fun X g1 w1 ha hL => ?_)
 rw [<- CB 32 ha] at hL
 exact (CG _ g1 w1 (fun iQ _ e3 w => X (iQ, e3) w) k2 (fun _ _ h => h) h2 hL)
def rT (kn : K1) (iQ e2 e3 : RN) (w : RM) : Prop :=
 rX kn iQ e2 e3 w
def rZ (kn : K3) (jU iQ : RN) (w : RM) : Prop :=
 dQ pg (jP jU) w fun e0 w =>
 dQ pg (fJ 138 e0 0) w fun e1 w =>
 dQ pg (fM 49 e1) w fun e2 w =>
 kn iQ e2 (RO 0) w
theorem Cx (kn : K3) (hn : N3 Q kn 3 32 33) (h : rZ kn (g 0) (g 3) w) : fY pg gT (fF 1 (fF 1 (dU 1 (dU 3 gN)))) Q g w :=
 jQ (kr := no) (l := []) h hn kV trivial
def rR (kn : K1) (jU iQ : RN) (w : RM) : Prop :=
 rZ (fun iQ e2 e3 w => rT kn iQ e2 e3 w) jU iQ w
def sB (R : K1) (jU iQ : RN) (w : RM) : Prop :=
 rR (fun iQ w => nM R iQ w) jU iQ w
theorem Cz (kn : K1) (hn : N1 Q kn 3) (h : rR kn (g 0) (g 3) w) : fY pg gT (fF 1 (dU 1 (dU 3 gN))) Q g w :=
 oA 1 (Cx _ g w (rT kn) (fun g w h => fL (Hm 2 (CH _ g w kn hn h))) h)
def lI (kn : K4) (k0 : K2) (jU iQ c3 c4 : RN) (w : RM) : Prop :=
 dQ pg (fD .lss 3 fI fI c4 (RO 4)) w fun c5 w =>
 kK c5
  (dQ pg (Ek 87 c3 c4) w fun c7 w =>
  dQ pg (jP jU) w fun d1 w =>
  dQ pg (fJ 138 d1 0) w fun d2 w =>
  dQ pg (iP 49 d2 c4) w fun d3 w =>
  dQ pg (fM 40 d3) w fun d4 w =>
  fK pg hY #[d4, c7] w fun d6 w =>
  dQ pg (fD .add 40 fI fI iQ d6) w fun d7 w =>
  dQ pg (fD .add 3 fI fI c4 (RO 1)) w fun d8 w =>
  kn jU d7 c3 d8 w)
  (k0 jU iQ w)
theorem CI (kn : K4) (k0 : K2) (hn : N4 Q kn 0 3 13 14) (h0 : E2 Q k0 0 0 3) (h : lI kn k0 (g 0) (g 3) (g 13) (g 14) w) : fY pg gT (bI (bI (dU 1 (fF 1 (dU 3 gN))))) Q g w :=
 jQ (kr := no) (l := [(0, fun g w => k0 (g 0) (g 3) w)]) h hn kV ⟨h0, trivial⟩
def rQ (k0 : K2) (jU iQ c3 c4 : RN) (w : RM) : Prop :=
 iO (fun (X : (RN × RN) -> K0) (t : RN × RN) (w : RM) => lI (fun _ iQ _ c4 w => X (iQ, c4) w) k0 jU t.1 c3 t.2 w) (iQ, c4) w
theorem CA (k0 : K2) (h0 : E2 Q k0 0 0 3) (h : rQ k0 (g 0) (g 3) (g 13) (g 14) w) : fY pg gT (bI (dU 1 (fF 1 (dU 3 gN)))) Q g w := by
 refine IU (fun g : Env => (g 3, g 14)) (fun X t w => lI (fun _ iQ _ c4 w => X (iQ, c4) w) k0 (g 0) t.1 (g 13) t.2 w) h (fun X g1 w1 ha hL => ?_)
 rw [<- CB 0 ha, <- CB 13 ha] at hL
 exact (CI _ g1 w1 (fun _ iQ _ c4 w => X (iQ, c4) w) k0 (fun _ _ h => h) h0 hL)
def qS (kn : K2) (jU iQ c3 c4 : RN) (w : RM) : Prop :=
 rQ kn jU iQ c3 c4 w
def qR (kn : K4) (jU iQ : RN) (w : RM) : Prop :=
 dQ pg (iI 87 [(0, (RO 1)), (1, (RO 7)), (2, (RO 12)), (3, (RO 18))]) w fun c3 w =>
 kn jU iQ c3 (RO 0) w
theorem BR (kn : K4) (hn : N4 Q kn 0 3 13 14) (h : qR kn (g 0) (g 3) w) : fY pg gT (fF 1 (fF 1 (dU 3 gN))) Q g w :=
 jQ (kr := no) (l := []) h hn kV trivial
def qK (kn : K2) (jU iQ : RN) (w : RM) : Prop :=
 qR (fun jU iQ c3 c4 w => qS kn jU iQ c3 c4 w) jU iQ w
def qJ (R : K1) (jU iQ : RN) (w : RM) : Prop :=
 qK (fun jU iQ w => sB R jU iQ w) jU iQ w
theorem BY (kn : K2) (hn : N2 Q kn 0 3) (h : qK kn (g 0) (g 3) w) : fY pg gT (fF 1 (dU 3 gN)) Q g w :=
 oA 1 (BR _ g w (qS kn) (fun g w h => fL (Hm 0 (CA _ g w kn hn h))) h)
def mL (kn : K2) (R : K1) (jU : RN) (w : RM) : Prop :=
 dQ pg (jP jU) w fun b9 w =>
 dQ pg (fJ 138 b9 3) w fun c0 w =>
 dQ pg (fM 40 c0) w fun c1 w =>
 dQ pg (fD .lss 40 fI fI c1 (.int .u64 32)) w fun c2 w =>
 kK c2
  (R (.int .u64 2870177450012600261) w)
  (kn jU (.int .u64 0) w)
theorem Ca (kn : K2) (R : K1) (hn : N2 Q kn 0 3) (hr : HR nG R Q) (h : mL kn R (g 0) w) : fY pg gT (fF 3 gN) Q g w :=
 jQ (l := []) h hn hr trivial
def mN (R : K1) (jU : RN) (w : RM) : Prop :=
 mL (fun jU iQ w => qJ R jU iQ w) R jU w
theorem B5 (R : K1) (hr : HR nG R Q) (h : mN R (g 0) w) : fY pg gT gN Q g w :=
 oA 3 (Ca _ g w (qJ R) R (fun g w h => fL (oA 1 (BY _ g w (sB R) (fun g w h => fL (oA 1 (Cz _ g w (nM R) (fun g w h => fL (CD _ g w R hr h)) h))) h))) hr h)
def wL (a0 : RN) (w : RM) (R : K1) : Prop :=
 mN R a0 w
theorem CY {a0 : RN} {w : RM} {R : K1} (h : wL a0 w R) : fK pg pA #[a0] w R := by
 refine AX (ann := gT) Tryd.f62 gN [a0] nG 44 TrydM.mixed Tryd.func62 ?_
 exact (B5 _ _ _ R (fun _ _ h => h) h)
def pV : FA := ⟨hY, fun i => .leaf ([], []) []⟩
def qI : List ResultVar := [.tmp 4]
noncomputable def pE : Code := iK Tryd.f63
def mA (R : K1) (qU Qf : RN) (w : RM) : Prop :=
 dQ pg (jC 3 35 Qf) w fun b7 w =>
 dQ pg (fD .and 35 fI fI b7 (.int .u64 63)) w fun b8 w =>
 dQ pg (fD .shl 40 fI fI qU b8) w fun c1 w =>
 dQ pg (fD .sub 35 fI fI (.int .u64 64) b8) w fun c4 w =>
 dQ pg (fD .shr 40 fI fI qU c4) w fun c5 w =>
 dQ pg (fD .or 40 fI fI c1 c5) w fun c6 w =>
 R c6 w
theorem vR (R : K1) (hr : HR qI R Q) (h : mA R (g 0) (g 1) w) : fY pg pV pE Q g w :=
 jQ (kn := no) (l := []) h kV hr trivial
def sT (a0 a1 : RN) (w : RM) (R : K1) : Prop :=
 mA R a0 a1 w
theorem xG {a0 a1 : RN} {w : RM} {R : K1} (h : sT a0 a1 w R) : fK pg hY #[a0, a1] w R := by
 refine AX (ann := pV) Tryd.f63 pE [a0, a1] qI 17 TrydM.mixed Tryd.func63 ?_
 exact (vR _ _ _ R (fun _ _ h => h) h)
end Go.Proofs.YthohephggmkeeaaDoor
namespace Go.En
open Go
section
variable {P : Program} {w : RM} {t : TypeId} {ox oy : Operand} {k : IntKind} {a b : Int}
theorem lE (s : Sem RN) : (V s).run P w = (s.run P w).andThen fun v w => .ok (.value v) w := by
 unfold V; rw [Sem.run_bind] <;> rfl
theorem PV (s : Sem Unit) : (U s).run P w = (s.run P w).andThen fun _ w => .ok .skip w := by
 unfold U; rw [Sem.run_bind] <;> rfl
theorem eC : (fD .add t ox oy (.int k a) (.int k b)).run P w = .ok (.value (.int k (k.wrap (a + b)))) w := by
 simp [fD, zA, lE, binOp, Op.intArith]
theorem fB : (fD .sub t ox oy (.int k a) (.int k b)).run P w = .ok (.value (.int k (k.wrap (a - b)))) w := by
 simp [fD, zA, lE, binOp, Op.intArith]
theorem eH : (fD .mul t ox oy (.int k a) (.int k b)).run P w = .ok (.value (.int k (k.wrap (a * b)))) w := by
 simp [fD, zA, lE, binOp, Op.intArith]
theorem eT (h : b ≠ 0) : (fD .quo t ox oy (.int k a) (.int k b)).run P w = .ok (.value (.int k (k.wrap (a.tdiv b)))) w := by
 simp [fD, zA, lE, binOp, Op.intDiv, h]
theorem eS (h : b ≠ 0) : (fD .rem t ox oy (.int k a) (.int k b)).run P w = .ok (.value (.int k (a.tmod b))) w := by
 simp [fD, zA, lE, binOp, Op.intDiv, h]
def vM (k : IntKind) (a b : Int) : Int := k.wrap (BitVec.ofInt k.bits a &&& BitVec.ofInt k.bits b).toNat
def Pg (k : IntKind) (a b : Int) : Int := k.wrap (BitVec.ofInt k.bits a ||| BitVec.ofInt k.bits b).toNat
def Eh (k : IntKind) (a b : Int) : Int := k.wrap (BitVec.ofInt k.bits a ^^^ BitVec.ofInt k.bits b).toNat
def Lj (k : IntKind) (a b : Int) : Int := k.wrap (BitVec.ofInt k.bits a &&& ~~~BitVec.ofInt k.bits b).toNat
theorem eM : (fD .and t ox oy (.int k a) (.int k b)).run P w = .ok (.value (.int k (vM k a b))) w := by
 simp [fD, zA, lE, binOp, Op.intBits, vM]
theorem fH : (fD .or t ox oy (.int k a) (.int k b)).run P w = .ok (.value (.int k (Pg k a b))) w := by
 simp [fD, zA, lE, binOp, Op.intBits, Pg]
theorem eP : (fD .xor t ox oy (.int k a) (.int k b)).run P w = .ok (.value (.int k (Eh k a b))) w := by
 simp [fD, zA, lE, binOp, Op.intBits, Eh]
theorem dK : (fD .andNot t ox oy (.int k a) (.int k b)).run P w = .ok (.value (.int k (Lj k a b))) w := by
 simp [fD, zA, lE, binOp, Op.intBits, Lj]
theorem eN {k' : IntKind} (h : 0 <= b) : (fD .shl t ox oy (.int k a) (.int k' b)).run P w = .ok (.value (.int k (k.wrap (a * 2 ^ (min b.toNat k.bits))))) w := by
 simp [fD, zA, lE, binOp, Op.shift, Int.not_lt.2 h]
theorem eJ {k' : IntKind} (h : 0 <= b) : (fD .shr t ox oy (.int k a) (.int k' b)).run P w = .ok (.value (.int k (a.fdiv (2 ^ (min b.toNat k.bits))))) w := by
 simp [fD, zA, lE, binOp, Op.shift, Int.not_lt.2 h]
theorem eY : (fD .eql t ox oy (.int k a) (.int k b)).run P w = .ok (.value (.bool (a == b))) w := by
 simp [fD, zA, lE, binOp, Op.intCmp, eqGuard]
theorem eE : (fD .neq t ox oy (.int k a) (.int k b)).run P w = .ok (.value (.bool (a != b))) w := by
 simp [fD, zA, lE, binOp, Op.intCmp, eqGuard]
theorem eB : (fD .lss t ox oy (.int k a) (.int k b)).run P w = .ok (.value (.bool (decide (a < b)))) w := by
 simp [fD, zA, lE, binOp, Op.intCmp]
theorem eK : (fD .leq t ox oy (.int k a) (.int k b)).run P w = .ok (.value (.bool (decide (a <= b)))) w := by
 simp [fD, zA, lE, binOp, Op.intCmp]
theorem eD : (fD .gtr t ox oy (.int k a) (.int k b)).run P w = .ok (.value (.bool (decide (b < a)))) w := by
 simp [fD, zA, lE, binOp, Op.intCmp]
theorem eI : (fD .geq t ox oy (.int k a) (.int k b)).run P w = .ok (.value (.bool (decide (b <= a)))) w := by
 simp [fD, zA, lE, binOp, Op.intCmp]
theorem eX : (Nv .neg (.int k a)).run P w = .ok (.value (.int k (k.wrap (0 - a)))) w := by
 simp [Nv, lE, Op.unary, Op.intArith]
theorem fC : (Nv .xor (.int k a)).run P w = .ok (.value (.int k (Eh k (if k.signed then -1 else k.max) a))) w := by
 simp [Nv, lE, Op.unary, Op.intBits, Eh]
theorem eF (c : Bool) : (Nv .not (.bool c)).run P w = .ok (.value (.bool !c)) w := by
 simp [Nv, lE, Op.unary]
theorem dR (c : Bool) (x y : RN) : (nF (.bool c) x y).run P w = .ok (.value (if c then x else y)) w := by
 simp [nF, asBool]
theorem HC {x y : RN} {r : Bool} (hg : eqGuard .eql t ox oy x y = pure ()) (hb : binOp .eql t x y = (do pure (.bool (<- Op.equal t x y)))) (he : (Op.equal t x y).run P w = .ok r w) :
 (fD .eql t ox oy x y).run P w = .ok (.value (.bool r)) w := by
 unfold fD
 simp only [zA, lE, hg, hb, pure_bind]
 rw [Sem.run_bind, he] <;> rfl
theorem L3 (n : Nat) (c d : Bool) (hu : P.underlying t = some .bool) : (Op.equalIn (n + 1) t (.bool c) (.bool d)).run P w = .ok (c == d) w := by
 simp only [Op.equalIn, underlying]
 simp [hu]
theorem Ok (c d : Bool) (hu : P.underlying t = some .bool) : (Op.equal t (.bool c) (.bool d)).run P w = .ok (c == d) w := L3 9999 c d hu
theorem OY (c d : Bool) (hu : P.underlying t = some .bool) : (fD .eql t ox oy (.bool c) (.bool d)).run P w = .ok (.value (.bool (c == d))) w :=
 HC rfl rfl (Ok c d hu)
theorem dZ {n : Int} (h0 : -9223372036854775808 <= n) (h1 : n <= 9223372036854775807) : IntKind.i64.wrap n = n := by
 unfold IntKind.wrap; simp [IntKind.bits, IntKind.signed]; split <;> omega
theorem dY {n : Int} (h0 : 0 <= n) (h1 : n <= 18446744073709551615) : IntKind.u64.wrap n = n := by
 unfold IntKind.wrap; simp [IntKind.bits, IntKind.signed]; omega
theorem fA {n : Int} (h0 : -2147483648 <= n) (h1 : n <= 2147483647) : IntKind.i32.wrap n = n := by
 unfold IntKind.wrap; simp [IntKind.bits, IntKind.signed]; split <;> omega
theorem eL {n : Int} (h0 : 0 <= n) (h1 : n <= 4294967295) : IntKind.u32.wrap n = n := by
 unfold IntKind.wrap; simp [IntKind.bits, IntKind.signed]; omega
theorem eQ {n : Int} (h0 : 0 <= n) (h1 : n <= 65535) : IntKind.u16.wrap n = n := by
 unfold IntKind.wrap; simp [IntKind.bits, IntKind.signed]; omega
theorem fG {n : Int} (h0 : 0 <= n) (h1 : n <= 255) : IntKind.u8.wrap n = n := by
 unfold IntKind.wrap; simp [IntKind.bits, IntKind.signed]; omega
theorem P0 (n : Int) : IntKind.u64.wrap n = n % 18446744073709551616 := by
 unfold IntKind.wrap; simp [IntKind.bits, IntKind.signed]
theorem Qc (n : Int) : IntKind.u8.wrap n = n % 256 := by
 unfold IntKind.wrap; simp [IntKind.bits, IntKind.signed]
theorem ML (x y : ByteArray) (h : ((x.size + y.size : Nat) : Int) <= 9223372036854775807) : (fD .add t ox oy (.string x) (.string y)).run P w = .ok (.value (.string (x ++ y))) w := by
 have : ¬ (((x.size + y.size : Nat) : Int) > IntKind.i64.max) := by
  have e : IntKind.i64.max = 9223372036854775807 := by decide
  rw [e]; omega
 simp only [fD, zA, lE, binOp, Op.stringOp, this, if_false]
 rfl
theorem Nq (x y : ByteArray) : (fD .eql t ox oy (.string x) (.string y)).run P w = .ok (.value (.bool (x.toList == y.toList))) w := by
 simp [fD, zA, lE, binOp, Op.stringOp, eqGuard]
theorem M6 (n : Nat) {e : TypeId} (hu : P.underlying t = some (.pointer e)) (x : Option Addr) : (Op.equalIn (n + 1) t (.pointer x) (.pointer none)).run P w = .ok x.isNone w := by
 simp only [Op.equalIn, underlying]
 cases x <;> simp [hu]
theorem ON {e : TypeId} (hu : P.underlying t = some (.pointer e)) (x : Option Addr) : (Op.equal t (.pointer x) (.pointer none)).run P w = .ok x.isNone w := M6 9999 hu x
theorem NM (m : Nat) {e : TypeId} (hu : P.underlying t = some (.slice e)) (x : Option Addr) (n c : Nat) : (Op.equalIn (m + 1) t (.slice x n c) (.slice none 0 0)).run P w = .ok x.isNone w := by
 simp only [Op.equalIn, underlying]
 cases x <;> simp [hu]
theorem PA {e : TypeId} (hu : P.underlying t = some (.slice e)) (x : Option Addr) (n c : Nat) : (Op.equal t (.slice x n c) (.slice none 0 0)).run P w = .ok x.isNone w := NM 9999 hu x n c
theorem Np {e : TypeId} (hu : P.underlying t = some (.pointer e)) (x : Option Addr) : (fD .eql t ox oy (.pointer x) (.pointer none)).run P w = .ok (.value (.bool x.isNone)) w :=
 HC rfl rfl (ON hu x)
theorem Nx {e : TypeId} (hu : P.underlying t = some (.slice e)) (x : Option Addr) (n c : Nat) : (fD .eql t ox oy (.slice x n c) (.slice none 0 0)).run P w = .ok (.value (.bool x.isNone)) w :=
 HC rfl rfl (PA hu x n c)
theorem tX {s : TypeId} {d : TypeDesc} {kd : IntKind} (hs : P.underlying s = some d) (hu : P.underlying t = some (.int kd)) : (jC s t (.int k a)).run P w = .ok (.value (.int kd (kd.wrap a))) w := by
 cases d <;> simp [jC, lE, convert, underlying, hs, hu, Conv.intToInt]
theorem Jf {ty : TypeId} {e : TypeId} (hu : P.underlying t = some (.slice e)) (x : Option Addr) (n c : Nat) : (lQ .len #[t] ty [.slice x n c]).run P w = .ok (.value (.int .i64 n)) w := by
 simp [lQ, builtin, Builtin.len_, underlying, hu, goInt]
theorem Pd {ty : TypeId} (hu : P.underlying t = some .string) (x : ByteArray) : (lQ .len #[t] ty [.string x]).run P w = .ok (.value (.int .i64 x.size)) w := by
 simp [lQ, builtin, Builtin.len_, underlying, hu, goInt]
theorem eU {ats : Array TypeId} {ty : TypeId} : (lQ .min ats ty [.int k a, .int k b]).run P w = .ok (.value (.int k (if b < a then b else a))) w := by
 simp [lQ, builtin, Builtin.min_, Builtin.min2]
theorem eZ {ats : Array TypeId} {ty : TypeId} : (lQ .max ats ty [.int k a, .int k b]).run P w = .ok (.value (.int k (if b > a then b else a))) w := by
 simp [lQ, builtin, Builtin.max_, Builtin.max2]
theorem gA (a b : RN) : (iJ (.tuple #[a, b]) 0).run P w = .ok (.value a) w := Eq.trans rfl rfl
theorem gB (a b : RN) : (iJ (.tuple #[a, b]) 1).run P w = .ok (.value b) w := Eq.trans rfl rfl
theorem gC (a b c : RN) : (iJ (.tuple #[a, b, c]) 0).run P w = .ok (.value a) w := Eq.trans rfl rfl
theorem gG (a b c : RN) : (iJ (.tuple #[a, b, c]) 1).run P w = .ok (.value b) w := Eq.trans rfl rfl
theorem gE (a b c : RN) : (iJ (.tuple #[a, b, c]) 2).run P w = .ok (.value c) w := Eq.trans rfl rfl
theorem gF (a b c d : RN) : (iJ (.tuple #[a, b, c, d]) 0).run P w = .ok (.value a) w := Eq.trans rfl rfl
theorem gD (a b c d : RN) : (iJ (.tuple #[a, b, c, d]) 1).run P w = .ok (.value b) w := Eq.trans rfl rfl
theorem gH (a b c d : RN) : (iJ (.tuple #[a, b, c, d]) 2).run P w = .ok (.value c) w := Eq.trans rfl rfl
theorem gI (a b c d : RN) : (iJ (.tuple #[a, b, c, d]) 3).run P w = .ok (.value d) w := Eq.trans rfl rfl
theorem eA (x : Addr) : (jP (.pointer (some x))).run P w = .ok (.value (.pointer (some x))) w := Eq.trans rfl rfl
theorem kH {fs : Array Field} {f : Field} {i : Nat} {inf : TypeInfo} (hu : P.underlying t = some (.struct fs)) (hf : fs[i]? = some f)
 (hi : P.info? f.type = some inf) (hz : inf.size ≠ 0) (x : Addr) : (fJ t (.pointer (some x)) i).run P w = .ok (.value (.pointer (some (x.add f.offset)))) w := by
 simp [fJ, lE, Instr.fieldAt, underlying, hu, hf, Instr.sureAddr, fieldPlace, sizeOf, typeInfo, hi, hz]
theorem Mj {e : TypeId} {inf : TypeInfo} (hu : P.underlying t = some (.slice e)) (hi : P.info? e = some inf) (x : Addr) (n c : Nat) (h0 : 0 <= a) (h1 : a < n) :
 (iP t (.slice (some x) n c) (.int k a)).run P w = .ok (.value (.pointer (some (x.add (a.toNat * inf.size))))) w := by
 simp [iP, lE, Instr.indexAt, asIntOf, underlying, hu, h0, h1, sizeOf, typeInfo, hi]
theorem Nd {e : TypeId} {len : Nat} {inf : TypeInfo} (hu : P.underlying t = some (.array len e)) (hi : P.info? e = some inf) (x : Addr) (h0 : 0 <= a) (h1 : a < len) :
 (iP t (.pointer (some x)) (.int k a)).run P w = .ok (.value (.pointer (some (x.add (a.toNat * inf.size))))) w := by
 simp [iP, lE, Instr.indexAt, asIntOf, underlying, hu, h0, h1, sizeOf, typeInfo, hi, Instr.sureAddr]
theorem O3 (hu : P.underlying t = some .string) (x : ByteArray) (h0 : 0 <= a) (h1 : a.toNat < x.size) :
 (Ek t (.string x) (.int k a)).run P w = .ok (.value (.int .u8 (x[a.toNat]'h1).toNat)) w := by
 simp [Ek, lE, Instr.index, asIntOf, underlying, hu, h0, h1]
end
end Go.En

/- Parts of the proof of DecodeSame: merged and given short names by a program of ours. -/
import Derived.Orders
import Derived.Below
import Derived.KernelRfl
import Derived.Eval
import Derived.RangeFuncRecord
import Derived.Laws.Sem
import Derived.Scope
import Derived.Test.YthohephggmkeeaaDoorRows
import Derived.Laws.IdiomStrings
set_option linter.unusedVariables false
set_option linter.unusedSimpArgs false
open Array renaming getD_eq_getD_getElem? → L1, getElem?_eq_getElem → L9, mem_of_getElem? → M4, getElem?_modify → MR, getElem?_eq_none → MZ, getElem?_setIfInBounds_self_of_lt → Mn, getElem?_setIfInBounds_ne → Mq, all_eq_true' → Mt
open Bool renaming false_eq_true → LQ, not_false → LV, not_true → LW, and_eq_true → LY, or_eq_false_iff → M5, or_eq_true → Mw, not_eq_true' → Mx
open List renaming set_cons_zero → L2, getElem?_eq_getElem → L3, length_append → L4, length_take → L6, length_drop → L7, getElem?_cons_zero → LO, getElem?_cons_succ → LP, length_map → LZ, mem_map → M6, mem_of_mem_take → M7, mem_append_left → MB, length_eq_zero_iff → ME, getElem?_toArray → MG, nil_append → MH, mem_cons → MJ, getElem?_eq_none → MO, mem_append_right → MP, drop_eq_getElem_cons → MU, mem_append → MV, getElem?_take_of_lt → MY, take_succ_cons → Ma, mem_cons_of_mem → Mb, length_cons → Mc, append_assoc → Mi, all_eq_true → Mj, getElem?_append_left → Mk, mem_range → Ml, set_append_right → Mo, getD_eq_getElem?_getD → Mu, map_congr_left → Mv, cons_append → Mz
open Nat renaming zero_add → LX, sub_self → M8, mul_one → MF, blt_eq → ML, lt_or_ge → MN, le_of_ble_eq_true → MQ, add_assoc → MS, add_mul → MT, lt_of_lt_of_le → MX, le_refl → Md, eq_of_beq_eq_true → Me
open Option renaming getD_some → M3, map_some → Mm
open Option.some renaming inj → Ms
namespace Go.En
open Go
abbrev Na := World
abbrev Nb := Value
abbrev Env := Nat -> Nb
def put (g : Env) (d : Option Tmp) (v : Nb) : Env :=
 match d with
 | some d => fun i => match Nat.beq i d with | true => v | false => g i
 | none => g
def ev (g : Env) : Operand -> Nb
 | .tmp t => g t
 | .const v => v
 | .global b => .pointer (some ⟨b, 0, none⟩)
 | .func f => .func (.func f) #[] #[]
def Lv (P : Program) (f : FuncId) (args : Array Nb) (w : Na) (v : Nb) (w' : Na) : Prop :=
 Calls P f args w fun e w'' => e = .returned v /\ w'' = w'
def fO (P : Program) (f : FuncId) (args : Array Nb) (w : Na) (R : Nb -> Na -> Prop) : Prop :=
 ∃ v w', Lv P f args w v w' /\ R v w'
theorem fO.mono {P : Program} {f : FuncId} {args : Array Nb} {w : Na} {R R' : Nb -> Na -> Prop} (h : fO P f args w R)
 (hr : ∀ v w', R v w' -> R' v w') : fO P f args w R' :=
 let ⟨v, w', a, b⟩ := h; ⟨v, w', a, hr _ _ b⟩
def Lf (P : Program) (l : Nat) (f : FuncId) (tmps : Array Nb) (LN bd : Code) (w : Na) (v : Nb) (w' : Na) : Prop :=
 RoundIn Fence.wide 0 P l f tmps LN bd w fun e w'' => e = .returned v /\ w'' = w'
def KR (P : Program) (l : Nat) (f : FuncId) (tmps : Array Nb) (LN bd : Code) (w : Na) (R : Nb -> Na -> Prop) : Prop :=
 ∃ v w', Lf P l f tmps LN bd w v w' /\ R v w'
def IE (P : Program) (r : Result Next) (K : Nb -> Na -> Prop) : Prop :=
 match r with
 | .ok (.value v) w => K v w
 | .ok .skip w => K undef w
 | .ok (.enter f args) w => fO P f args w K
 | .ok (.round l f tmps LN bd) w => KR P l f tmps LN bd w K
 | _ => False
theorem cQ (P : Program) (v : Nb) (w : Na) (K : Nb -> Na -> Prop) : IE P (.ok (.value v) w) K = K v w := Eq.trans rfl rfl
theorem stepR_skip (P : Program) (w : Na) (K : Nb -> Na -> Prop) : IE P (.ok .skip w) K = K undef w := Eq.trans rfl rfl
def dQ (P : Program) (s : Sem Next) (w : Na) (K : Nb -> Na -> Prop) : Prop := IE P (s.run P w) K
def fJ (P : Program) (s : Sem Next) (v : Nb) (w : Na) : Prop := s.run P w = .ok (.value v) w
def Gd (b : Bool) (s : (Nb -> Na -> Prop) -> Prop) (w : Na) (K : Nb -> Na -> Prop) : Prop :=
 match b with
 | true => s K
 | false => K undef w
def LD (v : Nb) : Option Bool := match v with | .bool b => some b | _ => none
def lS (v : Nb) (want : Bool) : Bool := LD v == some want
def lJ (v : Nb) (A B : Prop) : Prop :=
 match v with
 | .bool b => (match b with | true => A | false => B)
 | _ => False
def tA (ops : Array Oper) (j : Nat) : Option Tmp := (ops[j]?).bind (·.dst)
def qI (g : Env) (t : Option Tmp) (want : Bool) : Bool := match t with | some t => lS (g t) want | none => false
def V (s : Sem Nb) : Sem Next := do pure (.value (<- s))
def U (s : Sem Unit) : Sem Next := do s; pure .skip
def vZ (op : BinOp) : Bool := match op with | .eql | .neq => true | _ => false
def fI (op : BinOp) (t : TypeId) (ox oy : Operand) (x y : Nb) : Sem Next :=
 match vZ op with
 | true => V (do eqGuard op t ox oy x y; binOp op t x y)
 | false => V (binOp op t x y)
def pI (b : Builtin) (ats : Array TypeId) (ty : TypeId) (args : List Nb) : Sem Next := builtin b ats ty #[] args.toArray
def CX (f : Nb) (args : List Nb) : Sem Next := do let d <- Deferred.ofValue f args.toArray; invoke d.target d.args
def JS (fn : Fn) (first captured : List Nb) : Sem Next := V (Instr.makeFunc fn first.toArray captured.toArray)
def hX (t : TypeId) (ps : List (Nat × Nb)) : Sem Next := V (Instr.build t ps.toArray)
def iD (t : TypeId) (n : Nat) (ps : List (Nat × Nb)) : Sem Next := V (Instr.buildSlice t n ps.toArray)
def zO (g : Env) (o : Oper) : Sem Next :=
 match o.op with
 | .binOp op t x y _ => fI op t x y (ev g x) (ev g y)
 | .makeFunc fn first captured => JS fn (first.toList.map (ev g)) (captured.toList.map (ev g))
 | .build t ps => hX t (ps.toList.map fun p => (p.1, ev g p.2))
 | .buildSlice t n ps => iD t n (ps.toList.map fun p => (p.1, ev g p.2))
 | .call c => (match c.callee with
   | .builtin b => pI b c.argTypes o.type (c.args.toList.map (ev g))
   | .value f => CX (ev g f) (c.args.toList.map (ev g))
   | _ => execOp (ev g) o)
 | _ => execOp (ev g) o
def wI (P : Program) (g : Env) (o : Oper) (w : Na) (K : Nb -> Na -> Prop) : Prop :=
 match o.op with
 | .move x => K (ev g x) w
 | .assign x => K (ev g x) w
 | .call c => (match c.callee with
   | .value (.func f) => fO P f (c.args.toList.map (ev g)).toArray w K
   | _ => dQ P (zO g o) w K)
 | _ => dQ P (zO g o) w K
def vM (P : Program) (ops : Array Oper) (g : Env) (o : Oper) (w : Na) (K : Nb -> Na -> Prop) : Prop :=
 match o.guard with
 | none => wI P g o w K
 | some (j, want) => Gd (qI g (tA ops j) want) (wI P g o w) w K
def DZ (P : Program) (ops : Array Oper) : List Oper -> Env -> Na -> (Env -> Na -> Prop) -> Prop
 | [], g, w, K => K g w
 | o :: rest, g, w, K => vM P ops g o w fun v w' => DZ P ops rest (put g o.dst v) w' K
structure Rec where
 heavy : Bool
 o : Oper
 g : Env
 w : Na
 v : Nb
def Lp (ops : Array Oper) (o : Oper) (g : Env) : Bool := match o.guard with | none => true | some (j, want) => qI g (tA ops j) want
def Gs (b : Bool) (p : Prop) : Prop := match b with | true => p | false => True
def B2 (P : Program) (ops : Array Oper) (q : Rec) (o : Oper) (g : Env) (w' : Na) (v : Nb) : Prop :=
 match q.heavy with
 | true => Gs (Lp ops o g) (fJ P (zO g o) v q.w)
 | false => Gs (Lp ops q.o q.g) (fJ P (zO q.g q.o) q.v w')
def Ee (i j : Nat) : List (Nat × Nat) -> Bool
 | [] => false
 | (a, b) :: r => match Nat.beq a i with
   | true => (match Nat.beq b j with | true => true | false => Ee i j r)
   | false => Ee i j r
def kR (i : Nat) : List Nat -> Bool
 | [] => false
 | a :: r => match Nat.beq a i with | true => true | false => kR i r
def F2 : List Rec -> Nat -> Option Rec
 | [], _ => none
 | q :: _, 0 => some q
 | _ :: r, n + 1 => F2 r n
def JL (P : Program) (ops : Array Oper) (o : Oper) (g : Env) (w' : Na) (v : Nb) (hist : List Rec) : List Nat -> Prop
 | [] => True
 | k :: ks => (match F2 hist k with
   | some q => B2 P ops q o g w' v
   | none => False) /\ JL P ops o g w' v hist ks
abbrev Hd := List Nat × List (Nat × Nat)
abbrev FU := List (Bool × List Nat)
def lO (P : Program) (ops : Array Oper) : List Oper -> FU -> List Rec -> Env -> Na -> (Env -> Na -> Prop) -> Prop
 | [], _, _, g, w, K => K g w
 | _ :: _, [], _, _, _, _ => False
 | o :: rest, (hv, ks) :: pl, hist, g, w, K =>
   vM P ops g o w fun v w' =>
    match hv, ks with
    | true, [] => lO P ops rest pl (⟨true, o, g, w, v⟩ :: hist) (put g o.dst v) w' K
    | true, k :: ks => JL P ops o g w' v hist (k :: ks) /\ lO P ops rest pl (⟨true, o, g, w, v⟩ :: hist) (put g o.dst v) w' K
    | false, [] => w' = w /\ lO P ops rest pl (⟨false, o, g, w, v⟩ :: hist) (put g o.dst v) w K
    | false, k :: ks => w' = w /\ JL P ops o g w v hist (k :: ks) /\ lO P ops rest pl (⟨false, o, g, w, v⟩ :: hist) (put g o.dst v) w K
def iR {α : Type} (F : (α -> Na -> Prop) -> α -> Na -> Prop) (g : α) (w : Na) : Prop :=
 ∃ I : Nat -> α -> Na -> Prop, (∃ n, I n g w) /\ ∀ n g w, I n g w -> F (fun g' w' => ∃ m, m < n /\ I m g' w') g w
def rI (K : Env -> Na -> Prop) (Q : Exit -> Env -> Na -> Prop) : Exit -> Env -> Na -> Prop :=
 fun e g w => (fun (_ : Program -> Sem Next -> Na -> (Nb -> Na -> Prop) -> Prop) => match e with | .normal => K g w | e => Q e g w) dQ
def Jz (id : Nat) (Q : Exit -> Env -> Na -> Prop) : Exit -> Env -> Na -> Prop :=
 fun e g w => (fun (_ : Program -> Sem Next -> Na -> (Nb -> Na -> Prop) -> Prop) => match e with | .exit i => (match Nat.beq i id with | true => Q .normal g w | false => Q (.exit i) g w) | e => Q e g w) dQ
inductive HT where
 | leaf (an : Hd) (pl : FU)
 | perm (π : List Nat) (es : List (Nat × Nat)) (an : Hd) (pl : FU)
 | split (a b : Nat) (x y : HT)
structure FA where
 f : FuncId
 t : Nat -> HT
def oB : List Nat -> Nat -> Nat
 | [], _ => 0
 | a :: r, i => match Nat.beq a i with | true => 0 | false => oB r i + 1
def uQ (π : List Nat) (i : Nat) : List (Nat × Nat) -> List Edge
 | [] => []
 | (a, b) :: r => match Nat.beq b i with | true => ⟨oB π a, .data⟩ :: uQ π i r | false => uQ π i r
def wW (π : List Nat) (es : List (Nat × Nat)) (i : Nat) (o : Oper) : Oper :=
 { dst := o.dst, op := o.op, type := o.type, pos := o.pos, after := (o.after.toList.map (fun e => (⟨oB π e.on, e.ground⟩ : Edge)) ++ uQ π i es).toArray,
   guard := match o.guard with | none => none | some (j, b) => some (oB π j, b) }
def CG (π : List Nat) (es : List (Nat × Nat)) (l : List Oper) : List Nat -> List Oper
 | [] => []
 | i :: r => match l[i]? with | some o => wW π es i o :: CG π es l r | none => CG π es l r
def kL (π : List Nat) (es : List (Nat × Nat)) (ops : Array Oper) : Array Oper := (CG π es ops.toList π).toArray
def Kj (f : FuncId) (id : Nat) (ops : Array Oper) (a b : Nat) (w : Na) : Bool :=
 Nat.ble ((Region.schedule true ops (w.tape w.drawn (.order f id))).idxOf a) ((Region.schedule true ops (w.tape w.drawn (.order f id))).idxOf b)
def Ord (b : Bool) (A B : Prop) : Prop := match b with | true => A | false => B
def FB (P : Program) (f : FuncId) (id : Nat) (ops : Array Oper) : HT -> Env -> Na -> Na -> (Env -> Na -> Prop) -> Prop
 | .leaf _ pl, g, _, w, K => lO P ops ops.toList pl [] g w K
 | .perm π es _ pl, g, _, w, K => lO P (kL π es ops) (kL π es ops).toList pl [] g w K
 | .split a b x y, g, w0, w, K => Ord (Kj f id ops a b w0) (FB P f id ops x g w0 w K) (FB P f id ops y g w0 w K)
def DS : Nat := 1000003
def Gf : Nb -> List Deferred
 | .pointer (some a) => [{ target := .collected a.block, args := #[] }]
 | _ => []
def noMark : Nb -> Bool
 | .pointer _ => false
 | _ => true
def tmpsOf (N : Nat) (g : Env) : Array Nb := Array.ofFn (n := N) fun i => g i.val
def HU (P : Program) (f : FuncId) : Nat := match P.funcs[f]? with | some fn => fn.ntmps | none => 0
def Lh (Q : Exit -> Env -> Na -> Prop) (g : Env) : Option Code -> Na -> Prop
 | none, w => Q .normal g w
 | some .ret, w => Q .ret g w
 | some (.exit i), w => Q (.exit i) g w
 | _, _ => False
def KW (l : Nat) (Q : Exit -> Env -> Na -> Prop) (g : Env) (w : Na) : Prop :=
 ∃ r : Loop, w.heap[l]? = some (.loop r) /\ r.state ≠ .busy /\ Lh Q g r.pending (w.putObj l (.loop { r with state := .exhausted }))
def KJ (f : FuncId) (N : Nat) (ps : Array Tmp) (LN bd : Code) (g : Env) (w : Na) : Na :=
 (w.alloc (.deferred (some []))).alloc (.loop { state := .ready, pending := none, fn := f, tmps := tmpsOf N g, params := ps, assign := LN, body := bd, defers := w.heap.size })
def KG (P : Program) (r : Result Next) (K : Nb -> Na -> Prop) : Prop :=
 match r with
 | .ok (.enter f args) w => fO P f args w K
 | _ => False
def B7 (l : Nat) : Nb := .func (.yield l) #[] #[]
def RF (P : Program) (f : FuncId) (gf : Operand) (ps : Array Tmp) (LN bd : Code) (Q : Exit -> Env -> Na -> Prop) (g : Env) (w : Na) : Prop :=
 match noMark (g DS) with
 | true => KG P ((CX (ev g gf) [B7 (w.heap.size + 1)]).run P (KJ f (HU P f) ps LN bd g w)) fun _ w3 =>
  KW (w.heap.size + 1) Q (put g (some DS) (.pointer (some ⟨w.heap.size, 0, none⟩))) w3
 | false => False
def gG (P : Program) (ann : FA) : Code -> (Exit -> Env -> Na -> Prop) -> Env -> Na -> Prop
 | .skip, Q, g, w => Q .normal g w
 | .region id ops draw, Q, g, w => match draw with
   | false => DZ P ops ops.toList g w (Q .normal)
   | true => FB P ann.f id ops (ann.t id) g w { w with drawn := w.drawn + 1 } (Q .normal)
 | .seq x y, Q, g, w => gG P ann x (rI (fun g w => gG P ann y Q g w) Q) g w
 | .cond c x y, Q, g, w => lJ (ev g c) (gG P ann x Q g w) (gG P ann y Q g w)
 | .block id c, Q, g, w => gG P ann c (Jz id Q) g w
 | .loop c, Q, g, w => iR (fun X g w => gG P ann c (rI X Q) g w) g w
 | .scope c, Q, g, w => gG P ann c Q g w
 | .label _, Q, g, w => Q .normal g w
 | .exit id, Q, g, w => Q (.exit id) g w
 | .ret, Q, g, w => Q .ret g w
 | .rangeFunc gf ps LN bd, Q, g, w => RF P ann.f gf ps LN bd Q g w
 | _, _, _, _ => False
def Hl (N : Nat) (o : Oper) : Bool := match o.dst with | some d => Nat.blt d N | none => true
def H3 (b : Array Nat) (i j : Nat) : Bool := (b.getD j 0).testBit i
def looks (ops : Array Oper) (o : Oper) : List Tmp :=
 (o.op.operands.toList.filterMap fun | .tmp t => some t | _ => none) ++ (match o.guard with | some (j, _) => (tA ops j).toList | none => [])
def I2 (ops : Array Oper) (x y : Oper) : Bool :=
 (match x.dst with | some d => (looks ops y).contains d || y.dst == some d | none => false) ||
 (match y.dst with | some d => (looks ops x).contains d | none => false)
def Dr (o : Oper) : Bool := match o.op with | .select .. => true | _ => false
def Iq (o : Oper) : Bool := match o.op with | .call { callee := .value (.func _), .. } => true | _ => false
def ES (o : Oper) : Bool := match o.op with | .defer .. => true | _ => false
def EE : Operand -> Bool | .tmp t => Nat.blt t DS | _ => true
def DR (P : Program) (o : Oper) : Bool :=
 match o.op with
 | .call c => (match c.callee with
   | .value (.func f) => (match P.funcs[f]? with | some fn => fn.body.isSome && !(fn.name == "runtime.NumGoroutine") | none => false)
   | .builtin b => (match b with | .print | .println => false | _ => true)
   | _ => true)
 | _ => true
def sB (P : Program) (o : Oper) : Bool := DR P o && (o.op.operands.toList.all EE && (!Dr o && !ES o))
def Az (o : Oper) : Bool := match o.op with | .move _ | .assign _ => true | _ => false
def Bf (ops : Array Oper) (b : Array Nat) (an : Hd) (i j : Nat) (x y : Oper) : Bool :=
 H3 b i j ||
 (!I2 ops x y &&
   match kR i an.1, kR j an.1 with
   | true, true => false
   | false, false => true
   | true, false => Az y || Ee i j an.2
   | false, true => Az x || Ee i j an.2)
def FJ (ops : Array Oper) (b : Array Nat) (an : Hd) : Bool :=
 (List.range ops.size).all fun j => (List.range j).all fun i =>
  match ops[i]?, ops[j]? with
  | some x, some y => Bf ops b an i j x y
  | _, _ => false
def EV (ops : Array Oper) : Bool :=
 (List.range ops.size).all fun i => match ops[i]? with
  | some o => o.after.all fun e => !Region.binds .any e || Nat.blt e.on i
  | none => false
def EK (ops : Array Oper) (b : Array Nat) : Bool :=
 (List.range ops.size).all fun j => (List.range ops.size).all fun i =>
  !H3 b i j || (match ops[j]? with
   | some o => o.after.any fun e => Region.binds .any e && (Nat.beq e.on i || H3 b i e.on)
   | none => false)
def D5 (ops : Array Oper) (an : Hd) : Bool :=
 EV ops && EK ops (Region.before ops) && FJ ops (Region.before ops) an && (ops.all fun o => !Dr o) &&
  (List.range ops.size).all fun i => match ops[i]? with | some o => !Iq o || kR i an.1 | none => false
def D9 (n : Nat) (an : Hd) (pl : FU) : Bool :=
 (List.range n).all fun i => match pl[i]? with
  | some (h, ks) => h == kR i an.1 && an.2.all fun p => !Nat.beq p.2 i || (Nat.blt p.1 i && ks.contains (i - 1 - p.1))
  | none => false
def GR (π : List Nat) (ops : Array Oper) : Bool :=
 Nat.beq π.length ops.size && ((List.range ops.size).all fun k => match π[k]? with | some i => Nat.beq (oB π i) k && Nat.blt i ops.size | none => false) &&
  ((List.range ops.size).all fun i => match π[oB π i]? with | some j => Nat.beq j i | none => false) &&
  ((List.range ops.size).all fun i => match ops[i]? with
    | some o => (o.after.all fun e => Nat.blt e.on ops.size) && (match o.guard with | some (j, _) => Nat.blt j ops.size | none => true)
    | none => false)
def BX (P : Program) (N : Nat) (ops : Array Oper) : List (Nat × Nat) -> HT -> Bool
 | _, .leaf an pl => D5 ops an && D9 ops.size an pl
 | path, .perm π es an pl => (es.all fun p => Ee p.1 p.2 path && Nat.blt p.1 ops.size) && GR π ops && (kL π es ops).all (Hl N) && (kL π es ops).all (sB P) &&
  D5 (kL π es ops) an && D9 (kL π es ops).size an pl
 | path, .split a b x y => !Nat.beq a b && BX P N ops ((a, b) :: path) x && BX P N ops ((b, a) :: path) y
def codeOk (P : Program) (N : Nat) (ann : FA) : Code -> Bool
 | .skip | .exit _ | .ret | .label _ => true
 | .scope c => codeOk P N ann c
 | .region id ops draw => ops.all (Hl N) && ops.all (sB P) && (!draw || BX P N ops [] (ann.t id))
 | .seq x y => codeOk P N ann x && codeOk P N ann y
 | .cond c x y => EE c && (codeOk P N ann x && codeOk P N ann y)
 | .block _ c => codeOk P N ann c
 | .loop c => codeOk P N ann c
 | .rangeFunc gf _ _ _ => EE gf
 | _ => false
def oI : Code -> Bool
 | .seq x y => oI x && oI y
 | .cond _ x y => oI x && oI y
 | .block _ c => oI c
 | .loop c => oI c
 | .scope c => oI c
 | .rangeFunc .. => false
 | _ => true
def Fz : ResultVar -> Bool
 | .tmp t => Nat.blt t DS
 | .cell a _ => Nat.blt a DS
theorem yJ (g : Env) (d i : Nat) (v : Nb) : put g (some d) v i = if i = d then v else g i := by
 unfold put
 by_cases h : i = d
 .subst h; simp
 .have : Nat.beq i d = false := by
   cases hb : Nat.beq i d
   .rfl
   .exact absurd (Me hb) h
  simp [this, h]
theorem F7 {P : Program} {o : Oper} (h : sB P o = true) : DR P o = true := by
 unfold sB at h; simp only [LY] at h; exact h.1
theorem GJ {P : Program} {o : Oper} (h : sB P o = true) : ∀ x ∈ o.op.operands, EE x = true := by
 unfold sB at h; simp only [LY] at h
 intro x hx
 exact Mj.1 h.2.1 x (by simpa using hx)
theorem Gy {P : Program} {o : Oper} (h : sB P o = true) : Dr o = false := by
 unfold sB at h; simp only [LY, Mx] at h; exact h.2.2.1
theorem GW {P : Program} {o : Oper} (h : sB P o = true) : ES o = false := by
 unfold sB at h; simp only [LY, Mx] at h; exact h.2.2.2
def B5 (N : Nat) (ops : Array Oper) : Prop := ∀ (i : Nat) (o : Oper), ops[i]? = some o -> ∀ t, o.dst = some t -> t < N
structure Bp (N : Nat) (g : Env) (a : Act) : Prop where
 le : N <= DS
 defers : a.defers = Gf (g DS)
 size : a.tmps.size = N
 at_ : ∀ i, i ≠ DS -> a.tmps.getD i undef = g i
theorem Bp.ev {N : Nat} {g : Env} {a : Act} (h : Bp N g a) (x : Operand) (hx : EE x = true) : a.eval x = ev g x := by
 cases x with
 | tmp t =>
   have : t < DS := (ML (x := t) (y := DS)) ▸ hx
   have e := h.at_ t (Nat.ne_of_lt this)
   simp [Act.eval, En.ev, <- e]
 | _ => simp [Act.eval, En.ev]
theorem Bp.put {N : Nat} {g : Env} {a : Act} (h : Bp N g a) (d : Option Tmp) (v : Nb) (hd : ∀ t, d = some t -> t < N) :
 Bp N (put g d v) (a.put d v) := by
 cases d with
 | none => exact h
 | some t =>
   obtain ⟨h0, h1, h2, h3⟩ := h
   have ht := hd t rfl
   refine ⟨h0, ?_, by simp [Act.put, h2], fun i hne => ?_⟩
   .rw [yJ, if_neg (Nat.ne_of_gt (MX ht h0))]; exact h1
   .rw [yJ, <- h3 i hne]
    by_cases hi : i = t
    .subst hi; simp [Act.put, h2, ht]
    .have hi' : t ≠ i := fun e => hi e.symm
     simp [Act.put, hi, Mq hi']
theorem Bp.wanted {N : Nat} {g : Env} {a : Act} (h : Bp N g a) (ops : Array Oper) (hd : B5 N ops) (o : Oper) :
 Region.wanted o (yielded ops a.tmps) = match o.guard with | none => true | some (j, want) => qI g (tA ops j) want := by
 unfold Region.wanted
 cases o.guard with
 | none => rfl
 | some p =>
   obtain ⟨j, want⟩ := p
   simp only [yielded, qI, tA]
   cases ho : ops[j]? with
   | none => simp
   | some o' =>
     cases hdd : o'.dst with
     | none => simp [hdd]
     | some t =>
       have hlt := hd j o' ho t hdd
       have hle := h.le
       have h3 := h.at_ t (Nat.ne_of_lt (MX hlt hle))
       simp only [hdd, Option.bind_some, lS, LD, <- h3]
       simp only [L1]
       cases ht : a.tmps[t]? with
       | none => simp [undef]
       | some v => cases v <;> simp
def Ln (P : Program) (o : Oper) (a : Act) (next : Act -> Na -> Prop) : Result Next -> Prop
 | .ok (.value v) w' => next (a.put o.dst v) w'
 | .ok .skip w' => next (a.put o.dst undef) w'
 | .ok (.enter f args) w' => ∃ v w'', Lv P f args w' v w'' /\ next (a.put o.dst v) w''
 | .ok (.round l f tmps LN bd) w' => ∃ v w'', Lf P l f tmps LN bd w' v w'' /\ next (a.put o.dst v) w''
 | _ => False
def G4 (P : Program) (o : Oper) (a : Act) (w : Na) (next : Act -> Na -> Prop) : Prop := ES o = false /\ Ln P o a next ((execOp a.eval o).run P w)
def A4 (P : Program) (ops : Array Oper) (i : Nat) (K : Act -> Na -> Prop) (a : Act) (w : Na) : Prop :=
 match ops[i]? with
 | none => K a w
 | some o => if Region.wanted o (yielded ops a.tmps) then G4 P o a w K else K (a.put o.dst undef) w
def tB (P : Program) (ops : Array Oper) (Q : Act -> Na -> Prop) : List Nat -> Act -> Na -> Prop
 | [], a, w => Q a w
 | i :: rest, a, w => A4 P ops i (tB P ops Q rest) a w
def Ec (P : Program) (ops : Array Oper) (Q : Act -> Na -> Prop) : Nat -> Array Bool -> Act -> Na -> Prop
 | 0, listed, a, w => Region.ready .any ops listed = [] /\ Q a w
 | fuel + 1, listed, a, w =>
   (Region.ready .any ops listed = [] -> Q a w) /\ ∀ i ∈ Region.ready .any ops listed, A4 P ops i (Ec P ops Q fuel (listed.setIfInBounds i true)) a w
theorem ET {P : Program} {o : Oper} {a : Act} {w : Na} {K K' : Act -> Na -> Prop} (h : ∀ a w, K a w -> K' a w) (hh : G4 P o a w K) : G4 P o a w K' := by
 refine ⟨hh.1, ?_⟩
 have hh := hh.2
 generalize (execOp a.eval o).run P w = r at *
 cases r with
 | ok x w' =>
   cases x <;> simp only [Ln] at hh ⊢ <;> first | exact h _ _ hh | (obtain ⟨v, w'', h1, h2⟩ := hh; exact ⟨v, w'', h1, h _ _ h2⟩) | exact hh
 | halt x w' => exact hh.elim
theorem Gv {P : Program} {ops : Array Oper} {i : Nat} {a : Act} {w : Na} {K K' : Act -> Na -> Prop} (h : ∀ a w, K a w -> K' a w) (hh : A4 P ops i K a w) : A4 P ops i K' a w := by
 unfold A4 at *
 split
 .exact h _ _ (by simpa [*] using hh)
 .rename_i o ho
  simp only [ho] at hh
  split
  .rename_i hw; simp only [hw, if_true] at hh; exact ET h hh
  .rename_i hw; simp only [hw] at hh; exact h _ _ hh
def Eg (ro : Option Nat) : Fence := { Fence.wide with round := ro }
theorem HM {P : Program} {ops : Array Oper} {Q : Act -> Na -> Prop} (ro : Option Nat) : ∀ (L : List Nat) (a : Act) (w : Na), tB P ops Q L a w →
 wpOpsIn (Eg ro) 0 P ops (fun e a w => e = .normal /\ Q a w) L a w := by
 intro L
 induction L with
 | nil => intro a w h; exact ⟨rfl, h⟩
 | cons i L ih =>
   intro a w h
   simp only [tB, A4] at h
   simp only [wpOpsIn]
   cases ho : ops[i]? with
   | none => rw [ho] at h; exact ih _ _ h
   | some o =>
     rw [ho] at h
     simp only at h ⊢
     by_cases hw : Region.wanted o (yielded ops a.tmps) = true
     .rw [if_pos hw] at h ⊢
      obtain ⟨hd, h⟩ := h
      refine ⟨fun _ _ => trivial, ?_⟩
      rw [Oper.semAt_eq _ _ _ (fun c hc => by simp [ES, hc] at hd)]
      generalize (execOp a.eval o).run P w = r at *
      cases r with
      | halt x w' => exact h.elim
      | ok x w' =>
        cases x <;> simp only [Ln] at h <;> simp only [Oper.uponIn] <;> try (exact h.elim)
        .exact ih _ _ h
        .exact ih _ _ h
        .obtain ⟨v, w'', h1, h2⟩ := h
         refine ⟨fun hn => by simp [Eg, Fence.wide] at hn, ?_⟩
         have := callsIn_wide (n := 0).2 h1
         refine CallsIn.mono (F := Eg ro) (n := 0) this ?_
         rintro e w3 ⟨rfl, rfl⟩
         exact ih _ _ h2
        .obtain ⟨v, w'', h1, h2⟩ := h
         refine ⟨fun hn => by simp [Eg, Fence.wide] at hn, ?_⟩
         refine RoundIn.mono (F := Eg ro) (n := 0) h1 ?_
         rintro e w3 ⟨rfl, rfl⟩
         exact ih _ _ h2
     .rw [if_neg hw] at h ⊢
      exact ⟨fun _ _ => trivial, ih _ _ h⟩
section
variable {P : Program} {ops : Array Oper}
def Dn (P : Program) (ops : Array Oper) (g : Env) (o : Oper) (w : Na) (v : Nb) (w' : Na) : Prop :=
 ∀ K : Nb -> Na -> Prop, K v w' -> vM P ops g o w K
theorem G9 {s : Sem Next} {w : Na} {K : Nb -> Na -> Prop} (h : dQ P s w K) :
 ∃ v w', (∀ K' : Nb -> Na -> Prop, K' v w' -> dQ P s w K') /\ K v w' := by
 unfold dQ at *
 generalize s.run P w = r at *
 match r, h with
 | .ok (.value v) w1, h => exact ⟨v, w1, fun _ h' => h', h⟩
 | .ok .skip w1, h => exact ⟨undef, w1, fun _ h' => h', h⟩
 | .ok (.enter f args) w1, h =>
   obtain ⟨v, w', hr, hk⟩ := h
   exact ⟨v, w', fun _ h' => ⟨v, w', hr, h'⟩, hk⟩
 | .ok (.round l f tmps LN bd) w1, h =>
   obtain ⟨v, w', hr, hk⟩ := h
   exact ⟨v, w', fun _ h' => ⟨v, w', hr, h'⟩, hk⟩
theorem ER {g : Env} {o : Oper} {w : Na} {K : Nb -> Na -> Prop} (h : wI P g o w K) :
 ∃ v w', (∀ K' : Nb -> Na -> Prop, K' v w' -> wI P g o w K') /\ K v w' := by
 unfold wI at *
 split at h
 .exact ⟨_, _, fun _ h' => h', h⟩
 .exact ⟨_, _, fun _ h' => h', h⟩
 .split at h
  .obtain ⟨v, w', a, b⟩ := h
   exact ⟨v, w', fun _ h' => ⟨v, w', a, h'⟩, b⟩
  .exact G9 h
 .exact G9 h
theorem JD (op : BinOp) (t : TypeId) (ox oy : Operand) (x y : Nb) : fI op t ox oy x y = V (do eqGuard op t ox oy x y; binOp op t x y) := by
 cases op <;> simp [fI, vZ, eqGuard]
theorem Jc {g : Env} {o : Oper} (ho : sB P o = true) : zO g o = execOp (ev g) o := by
 have ho := F7 ho
 unfold zO
 split
 .rename_i op t x y yt hx
  simp only [execOp, hx, JD, V]
 .rename_i fn first captured hx
  have e1 : (List.map (ev g) first.toList).toArray = first.map (ev g) := by obtain ⟨l⟩ := first; simp
  have e2 : (List.map (ev g) captured.toList).toArray = captured.map (ev g) := by obtain ⟨l⟩ := captured; simp
  simp only [execOp, hx, JS, V, e1, e2]
 .rename_i t ps hx
  have e : (List.map (fun p : Nat × Operand => (p.1, ev g p.2)) ps.toList).toArray = ps.map (fun p => (p.1, ev g p.2)) := by obtain ⟨l⟩ := ps; simp
  simp only [execOp, hx, hX, V, e]
 .rename_i t n ps hx
  have e : (List.map (fun p : Nat × Operand => (p.1, ev g p.2)) ps.toList).toArray = ps.map (fun p => (p.1, ev g p.2)) := by obtain ⟨l⟩ := ps; simp
  simp only [execOp, hx, iD, V, e]
 .rename_i c hx
  split
  .rename_i b hb
   simp only [execOp, hx, resolve, hb, pure_bind, invoke, pI]
   unfold DR at ho
   simp only [hx, hb] at ho
   have e : (List.map (ev g) c.args.toList).toArray = c.args.map (ev g) := by obtain ⟨l⟩ := c.args; simp
   rw [e]
   cases b <;> first | rfl | (cases ho)
  .rename_i f hb
   have e : (List.map (ev g) c.args.toList).toArray = c.args.map (ev g) := by obtain ⟨l⟩ := c.args; simp
   simp only [execOp, hx, resolve, hb, CX, e]
  .rfl
 .rfl
theorem Ft {f : FuncId} {fn : Func} (hf : P.funcs[f]? = some fn) (hb : fn.body.isSome = true) (hn : (fn.name == "runtime.NumGoroutine") = false)
 (args : Array Nb) (w : Na) : (callFunc f args).run P w = .ok (.enter f args) w := by
 unfold callFunc
 have hb' : fn.body.isNone = false := by cases h : fn.body <;> simp_all
 show Sem.run P (Sem.program fun p => _) w = _
 simp only [Sem.run]
 simp only [bind, Sem.bind, hf, hn, hb', LQ, if_false]
 rfl
theorem Ar {g : Env} {o : Oper} {w : Na} {K : Nb -> Na -> Prop} (h : vM P ops g o w K) :
 ∃ v w', Dn P ops g o w v w' /\ K v w' := by
 unfold Dn
 unfold vM at *
 split at h
 .obtain ⟨v, w', h1, h2⟩ := ER h
  exact ⟨v, w', h1, h2⟩
 .rename_i j want hg
  unfold Gd at *
  cases hb : qI g (tA ops j) want with
  | true =>
    simp only [hb] at h
    obtain ⟨v, w', h1, h2⟩ := ER h
    exact ⟨v, w', fun K hk => h1 K hk, h2⟩
  | false =>
    simp only [hb] at h
    exact ⟨_, _, fun K hk => hk, h⟩
theorem DD {N i : Nat} {g : Env} {a : Act} {o : Oper} {w w' : Na} {v : Nb} {next : Act -> Na -> Prop}
 (hi : ops[i]? = some o) (hc : sB P o = true) (hd : B5 N ops) (hr : Bp N g a) (hy : Dn P ops g o w v w') (hn : next (a.put o.dst v) w') : A4 P ops i next a w := by
 have h := hy (fun v2 w2 => v2 = v /\ w2 = w') ⟨rfl, rfl⟩
 unfold A4
 rw [hi]
 simp only [hr.wanted ops hd]
 have run : wI P g o w (fun v2 w2 => v2 = v /\ w2 = w') -> G4 P o a w next := by
  intro h
  refine ⟨GW hc, ?_⟩
  have hevs : execOp a.eval o = execOp (ev g) o := execOp_congr o (fun cs b he => by have := Gy hc; simp [Dr, he] at this) (fun x hx => hr.ev x (GJ hc x hx))
  have stp : dQ P (zO g o) w (fun v2 w2 => v2 = v /\ w2 = w') -> Ln P o a next ((execOp (ev g) o).run P w) := by
   intro h
   rw [Jc hc] at h
   unfold dQ at h
   generalize (execOp (ev g) o).run P w = r at *
   match r, h with
   | .ok (.value v) w1, h => obtain ⟨rfl, rfl⟩ := h; exact hn
   | .ok .skip w1, h => obtain ⟨rfl, rfl⟩ := h; exact hn
   | .ok (.enter f args) w1, h =>
     obtain ⟨v2, w2, hret, rfl, rfl⟩ := h
     exact ⟨_, _, hret, hn⟩
   | .ok (.round l f tmps LN bd) w1, h =>
     obtain ⟨v2, w2, hret, rfl, rfl⟩ := h
     exact ⟨_, _, hret, hn⟩
  rw [hevs]
  unfold wI at h
  split at h
  .rename_i x hx
   obtain ⟨rfl, rfl⟩ := h
   simp only [execOp, hx]; exact hn
  .rename_i x hx
   obtain ⟨rfl, rfl⟩ := h
   simp only [execOp, hx]; exact hn
  .rename_i c hx
   split at h
   .rename_i f hcal
    obtain ⟨v2, w2, hret, rfl, rfl⟩ := h
    have e : (execOp (ev g) o).run P w = .ok (.enter f (List.map (ev g) c.args.toList).toArray) w := by
     have hc := F7 hc
     unfold DR at hc
     simp only [hx, hcal] at hc
     cases hfn : P.funcs[f]? with
     | none => rw [hfn] at hc; cases hc
     | some fn =>
       rw [hfn] at hc
       simp only [LY, Mx] at hc
       have ea : (List.map (ev g) c.args.toList).toArray = c.args.map (ev g) := by obtain ⟨l⟩ := c.args; simp
       rw [ea]
       simp only [execOp, hx, resolve, hcal, ev, Deferred.ofValue, pure_bind, invoke]
       simp only [Array.empty_append, Array.append_empty]
       exact Ft hfn hc.1 hc.2 _ w
    rw [e]
    exact ⟨_, _, hret, hn⟩
   .exact stp h
  .exact stp h
 unfold vM at h
 cases hg : o.guard with
 | none =>
   rw [hg] at h
   simp only [if_true]
   exact run h
 | some p =>
   obtain ⟨j, want⟩ := p
   simp only [hg] at h
   simp only
   by_cases hb : qI g (tA ops j) want = true
   .rw [if_pos hb]
    simp only [hb, Gd] at h
    exact run h
   .rw [if_neg hb]
    have hb' : qI g (tA ops j) want = false := by simpa using hb
    simp only [hb', Gd] at h
    obtain ⟨rfl, rfl⟩ := h
    exact hn
def Cy (P : Program) (ops : Array Oper) : Prop := ∀ (i : Nat) (o : Oper), ops[i]? = some o -> sB P o = true
theorem HS {N : Nat} (hd : B5 N ops) (hca : Cy P ops) {Q : Act -> Na -> Prop} {K : Env -> Na -> Prop}
 (hQ : ∀ g a w, Bp N g a -> K g w -> Q a w) :
 ∀ (l : List Oper) (k : Nat) (g : Env) (a : Act) (w : Na), (∀ j, l[j]? = ops[k + j]?) -> Bp N g a -> DZ P ops l g w K →
   tB P ops Q (List.range' k l.length) a w := by
 intro l
 induction l with
 | nil => intro k g a w _ hr h; exact hQ _ _ _ hr h
 | cons o l ih =>
   intro k g a w hl hr h
   have h0 : ops[k]? = some o := by have := hl 0; simpa using this.symm
   obtain ⟨v, w', hy, hk⟩ := Ar h
   rw [Mc, List.range'_succ]
   show A4 P ops k (tB P ops Q _) a w
   refine DD h0 (hca k o h0) hd hr hy ?_
   refine ih (k + 1) _ _ _ (fun j => ?_) (hr.put _ _ (hd k o h0)) hk
   have := hl (j + 1)
   simp only [LP] at this
   rw [this]; congr 1; omega
def Dl (an : Hd) (O : Nat -> Oper) (G : Nat -> Env) (W : Nat -> Na) (V : Nat -> Nb) (i : Nat) : Rec :=
 ⟨kR i an.1, O i, G i, W i, V i⟩
def Hk (P : Program) (ops : Array Oper) (an : Hd) (O : Nat -> Oper) (G : Nat -> Env) (W : Nat -> Na) (V : Nat -> Nb) (i j : Nat) : Prop :=
 B2 P ops (Dl an O G W V i) (O j) (G j) (W (j + 1)) (V j)
structure H5 (P : Program) (ops : Array Oper) (an : Hd) (g0 : Env) (w0 : Na) (n : Nat) (O : Nat -> Oper) (G : Nat -> Env) (W : Nat -> Na) (V : Nat -> Nb) : Prop where
 g0 : G 0 = g0
 w0 : W 0 = w0
 op : ∀ i, i < n -> ops[i]? = some (O i)
 yld : ∀ i, i < n -> Dn P ops (G i) (O i) (W i) (V i) (W (i + 1))
 light : ∀ i, i < n -> kR i an.1 = false -> W (i + 1) = W i
 env : ∀ i, i < n -> G (i + 1) = put (G i) (O i).dst (V i)
 chk : ∀ i j, i < j -> j < n -> Ee i j an.2 = true -> Hk P ops an O G W V i j
theorem FN {o : Oper} {g : Env} {w' : Na} {v : Nb} {hist : List Rec} : ∀ {ks : List Nat}, JL P ops o g w' v hist ks -> ∀ k ∈ ks, ∃ q, F2 hist k = some q /\ B2 P ops q o g w' v := by
 intro ks
 induction ks with
 | nil => intro _ k hk; cases hk
 | cons a ks ih =>
   rintro ⟨h1, h2⟩ k hk
   rcases MJ.1 hk with rfl | hk
   .cases hn : F2 hist k with
    | none => rw [hn] at h1; exact h1.elim
    | some q => rw [hn] at h1; exact ⟨q, rfl, h1⟩
   .exact ih h2 k hk
theorem HH {n : Nat} {an : Hd} {pl : FU} (h : D9 n an pl = true) {i : Nat} (hi : i < n) :
 ∃ ks, pl[i]? = some (kR i an.1, ks) /\ ∀ j, Ee j i an.2 = true -> j < i /\ (i - 1 - j) ∈ ks := by
 have := Mj.1 h i (Ml.2 hi)
 cases hp : pl[i]? with
 | none => rw [hp] at this; cases this
 | some p =>
   obtain ⟨hv, ks⟩ := p
   rw [hp] at this
   simp only [LY] at this
   obtain ⟨h1, h2⟩ := this
   have h1 : hv = kR i an.1 := by simpa using h1
   refine ⟨ks, by rw [h1], fun j hj => ?_⟩
   have mm : ∀ (l : List (Nat × Nat)), Ee j i l = true -> (j, i) ∈ l := by
    intro l
    induction l with
    | nil => intro h; cases h
    | cons q r ih =>
      obtain ⟨a, b⟩ := q
      intro h
      unfold Ee at h
      cases ha : Nat.beq a j with
      | true =>
        simp only [ha] at h
        cases hb : Nat.beq b i with
        | true =>
          obtain rfl := Me ha
          obtain rfl := Me hb
          exact List.mem_cons_self
        | false => simp only [hb] at h; exact Mb _ (ih h)
      | false => simp only [ha] at h; exact Mb _ (ih h)
   have := Mj.1 h2 (j, i) (mm _ hj)
   simp only [Nat.beq_refl, LW, Bool.false_or, LY] at this
   refine ⟨?_, by simpa using this.2⟩
   have hlt := this.1
   exact (ML (x := j) (y := i)) ▸ hlt
theorem FF {an : Hd} {pl : FU} {g0 : Env} {w0 : Na} {K : Env -> Na -> Prop} (hpl : D9 ops.size an pl = true) :
 ∀ (l : List Oper) (m : Nat) (hist : List Rec) (O : Nat -> Oper) (G : Nat -> Env) (W : Nat -> Na) (V : Nat -> Nb),
   (∀ j, l[j]? = ops[m + j]?) -> m + l.length = ops.size -> H5 P ops an g0 w0 m O G W V -> (∀ i, i < m -> F2 hist (m - 1 - i) = some (Dl an O G W V i)) →
   lO P ops l (pl.drop m) hist (G m) (W m) K →
   ∃ (O : Nat -> Oper) (G : Nat -> Env) (W : Nat -> Na) (V : Nat -> Nb), H5 P ops an g0 w0 (m + l.length) O G W V /\ K (G (m + l.length)) (W (m + l.length)) := by
 intro l
 induction l with
 | nil => intro m hist O G W V _ _ hr _ h; exact ⟨O, G, W, V, hr, by unfold lO at h; exact h⟩
 | cons o l ih =>
   intro m hist O G W V hl hlen hr hh h
   have h0 : ops[m]? = some o := by have := hl 0; simpa using this.symm
   have hmn : m < ops.size := by rw [Mc] at hlen; omega
   obtain ⟨ks, hk1, hk2⟩ := HH hpl hmn
   have hdrop : pl.drop m = (kR m an.1, ks) :: pl.drop (m + 1) := by
    have hlt : m < pl.length := by
     rcases MN m pl.length with h | h
     .exact h
     .rw [MO h] at hk1; cases hk1
    rw [MU hlt]
    rw [L3 hlt] at hk1
    rw [Ms hk1]
   rw [hdrop] at h
   obtain ⟨v, w', hy, hk⟩ := Ar h
   have key : (kR m an.1 = false -> w' = W m) /\ (∀ k ∈ ks, ∃ q, F2 hist k = some q /\ B2 P ops q o (G m) w' v) /\
       (lO P ops l (pl.drop (m + 1)) (⟨kR m an.1, o, G m, W m, v⟩ :: hist) (put (G m) o.dst v) w' K) := by
    have nil : ∀ w', ∀ k ∈ ([] : List Nat), ∃ q, F2 hist k = some q /\ B2 P ops q o (G m) w' v := fun _ k hk => (by cases hk)
    cases hm : kR m an.1 with
    | true =>
      rw [hm] at hk
      cases ks with
      | nil => exact ⟨fun e => (by cases e), nil _, hk⟩
      | cons k ks => exact ⟨fun e => (by cases e), FN hk.1, hk.2⟩
    | false =>
      rw [hm] at hk
      cases ks with
      | nil => obtain ⟨rfl, hk⟩ := hk; exact ⟨fun _ => rfl, nil _, hk⟩
      | cons k ks => obtain ⟨rfl, hc, hk⟩ := hk; exact ⟨fun _ => rfl, FN hc, hk⟩
   obtain ⟨kl, c1, c2⟩ := key
   let O' : Nat -> Oper := fun i => if i = m then o else O i
   let V' : Nat -> Nb := fun i => if i = m then v else V i
   let G' : Nat -> Env := fun i => if i = m + 1 then put (G m) o.dst v else G i
   let W' : Nat -> Na := fun i => if i = m + 1 then w' else W i
   have eO : ∀ i, i < m -> O' i = O i := fun i hi => if_neg (by omega)
   have eV : ∀ i, i < m -> V' i = V i := fun i hi => if_neg (by omega)
   have eG : ∀ i, i <= m -> G' i = G i := fun i hi => if_neg (by omega)
   have eW : ∀ i, i <= m -> W' i = W i := fun i hi => if_neg (by omega)
   have oO : O' m = o := if_pos rfl
   have oV : V' m = v := if_pos rfl
   have oG : G' (m + 1) = put (G m) o.dst v := if_pos rfl
   have oW : W' (m + 1) = w' := if_pos rfl
   have eR : ∀ i, i < m -> Dl an O' G' W' V' i = Dl an O G W V i := fun i hi => by
    simp only [Dl, eO i hi, eV i hi, eG i (by omega), eW i (by omega)]
   have hr' : H5 P ops an g0 w0 (m + 1) O' G' W' V' := by
    refine ⟨by rw [eG 0 (by omega)]; exact hr.g0, by rw [eW 0 (by omega)]; exact hr.w0, fun i hi => ?_, fun i hi => ?_, fun i hi hm => ?_, fun i hi => ?_, fun i j hij hj hm => ?_⟩
    .by_cases hi' : i = m
     .subst hi'; rw [oO]; exact h0
     .rw [eO i (by omega)]; exact hr.op i (by omega)
    .by_cases hi' : i = m
     .subst hi'; rw [oO, oV, oW, eG i (by omega), eW i (by omega)]; exact hy
     .rw [eO i (by omega), eV i (by omega), eG i (by omega), eW i (by omega), eW (i + 1) (by omega)]; exact hr.yld i (by omega)
    .by_cases hi' : i = m
     .subst hi'; rw [oW, eW i (by omega)]; exact kl hm
     .rw [eW i (by omega), eW (i + 1) (by omega)]; exact hr.light i (by omega) hm
    .by_cases hi' : i = m
     .subst hi'; rw [oO, oV, oG, eG i (by omega)]
     .rw [eO i (by omega), eV i (by omega), eG i (by omega), eG (i + 1) (by omega)]; exact hr.env i (by omega)
    .unfold Hk
     by_cases hj' : j = m
     .subst hj'
      rw [eR i (by omega), oO, oV, oW, eG j (by omega)]
      obtain ⟨q, hq, hc⟩ := c1 _ (hk2 i hm).2
      rw [hh i hij] at hq
      obtain rfl := Ms hq
      exact hc
     .rw [eR i (by omega), eO j (by omega), eV j (by omega), eG j (by omega), eW (j + 1) (by omega)]
      exact hr.chk i j hij (by omega) hm
   have := ih (m + 1) (⟨kR m an.1, o, G m, W m, v⟩ :: hist) O' G' W' V' (fun j => by
       have := hl (j + 1)
       simp only [LP] at this
       rw [this]; congr 1; omega) (by rw [Mc] at hlen; omega) hr' (fun i hi => by
       by_cases hi' : i = m
       .subst hi'
        rw [show i + 1 - 1 - i = 0 from by omega]
        simp only [F2, Dl, oO, oV, eG i (by omega), eW i (by omega)]
       .rw [eR i (by omega), show m + 1 - 1 - i = (m - 1 - i) + 1 from by omega]
        exact hh i (by omega)) (by rw [oG, oW]; exact c2)
   rw [Mc, show m + (l.length + 1) = m + 1 + l.length from by omega]
   exact this
end
section
variable {P : Program} {ops : Array Oper} {an : Hd} {g0 : Env} {w0 : Na} {O : Nat -> Oper} {G : Nat -> Env} {W : Nat -> Na} {V : Nat -> Nb}
def Aj (n : Nat) (O : Nat -> Oper) (V : Nat -> Nb) (g0 : Env) (S : Nat -> Prop) (g : Env) : Prop :=
 ∀ s, (∃ j, j < n /\ S j /\ (O j).dst = some s /\ (∀ k, k < n -> S k -> (O k).dst = some s -> k <= j) /\ g s = V j) ∨
   ((∀ j, j < n -> S j -> (O j).dst ≠ some s) /\ g s = g0 s)
theorem Aj.agree {n : Nat} {S T : Nat -> Prop} {g g' : Env} (h : Aj n O V g0 S g) (h' : Aj n O V g0 T g') (s : Nat)
 (hs : ∀ j, j < n -> (O j).dst = some s -> (S j ↔ T j)) : g s = g' s := by
 rcases h s with ⟨j, h1, h2, h3, h4, h5⟩ | ⟨h1, h2⟩ <;> rcases h' s with ⟨k, k1, k2, k3, k4, k5⟩ | ⟨k1, k2⟩
 .have a := h4 k k1 ((hs k k1 k3).2 k2) k3
  have b := k4 j h1 ((hs j h1 h3).1 h2) h3
  have : j = k := by omega
  subst this; rw [h5, k5]
 .exact absurd h3 (k1 j h1 ((hs j h1 h3).1 h2))
 .exact absurd k3 (h1 k k1 ((hs k k1 k3).2 k2))
 .rw [h2, k2]
theorem Aj.step {n : Nat} {S : Nat -> Prop} {g : Env} (h : Aj n O V g0 S g) (i : Nat) (hi : i < n)
 (hw : ∀ s, (O i).dst = some s -> ∀ j, j < n -> j ≠ i -> (O j).dst = some s -> S j -> j < i) :
 Aj n O V g0 (fun j => S j ∨ j = i) (put g (O i).dst (V i)) := by
 intro s
 cases hd : (O i).dst with
 | none =>
   rcases h s with ⟨j, h1, h2, h3, h4, h5⟩ | ⟨h1, h2⟩
   .refine .inl ⟨j, h1, .inl h2, h3, fun k k1 k2 k3 => ?_, h5⟩
    rcases k2 with k2 | rfl
    .exact h4 k k1 k2 k3
    .rw [hd] at k3; cases k3
   .refine .inr ⟨fun j h3 h4 h5 => ?_, h2⟩
    rcases h4 with h4 | rfl
    .exact h1 j h3 h4 h5
    .rw [hd] at h5; cases h5
 | some t =>
   rw [yJ]
   by_cases hst : s = t
   .subst hst
    rw [if_pos rfl]
    refine .inl ⟨i, hi, .inr rfl, hd, fun k k1 k2 k3 => ?_, rfl⟩
    rcases k2 with k2 | rfl
    .by_cases hk : k = i
     .omega
     .have := hw s hd k k1 hk k3 k2; omega
    .omega
   .rw [if_neg hst]
    rcases h s with ⟨j, h1, h2, h3, h4, h5⟩ | ⟨h1, h2⟩
    .refine .inl ⟨j, h1, .inl h2, h3, fun k k1 k2 k3 => ?_, h5⟩
     rcases k2 with k2 | rfl
     .exact h4 k k1 k2 k3
     .rw [hd] at k3; exact absurd (Ms k3).symm hst
    .refine .inr ⟨fun j h3 h4 h5 => ?_, h2⟩
     rcases h4 with h4 | rfl
     .exact h1 j h3 h4 h5
     .rw [hd] at h5; exact absurd (Ms h5).symm hst
theorem H5.envFor {n : Nat} (r : H5 P ops an g0 w0 n O G W V) : ∀ i, i <= n -> Aj n O V g0 (fun j => j < i) (G i) := by
 intro i
 induction i with
 | zero => intro _ s; exact .inr ⟨fun j _ h => absurd h (by omega), by rw [r.g0]⟩
 | succ i ih =>
   intro hi
   have h := ih (by omega)
   have := h.step (V := V) i (by omega) (fun s _ j _ _ _ hj => hj)
   rw [<- r.env i (by omega)] at this
   intro s
   rcases this s with ⟨j, h1, h2, h3, h4, h5⟩ | ⟨h1, h2⟩
   .exact .inl ⟨j, h1, by omega, h3, fun k k1 k2 k3 => h4 k k1 (by omega) k3, h5⟩
   .exact .inr ⟨fun j a b => h1 j a (by omega), h2⟩
theorem H5.still {n : Nat} (r : H5 P ops an g0 w0 n O G W V) (i : Nat) : ∀ d, i + d <= n -> (∀ h, i <= h -> h < i + d -> kR h an.1 = false) -> W (i + d) = W i := by
 intro d
 induction d with
 | zero => intro _ _; rfl
 | succ d ih =>
   intro h1 h2
   rw [<- MS, r.light (i + d) (by omega) (h2 _ (by omega) (by omega))]
   exact ih (by omega) (fun h a b => h2 h a (by omega))
theorem H5.still' {n : Nat} (r : H5 P ops an g0 w0 n O G W V) {i k : Nat} (hik : i <= k) (hk : k <= n) (hh : ∀ h, i <= h -> h < k -> kR h an.1 = false) : W k = W i := by
 have := r.still i (k - i) (by omega) (fun h a b => hh h a (by omega))
 rwa [show i + (k - i) = k from by omega] at this
theorem FY {i k : Nat} : (∃ h, i <= h /\ h < k /\ kR h an.1 = true) -> ∃ h, i <= h /\ h < k /\ kR h an.1 = true /\ ∀ h', i <= h' -> h' < h -> kR h' an.1 = false := by
 rintro ⟨h, h1, h2, h3⟩
 induction h using Nat.strongRecOn with
 | _ h ih =>
   by_cases hx : ∃ h', i <= h' /\ h' < h /\ kR h' an.1 = true
   .obtain ⟨h', a, b, c⟩ := hx
    exact ih h' b a (by omega) c
   .refine ⟨h, h1, h2, h3, fun h' a b => ?_⟩
    cases hm : kR h' an.1
    .rfl
    .exact absurd ⟨h', a, b, hm⟩ hx
theorem Ej {i k : Nat} : (∃ h, i <= h /\ h < k /\ kR h an.1 = true) -> ∃ h, i <= h /\ h < k /\ kR h an.1 = true /\ ∀ h', h < h' -> h' < k -> kR h' an.1 = false := by
 rintro ⟨h, h1, h2, h3⟩
 induction hd : k - h using Nat.strongRecOn generalizing h with
 | _ d ih =>
   by_cases hx : ∃ h', h < h' /\ h' < k /\ kR h' an.1 = true
   .obtain ⟨h', a, b, c⟩ := hx
    exact ih (k - h') (by omega) h' (by omega) b c rfl
   .refine ⟨h, h1, h2, h3, fun h' a b => ?_⟩
    cases hm : kR h' an.1
    .rfl
    .exact absurd ⟨h', a, b, hm⟩ hx
structure D4 (ops : Array Oper) (an : Hd) (O : Nat -> Oper) (b : Array Nat) : Prop where
 back : ∀ i, i < ops.size -> ∀ e ∈ (O i).after, Region.binds .any e = true -> e.on < i
 closed : ∀ i j, i < ops.size -> j < ops.size -> H3 b i j = true -> ∃ e ∈ (O j).after, Region.binds .any e = true /\ (e.on = i ∨ H3 b i e.on = true)
 pair : ∀ i j, i < j -> j < ops.size -> Bf ops b an i j (O i) (O j) = true
 sel : ∀ i, i < ops.size -> Dr (O i) = false
 fn : ∀ i, i < ops.size -> Iq (O i) = true -> kR i an.1 = true
theorem Hv (h : D5 ops an = true) (ho : ∀ i, i < ops.size -> ops[i]? = some (O i)) : D4 ops an O (Region.before ops) := by
 unfold D5 at h
 simp only [LY] at h
 obtain ⟨⟨⟨⟨h1, h2⟩, h3⟩, h5⟩, h6⟩ := h
 refine ⟨fun i hi e he hb => ?_, fun i j hi hj hb => ?_, fun i j hij hj => ?_, fun i hi => ?_, fun i hi hf => ?_⟩
 .unfold EV at h1
  have := Mj.1 h1 i (Ml.2 hi)
  rw [ho i hi] at this
  have := Mt.1 this e he
  simp only [hb, LW, Bool.false_or] at this
  exact (ML (x := e.on) (y := i)) ▸ this
 .unfold EK at h2
  have := Mj.1 (Mj.1 h2 j (Ml.2 hj)) i (Ml.2 hi)
  rw [ho j hj] at this
  simp only [hb, LW, Bool.false_or] at this
  obtain ⟨e, he, h⟩ := Array.any_eq_true'.1 this
  simp only [LY, Mw] at h
  refine ⟨e, he, h.1, h.2.imp (fun h => Me h) id⟩
 .unfold FJ at h3
  have := Mj.1 (Mj.1 h3 j (Ml.2 hj)) i (Ml.2 hij)
  rw [ho i (by omega), ho j hj] at this
  exact this
 .have := Mt.1 h5 (O i) (M4 (ho i hi))
  simpa using this
 .have := Mj.1 h6 i (Ml.2 hi)
  rw [ho i hi] at this
  simpa [hf] using this
theorem Ib {i j : Nat} : ∀ {l : List (Nat × Nat)}, Ee i j l = true -> (i, j) ∈ l := by
 intro l
 induction l with
 | nil => intro h; cases h
 | cons p r ih =>
   obtain ⟨a, b⟩ := p
   intro h
   unfold Ee at h
   cases ha : Nat.beq a i with
   | true =>
     simp only [ha] at h
     cases hb : Nat.beq b j with
     | true =>
       obtain rfl := Me ha
       obtain rfl := Me hb
       exact List.mem_cons_self
     | false => simp only [hb] at h; exact Mb _ (ih h)
   | false => simp only [ha] at h; exact Mb _ (ih h)
theorem D4.order {b : Array Nat} (st : D4 ops an O b) {S : Nat -> Prop} {i : Nat} (hi : i < ops.size)
 (hdown : ∀ j k, j < ops.size -> k < ops.size -> S k -> H3 b j k = true -> S j) (hbi : ∀ j, j < ops.size -> H3 b j i = true -> S j) (hni : ¬ S i)
 {s : Nat} (hs : s ∈ looks ops (O i) ∨ (O i).dst = some s) {j : Nat} (hj : j < ops.size) (hji : j ≠ i) (hd : (O j).dst = some s) : S j ↔ j < i := by
 rcases MN j i with h | h
 .refine ⟨fun _ => h, fun _ => ?_⟩
  have p := st.pair j i h hi
  unfold Bf at p
  simp only [Mw, LY, Mx] at p
  rcases p with p | p
  .exact hbi j hj p
  .exfalso
   have p1 := p.1
   unfold I2 at p1
   simp only [hd, M5] at p1
   rcases hs with hs | hs
   .have := p1.1.1; simp [hs] at this
   .have := p1.1.2; simp [hs] at this
 .have h' : i < j := by omega
  refine ⟨fun hS => ?_, fun hh => by omega⟩
  exfalso
  have p := st.pair i j h' hj
  unfold Bf at p
  simp only [Mw, LY, Mx] at p
  rcases p with p | p
  .exact hni (hdown i j hi hj hS p)
  .have p1 := p.1
   unfold I2 at p1
   simp only [hd, M5] at p1
   rcases hs with hs | hs
   .have := p1.2; simp [hs] at this
   .have := p1.1; rw [hs] at this; simp at this
theorem zE {g g' : Env} {o : Oper} (h : ∀ s ∈ looks ops o, g s = g' s) : ∀ x ∈ o.op.operands, ev g x = ev g' x := by
 intro x hx
 cases x with
 | tmp t => exact h t (MB _ (List.mem_filterMap.2 ⟨.tmp t, by simpa using hx, rfl⟩))
 | _ => rfl
theorem Gb {g g' : Env} {o : Oper} (hs : Dr o = false) (h : ∀ s ∈ looks ops o, g s = g' s) : zO g o = zO g' o := by
 have e := execOp_congr o (fun cs b he => by simp [Dr, he] at hs) (zE h)
 have k := zE h
 unfold zO
 split
 .rename_i op t x y yt hx
  rw [k x (by simp [hx, Op.operands]), k y (by simp [hx, Op.operands])]
 .rename_i fn first captured hx
  have e1 : List.map (ev g) first.toList = List.map (ev g') first.toList := Mv fun p hp => k p (by simp [hx, Op.operands]; exact .inl (by simpa using hp))
  have e2 : List.map (ev g) captured.toList = List.map (ev g') captured.toList := Mv fun p hp => k p (by simp [hx, Op.operands]; exact .inr (by simpa using hp))
  rw [e1, e2]
 .rename_i t ps hx
  congr 1
  refine Mv fun p hp => ?_
  rw [k p.2 (by simp [hx, Op.operands]; exact ⟨p.1, by simpa using hp⟩)]
 .rename_i t n ps hx
  congr 1
  refine Mv fun p hp => ?_
  rw [k p.2 (by simp [hx, Op.operands]; exact ⟨p.1, by simpa using hp⟩)]
 .rename_i c hx
  split
  .rename_i b hb
   congr 1
   refine Mv fun p hp => ?_
   exact k p (by simp [hx, Op.operands, Call.operands, hb]; simpa using hp)
  .rename_i f hb
   have : List.map (ev g) c.args.toList = List.map (ev g') c.args.toList := Mv fun p hp => k p (by simp [hx, Op.operands, Call.operands, hb]; exact .inr (by simpa using hp))
   rw [this, k f (by simp [hx, Op.operands, Call.operands, hb])]
  .exact e
 .exact e
theorem Ew {g g' : Env} {o : Oper} {j : Nat} {want : Bool} (hg : o.guard = some (j, want)) (h : ∀ s ∈ looks ops o, g s = g' s) :
 qI g (tA ops j) want = qI g' (tA ops j) want := by
 cases hs : tA ops j with
 | none => rfl
 | some t =>
   have := h t (MP _ (by simp [hg, hs]))
   simp [qI, this]
theorem CK {g g' : Env} {o : Oper} {w : Na} {K : Nb -> Na -> Prop} (hs : Dr o = false) (h : ∀ s ∈ looks ops o, g s = g' s)
 (hk : vM P ops g o w K) : vM P ops g' o w K := by
 have e := Gb (ops := ops) hs h
 have run : wI P g o w = wI P g' o w := by
  funext K
  unfold wI
  split
  .rename_i x hx
   have := zE (ops := ops) h x (by simp [hx, Op.operands])
   rw [this]
  .rename_i x hx
   have := zE (ops := ops) h x (by simp [hx, Op.operands])
   rw [this]
  .rename_i c hx
   have k := zE h
   have : List.map (ev g) c.args.toList = List.map (ev g') c.args.toList := Mv fun p hp => k p (by simp [hx, Op.operands, Call.operands]; exact .inr (by simpa using hp))
   rw [this, e]
  .rw [e]
 unfold vM at *
 cases hg : o.guard with
 | none => rw [hg] at hk; simp only at hk ⊢; rwa [<- run]
 | some p =>
   obtain ⟨j, want⟩ := p
   simp only [hg] at hk ⊢
   rw [<- run, <- Ew hg h]
   exact hk
theorem FZ {n : Nat} (hn : n = ops.size) {b : Array Nat} (r : H5 P ops an g0 w0 n O G W V) (st : D4 ops an O b) {S : Nat -> Prop} {i k : Nat} (hi : i < n) (hk : k <= n)
 (hdown : ∀ j k, j < ops.size -> k < ops.size -> S k -> H3 b j k = true -> S j) (hbi : ∀ j, j < ops.size -> H3 b j i = true -> S j) (hni : ¬ S i)
 (hS : ∀ h, h < n -> kR h an.1 = true -> (S h ↔ h < k)) (hl : kR i an.1 = false) :
 Dn P ops (G i) (O i) (W k) (V i) (W k) := by
 subst hn
 have same : Gs (Lp ops (O i) (G i)) (fJ P (zO (G i) (O i)) (V i) (W k)) -> Az (O i) = false -> Dn P ops (G i) (O i) (W k) (V i) (W k) := by
  intro hs hm K hK
  have run : fJ P (zO (G i) (O i)) (V i) (W k) -> wI P (G i) (O i) (W k) K := by
   intro hs
   unfold fJ at hs
   have stp : dQ P (zO (G i) (O i)) (W k) K := by unfold dQ; rw [hs]; exact hK
   unfold wI
   split
   .rename_i x hx; simp [Az, hx] at hm
   .rename_i x hx; simp [Az, hx] at hm
   .rename_i c hx
    have hf : Iq (O i) = false := by
     cases hh : Iq (O i)
     .rfl
     .rw [st.fn i hi hh] at hl; cases hl
    obtain ⟨cal, cargs, cats⟩ := c
    cases cal with
    | value f =>
      cases f with
      | func f => simp [Iq, hx] at hf
      | _ => exact stp
    | _ => exact stp
   .exact stp
  have hy := r.yld i hi (fun v _ => v = V i) rfl
  unfold vM at hy ⊢
  unfold Lp at hs
  cases hg : (O i).guard with
  | none => rw [hg] at hs; exact run hs
  | some p =>
    obtain ⟨j, want⟩ := p
    rw [hg] at hs
    simp only [hg] at hs hy ⊢
    cases hb : qI (G i) (tA ops j) want with
    | true => rw [hb] at hs; exact run hs
    | false =>
      rw [hb] at hy
      have : undef = V i := hy
      show K undef (W k)
      rw [this]; exact hK
 have moved : Az (O i) = true -> Dn P ops (G i) (O i) (W k) (V i) (W k) := by
  intro hm K hK
  have hy := r.yld i hi (fun v _ => v = V i) rfl
  unfold vM at hy ⊢
  have mv : ∀ (K' : Nb -> Na -> Prop) w, wI P (G i) (O i) w K' ↔ ∃ x, ((O i).op = .move x ∨ (O i).op = .assign x) /\ K' (ev (G i) x) w := by
   intro K' w
   unfold wI
   unfold Az at hm
   split
   .rename_i x hx; constructor
    .intro h; exact ⟨x, .inl hx, h⟩
    .rintro ⟨y, h | h, h'⟩
     .rw [hx] at h; cases h; exact h'
     .rw [hx] at h; cases h
   .rename_i x hx; constructor
    .intro h; exact ⟨x, .inr hx, h⟩
    .rintro ⟨y, h | h, h'⟩
     .rw [hx] at h; cases h
     .rw [hx] at h; cases h; exact h'
   .rename_i c hx; simp [hx] at hm
   .rename_i h1 h2 _; split at hm
    .rename_i x hx; exact absurd hx (h1 x)
    .rename_i x hx; exact absurd hx (h2 x)
    .cases hm
  cases hg : (O i).guard with
  | none =>
    rw [hg] at hy
    simp only at hy ⊢
    rw [mv] at hy ⊢
    obtain ⟨x, hx, h⟩ := hy
    exact ⟨x, hx, h ▸ hK⟩
  | some p =>
    obtain ⟨j, want⟩ := p
    simp only [hg] at hy ⊢
    unfold Gd at *
    cases hb : qI (G i) (tA ops j) want with
    | true =>
      simp only [hb] at hy ⊢
      rw [mv] at hy ⊢
      obtain ⟨x, hx, h⟩ := hy
      exact ⟨x, hx, h ▸ hK⟩
    | false =>
      simp only [hb] at hy ⊢
      rwa [hy]
 rcases Nat.le_total k i with hki | hki
 .by_cases hx : ∃ h, k <= h /\ h < i /\ kR h an.1 = true
  .obtain ⟨h, h1, h2, h3, h4⟩ := FY hx
   have e : W h = W k := r.still' h1 (by omega) h4
   have p := st.pair h i h2 hi
   unfold Bf at p
   simp only [Mw, LY, Mx] at p
   rcases p with p | p
   .have := hbi h (by omega) p
    have := (hS h (by omega) h3).1 this
    omega
   .have p2 := p.2
    rw [h3, hl] at p2
    simp only [Mw] at p2
    cases hmv : Az (O i) with
    | true => exact moved hmv
    | false =>
      rcases p2 with p2 | p2
      .rw [hmv] at p2; cases p2
      .refine same ?_ hmv
       have c := r.chk h i h2 hi p2
       unfold Hk B2 Dl at c
       simp only [h3] at c
       rw [<- e]; exact c
  .have e : W i = W k := r.still' hki (by omega) (fun h a b => by
    cases hm : kR h an.1
    .rfl
    .exact absurd ⟨h, a, b, hm⟩ hx)
   have hy := r.yld i hi
   rw [r.light i hi hl, e] at hy
   exact hy
 .by_cases hx : ∃ h, i <= h /\ h < k /\ kR h an.1 = true
  .obtain ⟨h, h1, h2, h3, h4⟩ := Ej hx
   have hne : h ≠ i := fun e => by rw [e, hl] at h3; cases h3
   have e : W k = W (h + 1) := r.still' (by omega) hk (fun h' a b => h4 h' (by omega) b)
   have p := st.pair i h (by omega) (by omega)
   unfold Bf at p
   simp only [Mw, LY, Mx] at p
   rcases p with p | p
   .exact absurd (hdown i h (by omega) (by omega) ((hS h (by omega) h3).2 h2) p) hni
   .have p2 := p.2
    rw [h3, hl] at p2
    simp only [Mw] at p2
    cases hmv : Az (O i) with
    | true => exact moved hmv
    | false =>
      rcases p2 with p2 | p2
      .rw [hmv] at p2; cases p2
      .refine same ?_ hmv
       have c := r.chk i h (by omega) (by omega) p2
       unfold Hk B2 Dl at c
       simp only [hl] at c
       rw [e]; exact c
  .have e : W k = W i := r.still' hki hk (fun h a b => by
    cases hm : kR h an.1
    .rfl
    .exact absurd ⟨h, a, b, hm⟩ hx)
   have hy := r.yld i hi
   rw [r.light i hi hl, <- e] at hy
   exact hy
def jE (listed : Array Bool) (i : Nat) : Prop := listed.getD i false = true
theorem IQ {N n : Nat} (hn : n = ops.size) (hd : B5 N ops) (hca : Cy P ops) {b : Array Nat} (r : H5 P ops an g0 w0 n O G W V) (st : D4 ops an O b)
 {Q : Act -> Na -> Prop} (hQ : ∀ a, Bp N (G n) a -> Q a (W n)) :
 ∀ (fuel : Nat) (listed : Array Bool) (g : Env) (a : Act) (k : Nat), listed.size = n -> Bp N g a -> k <= n →
   (∀ j, j < n -> jE listed j -> ∀ e ∈ (O j).after, Region.binds .any e = true -> jE listed e.on) →
   Aj n O V g0 (jE listed) g -> (∀ h, h < n -> kR h an.1 = true -> (jE listed h ↔ h < k)) →
   ((List.range n).filter fun i => !listed.getD i false).length <= fuel →
   Ec P ops Q fuel listed a (W k) := by
 subst hn
 have ready_iff : ∀ (listed : Array Bool), listed.size = ops.size -> ∀ i, i ∈ Region.ready .any ops listed ↔ (i < ops.size /\ ¬ jE listed i /\ ∀ e ∈ (O i).after, Region.binds .any e = true -> jE listed e.on) := by
  intro listed hsz i
  unfold Region.ready jE
  rw [List.mem_filter, Ml]
  constructor
  .rintro ⟨h1, h2⟩
   rw [r.op i h1] at h2
   simp only [LY, Mm, M3] at h2
   refine ⟨h1, ?_, fun e he hb => ?_⟩
   .have := h2.1
    rw [L1] at this ⊢
    rw [L9 (by omega)] at this ⊢
    simpa using this
   .have := Mt.1 h2.2 e he
    simpa [hb] using this
  .rintro ⟨h1, h2, h3⟩
   refine ⟨h1, ?_⟩
   rw [r.op i h1]
   simp only [LY, Mm, M3]
   refine ⟨?_, Mt.2 fun e he => ?_⟩
   .rw [L1] at h2 ⊢
    rw [L9 (by omega)] at h2 ⊢
    simpa using h2
   .by_cases hb : Region.binds .any e = true
    .simp [hb, h3 e he hb]
    .simp [hb]
 have none_ready : ∀ (listed : Array Bool), listed.size = ops.size -> Region.ready .any ops listed = [] -> ∀ i, i < ops.size -> jE listed i := by
  intro listed hsz hr i
  induction i using Nat.strongRecOn with
  | _ i ih =>
    intro hi
    refine Classical.byContradiction fun hl => ?_
    have : i ∈ Region.ready .any ops listed := (ready_iff listed hsz i).2 ⟨hi, hl, fun e he hb => by
     have := st.back i hi e he hb
     exact ih e.on this (by omega)⟩
    rw [hr] at this; cases this
 have all_done : ∀ (listed : Array Bool) (g : Env) (a : Act) (k : Nat), Bp N g a -> k <= ops.size -> Aj ops.size O V g0 (jE listed) g →
     (∀ h, h < ops.size -> kR h an.1 = true -> (jE listed h ↔ h < k)) -> (∀ i, i < ops.size -> jE listed i) -> Q a (W k) := by
  intro listed g a k hr hk he hh hall
  have e : W ops.size = W k := r.still' hk (Md _) (fun h h1 h2 => by
   cases hm : kR h an.1
   .rfl
   .have := (hh h h2 hm).1 (hall h h2); omega)
  have eg : g = G ops.size := funext fun s => he.agree (r.envFor ops.size (Md _)) s (fun j hj _ => ⟨fun _ => hj, fun _ => hall j hj⟩)
  rw [<- e]; exact hQ a (eg ▸ hr)
 intro fuel
 induction fuel with
 | zero =>
   intro listed g a k hsz hr hk hdep henv hh hc
   have hall : ∀ i, i < ops.size -> jE listed i := by
    intro i hi
    have hnil : ((List.range ops.size).filter fun i => !listed.getD i false) = [] := ME.1 (by omega)
    have := List.filter_eq_nil_iff.1 hnil i (Ml.2 hi)
    unfold jE; simpa using this
   refine ⟨?_, all_done listed g a k hr hk henv hh hall⟩
   rw [List.eq_nil_iff_forall_not_mem]
   intro i hi
   have := (ready_iff listed hsz i).1 hi
   exact this.2.1 (hall i this.1)
 | succ fuel ih =>
   intro listed g a k hsz hr hk hdep henv hh hc
   refine ⟨fun hn => all_done listed g a k hr hk henv hh (none_ready listed hsz hn), fun i hi => ?_⟩
   obtain ⟨h1, h2, h3⟩ := (ready_iff listed hsz i).1 hi
   have hdown : ∀ k j, j < ops.size -> k < ops.size -> jE listed k -> H3 b j k = true -> jE listed j := by
    intro k
    induction k using Nat.strongRecOn with
    | _ k ihk =>
      intro j hj hk hl hb
      obtain ⟨e, he, hbi, h⟩ := st.closed j k hj hk hb
      have hle := hdep k hk hl e he hbi
      rcases h with h | h
      .exact h ▸ hle
      .have hlt := st.back k hk e he hbi
       exact ihk e.on hlt j hj (by omega) hle h
   have hbi : ∀ j, j < ops.size -> H3 b j i = true -> jE listed j := by
    intro j hj hb
    obtain ⟨e, he, hbi, h⟩ := st.closed j i hj h1 hb
    have hle := h3 e he hbi
    rcases h with h | h
    .exact h ▸ hle
    .have hlt := st.back i h1 e he hbi
     exact hdown e.on j hj (by omega) hle h
   have hdown' : ∀ j k, j < ops.size -> k < ops.size -> jE listed k -> H3 b j k = true -> jE listed j := fun j k => hdown k j
   have hlooks : ∀ s ∈ looks ops (O i), (G i) s = g s := fun s hs =>
    (r.envFor i (by omega)).agree henv s (fun j hj hd => by
      by_cases hji : j = i
      .subst hji
       exact ⟨fun h => absurd h (by omega), fun h => absurd h h2⟩
      .exact (st.order h1 hdown' hbi h2 (.inl hs) hj hji hd).symm)
   have hl' : ∀ j, jE (listed.setIfInBounds i true) j ↔ (jE listed j ∨ j = i) := by
    intro j
    unfold jE
    rw [L1, L1]
    by_cases hji : j = i
    .subst hji
     rw [Mn (by omega)]
     simp
    .rw [Mq (fun e => hji e.symm)]
     simp [hji]
   have next : ∀ k', k' <= ops.size -> (∀ h, h < ops.size -> kR h an.1 = true -> ((jE listed h ∨ h = i) ↔ h < k')) -> Dn P ops g (O i) (W k) (V i) (W k') →
       A4 P ops i (Ec P ops Q fuel (listed.setIfInBounds i true)) a (W k) := by
    intro k' hk' hh' hy
    refine DD (r.op i h1) (hca i _ (r.op i h1)) hd hr hy ?_
    refine ih _ (put g (O i).dst (V i)) _ k' (by simp [hsz]) (hr.put _ _ (hd i _ (r.op i h1))) hk' ?_ ?_ ?_ ?_
    .intro j hj hlj e he hb
     rw [hl'] at hlj ⊢
     rcases hlj with hlj | rfl
     .exact .inl (hdep j hj hlj e he hb)
     .exact .inl (h3 e he hb)
    .have := henv.step i h1 (fun s hs j hj hji hd hlj => (st.order h1 hdown' hbi h2 (.inr hs) hj hji hd).1 hlj)
     intro s
     rcases this s with ⟨j, j1, j2, j3, j4, j5⟩ | ⟨j1, j2⟩
     .exact .inl ⟨j, j1, (hl' j).2 j2, j3, fun k k1 k2 k3 => j4 k k1 ((hl' k).1 k2) k3, j5⟩
     .exact .inr ⟨fun j a b => j1 j a ((hl' j).1 b), j2⟩
    .intro h a b; rw [hl']; exact hh' h a b
    .have hin : i ∈ (List.range ops.size).filter fun i => !listed.getD i false :=
      List.mem_filter.2 ⟨Ml.2 h1, by unfold jE at h2; simpa using h2⟩
     have e1 : ((List.range ops.size).filter fun j => !(listed.setIfInBounds i true).getD j false) = ((List.range ops.size).filter fun j => !listed.getD j false).filter fun j => j != i := by
      rw [List.filter_filter]
      refine List.filter_congr fun j _ => ?_
      have := hl' j
      unfold jE at this
      by_cases hji : j = i
      .have hh : (listed.setIfInBounds i true).getD j false = true := this.2 (.inr hji)
       rw [hh, hji]; simp
      .have hne : (j != i) = true := by simpa using hji
       rw [hne, Bool.true_and]
       cases ha : listed.getD j false with
       | true => rw [this.2 (.inl ha)]
       | false =>
         cases hb : (listed.setIfInBounds i true).getD j false with
         | false => rfl
         | true => rcases this.1 hb with h | h
                   .rw [ha] at h; cases h
                   .exact absurd h hji
     have hnd : ((List.range ops.size).filter fun j => !listed.getD j false).Nodup := List.nodup_range.filter _
     rw [e1, <- List.Nodup.erase_eq_filter hnd, List.length_erase_of_mem hin]
     omega
   cases hm : kR i an.1 with
   | true =>
     have hS : ∀ h, h < ops.size -> kR h an.1 = true -> (jE listed h ↔ h < i) := by
      intro h hh1 hhm
      rcases Nat.lt_trichotomy h i with hlt | heq | hgt
      .refine ⟨fun _ => hlt, fun _ => ?_⟩
       have p := st.pair h i hlt h1
       unfold Bf at p
       rw [hhm, hm] at p
       simp only [Mw, LY, LQ, and_false, or_false] at p
       exact hbi h hh1 p
      .subst heq; exact ⟨fun hh => absurd hh h2, fun hh => absurd hh (by omega)⟩
      .refine ⟨fun hl => ?_, fun hh => absurd hh (by omega)⟩
       have p := st.pair i h hgt hh1
       unfold Bf at p
       rw [hhm, hm] at p
       simp only [Mw, LY, LQ, and_false, or_false] at p
       exact absurd (hdown h i h1 hh1 hl p) h2
     have eW : W k = W i := by
      rcases Nat.le_total k i with hki | hki
      .exact (r.still' hki (by omega) (fun h a b => by
        cases hx : kR h an.1
        .rfl
        .have := (hh h (by omega) hx).1 ((hS h (by omega) hx).2 b); omega)).symm
      .exact r.still' hki hk (fun h a b => by
        cases hx : kR h an.1
        .rfl
        .have := (hS h (by omega) hx).1 ((hh h (by omega) hx).2 b); omega)
     refine next (i + 1) (by omega) (fun h a b => ?_) ?_
     .rw [hS h a b]; omega
     .rw [eW]
      intro K hK
      exact CK (ops := ops) (st.sel i h1) hlooks (r.yld i h1 K hK)
   | false =>
     refine next k hk (fun h a b => ?_) ?_
     .rw [<- hh h a b]
      constructor
      .rintro (h' | rfl)
       .exact h'
       .rw [hm] at b; cases b
      .exact .inl
     .intro K hK
      exact CK (ops := ops) (st.sel i h1) hlooks (FZ rfl r st h1 hk hdown' hbi h2 hh hm K hK)
end
abbrev Eh (P : Program) : Machine -> Prop := Machine.fenced P Fence.wide
def EC (P : Program) (f : FuncId) (ro : Option Nat) (c : Code) (Q : Exit -> Act -> Na -> Prop) (a : Act) (w : Na) : Prop :=
 ∀ (b : Frame) (k : List Item) (cs : List Frame), b.fn = f -> b.roundOf = ro -> ∃ e a' w', Q e a' w' /\ ArrivesIn (Eh P) P (lone (b.atR a (.code c :: k)) cs w) b k cs e a' w'
section
variable {P : Program} {f : FuncId} {ro : Option Nat} {Q : Exit -> Act -> Na -> Prop} {a : Act} {w : Na}
theorem Ak {m m1 : Machine} (h : step P m = .next m1) : StepsIn (Eh P) P m m1 := .one (fenced_wide P m) h
theorem AL {m m1 m2 : Machine} (h : step P m = .next m1) (h' : StepsIn (Eh P) P m1 m2) : StepsIn (Eh P) P m m2 := .head (fenced_wide P m) h h'
theorem Ia (h : Q .normal a w) : EC P f ro .skip Q a w := fun _ _ _ _ _ => ⟨.normal, a, w, h, Ak Go.stepR_skip⟩
theorem H0 {l : Nat} (h : Q .normal a w) : EC P f ro (.label l) Q a w := fun _ _ _ _ _ => ⟨.normal, a, w, h, Ak stepR_label⟩
theorem Gj {id : Nat} (h : Q (.exit id) a w) : EC P f ro (.exit id) Q a w :=
 fun _ k _ _ _ => ⟨.exit id, a, w, h, fun _ hk => Ak (stepR_exit hk), fun _ hk => ⟨k, hk, .refl _⟩⟩
theorem Hi (h : Q .ret a w) : EC P f ro .ret Q a w :=
 fun _ k _ _ _ => ⟨.ret, a, w, h, fun hn => ⟨_, Ak (stepR_ret hn)⟩, fun _ => ⟨k, .refl _⟩⟩
theorem JI {x y : Code} (h : EC P f ro x (Exit.then (EC P f ro y Q) Q) a w) : EC P f ro (.seq x y) Q a w := by
 intro b k cs hb hro
 obtain ⟨e, a1, w1, hq, har⟩ := h b (.code y :: k) cs hb hro
 cases e with
 | normal =>
   obtain ⟨e2, a2, w2, hq2, har2⟩ := hq b k cs hb hro
   exact ⟨e2, a2, w2, hq2, .of_steps (AL stepR_seq har) har2⟩
 | _ => exact ⟨_, a1, w1, hq, .of_steps (Ak stepR_seq) (.pass (x := .code y) rfl (fun _ _ => .inl (by simp)) har)⟩
theorem I8 {c : Operand} {x y : Code} {t : Bool} (hc : a.eval c = .bool t) (h : EC P f ro (if t then x else y) Q a w) : EC P f ro (.cond c x y) Q a w :=
 fun b k cs hb hro => let ⟨e, a1, w1, q, r⟩ := h b k cs hb hro; ⟨e, a1, w1, q, .of_steps (Ak (stepR_cond hc)) r⟩
theorem HA {id : Nat} {c : Code} (h : EC P f ro c (Exit.inBlock id Q) a w) : EC P f ro (.block id c) Q a w := by
 intro b k cs hb hro
 obtain ⟨e, a1, w1, hq, har⟩ := h b (.inBlock id :: k) cs hb hro
 cases e with
 | normal => exact ⟨.normal, a1, w1, hq, AL stepR_block (StepsIn.trans har (Ak stepR_inBlock))⟩
 | exit i =>
   by_cases hid : i = id
   .simp only [Exit.inBlock, hid, if_true] at hq
    exact ⟨.normal, a1, w1, hq, AL stepR_block (har.1 k (by simp [exitTo, hid]))⟩
   .simp only [Exit.inBlock, hid, if_false] at hq
    have this : (id == i) = false := by simp; exact fun h => hid h.symm
    have hx : exitTo i (.inBlock id :: k) = exitTo i k := by simp [exitTo, this]
    exact ⟨.exit i, a1, w1, hq, fun k' hk => AL stepR_block (har.1 k' (by rw [hx]; exact hk)),
     fun hr' hk => let ⟨k1, h1, h2⟩ := har.2 hr' (by rw [hx]; exact hk); ⟨k1, h1, AL stepR_block h2⟩⟩
 | goto l =>
   have hx : gotoIn l (.inBlock id :: k) = gotoIn l k := by simp [gotoIn]
   exact ⟨_, a1, w1, hq, fun k' hk => AL stepR_block (har.1 k' (by rw [hx]; exact hk)),
    fun hr' hk => let ⟨k1, h1, h2⟩ := har.2 hr' (by rw [hx]; exact hk); ⟨k1, h1, AL stepR_block h2⟩⟩
 | ret => exact ⟨_, a1, w1, hq, .of_steps (Ak stepR_block) har⟩
 | panic ch => exact ⟨_, a1, w1, hq, .of_steps (Ak stepR_block) har⟩
 | outgrown => exact ⟨_, a1, w1, hq, .of_steps (Ak stepR_block) har⟩
theorem rG {b : Frame} {k : List Item} {cs : List Frame} {c : Code} :
 step P (lone (b.atR a (.code (.scope c) :: k)) cs w) = .next (lone (b.atR a (.code c :: .inScope c :: k)) cs w) :=
 step_lone_go (by simp [stepG, stepG.exec, Frame.atR])
theorem Ep {b : Frame} {k : List Item} {cs : List Frame} {c : Code} :
 step P (lone (b.atR a (.inScope c :: k)) cs w) = .next (lone (b.atR a k) cs w) :=
 step_lone_go (by simp [stepG, stepG.exec, Frame.atR])
theorem HN {c : Code} (h : EC P f ro c (Exit.noGoto Q) a w) : EC P f ro (.scope c) Q a w := by
 intro b k cs hb hro
 obtain ⟨e, a1, w1, hq, har⟩ := h b (.inScope c :: k) cs hb hro
 cases e with
 | normal => exact ⟨.normal, a1, w1, hq, AL rG (StepsIn.trans har (Ak Ep))⟩
 | exit id =>
   have hx : exitTo id (.inScope c :: k) = exitTo id k := by simp [exitTo]
   exact ⟨.exit id, a1, w1, hq, fun k' hk => AL rG (har.1 k' (by rw [hx]; exact hk)),
    fun hr' hk => let ⟨k1, h1, h2⟩ := har.2 hr' (by rw [hx]; exact hk); ⟨k1, h1, AL rG h2⟩⟩
 | goto l => exact hq.elim
 | ret => exact ⟨_, a1, w1, hq, .of_steps (Ak rG) har⟩
 | panic ch => exact ⟨_, a1, w1, hq, .of_steps (Ak rG) har⟩
 | outgrown => exact ⟨_, a1, w1, hq, .of_steps (Ak rG) har⟩
theorem IJ {c : Code} (I : Act -> Na -> Prop) (μ : Act -> Na -> Nat) (h0 : I a w)
 (round : ∀ a w, I a w -> EC P f ro c (Exit.then (fun a' w' => I a' w' /\ μ a' w' < μ a w) Q) a w) : EC P f ro (.loop c) Q a w := by
 intro b k cs hb hro
 have key : ∀ n a w, μ a w = n -> I a w →
     ∃ e a' w', Q e a' w' /\ ArrivesIn (Eh P) P (lone (b.atR a (.code c :: .inLoop c :: k)) cs w) b k cs e a' w' := by
  intro n
  induction n using Nat.strongRecOn with
  | _ n ih =>
    intro a w hn hI
    obtain ⟨e, a1, w1, hq, har⟩ := round a w hI b (.inLoop c :: k) cs hb hro
    cases e with
    | normal =>
      obtain ⟨hI1, hlt⟩ := hq
      obtain ⟨e2, a2, w2, hq2, har2⟩ := ih (μ a1 w1) (hn ▸ hlt) a1 w1 rfl hI1
      exact ⟨e2, a2, w2, hq2, .of_steps (StepsIn.trans har (Ak stepR_inLoop)) har2⟩
    | _ => exact ⟨_, a1, w1, hq, .pass (x := .inLoop c) rfl (fun _ _ => .inl (by simp)) har⟩
 obtain ⟨e, a', w', hq, har⟩ := key _ a w rfl h0
 exact ⟨e, a', w', hq, .of_steps (Ak stepR_loop) har⟩
theorem Hf {ops : Array Oper} {L : List Nat} (h : tB P ops (Q .normal) L a w) (b : Frame) (k : List Item) (cs : List Frame) (hro : b.roundOf = ro) :
 ∃ e a' w', Q e a' w' /\ ArrivesIn (Eh P) P (lone (b.atR a (.inRegion ops L :: k)) cs w) b k cs e a' w' := by
 obtain ⟨e, a', w', ⟨rfl, hq⟩, hs⟩ := wp_opsIn (F := Eg ro) (n := 0) L a w (HM ro L a w h) b k cs hro trivial (fun _ h => by simp [Eg, Fence.wide] at h)
 exact ⟨.normal, a', w', hq, hs⟩
theorem GH {id : Nat} {ops : Array Oper} (h : tB P ops (Q .normal) (List.range ops.size) a w) : EC P f ro (.region id ops false) Q a w := by
 intro b k cs hb hro
 obtain ⟨e, a1, w1, q, r⟩ := Hf h b k cs hro
 exact ⟨e, a1, w1, q, .of_steps (Ak stepR_region) r⟩
theorem DN (hm : P.follows .mixedOrders = true) {id : Nat} {ops : Array Oper}
 (h : tB P ops (Q .normal) (Region.schedule true ops (w.tape w.drawn (.order f id))) a { w with drawn := w.drawn + 1 }) : EC P f ro (.region id ops true) Q a w := by
 intro b k cs hb hro
 obtain ⟨e, a1, w1, q, r⟩ := Hf h b k cs hro
 refine ⟨e, a1, w1, q, .of_steps (Ak ?_) r⟩
 have := @stepR_region_draw P b a k cs w ops id
 rw [hm, hb] at this
 exact this
def yQ (v : Nb) (w : Na) (K : Na -> Prop) : Prop :=
 match v with
 | .pointer (some a) => w.heap[a.block]? = some (.deferred (some [])) /\ K (w.putObj a.block (.deferred none))
 | _ => K w
def Hr (P : Program) (fn : Func) (R : Nb -> Na -> Prop) : Exit -> Act -> Na -> Prop
 | .normal, a, w | .ret, a, w => ∃ m, a.defers = Gf m /\ yQ m w fun w' => ∃ v, (results fn a.tmps).run P w' = .ok v w' /\ R v w'
 | _, _, _ => False
theorem FR {fn : Func} {R : Nb -> Na -> Prop} {fr : Frame} {cs : List Frame} (hm : fr.mode = .returning) (hf : P.funcs[fr.fn]? = some fn) (hk : fr.kind = .normal) {m : Nb} (hd : fr.defers = Gf m)
 (h : yQ m w fun w' => ∃ v, (results fn fr.tmps).run P w' = .ok v w' /\ R v w') :
 ∃ v w' fr', R v w' /\ Steps P (lone fr cs w) (lone fr' cs w') /\ fr'.fn = fr.fn /\ fr'.leaving P w' (.returned v) := by
 have nil : fr.defers = [] -> (∃ v, (results fn fr.tmps).run P w = .ok v w /\ R v w) →
     ∃ v w' fr', R v w' /\ Steps P (lone fr cs w) (lone fr' cs w') /\ fr'.fn = fr.fn /\ fr'.leaving P w' (.returned v) := by
  rintro hd ⟨v, hv, hR⟩
  exact ⟨v, w, fr, hR, .refl _ _, rfl, hm, hd, hk, fn, hf, hv⟩
 cases m with
 | pointer p =>
   cases p with
   | none => exact nil hd h
   | some a =>
     obtain ⟨h1, v, hv, hR⟩ := h
     have hs := step_collected (P := P) (fr := fr) (cs := cs) (w := w) (d := { target := .collected a.block, args := #[] }) (r := a.block) (ds := []) (calls := [])
      (by rw [hm]; simp) hd rfl (run_takeDeferred h1)
     exact ⟨v, _, { fr with defers := [] }, hR, .head hs (.refl _ _), rfl, hm, rfl, hk, fn, hf, hv⟩
 | _ => exact nil hd h
theorem EX {fn : Func} {c : Code} {args : Array Nb} {w : Na} {R : Nb -> Na -> Prop}
 (hf : P.funcs[f]? = some fn) (hb : fn.body = some c)
 (h : EC P f none c (Hr P fn R) { tmps := args ++ Array.replicate (fn.ntmps - args.size) undef, defers := [] } w) : Calls P f args w fun e w' => ∃ v, e = .returned v /\ R v w' := by
 intro cs
 let b : Frame := { (default : Frame) with fn := f, kind := .normal, roundOf := none }
 have henter : Frame.enter P f args .normal = b.atR { tmps := args ++ Array.replicate (fn.ntmps - args.size) undef, defers := [] } [.code c] := by
  simp [Frame.enter, Frame.atR, hf, hb, b]
 obtain ⟨e, a', w', hq, har⟩ := h b [] cs rfl rfl
 rw [<- henter] at har
 cases e with
 | normal =>
   obtain ⟨m, hd, hq⟩ := hq
   obtain ⟨v, w2, fr, hR, hs, hfn, hl⟩ := FR (P := P) (cs := cs) (fr := { b.atR a' [] with mode := .returning }) rfl hf rfl hd hq
   exact ⟨.returned v, w2, fr, ⟨v, rfl, hR⟩, (StepsIn.steps har).trans (.head (stepR_end rfl) hs), hfn, hl⟩
 | ret =>
   obtain ⟨m, hd, hq⟩ := hq
   obtain ⟨todo, hs0⟩ := har.1 rfl
   obtain ⟨v, w2, fr, hR, hs, hfn, hl⟩ := FR (P := P) (cs := cs) (fr := { b.atR a' todo with mode := .returning }) rfl hf rfl hd hq
   exact ⟨.returned v, w2, fr, ⟨v, rfl, hR⟩, (StepsIn.steps hs0).trans hs, hfn, hl⟩
 | panic chain => exact hq.elim
 | exit id => exact hq.elim
 | goto l => exact hq.elim
 | outgrown => exact hq.elim
def JZ (P : Program) (f : FuncId) (Q : Exit -> Act -> Na -> Prop) (a : Act) (w : Na) : Option Code -> Prop
 | none => Q .normal a w
 | some c => EC P f none c Q a w
theorem HC {gf : Operand} {ps : Array Tmp} {LN bd : Code} {d : Deferred} {g : FuncId} {args : Array Nb} {w1 : Na} {l : Nat} {mark : List Deferred} {w2 w3 : Na} {v : Nb}
 (he : (Instr.enterLoop f a.tmps ps LN bd none).run P w = .ok (l, mark) w1)
 (hres : (resolve a.eval (rangeCall gf l) 0).run P w1 = .ok d w1) (hinv : (invoke d.target d.args).run P w1 = .ok (.enter g args) w2)
 (hcall : Lv P g args w2 v w3)
 {jump : Option Code} {w4 : Na} (hend : (Instr.endLoop l).run P w3 = .ok jump w4)
 (hj : JZ P f Q { a with defers := mark ++ a.defers } w4 jump) :
 EC P f none (.rangeFunc gf ps LN bd) Q a w := by
 intro b k cs hb hro
 rw [<- hb, <- hro] at he
 have henter := stepR_rangeFunc (P := P) (b := b) (a := a) (k := k) (cs := cs) (w := w) he hres hinv
 obtain ⟨e, w3', fr, ⟨rfl, rfl⟩, hsteps, hfn, hleave⟩ := hcall (b.atR { a with defers := mark ++ a.defers } (.inRangeFunc l :: k) :: cs)
 have sback : StepsIn (Eh P) P (lone (b.atR a (.code (.rangeFunc gf ps LN bd) :: k)) cs w) (lone (b.atR { a with defers := mark ++ a.defers } ((jump.map Item.code).toList ++ k)) cs w4) := by
  refine AL henter (StepsIn.trans (stepsIn_wide.2 hsteps) (AL (m1 := lone (b.atR { a with defers := mark ++ a.defers } (.endRangeFunc l :: k)) cs w3') ?_ (Ak (stepR_endRangeFunc hend))))
  rw [<- finish_atR_inRangeFunc l v]; exact step_leave_returned hleave
 cases jump with
 | none => exact ⟨.normal, _, w4, hj, sback⟩
 | some c =>
   obtain ⟨e', a'', w5, hq, harr⟩ := hj b k cs hb hro
   exact ⟨e', a'', w5, hq, .of_steps sback harr⟩
end
def Fq (ops : Array Oper) : Nat -> Array Bool -> List Nat -> Prop
 | 0, _, L => L = []
 | _ + 1, listed, [] => Region.ready .any ops listed = []
 | n + 1, listed, i :: L => i ∈ Region.ready .any ops listed /\ Fq ops n (listed.setIfInBounds i true) L
section
variable {P : Program} {ops : Array Oper} {Q : Act -> Na -> Prop}
theorem Jo : ∀ (fuel t : Nat) (listed : Array Bool), Fq ops fuel listed (Region.linearise.go .any ops fuel t listed []) := by
 intro fuel
 induction fuel with
 | zero => intro t listed; simp [Region.linearise.go, Fq]
 | succ fuel ih =>
   intro t listed
   simp only [Region.linearise.go]
   change Fq ops (fuel + 1) listed (match (Region.ready .any ops listed)[t % (Region.ready .any ops listed).length]? with
    | some i => Region.linearise.go .any ops fuel (t / (Region.ready .any ops listed).length) (listed.setIfInBounds i true) [i]
    | none => [].reverse)
   cases hi : (Region.ready .any ops listed)[t % (Region.ready .any ops listed).length]? with
   | none =>
     have : Region.ready .any ops listed = [] := by
      cases hr : Region.ready .any ops listed with
      | nil => rfl
      | cons x xs =>
        rw [hr] at hi
        have hlt : t % (x :: xs).length < (x :: xs).length := Nat.mod_lt _ (by simp)
        rw [L3 hlt] at hi
        cases hi
     simpa [Fq] using this
   | some i =>
     simp only []
     rw [linearise_go_acc]
     exact ⟨List.mem_of_getElem? hi, ih _ _⟩
theorem Cx : ∀ (fuel : Nat) (listed : Array Bool) (L : List Nat) (a : Act) (w : Na), Ec P ops Q fuel listed a w -> Fq ops fuel listed L -> tB P ops Q L a w := by
 intro fuel
 induction fuel with
 | zero => intro listed L a w h hL; obtain rfl : L = [] := hL; exact h.2
 | succ fuel ih =>
   intro listed L a w h hL
   cases L with
   | nil => exact h.1 hL
   | cons i L =>
     exact Gv (fun a w hh => ih _ _ a w hh hL.2) (h.2 i hL.1)
end
structure EA (π : List Nat) (ops : Array Oper) : Prop where
 len : π.length = ops.size
 to : ∀ i, i < ops.size -> oB π i < ops.size /\ π[oB π i]? = some i
 back : ∀ k, k < ops.size -> ∃ i, π[k]? = some i /\ oB π i = k /\ i < ops.size
 after : ∀ (i : Nat) (o : Oper), ops[i]? = some o -> ∀ e ∈ o.after, e.on < ops.size
 guard : ∀ (i : Nat) (o : Oper) (j : Nat) (b : Bool), ops[i]? = some o -> o.guard = some (j, b) -> j < ops.size
theorem JA {π : List Nat} {ops : Array Oper} (h : GR π ops = true) : EA π ops := by
 unfold GR at h
 simp only [LY] at h
 obtain ⟨⟨⟨h1, h2⟩, h3⟩, h4⟩ := h
 have h1 := Me h1
 have at4 : ∀ (i : Nat) (o : Oper), ops[i]? = some o -> (o.after.all fun e => Nat.blt e.on ops.size) = true /\ (match o.guard with | some (j, _) => Nat.blt j ops.size | none => true) = true := by
  intro i o ho
  have hi : i < ops.size := by
   rcases MN i ops.size with h | h
   .exact h
   .rw [MZ h] at ho; cases ho
  have := Mj.1 h4 i (Ml.2 hi)
  rw [ho] at this
  simp only [LY] at this
  refine ⟨this.1, ?_⟩
  have h := this.2
  revert h
  cases o.guard <;> exact id
 refine ⟨h1, fun i hi => ?_, fun k hk => ?_, fun i o ho e he => ?_, fun i o j b ho hg => ?_⟩
 .have := Mj.1 h3 i (Ml.2 hi)
  cases hp : π[oB π i]? with
  | none => rw [hp] at this; cases this
  | some j =>
    rw [hp] at this
    obtain rfl := Me this
    refine ⟨?_, rfl⟩
    rcases MN (oB π j) π.length with h | h
    .omega
    .rw [MO h] at hp; cases hp
 .have := Mj.1 h2 k (Ml.2 hk)
  cases hp : π[k]? with
  | none => rw [hp] at this; cases this
  | some i =>
    rw [hp] at this
    simp only [LY] at this
    exact ⟨i, rfl, Me this.1, (ML (x := i) (y := ops.size)) ▸ this.2⟩
 .have := Mt.1 (at4 i o ho).1 e he
  exact (ML (x := e.on) (y := ops.size)) ▸ this
 .have := (at4 i o ho).2
  rw [hg] at this
  exact (ML (x := j) (y := ops.size)) ▸ this
theorem EP {π : List Nat} {es : List (Nat × Nat)} {l : List Oper} : ∀ (r : List Nat), (∀ i ∈ r, i < l.length) -> (CG π es l r).length = r.length /\ ∀ k i : Nat, r[k]? = some i -> (CG π es l r)[k]? = (l[i]?).map (wW π es i) := by
 intro r
 induction r with
 | nil => intro _; exact ⟨rfl, fun k i h => by simp at h⟩
 | cons j r ih =>
   intro h
   obtain ⟨h1, h2⟩ := ih fun i hi => h i (Mb _ hi)
   have hj : j < l.length := h j (by simp)
   simp only [CG, L3 hj]
   refine ⟨by simp [h1], fun k i hk => ?_⟩
   cases k with
   | zero => simp at hk; subst hk; simp [L3 hj]
   | succ k => simp at hk ⊢; exact h2 k i hk
section
variable {P : Program} {ops : Array Oper} {Q : Act -> Na -> Prop} {π : List Nat} {es : List (Nat × Nat)}
theorem EA.mem (p : EA π ops) : ∀ i ∈ π, i < ops.toList.length := by
 intro i hi
 obtain ⟨k, hk, e⟩ := List.getElem_of_mem hi
 obtain ⟨j, h1, _, h2⟩ := p.back k (by rw [<- p.len]; exact hk)
 rw [L3 hk] at h1
 cases h1
 rw [<- e]; simpa using h2
theorem EA.size (p : EA π ops) : (kL π es ops).size = ops.size := by
 unfold kL
 rw [List.size_toArray, (EP (es := es) (π := π) π p.mem).1, p.len]
theorem EA.get (p : EA π ops) {i : Nat} (hi : i < ops.size) : (kL π es ops)[oB π i]? = (ops[i]?).map (wW π es i) := by
 unfold kL
 have := (EP (es := es) (π := π) π p.mem).2 (oB π i) i (p.to i hi).2
 rw [Array.getElem?_toList] at this
 simpa using this
theorem GL {i : Nat} {o : Oper} {a : Act} {w : Na} {K : Act -> Na -> Prop} : G4 P (wW π es i o) a w K ↔ G4 P o a w K := by
 unfold G4
 have h1 : execOp a.eval (wW π es i o) = execOp a.eval o := by
  obtain ⟨d, op, ty, ps, af, g⟩ := o
  cases op <;> rfl
 have h2 : ES (wW π es i o) = ES o := rfl
 rw [h1, h2]
 generalize (execOp a.eval o).run P w = r
 cases r with
 | ok n w => cases n <;> exact Iff.rfl
 | halt x w => exact Iff.rfl
theorem Gk (p : EA π ops) {i : Nat} {o : Oper} (ho : ops[i]? = some o) (tmps : Array Nb) :
 Region.wanted (wW π es i o) (yielded (kL π es ops) tmps) = Region.wanted o (yielded ops tmps) := by
 unfold Region.wanted wW
 simp only
 cases hg : o.guard with
 | none => rfl
 | some q =>
   obtain ⟨j, b⟩ := q
   simp only
   have hj := p.guard i o j b ho hg
   have : (kL π es ops)[oB π j]?.bind (·.dst) = (ops[j]?).bind (·.dst) := by
    rw [p.get hj]
    cases ops[j]? <;> rfl
   unfold yielded
   rw [this]
theorem G5 (p : EA π ops) : ∀ (L : List Nat), (∀ i ∈ L, i < ops.size) -> ∀ (a : Act) (w : Na), tB P (kL π es ops) Q (L.map (oB π)) a w -> tB P ops Q L a w := by
 intro L
 induction L with
 | nil => intro _ a w h; exact h
 | cons i L ih =>
   intro hL a w h
   rw [List.map_cons] at h
   simp only [tB] at h ⊢
   have hi := hL i (by simp)
   have ih := ih fun i hi => hL i (Mb _ hi)
   unfold A4 at h ⊢
   rw [p.get hi] at h
   rw [L9 hi] at h ⊢
   simp only [Mm] at h
   rw [Gk p (L9 hi)] at h
   simp only
   split
   .rename_i hw
    rw [if_pos hw, GL] at h
    exact ET (fun a w => ih a w) h
   .rename_i hw
    rw [if_neg hw] at h
    exact ih _ _ h
theorem Bu {ops : Array Oper} {listed : Array Bool} (hsz : listed.size = ops.size) (i : Nat) :
 i ∈ Region.ready .any ops listed ↔ (i < ops.size /\ listed.getD i false = false /\ ∀ o, ops[i]? = some o -> ∀ e ∈ o.after, Region.binds .any e = true -> listed.getD e.on false = true) := by
 unfold Region.ready
 rw [List.mem_filter, Ml]
 constructor
 .rintro ⟨h1, h2⟩
  rw [L9 h1] at h2
  simp only [LY, Mm, M3] at h2
  refine ⟨h1, ?_, fun o ho e he hb => ?_⟩
  .have := h2.1
   rw [L1] at this ⊢
   rw [L9 (by omega)] at this ⊢
   simpa using this
  .rw [L9 h1] at ho
   cases ho
   have := Mt.1 h2.2 e he
   simpa [hb] using this
 .rintro ⟨h1, h2, h3⟩
  refine ⟨h1, ?_⟩
  rw [L9 h1]
  simp only [LY, Mm, M3]
  refine ⟨?_, Mt.2 fun e he => ?_⟩
  .rw [L1] at h2 ⊢
   rw [L9 (by omega)] at h2 ⊢
   simpa using h2
  .by_cases hb : Region.binds .any e = true
   .simp [hb, h3 _ (L9 h1) e he hb]
   .simp [hb]
theorem I5 {π : List Nat} {i : Nat} : ∀ {es : List (Nat × Nat)} {e : Edge}, e ∈ uQ π i es -> ∃ a, (a, i) ∈ es /\ e.on = oB π a := by
 intro es
 induction es with
 | nil => intro e h; simp [uQ] at h
 | cons q r ih =>
   obtain ⟨a, b⟩ := q
   intro e h
   simp only [uQ] at h
   cases hb : Nat.beq b i with
   | true =>
     rw [hb] at h
     obtain rfl := Me hb
     rcases MJ.1 h with rfl | h
     .exact ⟨a, by simp, rfl⟩
     .obtain ⟨a, h1, h2⟩ := ih h; exact ⟨a, Mb _ h1, h2⟩
   | false => rw [hb] at h; obtain ⟨a, h1, h2⟩ := ih h; exact ⟨a, Mb _ h1, h2⟩
theorem HW (p : EA π ops) {L0 : List Nat} (hes : ∀ q ∈ es, L0.idxOf q.1 <= L0.idxOf q.2 /\ q.1 ≠ q.2 /\ q.1 < ops.size) :
 ∀ (fuel : Nat) (listed listed' : Array Bool) (pre L : List Nat), L0 = pre ++ L -> listed.size = ops.size -> listed'.size = ops.size →
   (∀ j, j < ops.size -> listed'.getD (oB π j) false = listed.getD j false) -> (∀ j ∈ pre, listed.getD j false = true) -> (∀ j, listed.getD j false = true -> j ∈ pre) →
   Fq ops fuel listed L -> Fq (kL π es ops) fuel listed' (L.map (oB π)) /\ ∀ i ∈ L, i < ops.size := by
 intro fuel
 induction fuel with
 | zero => intro listed listed' pre L _ _ _ _ _ _ h; obtain rfl : L = [] := h; exact ⟨rfl, by simp⟩
 | succ fuel ih =>
   intro listed listed' pre L hL0 hs hs' hrel hpre hpre' h
   have hsz : (kL π es ops).size = ops.size := p.size
   cases L with
   | nil =>
     refine ⟨?_, by simp⟩
     show Region.ready .any (kL π es ops) listed' = []
     rw [List.eq_nil_iff_forall_not_mem]
     intro k hk
     obtain ⟨h1, h2, h3⟩ := (Bu (by omega) k).1 hk
     obtain ⟨i, hi1, hi2, hi3⟩ := p.back k (by omega)
     have : i ∈ Region.ready .any ops listed := by
      refine (Bu hs i).2 ⟨hi3, ?_, fun o ho e he hb => ?_⟩
      .rw [<- hrel i hi3, hi2]; exact h2
      .have g := p.get (es := es) hi3
       rw [hi2, ho] at g
       have hon := p.after i o ho e he
       have := h3 _ g ⟨oB π e.on, e.ground⟩ (by
        simp only [wW, List.mem_toArray, MV, M6]
        exact .inl ⟨e, by simpa using he, rfl⟩) (by unfold Region.binds at hb ⊢; exact hb)
       rw [<- hrel e.on hon]; exact this
     rw [show Region.ready .any ops listed = [] from h] at this
     cases this
   | cons i L =>
     obtain ⟨h1, h2⟩ := h
     obtain ⟨r1, r2, r3⟩ := (Bu hs i).1 h1
     have hnot : i ∉ pre := fun hm => by rw [hpre i hm] at r2; cases r2
     have hidx : L0.idxOf i = pre.length := by
      rw [hL0, List.idxOf_append, if_neg hnot]; simp
     have ready' : oB π i ∈ Region.ready .any (kL π es ops) listed' := by
      refine (Bu (by omega) _).2 ⟨by rw [hsz]; exact (p.to i r1).1, by rw [hrel i r1]; exact r2, fun o' ho' e' he' hb => ?_⟩
      rw [p.get r1, L9 r1] at ho'
      simp only [Mm, Option.some.injEq] at ho'
      subst ho'
      simp only [wW, List.mem_toArray, MV, M6] at he'
      rcases he' with ⟨e, he, rfl⟩ | he'
      .have ho := L9 r1
       have he2 : e ∈ ops[i].after := by simpa using he
       rw [hrel e.on (p.after i _ ho e he2)]
       exact r3 _ ho e he2 (by unfold Region.binds at hb ⊢; exact hb)
      .obtain ⟨a, ha, hon⟩ := I5 he'
       obtain ⟨q1, q2, q3⟩ := hes _ ha
       simp only at q1 q2 q3
       rw [hon, hrel a q3]
       refine hpre a ?_
       rw [hidx] at q1
       rw [hL0, List.idxOf_append] at q1
       by_cases hm : a ∈ pre
       .exact hm
       .rw [if_neg hm] at q1
        exfalso
        have hz : (i :: L).idxOf a = 0 := by omega
        rw [List.idxOf_cons] at hz
        cases hb : (i == a) with
        | true => exact q2 (by simpa using (beq_iff_eq.1 hb).symm)
        | false => rw [hb] at hz; simp at hz
     have hlen' : listed'.size = ops.size := hs'
     obtain ⟨k1, k2⟩ := ih (listed.setIfInBounds i true) (listed'.setIfInBounds (oB π i) true) (pre ++ [i]) L (by rw [hL0]; simp) (by simp [hs]) (by simp [hs'])
      (fun j hj => by
       by_cases hji : j = i
       .subst hji
        rw [L1, L1, Mn (by rw [hs']; exact (p.to j hj).1), Mn (by omega)]
       .have hne : oB π i ≠ oB π j := fun e => by
         have a1 := (p.to i r1).2
         have a2 := (p.to j hj).2
         rw [e] at a1
         rw [a1] at a2
         exact hji (Ms a2).symm
        have := hrel j hj
        rw [L1, L1] at this ⊢
        rw [Mq hne, Mq (fun e => hji e.symm)]
        exact this)
      (fun j hj => by
       rw [L1]
       rcases MV.1 hj with hj | hj
       .by_cases hji : j = i
        .subst hji; rw [Mn (by omega)] <;> rfl
        .rw [Mq (fun e => hji e.symm), <- L1]; exact hpre j hj
       .have : j = i := by simpa using hj
        subst this
        rw [Mn (by omega)] <;> rfl)
      (fun j hj => by
       by_cases hji : j = i
       .subst hji; simp
       .rw [L1, Mq (fun e => hji e.symm), <- L1] at hj
        exact MB _ (hpre' j hj))
      h2
     exact ⟨⟨ready', k1⟩, fun j hj => (MJ.1 hj).elim (fun e => e ▸ r1) (k2 j)⟩
end
section
variable {P : Program} {ops : Array Oper}
theorem Dp {N : Nat} {an : Hd} {pl : FU} (hok : D5 ops an = true) (hpl : D9 ops.size an pl = true) (hd : B5 N ops) (hca : Cy P ops)
 {K : Env -> Na -> Prop} {Q : Act -> Na -> Prop} (hQ : ∀ g a w, Bp N g a -> K g w -> Q a w) {g : Env} {a : Act} {w : Na} (hr : Bp N g a)
 (h : lO P ops ops.toList pl [] g w K) : Ec P ops Q ops.size (Array.replicate ops.size false) a w := by
 have r0 : H5 P ops an g w 0 (fun _ => default) (fun _ => g) (fun _ => w) (fun _ => undef) :=
  ⟨rfl, rfl, fun i hi => by omega, fun i hi => by omega, fun i hi => by omega, fun i hi => by omega, fun i j _ hj => by omega⟩
 obtain ⟨O, G, W, V, r, hk⟩ := FF hpl ops.toList 0 [] _ _ _ _ (fun j => by simp) (by simp) r0 (fun i hi => by omega) h
 simp only [LX, Array.length_toList] at r hk
 have st := Hv hok r.op
 have := IQ (Q := Q) (n := ops.size) rfl hd hca r st (fun a hra => hQ _ a _ hra hk) ops.size (Array.replicate ops.size false) g a 0 (by simp) hr (by omega)
  (fun j hj hl => by unfold jE at hl; simp [L1, hj] at hl)
  (fun s => .inr ⟨fun j hj hl => by unfold jE at hl; simp [L1, hj] at hl, rfl⟩)
  (fun h hh _ => ⟨fun hl => by unfold jE at hl; simp [L1, hh] at hl, fun hl => by omega⟩)
  (Nat.le_trans (List.length_filter_le _ _) (by simp))
 rw [r.w0] at this
 exact this
theorem Dk {N : Nat} {ops : Array Oper} (h : ops.all (Hl N) = true) : B5 N ops := by
 intro i o ho t ht
 have := Mt.1 h o (M4 ho)
 unfold Hl at this
 rw [ht] at this
 exact (ML (x := t) (y := N)) ▸ this
theorem D7 {ops : Array Oper} (h : ops.all (sB P) = true) : Cy P ops :=
 fun _ o ho => Mt.1 h o (M4 ho)
theorem GA {N : Nat} {f : FuncId} {id : Nat} (hd : B5 N ops) (hca : Cy P ops)
 {K : Env -> Na -> Prop} {Q : Act -> Na -> Prop} (hQ : ∀ g a w, Bp N g a -> K g w -> Q a w) {g : Env} {a : Act} {w0 w : Na} (hr : Bp N g a) :
 ∀ (T : HT) (path : List (Nat × Nat)), BX P N ops path T = true →
   (∀ q ∈ path, (Region.schedule true ops (w0.tape w0.drawn (.order f id))).idxOf q.1 <= (Region.schedule true ops (w0.tape w0.drawn (.order f id))).idxOf q.2 /\ q.1 ≠ q.2) →
   FB P f id ops T g w0 w K -> tB P ops Q (Region.schedule true ops (w0.tape w0.drawn (.order f id))) a w := by
 have lin : Fq ops ops.size (Array.replicate ops.size false) (Region.schedule true ops (w0.tape w0.drawn (.order f id))) := by
  unfold Region.schedule
  simp only [Bool.true_or, if_true]
  exact Jo _ _ _
 generalize hL : Region.schedule true ops (w0.tape w0.drawn (.order f id)) = L at lin ⊢
 intro T
 induction T with
 | leaf an pl =>
   intro path hok _ h
   simp only [BX, LY] at hok
   exact Cx _ _ _ _ _ (Dp hok.1 hok.2 hd hca hQ hr h) lin
 | perm π es an pl =>
   intro path hok hpath h
   simp only [BX, LY] at hok
   obtain ⟨⟨⟨⟨⟨h1, h2⟩, h3⟩, h4⟩, h5⟩, h6⟩ := hok
   have p := JA h2
   have hes : ∀ q ∈ es, L.idxOf q.1 <= L.idxOf q.2 /\ q.1 ≠ q.2 /\ q.1 < ops.size := fun q hq => by
    have := Mj.1 h1 q hq
    simp only [LY] at this
    have hp := hpath q (Ib this.1)
    exact ⟨hp.1, hp.2, (ML (x := q.1) (y := ops.size)) ▸ this.2⟩
   obtain ⟨k1, k2⟩ := HW (es := es) p hes ops.size (Array.replicate ops.size false) (Array.replicate ops.size false) [] L rfl (by simp) (by simp)
    (fun j hj => by simp [L1, hj, (p.to j hj).1]) (by simp)
    (fun j hj => by rw [L1] at hj; by_cases hh : j < ops.size <;> simp [hh] at hj) lin
   have hw := Dp h5 h6 (Dk h3) (D7 h4) hQ hr h
   rw [p.size] at hw
   exact G5 (es := es) p L k2 a w (Cx _ _ _ _ _ hw k1)
 | split x y A B ihA ihB =>
   intro path hok hpath h
   simp only [BX, LY] at hok
   have hne : x ≠ y := by
    intro e
    have := hok.1.1
    rw [e] at this
    simp at this
   simp only [FB] at h
   unfold Ord Kj at h
   rw [hL] at h
   cases hb : Nat.ble (L.idxOf x) (L.idxOf y) with
   | true =>
     rw [hb] at h
     refine ihA _ hok.1.2 (fun q hq => ?_) h
     rcases MJ.1 hq with rfl | hq
     .exact ⟨MQ hb, hne⟩
     .exact hpath q hq
   | false =>
     rw [hb] at h
     refine ihB _ hok.2 (fun q hq => ?_) h
     rcases MJ.1 hq with rfl | hq
     .refine ⟨?_, hne.symm⟩
      simp only
      rcases MN (L.idxOf y) (L.idxOf x) with hh | hh
      .omega
      .have := Nat.ble_eq_true_of_le hh; rw [this] at hb; cases hb
     .exact hpath q hq
end
section
variable {P : Program} {ann : FA}
def kB : List Oper -> List Nat
 | [] => []
 | o :: r => match o.dst with | some d => d :: kB r | none => kB r
def Bw : Code -> List Nat
 | .region _ ops _ => kB ops.toList
 | .seq x y => Bw x ++ Bw y
 | .cond _ x y => Bw x ++ Bw y
 | .block _ c => Bw c
 | .scope c => Bw c
 | .loop c => Bw c
 | .rangeFunc .. => [DS]
 | _ => []
def jC (l : List Nat) (g g' : Env) : Prop := ∀ s, s ∉ l -> g' s = g s
theorem jC.refl (l : List Nat) (g : Env) : jC l g g := fun _ _ => rfl
theorem jC.trans {l l1 l2 : List Nat} {a b c : Env} (h : jC l1 a b) (k : jC l2 b c) (h1 : ∀ s, s ∈ l1 -> s ∈ l) (h2 : ∀ s, s ∈ l2 -> s ∈ l) : jC l a c :=
 fun s hs => (k s fun h => hs (h2 s h)).trans (h s fun h => hs (h1 s h))
theorem jC.mono {l l1 : List Nat} {a b : Env} (h : jC l1 a b) (h1 : ∀ s, s ∈ l1 -> s ∈ l) : jC l a b := fun s hs => h s fun hh => hs (h1 s hh)
theorem jC.put {l : List Nat} {a : Env} (d : Option Tmp) (v : Nb) (h : ∀ t, d = some t -> t ∈ l) : jC l a (put a d v) := by
 intro s hs
 cases d with
 | none => rfl
 | some t =>
   rw [yJ, if_neg (fun e => hs (by rw [e]; exact h t rfl))]
theorem GB {ops : Array Oper} {K : Env -> Na -> Prop} : ∀ (l : List Oper) (g : Env) (w : Na), DZ P ops l g w K →
 ∃ g' w', K g' w' /\ jC (kB l) g g' /\ ∀ K' : Env -> Na -> Prop, K' g' w' -> DZ P ops l g w K' := by
 intro l
 induction l with
 | nil => intro g w h; exact ⟨g, w, h, jC.refl _ _, fun _ h => h⟩
 | cons o l ih =>
   intro g w h
   obtain ⟨v, w1, hy, h1⟩ := Ar h
   obtain ⟨g', w', hk, ha, hall⟩ := ih _ _ h1
   refine ⟨g', w', hk, ?_, fun K' hk' => hy _ (hall K' hk')⟩
   refine jC.trans (jC.put o.dst v (l := kB (o :: l)) fun t ht => by simp [kB, ht]) ha (fun _ h => h) (fun s hs => ?_)
   unfold kB
   split
   .exact Mb _ hs
   .exact hs
theorem DB {ops : Array Oper} {K : Env -> Na -> Prop} : ∀ (l : List Oper) (pl : FU) (hist : List Rec) (g : Env) (w : Na), lO P ops l pl hist g w K →
 ∃ g' w', K g' w' /\ jC (kB l) g g' /\ ∀ K' : Env -> Na -> Prop, K' g' w' -> lO P ops l pl hist g w K' := by
 intro l
 induction l with
 | nil => intro pl hist g w h; unfold lO at h; exact ⟨g, w, h, jC.refl _ _, fun _ h => (by unfold lO; exact h)⟩
 | cons o l ih =>
   intro pl hist g w h
   cases pl with
   | nil => exact h.elim
   | cons p pl =>
     obtain ⟨hv, ks⟩ := p
     obtain ⟨v, w1, hy, h1⟩ := Ar h
     have tail : ∀ (w2 : Na) (hist' : List Rec), lO P ops l pl hist' (put g o.dst v) w2 K →
         ∃ g' w', K g' w' /\ jC (kB (o :: l)) g g' /\ ∀ K' : Env -> Na -> Prop, K' g' w' -> lO P ops l pl hist' (put g o.dst v) w2 K' := by
      intro w2 hist' c2
      obtain ⟨g', w', hk, ha, hall⟩ := ih _ _ _ _ c2
      refine ⟨g', w', hk, ?_, hall⟩
      refine jC.trans (jC.put o.dst v (l := kB (o :: l)) fun t ht => by simp [kB, ht]) ha (fun _ h => h) (fun s hs => ?_)
      unfold kB
      split
      .exact Mb _ hs
      .exact hs
     cases hv with
     | true =>
       cases ks with
       | nil =>
         obtain ⟨g', w', hk, ha, hall⟩ := tail w1 _ h1
         exact ⟨g', w', hk, ha, fun K' hk' => hy _ (hall K' hk')⟩
       | cons k ks =>
         obtain ⟨hc, h1⟩ := h1
         obtain ⟨g', w', hk, ha, hall⟩ := tail w1 _ h1
         exact ⟨g', w', hk, ha, fun K' hk' => hy _ ⟨hc, hall K' hk'⟩⟩
     | false =>
       cases ks with
       | nil =>
         obtain ⟨rfl, h1⟩ := h1
         obtain ⟨g', w', hk, ha, hall⟩ := tail w1 _ h1
         exact ⟨g', w', hk, ha, fun K' hk' => hy _ ⟨rfl, hall K' hk'⟩⟩
       | cons k ks =>
         obtain ⟨rfl, hc, h1⟩ := h1
         obtain ⟨g', w', hk, ha, hall⟩ := tail w1 _ h1
         exact ⟨g', w', hk, ha, fun K' hk' => hy _ ⟨rfl, hc, hall K' hk'⟩⟩
theorem wL {l : List Oper} {s : Nat} : s ∈ kB l ↔ ∃ o ∈ l, o.dst = some s := by
 induction l with
 | nil => simp [kB]
 | cons o l ih =>
   unfold kB
   cases hd : o.dst with
   | none => simp [ih, hd]
   | some d => simp [ih, hd, eq_comm]
theorem Gq {π : List Nat} {es : List (Nat × Nat)} {l : List Oper} {s : Nat} : ∀ (r : List Nat), s ∈ kB (CG π es l r) -> s ∈ kB l := by
 intro r
 induction r with
 | nil => intro h; simp [CG, kB] at h
 | cons i r ih =>
   intro h
   simp only [CG] at h
   cases ho : l[i]? with
   | none => rw [ho] at h; exact ih h
   | some o =>
     rw [ho] at h
     obtain ⟨o', h1, h2⟩ := wL.1 h
     rcases MJ.1 h1 with rfl | h1
     .exact wL.2 ⟨o, List.mem_of_getElem? ho, h2⟩
     .exact ih (wL.2 ⟨o', h1, h2⟩)
theorem Iu {f : FuncId} {id : Nat} {ops : Array Oper} {K : Env -> Na -> Prop} {g : Env} {w0 : Na} : ∀ (T : HT) (w : Na), FB P f id ops T g w0 w K →
 ∃ g' w', K g' w' /\ jC (kB ops.toList) g g' /\ ∀ K' : Env -> Na -> Prop, K' g' w' -> FB P f id ops T g w0 w K' := by
 intro T
 induction T with
 | leaf an pl => intro w h; exact DB _ _ _ _ _ h
 | perm π es an pl =>
   intro w h
   obtain ⟨g', w', a, b, c⟩ := DB _ _ _ _ _ h
   exact ⟨g', w', a, b.mono (fun s hs => Gq π (by simpa [kL] using hs)), c⟩
 | split x y A B ihA ihB =>
   intro w h
   simp only [FB, Ord] at h ⊢
   cases hb : Kj f id ops x y w0 with
   | true => rw [hb] at h; exact ihA w h
   | false => rw [hb] at h; exact ihB w h
theorem iR.head {α : Type} {F : (α -> Na -> Prop) -> α -> Na -> Prop} (hmono : ∀ X Y g w, (∀ g w, X g w -> Y g w) -> F X g w -> F Y g w)
 {g : α} {w : Na} (h : F (fun g' w' => iR F g' w') g w) (hdet : ∃ g' w', iR F g' w' /\ ∀ X : α -> Na -> Prop, X g' w' -> F X g w) : iR F g w := by
 obtain ⟨g1, w1, ⟨I, ⟨n1, h1⟩, hI⟩, hF⟩ := hdet
 refine ⟨fun n g' w' => I n g' w' ∨ (n = n1 + 1 /\ g' = g /\ w' = w), ⟨n1 + 1, .inr ⟨rfl, rfl, rfl⟩⟩, ?_⟩
 rintro n g' w' (h | ⟨rfl, rfl, rfl⟩)
 .exact hmono _ _ _ _ (fun _ _ ⟨m, hm, hh⟩ => ⟨m, hm, .inl hh⟩) (hI _ _ _ h)
 .exact hF _ ⟨n1, by omega, .inl h1⟩
theorem Kl {f : FuncId} {gf : Operand} {ps : Array Tmp} {LN bd : Code} {Q : Exit -> Env -> Na -> Prop} {g : Env} {w : Na} (h : RF P f gf ps LN bd Q g w) :
 ∃ e g' w', Q e g' w' /\ jC [DS] g g' /\ ∀ Q' : Exit -> Env -> Na -> Prop, Q' e g' w' -> RF P f gf ps LN bd Q' g w := by
 unfold RF at h ⊢
 cases hn : noMark (g DS) with
 | false => rw [hn] at h; exact h.elim
 | true =>
   rw [hn] at h
   simp only at h ⊢
   generalize (CX (ev g gf) [B7 (w.heap.size + 1)]).run P (KJ f (HU P f) ps LN bd g w) = r at *
   match r, h with
   | .ok (.enter f2 args) w1, h =>
     obtain ⟨v, w3, hret, r, h1, h2, h3⟩ := h
     have ha : jC [DS] g (put g (some DS) (.pointer (some ⟨w.heap.size, 0, none⟩))) := jC.put _ _ (fun t ht => by cases ht; simp)
     cases hp : r.pending with
     | none =>
       rw [hp] at h3
       exact ⟨.normal, _, _, h3, ha, fun Q' h => ⟨v, w3, hret, r, h1, h2, by rw [hp]; exact h⟩⟩
     | some c =>
       rw [hp] at h3
       cases c <;> first
        | exact h3.elim
        | exact ⟨.ret, _, _, h3, ha, fun Q' h => ⟨v, w3, hret, r, h1, h2, by rw [hp]; exact h⟩⟩
        | exact ⟨.exit _, _, _, h3, ha, fun Q' h => ⟨v, w3, hret, r, h1, h2, by rw [hp]; exact h⟩⟩
theorem Ha : ∀ (c : Code) (Q : Exit -> Env -> Na -> Prop) (g : Env) (w : Na), gG P ann c Q g w →
 ∃ e g' w', Q e g' w' /\ jC (Bw c) g g' /\ ∀ Q' : Exit -> Env -> Na -> Prop, Q' e g' w' -> gG P ann c Q' g w := by
 intro c
 induction c with
 | skip => intro Q g w h; exact ⟨_, _, _, h, jC.refl _ _, fun _ h => h⟩
 | region id ops draw =>
   intro Q g w h
   cases draw with
   | false =>
     obtain ⟨g', w', a, b, c⟩ := GB _ _ _ h
     exact ⟨.normal, g', w', a, b, fun Q' h => c _ h⟩
   | true =>
     obtain ⟨g', w', a, b, c⟩ := Iu _ _ h
     exact ⟨.normal, g', w', a, b, fun Q' h => c _ h⟩
 | seq x y ihx ihy =>
   intro Q g w h
   obtain ⟨e, g1, w1, a, b, c⟩ := ihx _ _ _ h
   cases e with
   | normal =>
     obtain ⟨e2, g2, w2, a2, b2, c2⟩ := ihy _ _ _ a
     exact ⟨e2, g2, w2, a2, b.trans b2 (fun s h => MB _ h) (fun s h => MP _ h), fun Q' h => c _ (c2 _ h)⟩
   | _ => exact ⟨_, g1, w1, a, b.mono (fun s h => MB _ h), fun Q' h => c _ h⟩
 | cond c x y ihx ihy =>
   intro Q g w h
   simp only [gG] at h ⊢
   unfold lJ at h ⊢
   cases hc : ev g c with
   | bool b =>
     rw [hc] at h
     cases b with
     | true =>
       obtain ⟨e, g', w', a, b, c⟩ := ihx _ _ _ h
       exact ⟨e, g', w', a, b.mono (fun s h => MB _ h), c⟩
     | false =>
       obtain ⟨e, g', w', a, b, c⟩ := ihy _ _ _ h
       exact ⟨e, g', w', a, b.mono (fun s h => MP _ h), c⟩
   | _ => rw [hc] at h; exact h.elim
 | block id c ih =>
   intro Q g w h
   obtain ⟨e, g', w', a, b, c⟩ := ih _ _ _ h
   cases e with
   | exit i =>
     simp only [Jz] at a
     cases hb : Nat.beq i id with
     | true =>
       simp only [hb] at a
       refine ⟨.normal, g', w', a, b, fun Q' h => c _ ?_⟩
       simp only [Jz, hb]; exact h
     | false =>
       simp only [hb] at a
       refine ⟨.exit i, g', w', a, b, fun Q' h => c _ ?_⟩
       simp only [Jz, hb]; exact h
   | _ => exact ⟨_, g', w', a, b, fun Q' h => c _ h⟩
 | loop c ih =>
   intro Q g w h
   have hmono : ∀ (Q : Exit -> Env -> Na -> Prop) (X Y : Env -> Na -> Prop) g w, (∀ g w, X g w -> Y g w) -> gG P ann c (rI X Q) g w -> gG P ann c (rI Y Q) g w := by
    intro Q X Y g w hxy h
    obtain ⟨e, g', w', a, _, k⟩ := ih _ _ _ h
    refine k _ ?_
    cases e with
    | normal => exact hxy _ _ a
    | _ => exact a
   obtain ⟨I, ⟨n, h0⟩, hI⟩ := h
   have key : ∀ n g w, I n g w -> ∃ e g' w', Q e g' w' /\ jC (Bw c) g g' /\ ∀ Q' : Exit -> Env -> Na -> Prop, Q' e g' w' -> iR (fun X g w => gG P ann c (rI X Q') g w) g w := by
    intro n
    induction n using Nat.strongRecOn with
    | _ n ih2 =>
      intro g w hg
      obtain ⟨e, g1, w1, a, b, k⟩ := ih _ _ _ (hI n g w hg)
      have once : ∀ (Q' : Exit -> Env -> Na -> Prop), (∀ X : Env -> Na -> Prop, gG P ann c (rI X Q') g w) -> iR (fun X g w => gG P ann c (rI X Q') g w) g w := by
       intro Q' h
       refine ⟨fun n g' w' => g' = g /\ w' = w, ⟨0, rfl, rfl⟩, ?_⟩
       rintro _ g' w' ⟨rfl, rfl⟩
       exact h _
      cases e with
      | normal =>
        obtain ⟨m, hm, hIm⟩ := a
        obtain ⟨e2, g2, w2, a2, b2, k2⟩ := ih2 m hm g1 w1 hIm
        refine ⟨e2, g2, w2, a2, b.trans b2 (fun _ h => h) (fun _ h => h), fun Q' h => ?_⟩
        have hl := k2 Q' h
        exact iR.head (hmono Q') (k _ hl) ⟨g1, w1, hl, fun X hx => k _ hx⟩
      | _ => exact ⟨_, g1, w1, a, b, fun Q' h => once Q' fun X => k _ h⟩
   exact key n g w h0
 | exit id => intro Q g w h; exact ⟨_, _, _, h, jC.refl _ _, fun _ h => h⟩
 | label l => intro Q g w h; exact ⟨_, _, _, h, jC.refl _ _, fun _ h => h⟩
 | scope c ih => intro Q g w h; exact ih Q g w h
 | ret => intro Q g w h; exact ⟨_, _, _, h, jC.refl _ _, fun _ h => h⟩
 | rangeFunc gf ps LN bd => intro Q g w h; exact Kl h
 | _ => intro Q g w h; exact h.elim
theorem tO {c : Code} {Q Q' : Exit -> Env -> Na -> Prop} {g : Env} {w : Na} (h : gG P ann c Q g w)
 (hq : ∀ e g' w', jC (Bw c) g g' -> Q e g' w' -> Q' e g' w') : gG P ann c Q' g w :=
 let ⟨_, _, _, a, b, k⟩ := Ha c Q g w h
 k _ (hq _ _ _ b a)
def Ke (Q : Exit -> Env -> Na -> Prop) : Exit -> Env -> Na -> Prop
 | .goto _, _, _ => False
 | e, g, w => Q e g w
theorem GN : ∀ (c : Code) (Q : Exit -> Env -> Na -> Prop) (g : Env) (w : Na), gG P ann c Q g w -> gG P ann c (Ke Q) g w := by
 intro c
 induction c with
 | skip => intro Q g w h; exact h
 | region id ops draw => intro Q g w h; cases draw <;> exact h
 | seq x y ihx ihy =>
   intro Q g w h
   show gG P ann x (rI (fun g w => gG P ann y (Ke Q) g w) (Ke Q)) g w
   refine tO (ihx _ _ _ h) (fun e g' w' _ hq => ?_)
   cases e with
   | normal => exact ihy _ _ _ hq
   | goto l => exact hq.elim
   | _ => exact hq
 | cond c x y ihx ihy =>
   intro Q g w h
   simp only [gG] at h ⊢
   unfold lJ at h ⊢
   cases hc : ev g c with
   | bool b =>
     rw [hc] at h
     cases b with
     | true => exact ihx _ _ _ h
     | false => exact ihy _ _ _ h
   | _ => rw [hc] at h; exact h.elim
 | block id c ih =>
   intro Q g w h
   show gG P ann c (Jz id (Ke Q)) g w
   refine tO (ih _ _ _ h) (fun e g' w' _ hq => ?_)
   cases e with
   | exit i =>
     simp only [Ke, Jz] at hq ⊢
     cases hb : Nat.beq i id with
     | true => rw [hb] at hq; exact hq
     | false => rw [hb] at hq; exact hq
   | goto l => exact hq.elim
   | _ => exact hq
 | loop c ih =>
   intro Q g w h
   obtain ⟨I, h0, hI⟩ := h
   refine ⟨I, h0, fun n g w hi => ?_⟩
   refine tO (ih _ _ _ (hI n g w hi)) (fun e g' w' _ hq => ?_)
   cases e with
   | normal => exact hq
   | goto l => exact hq.elim
   | _ => exact hq
 | exit id => intro Q g w h; exact h
 | label l => intro Q g w h; exact h
 | scope c ih => intro Q g w h; exact ih Q g w h
 | ret => intro Q g w h; exact h
 | rangeFunc gf ps LN bd =>
   intro Q g w h
   have h : RF P ann.f gf ps LN bd Q g w := h
   show RF P ann.f gf ps LN bd (Ke Q) g w
   unfold RF at h ⊢
   cases hn : noMark (g DS) with
   | false => rw [hn] at h; exact h.elim
   | true =>
     rw [hn] at h
     simp only at h ⊢
     generalize (CX (ev g gf) [B7 (w.heap.size + 1)]).run P (KJ ann.f (HU P ann.f) ps LN bd g w) = r at *
     match r, h with
     | .ok (.enter f2 args) w1, h =>
       obtain ⟨v, w3, hret, r, h1, h2, h3⟩ := h
       refine ⟨v, w3, hret, r, h1, h2, ?_⟩
       cases hp : r.pending with
       | none => rw [hp] at h3; exact h3
       | some c => rw [hp] at h3; cases c <;> exact h3
 | _ => intro Q g w h; exact h.elim
theorem D1 {N : Nat} {g : Env} {a : Act} (h : Bp N g a) : a.tmps = tmpsOf N g := by
 refine Array.ext (by simp [tmpsOf, h.size]) fun i h1 h2 => ?_
 have hi : i < N := by rw [<- h.size]; exact h1
 have := h.at_ i (Nat.ne_of_lt (MX hi h.le))
 rw [L1, L9 h1] at this
 simp [tmpsOf] at this ⊢
 exact this
theorem IT {v : Nb} (h : noMark v = true) : Gf v = [] := by cases v <;> first | rfl | cases h
theorem HQ {N : Nat} (hm : P.follows .mixedOrders = true) {ro : Option Nat} (hN : HU P ann.f = N) : ∀ (c : Code), codeOk P N ann c = true -> ro = none ∨ oI c = true →
 ∀ (Q : Exit -> Env -> Na -> Prop) (QA : Exit -> Act -> Na -> Prop) (g : Env) (a : Act) (w : Na), Bp N g a →
   (∀ e g a w, Bp N g a -> Q e g w -> QA e a w) -> gG P ann c Q g w -> EC P ann.f ro c QA a w := by
 intro c
 induction c with
 | skip => intro _ _ Q QA g a w hr hq h; exact Ia (hq _ _ _ _ hr h)
 | region id ops draw =>
   intro hok _ Q QA g a w hr hq h
   simp only [codeOk, LY, Mw, Mx] at hok
   have hd := Dk hok.1.1
   have hca := D7 hok.1.2
   cases draw with
   | false =>
     refine GH ?_
     have := HS hd hca (P := P) (Q := QA .normal) (K := Q .normal) (fun g a w => hq .normal g a w) ops.toList 0 g a w (fun j => by simp) hr h
     rw [List.range_eq_range']
     simpa using this
   | true =>
     rcases hok.2 with h1 | h1
     .cases h1
     .exact DN hm (GA hd hca (fun g a w => hq .normal g a w) hr _ [] h1 (by simp) h)
 | seq x y ihx ihy =>
   intro hok hfl Q QA g a w hr hq h
   simp only [codeOk, LY] at hok
   have hfx : ro = none ∨ oI x = true := hfl.imp id fun h => by simp only [oI, LY] at h; exact h.1
   have hfy : ro = none ∨ oI y = true := hfl.imp id fun h => by simp only [oI, LY] at h; exact h.2
   refine JI (ihx hok.1 hfx _ _ g a w hr (fun e g a w hr h => ?_) h)
   cases e with
   | normal => exact ihy hok.2 hfy _ _ g a w hr hq h
   | _ => exact hq _ _ _ _ hr h
 | cond c x y ihx ihy =>
   intro hok hfl Q QA g a w hr hq h
   simp only [codeOk, LY] at hok
   have hfx : ro = none ∨ oI x = true := hfl.imp id fun h => by simp only [oI, LY] at h; exact h.1
   have hfy : ro = none ∨ oI y = true := hfl.imp id fun h => by simp only [oI, LY] at h; exact h.2
   simp only [gG] at h
   unfold lJ at h
   have he := hr.ev c hok.1
   cases hc : ev g c with
   | bool b =>
     rw [hc] at h he
     refine I8 he ?_
     cases b with
     | true => exact ihx hok.2.1 hfx _ _ g a w hr hq h
     | false => exact ihy hok.2.2 hfy _ _ g a w hr hq h
   | _ => rw [hc] at h; exact h.elim
 | block id c ih =>
   intro hok hfl Q QA g a w hr hq h
   refine HA (ih hok hfl _ _ g a w hr (fun e g a w hr h => ?_) h)
   cases e with
   | exit i =>
     unfold Exit.inBlock
     simp only [Jz] at h
     by_cases hi : i = id
     .subst hi
      simp only [if_true]
      simp only [Nat.beq_refl] at h
      exact hq _ _ _ _ hr h
     .simp only [hi, if_false]
      have : Nat.beq i id = false := by
       cases hb : Nat.beq i id
       .rfl
       .exact absurd (Me hb) hi
      simp only [this] at h
      exact hq _ _ _ _ hr h
   | _ => exact hq _ _ _ _ hr h
 | loop c ih =>
   intro hok hfl Q QA g a w hr hq h
   obtain ⟨I, h0, hround⟩ := h
   have hex : ∀ a w, (∃ n g, Bp N g a /\ I n g w) -> ∃ n, (∃ g, Bp N g a /\ I n g w) /\ ∀ m, (∃ g, Bp N g a /\ I m g w) -> n <= m := by
    rintro a w ⟨n, hn⟩
    induction n using Nat.strongRecOn with
    | _ n ih2 =>
      by_cases hx : ∃ m, m < n /\ ∃ g, Bp N g a /\ I m g w
      .obtain ⟨m, hm, h⟩ := hx; exact ih2 m hm h
      .exact ⟨n, hn, fun m hm => Nat.le_of_not_lt fun hlt => hx ⟨m, hlt, hm⟩⟩
   have hdec : ∀ a w, Decidable (∃ n g, Bp N g a /\ I n g w) := fun a w => Classical.propDecidable _
   let μ : Act -> Na -> Nat := fun a w => if hh : ∃ n g, Bp N g a /\ I n g w then Classical.choose (hex a w hh) else 0
   have hμ : ∀ a w n g, Bp N g a -> I n g w -> μ a w <= n /\ ∃ g, Bp N g a /\ I (μ a w) g w := by
    intro a w n g hr hI
    have hh : ∃ n g, Bp N g a /\ I n g w := ⟨n, g, hr, hI⟩
    have e : μ a w = Classical.choose (hex a w hh) := dif_pos hh
    have s := Classical.choose_spec (hex a w hh)
    rw [e]
    exact ⟨s.2 n ⟨g, hr, hI⟩, s.1⟩
   obtain ⟨n0, h0⟩ := h0
   refine IJ (fun a w => ∃ n g, Bp N g a /\ I n g w) μ ⟨n0, g, hr, h0⟩ ?_
   rintro a w ⟨n, g, hr, hI⟩
   obtain ⟨_, g', hr', hI'⟩ := hμ a w n g hr hI
   refine ih hok hfl _ _ g' a w hr' (fun e g1 a1 w1 hr1 h => ?_) (hround _ _ _ hI')
   cases e with
   | normal =>
     obtain ⟨m, hm, hIm⟩ := h
     have := hμ a1 w1 m g1 hr1 hIm
     exact ⟨⟨m, g1, hr1, hIm⟩, by omega⟩
   | _ => exact hq _ _ _ _ hr1 h
 | label l => intro _ _ Q QA g a w hr hq h; exact H0 (hq _ _ _ _ hr h)
 | scope c ih =>
   intro hok hfl Q QA g a w hr hq h
   refine HN (ih hok hfl (Ke Q) _ g a w hr (fun e g a w hr h => ?_) (GN c _ g w h))
   cases e with
   | goto l => exact h.elim
   | _ => exact hq _ _ _ _ hr h
 | exit id => intro _ _ Q QA g a w hr hq h; exact Gj (hq _ _ _ _ hr h)
 | ret => intro _ _ Q QA g a w hr hq h; exact Hi (hq _ _ _ _ hr h)
 | rangeFunc gf ps LN bd =>
   intro hok hfl Q QA g a w hr hq h
   have hro : ro = none := hfl.resolve_right (by simp [oI])
   subst hro
   have hok : EE gf = true := hok
   have h : RF P ann.f gf ps LN bd Q g w := h
   unfold RF at h
   cases hn : noMark (g DS) with
   | false => rw [hn] at h; exact h.elim
   | true =>
     rw [hn] at h
     simp only [hN] at h
     have ed : a.defers = [] := by rw [hr.defers, IT hn]
     have er := run_enterLoop_outer (P := P) (w := w) ann.f a.tmps ps LN bd
     rw [D1 hr] at er
     have er : (Instr.enterLoop ann.f a.tmps ps LN bd none).run P w = .ok (w.heap.size + 1, [{ target := .collected w.heap.size, args := #[] }]) (KJ ann.f N ps LN bd g w) := by rw [D1 hr]; exact er
     generalize KJ ann.f N ps LN bd g w = w1 at *
     have ee := hr.ev gf hok
     unfold CX at h
     have hres : resolve a.eval (rangeCall gf (w.heap.size + 1)) 0 = Deferred.ofValue (ev g gf) #[B7 (w.heap.size + 1)] := by
      have : resolve a.eval (rangeCall gf (w.heap.size + 1)) 0 = Deferred.ofValue (a.eval gf) #[B7 (w.heap.size + 1)] := by
       simp only [resolve, List.map_toArray, List.map_cons, List.map_nil]; rfl
      rw [this, ee]
     rw [show ([B7 (w.heap.size + 1)] : List Nb).toArray = #[B7 (w.heap.size + 1)] from rfl, <- hres, Sem.run_bind] at h
     cases hv : (resolve a.eval (rangeCall gf (w.heap.size + 1)) 0).run P w1 with
     | halt x wx => rw [hv] at h; exact h.elim
     | ok d wx =>
       have hwx : wx = w1 := by
        rw [hres] at hv
        unfold Deferred.ofValue at hv
        split at hv <;> first | (simp only [Sem.run_pure] at hv; cases hv; rfl) | (simp [stuck] at hv)
       subst hwx
       rw [hv] at h
       simp only [Result.andThen] at h
       cases hi : (invoke d.target d.args).run P wx with
       | halt x w2 => rw [hi] at h; exact h.elim
       | ok nx w2 =>
         rw [hi] at h
         cases nx <;> try (exact h.elim)
         obtain ⟨v, w3, hret, r, h1, h2, h3⟩ := h
         have hrel : ∀ w, Bp N (put g (some DS) (.pointer (some ⟨w, 0, none⟩))) { a with defers := [{ target := .collected w, args := #[] }] ++ a.defers } := fun w => by
          refine ⟨hr.le, ?_, hr.size, fun i hi => ?_⟩
          .rw [yJ, if_pos rfl, ed] <;> rfl
          .rw [yJ, if_neg hi]; exact hr.at_ i hi
         have key : ∀ (j : Option Code) (w5 : Na), Lh Q (put g (some DS) (.pointer (some ⟨w.heap.size, 0, none⟩))) j w5 →
             JZ P ann.f QA { a with defers := [{ target := .collected w.heap.size, args := #[] }] ++ a.defers } w5 j := by
          intro j w5 h
          cases j with
          | none => exact hq _ _ _ _ (hrel _) h
          | some c =>
            cases c <;> first
             | exact h.elim
             | exact Hi (hq _ _ _ _ (hrel _) h)
             | exact Gj (hq _ _ _ _ (hrel _) h)
         exact HC er hv hi hret (run_endLoop h1 h2) (key _ _ h3)
 | _ => intro hok; simp [codeOk] at hok
def lL (P : Program) : List ResultVar -> Env -> Na -> (List Nb -> Prop) -> Prop
 | [], _, _, K => K []
 | .tmp t :: r, g, w, K => lL P r g w fun vs => K (g t :: vs)
 | .cell a t :: r, g, w, K => ∃ v, (do loadVar t (<- asAddr (g a)) : Sem Nb).run P w = .ok v w /\ lL P r g w fun vs => K (v :: vs)
def Ev : List Nb -> Nb
 | [v] => v
 | vs => .tuple vs.toArray
def KM (P : Program) (rs : List ResultVar) (R : Nb -> Na -> Prop) : Exit -> Env -> Na -> Prop
 | .normal, g, w => lL P rs g w fun vs => R (Ev vs) w
 | .ret, g, w => lL P rs g w fun vs => R (Ev vs) w
 | _, _, _ => False
theorem F8 {N : Nat} {g : Env} {a : Act} {w : Na} (hr : Bp N g a) : ∀ (rs : List ResultVar), rs.all Fz = true -> ∀ (K : List Nb -> Prop), lL P rs g w K →
 ∃ vs, K vs /\ (rs.mapM fun | .tmp t => pure (a.tmps.getD t undef) | .cell b t => do loadVar t (<- asAddr (a.tmps.getD b undef)) : Sem (List Nb)).run P w = .ok vs w := by
 have ne : ∀ t : Nat, Nat.blt t DS = true -> a.tmps.getD t undef = g t := fun t h => hr.at_ t (Nat.ne_of_lt ((ML (x := t) (y := DS)) ▸ h))
 intro rs
 induction rs with
 | nil => intro _ K h; exact ⟨[], h, by simp⟩
 | cons r rs ih =>
   intro hok K h
   simp only [List.all_cons, LY] at hok
   cases r with
   | tmp t =>
     obtain ⟨vs, h1, h2⟩ := ih hok.2 _ h
     refine ⟨_, h1, ?_⟩
     rw [List.mapM_cons]
     rw [pure_bind, Sem.run_bind]
     simp only [h2, Result.andThen, Sem.run_pure, ne t hok.1]
   | cell b t =>
     obtain ⟨v, hv, h⟩ := h
     obtain ⟨vs, h1, h2⟩ := ih hok.2 _ h
     refine ⟨_, h1, ?_⟩
     rw [List.mapM_cons]
     rw [<- ne b hok.1] at hv
     rw [Sem.run_bind]
     simp only [hv, Result.andThen]
     rw [Sem.run_bind]
     simp only [h2, Result.andThen]
     rfl
theorem Kz (vs : Array Nb) : (if h : vs.size = 1 then vs[0] else Value.tuple vs) = Ev vs.toList := by
 obtain ⟨l⟩ := vs
 match l with
 | [] => rfl
 | [v] => rfl
 | a :: b :: r => simp [Ev]
theorem F4 {N : Nat} {g : Env} {a : Act} {w : Na} (fn : Func) {rs : List ResultVar} (hok : rs.all Fz = true) (hrs : fn.results = rs.toArray) (hr : Bp N g a) {R : Nb -> Na -> Prop}
 (h : lL P rs g w fun vs => R (Ev vs) w) : ∃ v, (results fn a.tmps).run P w = .ok v w /\ R v w := by
 obtain ⟨vs, h1, h2⟩ := F8 hr rs hok _ h
 refine ⟨Ev vs, ?_, h1⟩
 unfold results
 rw [hrs, Array.mapM_eq_mapM_toList, List.toList_toArray]
 simp only [bind_assoc, map_eq_pure_bind]
 rw [Sem.run_bind]
 refine Eq.trans (congrArg (fun r => Result.andThen r _) h2) ?_
 simp only [Result.andThen]
 simp only [pure_bind, Sem.run_pure, Kz]
def El (args : List Nb) : Env := fun i => args.getD i undef
def KI (P : Program) (rs : List ResultVar) (R : Nb -> Na -> Prop) : Exit -> Env -> Na -> Prop
 | .normal, g, w => yQ (g DS) w fun w => lL P rs g w fun vs => R (Ev vs) w
 | .ret, g, w => yQ (g DS) w fun w => lL P rs g w fun vs => R (Ev vs) w
 | _, _, _ => False
theorem F5 {g : Env} {w : Na} : ∀ (rs : List ResultVar) (K : List Nb -> Prop), lL P rs g w K -> ∃ vs, K vs /\ ∀ K' : List Nb -> Prop, K' vs -> lL P rs g w K' := by
 intro rs
 induction rs with
 | nil => intro K h; exact ⟨_, h, fun _ h => h⟩
 | cons r rs ih =>
   intro K h
   cases r with
   | tmp t =>
     obtain ⟨vs, a, b⟩ := ih _ h
     exact ⟨_, a, fun K' h => b _ h⟩
   | cell b t =>
     obtain ⟨v, hv, h⟩ := h
     obtain ⟨vs, a, b⟩ := ih _ h
     exact ⟨_, a, fun K' h => ⟨v, hv, b _ h⟩⟩
theorem EG {v : Nb} {w : Na} {K : Na -> Prop} (h : yQ v w K) : ∃ w', K w' /\ ∀ K' : Na -> Prop, K' w' -> yQ v w K' := by
 cases v with
 | pointer p =>
   cases p with
   | none => exact ⟨_, h, fun _ h => h⟩
   | some a => exact ⟨_, h.2, fun _ h' => ⟨h.1, h'⟩⟩
 | _ => exact ⟨_, h, fun _ h => h⟩
theorem Gx {v : Nb} {w : Na} {K K' : Na -> Prop} (h : yQ v w K) (hk : ∀ w, K w -> K' w) : yQ v w K' :=
 let ⟨w', a, b⟩ := EG h; b _ (hk w' a)
theorem Fw {args : List Nb} {N i : Nat} (hle : args.length <= N) (hi : N <= i) : El args i = undef := by
 unfold El
 rw [Mu, MO (by omega)] <;> rfl
theorem Fp {f : FuncId} {fn : Func} {c : Code} {args : List Nb} {w : Na} {rs : List ResultVar} {R : Nb -> Na -> Prop} (hm : P.follows .mixedOrders = true) (hAf : ann.f = f)
 (hf : P.funcs[f]? = some fn) (hb : fn.body = some c) (hrs : fn.results = rs.toArray) {N : Nat} (hN : fn.ntmps = N) (hle : args.length <= N)
 (hok : codeOk P N ann c = true) (hro : rs.all Fz = true) (hND : Nat.ble N DS = true) (h : gG P ann c (KI P rs R) (El args) w) : fO P f args.toArray w R := by
 obtain ⟨e, g', w', hq, _, hall⟩ := Ha _ _ _ _ h
 have hND := MQ hND
 have hNt : HU P ann.f = N := by unfold HU; rw [hAf, hf]; exact hN
 have hrv : yQ (g' DS) w' fun w => lL P rs g' w fun vs => R (Ev vs) w := by cases e <;> first | exact hq | exact hq.elim
 obtain ⟨w2, hrv2, hsh⟩ := EG hrv
 obtain ⟨vs, hv, hrest⟩ := F5 _ _ hrv2
 refine ⟨Ev vs, w2, ?_, hv⟩
 have hrel : Bp N (El args) { tmps := args.toArray ++ Array.replicate (fn.ntmps - args.toArray.size) undef, defers := [] } := by
  refine ⟨hND, by rw [Fw hle hND] <;> rfl, by simp [hN]; omega, fun i _ => ?_⟩
  simp only [El, L1, Mu]
  by_cases hi : i < args.length
  .simp [Array.getElem?_append, hi]
  .simp only [Array.getElem?_append, List.size_toArray, hi, if_false, Array.getElem?_replicate]
   rw [MO (by omega)]
   split <;> rfl
 have key := EX (P := P) (f := f) hf hb (R := fun v3 w3 => v3 = Ev vs /\ w3 = w2) (args := args.toArray) (w := w)
  (hAf ▸ HQ hm hNt c hok (.inl rfl) (KI P rs fun v3 w3 => v3 = Ev vs /\ w3 = w2) _ _ _ _ hrel (fun e g a w hr h => ?_) (hall _ ?_))
 .refine Calls.mono key ?_
  rintro e w3 ⟨v, rfl, rfl, rfl⟩
  exact ⟨rfl, rfl⟩
 .have hx : ∀ {w}, (yQ (g DS) w fun w => lL P rs g w fun vs' => Ev vs' = Ev vs /\ w = w2) -> ∃ m, a.defers = Gf m /\ yQ m w fun w' => ∃ v, (results fn a.tmps).run P w' = .ok v w' /\ (v = Ev vs /\ w' = w2) := by
   intro w h
   exact ⟨_, hr.defers, Gx h fun w h => F4 fn hro hrs hr (R := fun v3 w3 => v3 = Ev vs /\ w3 = w2) h⟩
  cases e with
  | normal => exact hx h
  | ret => exact hx h
  | _ => exact h.elim
 .have := hsh (fun w => lL P rs g' w fun vs' => Ev vs' = Ev vs /\ w = w2) (hrest _ ⟨rfl, rfl⟩)
  cases e <;> first | exact this | exact hq.elim
theorem JH {N : Nat} : ∀ (c : Code), codeOk P N ann c = true -> oI c = true -> ∀ s ∈ Bw c, s < N := by
 intro c
 induction c with
 | region id ops draw =>
   intro hok _ s hs
   simp only [codeOk, LY] at hok
   obtain ⟨o, h1, h2⟩ := wL.1 hs
   obtain ⟨i, hi, rfl⟩ := List.getElem_of_mem h1
   exact Dk hok.1.1 i _ (by simp at hi ⊢) s h2
 | seq x y ihx ihy =>
   intro hok hfl s hs
   simp only [codeOk, oI, LY] at hok hfl
   rcases MV.1 hs with hs | hs
   .exact ihx hok.1 hfl.1 s hs
   .exact ihy hok.2 hfl.2 s hs
 | cond c x y ihx ihy =>
   intro hok hfl s hs
   simp only [codeOk, oI, LY] at hok hfl
   rcases MV.1 hs with hs | hs
   .exact ihx hok.2.1 hfl.1 s hs
   .exact ihy hok.2.2 hfl.2 s hs
 | block id c ih => intro hok hfl s hs; exact ih hok hfl s hs
 | loop c ih => intro hok hfl s hs; exact ih hok hfl s hs
 | scope c ih => intro hok hfl s hs; exact ih hok hfl s hs
 | rangeFunc => intro _ hfl; simp [oI] at hfl
 | _ => intro _ _ s hs; simp [Bw] at hs
theorem Ge {f : FuncId} {fn : Func} {c : Code} {args : List Nb} {w : Na} {rs : List ResultVar} {R : Nb -> Na -> Prop} (hm : P.follows .mixedOrders = true) (hAf : ann.f = f)
 (hf : P.funcs[f]? = some fn) (hb : fn.body = some c) (hrs : fn.results = rs.toArray) {N : Nat} (hN : fn.ntmps = N) (hle : args.length <= N)
 (hok : codeOk P N ann c = true) (hro : rs.all Fz = true) (hND : Nat.ble N DS = true) (hfl : oI c = true) (h : gG P ann c (KM P rs R) (El args) w) : fO P f args.toArray w R := by
 refine Fp hm hAf hf hb hrs hN hle hok hro hND (tO h fun e g' w' ha hq => ?_)
 have hND := MQ hND
 have : g' DS = undef := by
  rw [ha DS (fun hd => absurd (JH c hok hfl DS hd) (Nat.not_lt.2 hND)), Fw hle hND]
 cases e with
 | normal => show yQ (g' DS) w' (fun w => lL P rs g' w fun vs => R (Ev vs) w); rw [this]; exact hq
 | ret => show yQ (g' DS) w' (fun w => lL P rs g' w fun vs => R (Ev vs) w); rw [this]; exact hq
 | _ => exact hq.elim
theorem Eo {f : FuncId} {args : Array Nb} {w : Na} {R : Nb -> Na -> Prop} (h : fO P f args w R) :
 Calls P f args w fun e w' => ∃ v, e = .returned v /\ R v w' := by
 obtain ⟨v, w', hr, hR⟩ := h
 refine Calls.mono hr ?_
 rintro e w'' ⟨rfl, rfl⟩
 exact ⟨v, rfl, hR⟩
end
def sA : Code -> Code | .seq a _ => a | c => c
def cT : Code -> Code | .cond _ a _ => a | c => c
def cE : Code -> Code | .cond _ _ b => b | c => c
def bI : Code -> Code | .block _ c => c | .loop c => c | .scope c => c | c => c
def iM (f : Func) : Code := match f.body with | some c => c | none => .skip
def fN : Nat -> Code -> Code
 | 0, c => c
 | 1, c => sA c
 | n + 1, .seq a b => .seq a (fN n b)
 | _, c => c
def dX : Nat -> Code -> Code
 | 0, c => c
 | n + 1, .seq _ b => dX n b
 | _, c => c
def Gu : Nat -> Code -> Bool
 | 1, .seq _ _ => true
 | n + 1, .seq _ b => Gu n b
 | _, _ => false
def dr (w : Na) : Na := { w with drawn := w.drawn + 1 }
def Er (P : Program) (t : TypeId) (a : Nb) (w : Na) (K : Nb -> Prop) : Prop := ∃ v, (do loadVar t (<- asAddr a) : Sem Nb).run P w = .ok v w /\ K v
def Lm : List (Nat × (Env -> Na -> Prop)) -> Nat -> Env -> Na -> Prop
 | [], _, _, _ => False
 | (j, k) :: r, i, g, w => match Nat.beq i j with | true => k g w | false => Lm r i g w
def LF (kn kr : Env -> Na -> Prop) (l : List (Nat × (Env -> Na -> Prop))) : Exit -> Env -> Na -> Prop
 | .normal, g, w => kn g w
 | .ret, g, w => kr g w
 | .exit i, g, w => Lm l i g w
 | _, _, _ => False
def G6 (Q : Exit -> Env -> Na -> Prop) : List (Nat × (Env -> Na -> Prop)) -> Prop
 | [] => True
 | (i, k) :: r => (∀ g w, k g w -> Q (.exit i) g w) /\ G6 Q r
def nX (c a b : Nb) : Sem Next := do pure (.value (if <- asBool c then a else b))
def pN (t : TypeId) : Sem Next := V (Instr.alloc t true (.tuple #[]))
def GU (t : TypeId) (x : Nb) : Sem Next := V (Instr.box t x)
def fR (t : TypeId) (a : Nb) : Sem Next := V (Instr.loadAt t a)
def fX (t : TypeId) (a x : Nb) : Sem Next := U (Instr.storeAt t a x)
def iW (x : Nb) : Sem Next := execOp (fun _ => x) ⟨none, .nilCheck (.tmp 0), 0, default, #[], none⟩
def Jg (op : UnOp) (x : Nb) : Sem Next := V (Op.unary op x)
def jF (s d : TypeId) (x : Nb) : Sem Next := V (convert s d x)
def H7 (t : TypeId) (x : Nb) : Sem Next := V (Instr.makeInterface t x)
def yY (t : TypeId) (l c : Nb) : Sem Next := V (Instr.makeSlice t l c)
def hP (t : TypeId) (x : Nb) (lo hi mx : Option Nb) : Sem Next := V (Instr.sliceAt t x lo hi mx)
def fK (t : TypeId) (x : Nb) (f : Nat) : Sem Next := V (Instr.fieldAt t x f)
def kG (t : TypeId) (x i : Nb) : Sem Next := V (Instr.indexAt t x i)
def Dc (t : TypeId) (x i : Nb) : Sem Next := V (Instr.index t x i)
def iB (t : Nb) (i : Nat) : Sem Next := V (Instr.extract t i)
section
variable {P : Program} {ann : FA}
theorem Kv {Q : Exit -> Env -> Na -> Prop} : ∀ {l : List (Nat × (Env -> Na -> Prop))}, G6 Q l -> ∀ {i : Nat} {g : Env} {w : Na}, Lm l i g w -> Q (.exit i) g w := by
 intro l
 induction l with
 | nil => intro _ i g w h; exact h.elim
 | cons p r ih =>
   obtain ⟨j, k⟩ := p
   rintro ⟨h1, h2⟩ i g w h
   simp only [Lm] at h
   cases hb : Nat.beq i j with
   | true =>
     simp only [hb] at h
     obtain rfl := Me hb
     exact h1 _ _ h
   | false => simp only [hb] at h; exact ih h2 h
theorem JJ {c : Code} {kn kr : Env -> Na -> Prop} {l : List (Nat × (Env -> Na -> Prop))} {Q : Exit -> Env -> Na -> Prop} {g : Env} {w : Na} {A : Prop}
 (e : A = gG P ann c (LF kn kr l) g w) (h : A) (hn : ∀ g w, kn g w -> Q .normal g w) (hr : ∀ g w, kr g w -> Q .ret g w) (hl : G6 Q l) : gG P ann c Q g w := by
 rw [e] at h
 refine tO h (fun e g' w' _ hq => ?_)
 cases e with
 | normal => exact hn _ _ hq
 | ret => exact hr _ _ hq
 | exit i => exact Kv hl hq
 | _ => exact hq.elim
theorem Hw {x y z : Code} {Q : Exit -> Env -> Na -> Prop} {g : Env} {w : Na} (h : gG P ann (.seq (.seq x y) z) Q g w) : gG P ann (.seq x (.seq y z)) Q g w := by
 show gG P ann x (rI (fun g w => gG P ann y (rI (fun g w => gG P ann z Q g w) Q) g w) Q) g w
 have h : gG P ann x (rI (fun g w => gG P ann y (rI (fun g w => gG P ann z Q g w) Q) g w) (rI (fun g w => gG P ann z Q g w) Q)) g w := h
 refine tO h (fun e g' w' _ hq => ?_)
 cases e <;> exact hq
theorem fQ {K : Env -> Na -> Prop} {Q : Exit -> Env -> Na -> Prop} {g : Env} {w : Na} (h : K g w) : rI K Q .normal g w := h
theorem HY {Q : Exit -> Env -> Na -> Prop} : ∀ (n : Nat) (c : Code) (g : Env) (w : Na), Gu n c = true -> gG P ann (.seq (fN n c) (dX n c)) Q g w -> gG P ann c Q g w := by
 intro n
 induction n with
 | zero => intro c g w h; simp [Gu] at h
 | succ n ih =>
   intro c g w h hd
   cases c with
   | seq a b =>
     cases n with
     | zero => exact hd
     | succ n =>
       have hb : Gu (n + 1) b = true := by simpa [Gu] using h
       have hd' : gG P ann (.seq (.seq a (fN (n + 1) b)) (dX (n + 1) b)) Q g w := hd
       have := Hw hd'
       show gG P ann a (rI (fun g w => gG P ann b Q g w) Q) g w
       have h2 : gG P ann a (rI (fun g w => gG P ann (.seq (fN (n + 1) b) (dX (n + 1) b)) Q g w) Q) g w := this
       refine tO h2 (fun e g' w' _ hq => ?_)
       cases e with
       | normal => exact ih b g' w' hb hq
       | _ => exact hq
   | _ => cases n <;> simp [Gu] at h
def JV (id : Nat) : Code -> Bool | .block i _ => Nat.beq i id | _ => false
def I1 : Code -> Bool | .loop _ => true | _ => false
def IM : Code -> Option Operand | .cond o _ _ => some o | _ => none
theorem JB {Q : Exit -> Env -> Na -> Prop} (id : Nat) (c : Code) (g : Env) (w : Na) (h : JV id c = true) (hd : gG P ann (bI c) (Jz id Q) g w) : gG P ann c Q g w := by
 cases c with
 | block i c =>
   obtain rfl := Me (show Nat.beq i id = true from h)
   exact hd
 | _ => cases h
def J1 : Code -> Bool | .scope _ => true | _ => false
theorem JE {Q : Exit -> Env -> Na -> Prop} (c : Code) (g : Env) (w : Na) (h : J1 c = true) (hd : gG P ann (bI c) Q g w) : gG P ann c Q g w := by
 cases c with
 | scope c => exact hd
 | _ => cases h
theorem Jp {Q : Exit -> Env -> Na -> Prop} (o : Operand) (c : Code) (g : Env) (w : Na) (h : IM c = some o)
 (hd : lJ (ev g o) (gG P ann (cT c) Q g w) (gG P ann (cE c) Q g w)) : gG P ann c Q g w := by
 cases c with
 | cond o' a b => obtain rfl := Ms h; exact hd
 | _ => cases h
theorem Ig {v : Nb} {A B A' B' : Prop} (ha : A -> A') (hb : B -> B') (h : lJ v A B) : lJ v A' B' := by
 unfold lJ at *
 cases v with
 | bool b => cases b <;> first | exact ha h | exact hb h
 | _ => exact h
theorem Il {T : Type} (proj : Env -> T) (F : (T -> Na -> Prop) -> T -> Na -> Prop) {c : Code} {Q : Exit -> Env -> Na -> Prop} {g : Env} {w : Na}
 (hF : ∀ (X : T -> Na -> Prop) g' w', jC (Bw c) g g' -> F X (proj g') w' -> gG P ann c (rI (fun g'' w'' => X (proj g'') w'') Q) g' w')
 (h : iR F (proj g) w) : gG P ann (.loop c) Q g w := by
 obtain ⟨I, ⟨n, h0⟩, hI⟩ := h
 refine ⟨fun n g' w' => jC (Bw c) g g' /\ I n (proj g') w', ⟨n, jC.refl _ _, h0⟩, ?_⟩
 rintro n g' w' ⟨ha, hi⟩
 have := hF _ g' w' ha (hI n _ _ hi)
 refine tO this (fun e g2 w2 ha2 hq => ?_)
 cases e with
 | normal =>
   obtain ⟨m, hm, hh⟩ := hq
   exact ⟨m, hm, ha.trans ha2 (fun _ h => h) (fun _ h => h), hh⟩
 | _ => exact hq
theorem HB {T : Type} (proj : Env -> T) (F : (T -> Na -> Prop) -> T -> Na -> Prop) (c : Code) {Q : Exit -> Env -> Na -> Prop} {g : Env} {w : Na} (hl : I1 c = true)
 (h : iR F (proj g) w)
 (hF : ∀ (X : T -> Na -> Prop) g' w', jC (Bw (bI c)) g g' -> F X (proj g') w' -> gG P ann (bI c) (rI (fun g'' w'' => X (proj g'') w'') Q) g' w') : gG P ann c Q g w := by
 cases c with
 | loop c => exact Il proj F hF h
 | _ => cases hl
theorem GP {l : List Nat} {s : Nat} (hs : kR s l = false) : s ∉ l := by
 induction l with
 | nil => simp
 | cons a r ih =>
   unfold kR at hs
   cases hb : Nat.beq a s with
   | true => simp only [hb] at hs; cases hs
   | false =>
     simp only [hb] at hs
     intro hm
     rcases MJ.1 hm with e | hm
     .subst e; simp at hb
     .exact ih hs hm
theorem Ih {l : List Nat} {g g' : Env} (h : jC l g g') {s : Nat} (hs : kR s l = false) : g' s = g s := h s (GP hs)
theorem iR.rule {α : Type} {F : (α -> Na -> Prop) -> α -> Na -> Prop} (I : Nat -> α -> Na -> Prop) {g : α} {w : Na} (n : Nat) (h0 : I n g w)
 (hr : ∀ n g w, I n g w -> F (fun g' w' => ∃ m, m < n /\ I m g' w') g w) : iR F g w := ⟨I, ⟨n, h0⟩, hr⟩
theorem dI (A B : Prop) : lJ (.bool true) A B = A := Eq.trans rfl rfl
theorem cY (A B : Prop) : lJ (.bool false) A B = B := Eq.trans rfl rfl
theorem dN (s : (Nb -> Na -> Prop) -> Prop) (w : Na) (K : Nb -> Na -> Prop) : Gd true s w K = s K := Eq.trans rfl rfl
theorem dM (s : (Nb -> Na -> Prop) -> Prop) (w : Na) (K : Nb -> Na -> Prop) : Gd false s w K = K undef w := Eq.trans rfl rfl
theorem dO (p : Prop) : Gs true p = p := Eq.trans rfl rfl
theorem dL (p : Prop) : Gs false p = True := Eq.trans rfl rfl
theorem dR : lS (.bool true) true = true := Eq.trans rfl rfl
theorem dV : lS (.bool true) false = false := Eq.trans rfl rfl
theorem dW : lS (.bool false) true = false := Eq.trans rfl rfl
theorem dU : lS (.bool false) false = true := Eq.trans rfl rfl
def fP : Operand := .tmp 0
theorem lH {c : Code} {kn kr : Env -> Na -> Prop} {l : List (Nat × (Env -> Na -> Prop))} {Q : Exit -> Env -> Na -> Prop} {g : Env} {w : Na} {A : Prop}
 (h : A) (hn : ∀ g w, kn g w -> Q .normal g w) (hr : ∀ g w, kr g w -> Q .ret g w) (hl : G6 Q l) (e : A = gG P ann c (LF kn kr l) g w := by kernel_rfl) : gG P ann c Q g w := JJ e h hn hr hl
theorem sW {Q : Exit -> Env -> Na -> Prop} (n : Nat) {c : Code} {g : Env} {w : Na}
 (hd : gG P ann (fN n c) (rI (fun g w => gG P ann (dX n c) Q g w) Q) g w) (h : Gu n c = true := by kernel_rfl) : gG P ann c Q g w := HY n c g w h hd
theorem Fu {Q : Exit -> Env -> Na -> Prop} (id : Nat) {c : Code} {g : Env} {w : Na} (hd : gG P ann (bI c) (Jz id Q) g w) (h : JV id c = true := by kernel_rfl) : gG P ann c Q g w := JB id c g w h hd
theorem LM {Q : Exit -> Env -> Na -> Prop} {c : Code} {g : Env} {w : Na} (hd : gG P ann (bI c) Q g w) (h : J1 c = true := by kernel_rfl) : gG P ann c Q g w := JE c g w h hd
theorem LH {Q : Exit -> Env -> Na -> Prop} (o : Operand) {c : Code} {g : Env} {w : Na} {A B : Prop} (ha : A -> gG P ann (cT c) Q g w) (hb : B -> gG P ann (cE c) Q g w) (hd : lJ (ev g o) A B) (h : IM c = some o := by kernel_rfl) : gG P ann c Q g w :=
 Jp o c g w h (Ig ha hb hd)
theorem G8 {T : Type} (proj : Env -> T) (F : (T -> Na -> Prop) -> T -> Na -> Prop) {c : Code} {Q : Exit -> Env -> Na -> Prop} {g : Env} {w : Na}
 (h : iR F (proj g) w)
 (hF : ∀ (X : T -> Na -> Prop) g' w', jC (Bw (bI c)) g g' -> F X (proj g') w' -> gG P ann (bI c) (rI (fun g'' w'' => X (proj g'') w'') Q) g' w') (hl : I1 c = true := by kernel_rfl) : gG P ann c Q g w := HB proj F c hl h hF
theorem BJ {l : List Nat} {g g' : Env} (s : Nat) (h : jC l g g') (hs : kR s l = false := by kernel_rfl) : g' s = g s := Ih h hs
theorem BK {ann : FA} (fn : Func) (c : Code) (args : List Nb) (rs : List ResultVar) (N : Nat) {f : FuncId} {w : Na} {R : Nb -> Na -> Prop} (hm : P.follows .mixedOrders = true)
 (hf : P.funcs[f]? = some fn) (h : gG P ann c (KM P rs R) (El args) w) (hAf : ann.f = f := by kernel_rfl) (hb : fn.body = some c := by kernel_rfl) (hrs : fn.results = rs.toArray := by kernel_rfl) (hN : fn.ntmps = N := by kernel_rfl) (hle : Nat.ble args.length N = true := by kernel_rfl)
 (hok : codeOk P N ann c = true := by kernel_rfl) (hro : rs.all Fz = true := by kernel_rfl) (hND : Nat.ble N DS = true := by kernel_rfl) (hfl : oI c = true := by kernel_rfl) : fO P f args.toArray w R :=
 Ge hm hAf hf hb hrs hN (MQ hle) hok hro hND hfl h
end
end Go.En
namespace Go.Proofs.YthohephggmkeeaaDoor
open Go Go.En
noncomputable abbrev pg : Program := Tryd.prog
theorem TrydM.mixed : pg.follows .mixedOrders = true := Tryd.checked.mixed
abbrev K0 := Na -> Prop
abbrev K1 := Nb -> K0
abbrev K2 := Nb -> K1
abbrev K3 := Nb -> K2
abbrev K4 := Nb -> K3
abbrev K5 := Nb -> K4
abbrev K6 := Nb -> K5
abbrev K7 := Nb -> K6
abbrev K8 := Nb -> K7
abbrev K9 := Nb -> K8
abbrev HR (rs : List ResultVar) (R : K1) (Q : Exit -> Env -> Na -> Prop) : Prop := ∀ g w, (lL pg rs g w fun vs => R (Ev vs) w) -> Q .ret g w
abbrev no : Env -> Na -> Prop := fun _ _ => False
theorem nR {Q : Env -> Na -> Prop} : ∀ g w, no g w -> Q g w := fun _ _ h => h.elim
abbrev qU : FuncId := 5
abbrev tE : FuncId := 7
abbrev iZ : FuncId := 9
abbrev qF : FuncId := 10
abbrev pE : FuncId := 13
abbrev iC : FuncId := 18
abbrev hU : FuncId := 19
abbrev fT : FuncId := 20
abbrev fZ : FuncId := 21
abbrev kY : FuncId := 22
abbrev lR : FuncId := 23
abbrev lQ : FuncId := 25
abbrev jO : FuncId := 26
abbrev iK : FuncId := 27
abbrev uO : FuncId := 28
abbrev mT : FuncId := 29
abbrev lF : FuncId := 30
abbrev jK : FuncId := 31
abbrev rV : FuncId := 33
abbrev iT : FuncId := 34
abbrev nT : FuncId := 35
abbrev kW : FuncId := 36
abbrev DK : FuncId := 37
abbrev Bl : FuncId := 38
abbrev qK : FuncId := 39
abbrev Bv : FuncId := 43
abbrev pD : FuncId := 44
abbrev rZ : FuncId := 45
abbrev CE : FuncId := 46
abbrev nO : FuncId := 47
abbrev rD : FuncId := 60
abbrev pF : FuncId := 61
abbrev nN : FuncId := 62
abbrev gM : FuncId := 63
abbrev N0 (Q : Exit -> Env -> Na -> Prop) (k : K0) : Prop := ∀ g w, k w -> Q .normal g w
abbrev E0 (Q : Exit -> Env -> Na -> Prop) (k : K0) (x0 : Nat) : Prop := ∀ g w, k w -> Q (.exit x0) g w
abbrev N1 (Q : Exit -> Env -> Na -> Prop) (k : K1) (a_ : Nat) : Prop := ∀ g w, k (g a_) w -> Q .normal g w
abbrev E1 (Q : Exit -> Env -> Na -> Prop) (k : K1) (x0 : Nat) (a_ : Nat) : Prop := ∀ g w, k (g a_) w -> Q (.exit x0) g w
abbrev N2 (Q : Exit -> Env -> Na -> Prop) (k : K2) (a_ b_ : Nat) : Prop := ∀ g w, k (g a_) (g b_) w -> Q .normal g w
abbrev E2 (Q : Exit -> Env -> Na -> Prop) (k : K2) (x0 : Nat) (a_ b_ : Nat) : Prop := ∀ g w, k (g a_) (g b_) w -> Q (.exit x0) g w
abbrev N3 (Q : Exit -> Env -> Na -> Prop) (k : K3) (a_ b_ c_ : Nat) : Prop := ∀ g w, k (g a_) (g b_) (g c_) w -> Q .normal g w
abbrev E3 (Q : Exit -> Env -> Na -> Prop) (k : K3) (x0 : Nat) (a_ b_ c_ : Nat) : Prop := ∀ g w, k (g a_) (g b_) (g c_) w -> Q (.exit x0) g w
abbrev N4 (Q : Exit -> Env -> Na -> Prop) (k : K4) (a_ b_ c_ d_ : Nat) : Prop := ∀ g w, k (g a_) (g b_) (g c_) (g d_) w -> Q .normal g w
abbrev E4 (Q : Exit -> Env -> Na -> Prop) (k : K4) (x0 : Nat) (a_ b_ c_ d_ : Nat) : Prop := ∀ g w, k (g a_) (g b_) (g c_) (g d_) w -> Q (.exit x0) g w
abbrev N5 (Q : Exit -> Env -> Na -> Prop) (k : K5) (a_ b_ c_ d_ e_ : Nat) : Prop := ∀ g w, k (g a_) (g b_) (g c_) (g d_) (g e_) w -> Q .normal g w
abbrev E5 (Q : Exit -> Env -> Na -> Prop) (k : K5) (x0 : Nat) (a_ b_ c_ d_ e_ : Nat) : Prop := ∀ g w, k (g a_) (g b_) (g c_) (g d_) (g e_) w -> Q (.exit x0) g w
abbrev N6 (Q : Exit -> Env -> Na -> Prop) (k : K6) (a_ b_ c_ d_ e_ f_ : Nat) : Prop := ∀ g w, k (g a_) (g b_) (g c_) (g d_) (g e_) (g f_) w -> Q .normal g w
abbrev N7 (Q : Exit -> Env -> Na -> Prop) (k : K7) (a_ b_ c_ d_ e_ f_ g_ : Nat) : Prop := ∀ g w, k (g a_) (g b_) (g c_) (g d_) (g e_) (g f_) (g g_) w -> Q .normal g w
abbrev E7 (Q : Exit -> Env -> Na -> Prop) (k : K7) (x0 : Nat) (a_ b_ c_ d_ e_ f_ g_ : Nat) : Prop := ∀ g w, k (g a_) (g b_) (g c_) (g d_) (g e_) (g f_) (g g_) w -> Q (.exit x0) g w
abbrev N8 (Q : Exit -> Env -> Na -> Prop) (k : K8) (a_ b_ c_ d_ e_ f_ g_ h_ : Nat) : Prop := ∀ g w, k (g a_) (g b_) (g c_) (g d_) (g e_) (g f_) (g g_) (g h_) w -> Q .normal g w
abbrev N9 (Q : Exit -> Env -> Na -> Prop) (k : K9) (a_ b_ c_ d_ e_ f_ g_ h_ i_ : Nat) : Prop := ∀ g w, k (g a_) (g b_) (g c_) (g d_) (g e_) (g f_) (g g_) (g h_) (g i_) w -> Q .normal g w
abbrev Nc (n_ : Int) : Nb := .int .i64 n_
end Go.Proofs.YthohephggmkeeaaDoor
namespace Go.Proofs.YthohephggmkeeaaDoor
open Go Go.En
set_option maxRecDepth 20000
attribute [local irreducible] Go.En.gG
variable (Q : Exit -> Env -> Na -> Prop) (g : Env) (w : Na)
def fH : FA := ⟨qU, fun i => .leaf ([], []) []⟩
def lM : List ResultVar := [.tmp 6]
noncomputable def fF : Code := iM Tryd.f5
def jW (R : K1) (eD fG fE iP : Nb) (w : Na) : Prop :=
 dQ pg (jF 23 3 eD) w fun p1 w =>
 fO pg iZ #[iP, (Nc 20), p1] w fun p2 w =>
 dQ pg (iB p2 0) w fun p3 w =>
 dQ pg (iB p2 1) w fun p4 w =>
 dQ pg (jF 23 3 eD) w fun p7 w =>
 dQ pg (fI .gtr 3 fP fP fG p7) w fun p8 w =>
 lJ p8
  (dQ pg (fI .eql 26 (.tmp 119) (.const (Nc 12)) p4 (Nc 12)) w fun q0 w =>
  Gd (lS q0 true) (fun K => K p3 w) w fun q2 w =>
  Gd (lS q0 true) (fun K => dQ pg (pI .len #[22] 3 [q2]) w K) w fun q3 w =>
  Gd (lS q0 true) (fun K => dQ pg (fI .eql 3 (.tmp 123) (.const (Nc 0)) q3 (Nc 0)) w K) w fun q4 w =>
  dQ pg (nX q0 q4 (.bool false)) w fun q5 w =>
  R q5 w)
  (dQ pg (fI .eql 26 (.tmp 126) (.const (Nc 0)) p4 (Nc 0)) w fun q7 w =>
  Gd (lS q7 true) (fun K => K p3 w) w fun q9 w =>
  Gd (lS q7 true) (fun K => dQ pg (jF 22 9 q9) w K) w fun s0 w =>
  Gd (lS q7 true) (fun K => K fE w) w fun s1 w =>
  Gd (lS q7 true) (fun K => dQ pg (fI .eql 9 (.tmp 130) (.tmp 131) s0 s1) w K) w fun s2 w =>
  dQ pg (nX q7 s2 (.bool false)) w fun s3 w =>
  R s3 w)
theorem Ay (R : K1) (hr : HR lM R Q) (h : jW R (g 2) (g 8) (g 9) (g 14) w) : gG pg fH (dX 1 (dX 1 (dX 1 (dX 6 fF)))) Q g w :=
 lH (kn := no) (l := []) h nR hr trivial
def kA (kn : K7) (iI fS eD fG fE iP jX : Nb) (w : Na) : Prop :=
 dQ pg (fI .add 3 fP fP jX (Nc 1)) w fun l7 w =>
 kn iI fS eD fG fE iP l7 w
theorem An (kn : K7) (hn : N7 Q kn 0 1 2 8 9 14 15) (h : kA kn (g 0) (g 1) (g 2) (g 8) (g 9) (g 14) (g 15) w) : gG pg fH (dX 1 (dX 1 (bI (bI (dX 1 (fN 1 (dX 1 (dX 1 (dX 6 fF))))))))) Q g w :=
 lH (kr := no) (l := []) h hn nR trivial
def jZ (kn : K7) (iI fS eD fG fE iP jX GK : Nb) (w : Na) : Prop :=
 dQ pg (jF 3 5 GK) w fun n5 w =>
 dQ pg (fI .shr 3 fP fP GK (.int .u64 8)) w fun n7 w =>
 dQ pg (jF 3 5 n7) w fun n8 w =>
 dQ pg (fI .shr 3 fP fP GK (.int .u64 16)) w fun o0 w =>
 dQ pg (jF 3 5 o0) w fun o1 w =>
 dQ pg (kG 22 iI jX) w fun o4 w =>
 dQ pg (fR 5 o4) w fun o5 w =>
 dQ pg (iD 22 4 [(0, n5), (1, n8), (2, o1), (3, o5)]) w fun o6 w =>
 dQ pg (pI .append #[22, 22] 22 [iP, o6]) w fun o7 w =>
 kn iI fS eD fG fE o7 jX w
theorem Ax (kn : K7) (hn : N7 Q kn 0 1 2 8 9 14 15) (h : jZ kn (g 0) (g 1) (g 2) (g 8) (g 9) (g 14) (g 15) (g 16) w) : gG pg fH (dX 2 (bI (fN 1 (dX 1 (bI (bI (dX 1 (fN 1 (dX 1 (dX 1 (dX 6 fF))))))))))) Q g w :=
 lH (kr := no) (l := []) h hn nR trivial
def pO (kn : K8) (iI fS eD fG fE iP jX : Nb) (w : Na) : Prop :=
 dQ pg (kG 34 fS jX) w fun m0 w =>
 dQ pg (fR 23 m0) w fun m1 w =>
 dQ pg (fI .rem 23 fP fP m1 (.int .u16 500)) w fun m2 w =>
 dQ pg (jF 23 3 m2) w fun m3 w =>
 dQ pg (fI .mul 3 fP fP (Nc 8) m3) w fun m4 w =>
 dQ pg (fI .add 3 fP fP m4 (Nc 2)) w fun m5 w =>
 dQ pg (pI .len #[22] 3 [iI]) w fun m8 w =>
 dQ pg (fI .sub 3 fP fP m8 (Nc 1)) w fun m9 w =>
 dQ pg (fI .eql 3 (.tmp 86) (.tmp 89) jX m9) w fun n0 w =>
 lJ n0
  (dQ pg (fI .add 3 fP fP m5 (Nc 1)) w fun n2 w =>
  kn iI fS eD fG fE iP jX n2 w)
  (kn iI fS eD fG fE iP jX m5 w)
theorem Ai (kn : K8) (hn : N8 Q kn 0 1 2 8 9 14 15 16) (h : pO kn (g 0) (g 1) (g 2) (g 8) (g 9) (g 14) (g 15) w) : gG pg fH (fN 2 (bI (fN 1 (dX 1 (bI (bI (dX 1 (fN 1 (dX 1 (dX 1 (dX 6 fF))))))))))) Q g w :=
 lH (kr := no) (l := []) h hn nR trivial
def uK (kn : K7) (iI fS eD fG fE iP jX : Nb) (w : Na) : Prop :=
 pO (fun iI fS eD fG fE iP jX GK w => jZ kn iI fS eD fG fE iP jX GK w) iI fS eD fG fE iP jX w
def pJ (kn : K7) (iI fS eD fG fE iP jX : Nb) (w : Na) : Prop :=
 uK kn iI fS eD fG fE iP jX w
def pP (kn : K7) (iI fS eD fG fE iP jX : Nb) (w : Na) : Prop :=
 pJ (fun iI fS eD fG fE iP jX w => kA kn iI fS eD fG fE iP jX w) iI fS eD fG fE iP jX w
theorem Af (kn : K7) (hn : N7 Q kn 0 1 2 8 9 14 15) (h : pJ kn (g 0) (g 1) (g 2) (g 8) (g 9) (g 14) (g 15) w) : gG pg fH (fN 1 (dX 1 (bI (bI (dX 1 (fN 1 (dX 1 (dX 1 (dX 6 fF))))))))) Q g w :=
 Fu 5 (sW 2 (Ai _ g w (jZ kn) (fun g w h => fQ (Ax _ g w kn hn h)) h))
def pR (kn : K7) (k4 : K4) (iI fS eD fG fE iP jX : Nb) (w : Na) : Prop :=
 dQ pg (pI .len #[22] 3 [iI]) w fun l4 w =>
 dQ pg (fI .lss 3 fP fP jX l4) w fun l5 w =>
 lJ l5
  (kn iI fS eD fG fE iP jX w)
  (k4 eD fG fE iP w)
theorem Aq (kn : K7) (k4 : K4) (hn : N7 Q kn 0 1 2 8 9 14 15) (h4 : E4 Q k4 4 2 8 9 14) (h : pR kn k4 (g 0) (g 1) (g 2) (g 8) (g 9) (g 14) (g 15) w) : gG pg fH (fN 1 (bI (bI (dX 1 (fN 1 (dX 1 (dX 1 (dX 6 fF)))))))) Q g w :=
 lH (kr := no) (l := [(4, fun g w => k4 (g 2) (g 8) (g 9) (g 14) w)]) h hn nR ⟨h4, trivial⟩
def jY (kn : K7) (k4 : K4) (iI fS eD fG fE iP jX : Nb) (w : Na) : Prop :=
 pR (fun iI fS eD fG fE iP jX w => pP kn iI fS eD fG fE iP jX w) k4 iI fS eD fG fE iP jX w
def oX (k4 : K4) (iI fS eD fG fE iP jX : Nb) (w : Na) : Prop :=
 iR (fun (X : (Nb × Nb) -> K0) (t : Nb × Nb) (w : Na) => jY (fun _ _ _ _ _ iP jX w => X (iP, jX) w) k4 iI fS eD fG fE t.1 t.2 w) (iP, jX) w
theorem Ao (kn : K7) (k4 : K4) (hn : N7 Q kn 0 1 2 8 9 14 15) (h4 : E4 Q k4 4 2 8 9 14) (h : jY kn k4 (g 0) (g 1) (g 2) (g 8) (g 9) (g 14) (g 15) w) : gG pg fH (bI (bI (dX 1 (fN 1 (dX 1 (dX 1 (dX 6 fF))))))) Q g w :=
 sW 1 (Aq _ g w (pP kn) k4 (fun g w h => fQ (sW 1 (Af _ g w (kA kn) (fun g w h => fQ (An _ g w kn hn h)) h))) h4 h)
theorem zV (k4 : K4) (h4 : E4 Q k4 4 2 8 9 14) (h : oX k4 (g 0) (g 1) (g 2) (g 8) (g 9) (g 14) (g 15) w) : gG pg fH (bI (dX 1 (fN 1 (dX 1 (dX 1 (dX 6 fF)))))) Q g w := by
 refine G8 (fun g : Env => (g 14, g 15)) (fun X t w => jY (fun _ _ _ _ _ iP jX w => X (iP, jX) w) k4 (g 0) (g 1) (g 2) (g 8) (g 9) t.1 t.2 w) h (fun X g1 w1 ha hL => ?_)
 rw [<- BJ 0 ha, <- BJ 1 ha, <- BJ 2 ha, <- BJ 8 ha, <- BJ 9 ha] at hL
 exact (Ao _ g1 w1 (fun _ _ _ _ _ iP jX w => X (iP, jX) w) k4 (fun _ _ h => h) h4 hL)
def oM (kn : K4) (iI fS eD fG fE iP jX : Nb) (w : Na) : Prop :=
 oX kn iI fS eD fG fE iP jX w
def nY (kn : K7) (iI fS eD fG fE iP : Nb) (w : Na) : Prop :=
 kn iI fS eD fG fE iP (Nc 0) w
theorem zH (kn : K7) (hn : N7 Q kn 0 1 2 8 9 14 15) (h : nY kn (g 0) (g 1) (g 2) (g 8) (g 9) (g 14) w) : gG pg fH (fN 1 (fN 1 (dX 1 (dX 1 (dX 6 fF))))) Q g w :=
 lH (kr := no) (l := []) h hn nR trivial
def oU (kn : K4) (iI fS eD fG fE iP : Nb) (w : Na) : Prop :=
 nY (fun iI fS eD fG fE iP jX w => oM kn iI fS eD fG fE iP jX w) iI fS eD fG fE iP w
def oR (R : K1) (iI fS eD fG fE iP : Nb) (w : Na) : Prop :=
 oU (fun eD fG fE iP w => jW R eD fG fE iP w) iI fS eD fG fE iP w
theorem zP (kn : K4) (hn : N4 Q kn 2 8 9 14) (h : oU kn (g 0) (g 1) (g 2) (g 8) (g 9) (g 14) w) : gG pg fH (fN 1 (dX 1 (dX 1 (dX 6 fF)))) Q g w :=
 sW 1 (zH _ g w (oM kn) (fun g w h => fQ (Fu 4 (zV _ g w kn hn h))) h)
def oS (kn : K6) (iI fS eD fG fE : Nb) (w : Na) : Prop :=
 dQ pg (iD 22 6 [(0, (.int .u8 40)), (1, (.int .u8 181)), (2, (.int .u8 47)), (3, (.int .u8 253)), (4, (.int .u8 0)), (5, (.int .u8 0))]) w fun l0 w =>
 dQ pg (jF 22 22 l0) w fun l1 w =>
 kn iI fS eD fG fE l1 w
theorem zW (kn : K6) (hn : N6 Q kn 0 1 2 8 9 14) (h : oS kn (g 0) (g 1) (g 2) (g 8) (g 9) w) : gG pg fH (fN 1 (dX 1 (dX 6 fF))) Q g w :=
 lH (kr := no) (l := []) h hn nR trivial
def kU (R : K1) (iI fS eD fG fE : Nb) (w : Na) : Prop :=
 oS (fun iI fS eD fG fE iP w => oR R iI fS eD fG fE iP w) iI fS eD fG fE w
def kV (kn : K6) (iI fS eD fG fE iL : Nb) (w : Na) : Prop :=
 dQ pg (fI .add 3 fP fP iL (Nc 1)) w fun f2 w =>
 kn iI fS eD fG fE f2 w
theorem zZ (kn : K6) (hn : N6 Q kn 0 1 2 8 9 10) (h : kV kn (g 0) (g 1) (g 2) (g 8) (g 9) (g 10) w) : gG pg fH (dX 1 (dX 1 (bI (bI (dX 1 (fN 1 (dX 6 fF))))))) Q g w :=
 lH (kr := no) (l := []) h hn nR trivial
def lB (kn : K6) (iI fS eD fG fE iL sZ : Nb) (w : Na) : Prop :=
 dQ pg (jF 22 9 sZ) w fun j8 w =>
 dQ pg (fI .add 9 fP fP fE j8) w fun j9 w =>
 kn iI fS eD fG j9 iL w
theorem yS (kn : K6) (hn : N6 Q kn 0 1 2 8 9 10) (h : lB kn (g 0) (g 1) (g 2) (g 8) (g 9) (g 10) (g 12) w) : gG pg fH (dX 1 (dX 3 (bI (fN 1 (dX 1 (bI (bI (dX 1 (fN 1 (dX 6 fF)))))))))) Q g w :=
 lH (kr := no) (l := []) h hn nR trivial
def kX (kn : K9) (k2 : K7) (iI fS eD fG fE iL mM sZ A3 : Nb) (w : Na) : Prop :=
 dQ pg (fI .lss 3 fP fP A3 mM) w fun i6 w =>
 lJ i6
  (dQ pg (kG 22 iI iL) w fun j3 w =>
  dQ pg (fR 5 j3) w fun j4 w =>
  dQ pg (kG 22 sZ A3) w fun j5 w =>
  dQ pg (fX 5 j5 j4) w fun _u w =>
  dQ pg (fI .add 3 fP fP A3 (Nc 1)) w fun i8 w =>
  kn iI fS eD fG fE iL mM sZ i8 w)
  (k2 iI fS eD fG fE iL sZ w)
theorem zQ (kn : K9) (k2 : K7) (hn : N9 Q kn 0 1 2 8 9 10 11 12 13) (h2 : E7 Q k2 2 0 1 2 8 9 10 12) (h : kX kn k2 (g 0) (g 1) (g 2) (g 8) (g 9) (g 10) (g 11) (g 12) (g 13) w) : gG pg fH (bI (bI (dX 1 (fN 1 (dX 3 (bI (fN 1 (dX 1 (bI (bI (dX 1 (fN 1 (dX 6 fF))))))))))))) Q g w :=
 lH (kr := no) (l := [(2, fun g w => k2 (g 0) (g 1) (g 2) (g 8) (g 9) (g 10) (g 12) w)]) h hn nR ⟨h2, trivial⟩
def oN (k2 : K7) (iI fS eD fG fE iL mM sZ A3 : Nb) (w : Na) : Prop :=
 iR (fun (X : Nb -> K0) (t : Nb) (w : Na) => kX (fun _ _ _ _ _ _ _ _ A3 w => X A3 w) k2 iI fS eD fG fE iL mM sZ t w) A3 w
theorem zX (k2 : K7) (h2 : E7 Q k2 2 0 1 2 8 9 10 12) (h : oN k2 (g 0) (g 1) (g 2) (g 8) (g 9) (g 10) (g 11) (g 12) (g 13) w) : gG pg fH (bI (dX 1 (fN 1 (dX 3 (bI (fN 1 (dX 1 (bI (bI (dX 1 (fN 1 (dX 6 fF)))))))))))) Q g w := by
 refine G8 (fun g : Env => g 13) (fun X t w => kX (fun _ _ _ _ _ _ _ _ A3 w => X A3 w) k2 (g 0) (g 1) (g 2) (g 8) (g 9) (g 10) (g 11) (g 12) t w) h (fun X g1 w1 ha hL => ?_)
 rw [<- BJ 0 ha, <- BJ 1 ha, <- BJ 2 ha, <- BJ 8 ha, <- BJ 9 ha, <- BJ 10 ha, <- BJ 11 ha, <- BJ 12 ha] at hL
 exact (zQ _ g1 w1 (fun _ _ _ _ _ _ _ _ A3 w => X A3 w) k2 (fun _ _ h => h) h2 hL)
def oT (kn : K7) (iI fS eD fG fE iL mM sZ A3 : Nb) (w : Na) : Prop :=
 oN kn iI fS eD fG fE iL mM sZ A3 w
def oH (kn : K9) (iI fS eD fG fE iL mM sZ : Nb) (w : Na) : Prop :=
 kn iI fS eD fG fE iL mM sZ (Nc 0) w
theorem yX (kn : K9) (hn : N9 Q kn 0 1 2 8 9 10 11 12 13) (h : oH kn (g 0) (g 1) (g 2) (g 8) (g 9) (g 10) (g 11) (g 12) w) : gG pg fH (fN 1 (fN 1 (dX 3 (bI (fN 1 (dX 1 (bI (bI (dX 1 (fN 1 (dX 6 fF))))))))))) Q g w :=
 lH (kr := no) (l := []) h hn nR trivial
def lA (kn : K7) (iI fS eD fG fE iL mM sZ : Nb) (w : Na) : Prop :=
 oH (fun iI fS eD fG fE iL mM sZ A3 w => oT kn iI fS eD fG fE iL mM sZ A3 w) iI fS eD fG fE iL mM sZ w
def nU (kn : K6) (iI fS eD fG fE iL mM sZ : Nb) (w : Na) : Prop :=
 lA (fun iI fS eD fG fE iL sZ w => lB kn iI fS eD fG fE iL sZ w) iI fS eD fG fE iL mM sZ w
theorem zA (kn : K7) (hn : N7 Q kn 0 1 2 8 9 10 12) (h : lA kn (g 0) (g 1) (g 2) (g 8) (g 9) (g 10) (g 11) (g 12) w) : gG pg fH (fN 1 (dX 3 (bI (fN 1 (dX 1 (bI (bI (dX 1 (fN 1 (dX 6 fF)))))))))) Q g w :=
 sW 1 (yX _ g w (oT kn) (fun g w h => fQ (Fu 2 (zX _ g w kn hn h))) h)
def oY (kn : K8) (iI fS eD fG fE iL : Nb) (w : Na) : Prop :=
 dQ pg (kG 34 fS iL) w fun f5 w =>
 dQ pg (fR 23 f5) w fun f6 w =>
 dQ pg (fI .rem 23 fP fP f6 (.int .u16 500)) w fun f7 w =>
 dQ pg (jF 23 3 f7) w fun f8 w =>
 dQ pg (fI .add 3 fP fP fG f8) w fun i1 w =>
 dQ pg (yY 22 f8 f8) w fun i3 w =>
 kn iI fS eD i1 fE iL f8 i3 w
theorem Aa (kn : K8) (hn : N8 Q kn 0 1 2 8 9 10 11 12) (h : oY kn (g 0) (g 1) (g 2) (g 8) (g 9) (g 10) w) : gG pg fH (fN 3 (bI (fN 1 (dX 1 (bI (bI (dX 1 (fN 1 (dX 6 fF))))))))) Q g w :=
 lH (kr := no) (l := []) h hn nR trivial
def tU (kn : K6) (iI fS eD fG fE iL : Nb) (w : Na) : Prop :=
 oY (fun iI fS eD fG fE iL mM sZ w => nU kn iI fS eD fG fE iL mM sZ w) iI fS eD fG fE iL w
def oE (kn : K6) (iI fS eD fG fE iL : Nb) (w : Na) : Prop :=
 tU kn iI fS eD fG fE iL w
def pA (kn : K6) (iI fS eD fG fE iL : Nb) (w : Na) : Prop :=
 oE (fun iI fS eD fG fE iL w => kV kn iI fS eD fG fE iL w) iI fS eD fG fE iL w
theorem yO (kn : K6) (hn : N6 Q kn 0 1 2 8 9 10) (h : oE kn (g 0) (g 1) (g 2) (g 8) (g 9) (g 10) w) : gG pg fH (fN 1 (dX 1 (bI (bI (dX 1 (fN 1 (dX 6 fF))))))) Q g w :=
 Fu 1 (sW 3 (Aa _ g w (nU kn) (fun g w h => fQ (sW 1 (zA _ g w (lB kn) (fun g w h => fQ (yS _ g w kn hn h)) h))) h))
def oK (kn : K6) (k0 : K5) (iI fS eD fG fE iL : Nb) (w : Na) : Prop :=
 dQ pg (pI .len #[22] 3 [iI]) w fun e9 w =>
 dQ pg (fI .lss 3 fP fP iL e9) w fun f0 w =>
 lJ f0
  (kn iI fS eD fG fE iL w)
  (k0 iI fS eD fG fE w)
theorem zI (kn : K6) (k0 : K5) (hn : N6 Q kn 0 1 2 8 9 10) (h0 : E5 Q k0 0 0 1 2 8 9) (h : oK kn k0 (g 0) (g 1) (g 2) (g 8) (g 9) (g 10) w) : gG pg fH (fN 1 (bI (bI (dX 1 (fN 1 (dX 6 fF)))))) Q g w :=
 lH (kr := no) (l := [(0, fun g w => k0 (g 0) (g 1) (g 2) (g 8) (g 9) w)]) h hn nR ⟨h0, trivial⟩
def jQ (kn : K6) (k0 : K5) (iI fS eD fG fE iL : Nb) (w : Na) : Prop :=
 oK (fun iI fS eD fG fE iL w => pA kn iI fS eD fG fE iL w) k0 iI fS eD fG fE iL w
def nZ (k0 : K5) (iI fS eD fG fE iL : Nb) (w : Na) : Prop :=
 iR (fun (X : (Nb × Nb × Nb) -> K0) (t : Nb × Nb × Nb) (w : Na) => jQ (fun _ _ _ fG fE iL w => X (fG, fE, iL) w) k0 iI fS eD t.1 t.2.1 t.2.2 w) (fG, fE, iL) w
theorem zU (kn : K6) (k0 : K5) (hn : N6 Q kn 0 1 2 8 9 10) (h0 : E5 Q k0 0 0 1 2 8 9) (h : jQ kn k0 (g 0) (g 1) (g 2) (g 8) (g 9) (g 10) w) : gG pg fH (bI (bI (dX 1 (fN 1 (dX 6 fF))))) Q g w :=
 sW 1 (zI _ g w (pA kn) k0 (fun g w h => fQ (sW 1 (yO _ g w (kV kn) (fun g w h => fQ (zZ _ g w kn hn h)) h))) h0 h)
theorem yR (k0 : K5) (h0 : E5 Q k0 0 0 1 2 8 9) (h : nZ k0 (g 0) (g 1) (g 2) (g 8) (g 9) (g 10) w) : gG pg fH (bI (dX 1 (fN 1 (dX 6 fF)))) Q g w := by
 refine G8 (fun g : Env => (g 8, g 9, g 10)) (fun X t w => jQ (fun _ _ _ fG fE iL w => X (fG, fE, iL) w) k0 (g 0) (g 1) (g 2) t.1 t.2.1 t.2.2 w) h (fun X g1 w1 ha hL => ?_)
 rw [<- BJ 0 ha, <- BJ 1 ha, <- BJ 2 ha] at hL
 exact (zU _ g1 w1 (fun _ _ _ fG fE iL w => X (fG, fE, iL) w) k0 (fun _ _ h => h) h0 hL)
def oF (kn : K5) (iI fS eD fG fE iL : Nb) (w : Na) : Prop :=
 nZ kn iI fS eD fG fE iL w
def oQ (kn : K6) (iI fS eD fG fE : Nb) (w : Na) : Prop :=
 kn iI fS eD fG fE (Nc 0) w
theorem yV (kn : K6) (hn : N6 Q kn 0 1 2 8 9 10) (h : oQ kn (g 0) (g 1) (g 2) (g 8) (g 9) w) : gG pg fH (fN 1 (fN 1 (dX 6 fF))) Q g w :=
 lH (kr := no) (l := []) h hn nR trivial
def lD (kn : K5) (iI fS eD fG fE : Nb) (w : Na) : Prop :=
 oQ (fun iI fS eD fG fE iL w => oF kn iI fS eD fG fE iL w) iI fS eD fG fE w
def lE (R : K1) (iI fS eD fG fE : Nb) (w : Na) : Prop :=
 lD (fun iI fS eD fG fE w => kU R iI fS eD fG fE w) iI fS eD fG fE w
theorem zS (kn : K5) (hn : N5 Q kn 0 1 2 8 9) (h : lD kn (g 0) (g 1) (g 2) (g 8) (g 9) w) : gG pg fH (fN 1 (dX 6 fF)) Q g w :=
 sW 1 (yV _ g w (oF kn) (fun g w h => fQ (Fu 0 (yR _ g w kn hn h))) h)
def oA (kn : K5) (R : K1) (iI fS eD : Nb) (w : Na) : Prop :=
 fO pg tE #[] w fun c9 w =>
 dQ pg (Jg .not c9) w fun d1 w =>
 lJ d1
  (R (.bool false) w)
  (dQ pg (pI .len #[22] 3 [iI]) w fun d3 w =>
  dQ pg (fI .eql 3 (.tmp 23) (.const (Nc 0)) d3 (Nc 0)) w fun d4 w =>
  Gd (lS d4 false) (fun K => K iI w) w fun d6 w =>
  Gd (lS d4 false) (fun K => dQ pg (pI .len #[22] 3 [d6]) w K) w fun d7 w =>
  Gd (lS d4 false) (fun K => dQ pg (fI .gtr 3 fP fP d7 (Nc 20)) w K) w fun d8 w =>
  dQ pg (nX d4 (.bool true) d8) w fun d9 w =>
  Gd (lS d9 false) (fun K => K fS w) w fun e1 w =>
  Gd (lS d9 false) (fun K => dQ pg (pI .len #[34] 3 [e1]) w K) w fun e2 w =>
  Gd (lS d9 false) (fun K => K iI w) w fun e3 w =>
  Gd (lS d9 false) (fun K => dQ pg (pI .len #[22] 3 [e3]) w K) w fun e4 w =>
  Gd (lS d9 false) (fun K => dQ pg (fI .lss 3 fP fP e2 e4) w K) w fun e5 w =>
  dQ pg (nX d9 (.bool true) e5) w fun e6 w =>
  lJ e6
   (R (.bool true) w)
   (kn iI fS eD (Nc 0) (.string ⟨#[]⟩) w))
theorem zF (kn : K5) (R : K1) (hn : N5 Q kn 0 1 2 8 9) (hr : HR lM R Q) (h : oA kn R (g 0) (g 1) (g 2) w) : gG pg fH (fN 6 fF) Q g w :=
 lH (l := []) h hn hr trivial
def nV (R : K1) (iI fS eD : Nb) (w : Na) : Prop :=
 oA (fun iI fS eD fG fE w => lE R iI fS eD fG fE w) R iI fS eD w
theorem zT (R : K1) (hr : HR lM R Q) (h : nV R (g 0) (g 1) (g 2) w) : gG pg fH fF Q g w :=
 sW 6 (zF _ g w (lE R) R (fun g w h => fQ (sW 1 (zS _ g w (kU R) (fun g w h => fQ (sW 1 (zW _ g w (oR R) (fun g w h => fQ (sW 1 (zP _ g w (jW R) (fun g w h => fQ (Ay _ g w R hr h)) h))) h))) h))) hr h)
def yK (a0 a1 a2 : Nb) (w : Na) (R : K1) : Prop :=
 nV R a0 a1 a2 w
theorem A0 {a0 a1 a2 : Nb} {w : Na} {R : K1} (h : yK a0 a1 a2 w R) : fO pg qU #[a0, a1, a2] w R := by
 refine BK (ann := fH) Tryd.f5 fF [a0, a1, a2] lM 134 TrydM.mixed Tryd.func5 ?_
 exact (zT _ _ _ R (fun _ _ h => h) h)
def AA : FA := ⟨tE, fun i => .leaf ([], []) []⟩
def Bo : List ResultVar := [.tmp 0]
noncomputable def yN : Code := iM Tryd.f7
def vA (R : K1)  (w : Na) : Prop :=
 dQ pg (iD 22 11 [(0, (.int .u8 40)), (1, (.int .u8 181)), (2, (.int .u8 47)), (3, (.int .u8 253)), (4, (.int .u8 32)), (5, (.int .u8 2)), (6, (.int .u8 17)), (7, (.int .u8 0)), (8, (.int .u8 0)), (9, (.int .u8 7)), (10, (.int .u8 8))]) w fun c1 w =>
 dQ pg (jF 22 22 c1) w fun c2 w =>
 fO pg iZ #[c2, (Nc 20), (Nc 100)] w fun c3 w =>
 dQ pg (iB c3 0) w fun c4 w =>
 dQ pg (iB c3 1) w fun c5 w =>
 dQ pg (iD 22 3 [(0, (.int .u8 1)), (1, (.int .u8 2)), (2, (.int .u8 3))]) w fun c7 w =>
 fO pg iZ #[c7, (Nc 20), (Nc 100)] w fun c8 w =>
 dQ pg (iB c8 0) w fun c9 w =>
 dQ pg (iB c8 1) w fun d0 w =>
 fO pg iZ #[(.slice none 0 0), (Nc 9), (Nc 100)] w fun d2 w =>
 dQ pg (iB d2 0) w fun d3 w =>
 dQ pg (iB d2 1) w fun d4 w =>
 dQ pg (iD 22 9 [(0, (.int .u8 80)), (1, (.int .u8 42)), (2, (.int .u8 77)), (3, (.int .u8 24)), (4, (.int .u8 1)), (5, (.int .u8 0)), (6, (.int .u8 0)), (7, (.int .u8 0)), (8, (.int .u8 9))]) w fun d6 w =>
 dQ pg (jF 22 22 d6) w fun d7 w =>
 fO pg qF #[d7, (Nc 20), (Nc 100)] w fun d8 w =>
 dQ pg (iB d8 0) w fun d9 w =>
 dQ pg (iB d8 1) w fun e0 w =>
 dQ pg (iB d8 2) w fun e1 w =>
 dQ pg (jF 22 9 c4) w fun e3 w =>
 dQ pg (fI .eql 9 (.tmp 33) (.const (.string ⟨#[7, 8]⟩)) e3 (.string ⟨#[7, 8]⟩)) w fun e4 w =>
 Gd (lS e4 true) (fun K => K c5 w) w fun e6 w =>
 Gd (lS e4 true) (fun K => dQ pg (fI .eql 26 (.tmp 36) (.const (Nc 0)) e6 (Nc 0)) w K) w fun e7 w =>
 dQ pg (nX e4 e7 (.bool false)) w fun e8 w =>
 Gd (lS e8 true) (fun K => K d0 w) w fun f0 w =>
 Gd (lS e8 true) (fun K => dQ pg (fI .eql 26 (.tmp 40) (.const (Nc 10)) f0 (Nc 10)) w K) w fun f1 w =>
 dQ pg (nX e8 f1 (.bool false)) w fun f2 w =>
 Gd (lS f2 true) (fun K => K d4 w) w fun f4 w =>
 Gd (lS f2 true) (fun K => dQ pg (fI .eql 26 (.tmp 44) (.const (Nc 1)) f4 (Nc 1)) w K) w fun f5 w =>
 dQ pg (nX f2 f5 (.bool false)) w fun f6 w =>
 Gd (lS f6 true) (fun K => K d9 w) w fun f8 w =>
 Gd (lS f6 true) (fun K => dQ pg (fI .eql 3 (.tmp 48) (.const (Nc 0)) f8 (Nc 0)) w K) w fun f9 w =>
 dQ pg (nX f6 f9 (.bool false)) w fun i0 w =>
 Gd (lS i0 true) (fun K => K e0 w) w fun i2 w =>
 Gd (lS i0 true) (fun K => dQ pg (fI .eql 3 (.tmp 52) (.const (Nc 1)) i2 (Nc 1)) w K) w fun i3 w =>
 dQ pg (nX i0 i3 (.bool false)) w fun i4 w =>
 Gd (lS i4 true) (fun K => K e1 w) w fun i6 w =>
 Gd (lS i4 true) (fun K => dQ pg (fI .eql 26 (.tmp 56) (.const (Nc 0)) i6 (Nc 0)) w K) w fun i7 w =>
 dQ pg (nX i4 i7 (.bool false)) w fun i8 w =>
 R i8 w
theorem CC (R : K1) (hr : HR Bo R Q) (h : vA R w) : gG pg AA yN Q g w :=
 lH (kn := no) (l := []) h nR hr trivial
def Dt (w : Na) (R : K1) : Prop :=
 vA R w
theorem CV {w : Na} {R : K1} (h : Dt w R) : fO pg tE #[] w R := by
 refine BK (ann := AA) Tryd.f7 yN [] Bo 59 TrydM.mixed Tryd.func7 ?_
 exact (CC _ _ _ R (fun _ _ h => h) h)
def wC : FA := ⟨iZ, fun i => .leaf ([], []) []⟩
def zR : List ResultVar := [.tmp 6, .tmp 7]
noncomputable def vP : Code := iM Tryd.f9
def pB (R : K1) (lI BR eD : Nb) (w : Na) : Prop :=
 fO pg pE #[lI, BR, eD] w fun c4 w =>
 dQ pg (iB c4 0) w fun c5 w =>
 dQ pg (iB c4 1) w fun c6 w =>
 dQ pg (fI .neq 26 (.tmp 17) (.const (Nc 0)) c6 (Nc 0)) w fun c8 w =>
 lJ c8
  (R (.tuple #[(.slice none 0 0), c6]) w)
  (dQ pg (iW c5) w fun d1 w =>
  dQ pg (fK 47 d1 3) w fun d2 w =>
  dQ pg (fR 22 d2) w fun d3 w =>
  R (.tuple #[d3, (Nc 0)]) w)
theorem By (R : K1) (hr : HR zR R Q) (h : pB R (g 0) (g 1) (g 2) w) : gG pg wC vP Q g w :=
 lH (kn := no) (l := []) h nR hr trivial
def xI (a0 a1 a2 : Nb) (w : Na) (R : K1) : Prop :=
 pB R a0 a1 a2 w
theorem vB {a0 a1 a2 : Nb} {w : Na} {R : K1} (h : xI a0 a1 a2 w R) : fO pg iZ #[a0, a1, a2] w R := by
 refine BK (ann := wC) Tryd.f9 vP [a0, a1, a2] zR 24 TrydM.mixed Tryd.func9 ?_
 exact (By _ _ _ R (fun _ _ h => h) h)
def wF : FA := ⟨qF, fun i => match Nat.beq i 4 with | true => .leaf ([], []) [(false, []), (false, []), (false, []), (false, []), (false, []), (false, []), (false, []), (false, []), (false, []), (false, []), (false, [])] | false => .leaf ([], []) []⟩
def yH : List ResultVar := [.tmp 6, .tmp 7, .tmp 8]
noncomputable def uU : Code := iM Tryd.f10
def sT (R : K1) (lI BR eD : Nb) (w : Na) : Prop :=
 fO pg pE #[lI, BR, eD] w fun c5 w =>
 dQ pg (iB c5 0) w fun c6 w =>
 dQ pg (iB c5 1) w fun c7 w =>
 dQ pg (fI .neq 26 (.tmp 18) (.const (Nc 0)) c7 (Nc 0)) w fun c9 w =>
 lJ c9
  (R (.tuple #[(Nc 0), (Nc 0), c7]) w)
  ((dr w) = (dr w) /\
  dQ pg (iW c6) (dr w) fun d2 w_ => w_ = (dr w) /\
  dQ pg (fK 47 d2 4) (dr w) fun d3 w_ => w_ = (dr w) /\
  dQ pg (fR 3 d3) (dr w) fun d4 w_ => w_ = (dr w) /\
  (dr w) = (dr w) /\
  dQ pg (iW c6) (dr w) fun d6 w_ => w_ = (dr w) /\
  dQ pg (fK 47 d6 5) (dr w) fun d7 w_ => w_ = (dr w) /\
  dQ pg (fR 3 d7) (dr w) fun d8 w_ => w_ = (dr w) /\
  (dr w) = (dr w) /\
  (dr w) = (dr w) /\
  (dr w) = (dr w) /\
  R (.tuple #[d4, d8, (Nc 0)]) (dr w))
theorem BG (R : K1) (hr : HR yH R Q) (h : sT R (g 0) (g 1) (g 2) w) : gG pg wF uU Q g w :=
 lH (kn := no) (l := []) h nR hr trivial
def BT (a0 a1 a2 : Nb) (w : Na) (R : K1) : Prop :=
 sT R a0 a1 a2 w
theorem Ch {a0 a1 a2 : Nb} {w : Na} {R : K1} (h : BT a0 a1 a2 w R) : fO pg qF #[a0, a1, a2] w R := by
 refine BK (ann := wF) Tryd.f10 uU [a0, a1, a2] yH 29 TrydM.mixed Tryd.func10 ?_
 exact (BG _ _ _ R (fun _ _ h => h) h)
def iN : FA := ⟨pE, fun i => match Nat.beq i 3 with | true => .leaf ([1, 6], [(1, 3)]) [(false, []), (true, []), (false, []), (false, [1]), (false, []), (false, []), (true, []), (false, [])] | false => .leaf ([], []) []⟩
def jM : List ResultVar := [.tmp 6, .tmp 7]
noncomputable def iF : Code := iM Tryd.f13
def tF (R : K1) (wG : Nb) (w : Na) : Prop :=
 R (.tuple #[wG, (Nc 0)]) w
theorem C1 (R : K1) (hr : HR jM R Q) (h : tF R (g 8) w) : gG pg iN (dX 1 (dX 3 iF)) Q g w :=
 lH (kn := no) (l := []) h nR hr trivial
def mU (kn : K1) (R : K1) (wG HP : Nb) (w : Na) : Prop :=
 dQ pg (fI .neq 26 (.tmp 64) (.const (Nc 0)) HP (Nc 0)) w fun j5 w =>
 lJ j5
  (R (.tuple #[(.pointer none), HP]) w)
  (kn wG w)
theorem Dj (kn : K1) (R : K1) (hn : N1 Q kn 8) (hr : HR jM R Q) (h : mU kn R (g 8) (g 10) w) : gG pg iN (dX 4 (bI (dX 1 (bI (bI (fN 1 (dX 3 iF))))))) Q g w :=
 lH (l := []) h hn hr trivial
def xY (kn : K2) (R : K1) (wG : Nb) (w : Na) : Prop :=
 dQ pg (iW wG) w fun e5 w =>
 dQ pg (fK 47 e5 0) w fun e6 w =>
 dQ pg (fR 45 e6) w fun e7 w =>
 fO pg fT #[e7, (Nc 4)] w fun e8 w =>
 dQ pg (iW wG) w fun f0 w =>
 dQ pg (fK 47 f0 0) w fun f1 w =>
 dQ pg (fR 45 f1) w fun f2 w =>
 fO pg fZ #[f2] w fun f3 w =>
 dQ pg (fI .neq 26 (.tmp 43) (.const (Nc 0)) f3 (Nc 0)) w fun f4 w =>
 lJ f4
  (dQ pg (iW wG) w fun f6 w =>
  dQ pg (fK 47 f6 0) w fun f7 w =>
  dQ pg (fR 45 f7) w fun f8 w =>
  fO pg fZ #[f8] w fun f9 w =>
  R (.tuple #[(.pointer none), f9]) w)
  (dQ pg (fI .eql 40 (.tmp 51) (.const (.int .u64 4247762216)) e8 (.int .u64 4247762216)) w fun i2 w =>
  lJ i2
   (fO pg kY #[wG] w fun i4 w =>
   kn wG i4 w)
   (dQ pg (fI .geq 40 fP fP e8 (.int .u64 407710288)) w fun i7 w =>
   Gd (lS i7 true) (fun K => K e8 w) w fun i9 w =>
   Gd (lS i7 true) (fun K => dQ pg (fI .lss 40 fP fP i9 (.int .u64 407710304)) w K) w fun j0 w =>
   dQ pg (nX i7 j0 (.bool false)) w fun j1 w =>
   lJ j1
    (fO pg lR #[wG] w fun j3 w =>
    kn wG j3 w)
    (kn wG (Nc 11) w)))
theorem CP (kn : K2) (R : K1) (hn : N2 Q kn 8 10) (hr : HR jM R Q) (h : xY kn R (g 8) w) : gG pg iN (fN 4 (bI (dX 1 (bI (bI (fN 1 (dX 3 iF))))))) Q g w :=
 lH (l := []) h hn hr trivial
def BO (kn : K1) (R : K1) (wG : Nb) (w : Na) : Prop :=
 xY (fun wG HP w => mU kn R wG HP w) R wG w
def wS (kn : K1) (R : K1) (wG : Nb) (w : Na) : Prop :=
 BO kn R wG w
def xA (kn : K1) (k0 : K1) (wG : Nb) (w : Na) : Prop :=
 dQ pg (iW wG) w fun d9 w =>
 dQ pg (fK 47 d9 0) w fun e0 w =>
 dQ pg (fR 45 e0) w fun e1 w =>
 fO pg hU #[e1] w fun e2 w =>
 dQ pg (fI .gtr 3 fP fP e2 (Nc 0)) w fun e3 w =>
 lJ e3
  (kn wG w)
  (k0 wG w)
theorem C4 (kn : K1) (k0 : K1) (hn : N1 Q kn 8) (h0 : E1 Q k0 0 8) (h : xA kn k0 (g 8) w) : gG pg iN (fN 1 (bI (bI (fN 1 (dX 3 iF))))) Q g w :=
 lH (kr := no) (l := [(0, fun g w => k0 (g 8) w)]) h hn nR ⟨h0, trivial⟩
def tD (kn : K1) (k0 : K1) (R : K1) (wG : Nb) (w : Na) : Prop :=
 xA (fun wG w => wS kn R wG w) k0 wG w
def xD (k0 : K1) (R : K1) (wG : Nb) (w : Na) : Prop :=
 iR (fun (X : Unit -> K0) (t : Unit) (w : Na) => tD (fun _ w => X () w) k0 R wG w) () w
theorem C9 (kn : K1) (k0 : K1) (R : K1) (hn : N1 Q kn 8) (h0 : E1 Q k0 0 8) (hr : HR jM R Q) (h : tD kn k0 R (g 8) w) : gG pg iN (bI (bI (fN 1 (dX 3 iF)))) Q g w :=
 sW 1 (C4 _ g w (wS kn R) k0 (fun g w h => fQ (Fu 1 (sW 4 (CP _ g w (mU kn R) R (fun g w h => fQ (Dj _ g w kn R hn hr h)) hr h)))) h0 h)
theorem Dh (k0 : K1) (R : K1) (h0 : E1 Q k0 0 8) (hr : HR jM R Q) (h : xD k0 R (g 8) w) : gG pg iN (bI (fN 1 (dX 3 iF))) Q g w := by
 refine G8 (fun _ : Env => ()) (fun X t w => tD (fun _ w => X () w) k0 R (g 8) w) h (fun X g1 w1 ha hL => ?_)
 rw [<- BJ 8 ha] at hL
 exact (C9 _ g1 w1 (fun _ w => X () w) k0 R (fun _ _ h => h) h0 hr hL)
def wZ (kn : K1) (R : K1) (wG : Nb) (w : Na) : Prop :=
 xD kn R wG w
def rN (R : K1) (wG : Nb) (w : Na) : Prop :=
 wZ (fun wG w => tF R wG w) R wG w
theorem De (kn : K1) (R : K1) (hn : N1 Q kn 8) (hr : HR jM R Q) (h : wZ kn R (g 8) w) : gG pg iN (fN 1 (dX 3 iF)) Q g w :=
 Fu 0 (Dh _ g w kn R hn hr h)
def rL (kn : K1) (R : K1) (lI BR eD : Nb) (w : Na) : Prop :=
 dQ pg (fI .lss 3 fP fP BR (Nc 10)) w fun c2 w =>
 Gd (lS c2 false) (fun K => K BR w) w fun c4 w =>
 Gd (lS c2 false) (fun K => dQ pg (fI .gtr 3 fP fP c4 (Nc 22)) w K) w fun c5 w =>
 dQ pg (nX c2 (.bool true) c5) w fun c6 w =>
 Gd (lS c6 false) (fun K => K eD w) w fun c8 w =>
 Gd (lS c6 false) (fun K => dQ pg (fI .lss 3 fP fP c8 (Nc 0)) w K) w fun c9 w =>
 dQ pg (nX c6 (.bool true) c9) w fun d0 w =>
 lJ d0
  (R (.tuple #[(.pointer none), (Nc 1)]) w)
  ((dr w) = (dr w) /\
  fO pg iC #[lI] (dr w) fun d2 mB =>
  mB = mB /\
  dQ pg (fI .shl 40 fP fP (.int .u64 1) BR) mB fun d4 w_ => w_ = mB /\
  (fJ pg (fI .shl 40 fP fP (.int .u64 1) BR) d4 (dr w) /\ True) /\
  mB = mB /\
  dQ pg (hX 47 [(0, d2), (1, d4), (2, eD)]) mB fun d6 w_ => w_ = mB /\
  dQ pg (GU 47 d6) mB fun d7 J7 =>
  J7 = J7 /\
  kn d7 J7)
theorem Cu (kn : K1) (R : K1) (hn : N1 Q kn 8) (hr : HR jM R Q) (h : rL kn R (g 0) (g 1) (g 2) w) : gG pg iN (fN 3 iF) Q g w :=
 lH (l := []) h hn hr trivial
def rM (R : K1) (lI BR eD : Nb) (w : Na) : Prop :=
 rL (fun wG w => rN R wG w) R lI BR eD w
theorem Ct (R : K1) (hr : HR jM R Q) (h : rM R (g 0) (g 1) (g 2) w) : gG pg iN iF Q g w :=
 sW 3 (Cu _ g w (rN R) R (fun g w h => fQ (sW 1 (De _ g w (tF R) R (fun g w h => fQ (C1 _ g w R hr h)) hr h))) hr h)
def B1 (a0 a1 a2 : Nb) (w : Na) (R : K1) : Prop :=
 rM R a0 a1 a2 w
theorem AD {a0 a1 a2 : Nb} {w : Na} {R : K1} (h : B1 a0 a1 a2 w R) : fO pg pE #[a0, a1, a2] w R := by
 refine BK (ann := iN) Tryd.f13 iF [a0, a1, a2] jM 68 TrydM.mixed Tryd.func13 ?_
 exact (Ct _ _ _ R (fun _ _ h => h) h)
def tR : FA := ⟨iC, fun i => .leaf ([], []) []⟩
def uI : List ResultVar := [.tmp 2]
noncomputable def sI : Code := iM Tryd.f18
def pL (R : K1) (lI : Nb) (w : Na) : Prop :=
 fO pg lQ #[lI] w fun b4 w =>
 dQ pg (hX 63 [(0, b4)]) w fun b5 w =>
 dQ pg (GU 63 b5) w fun b6 w =>
 R b6 w
theorem Ap (R : K1) (hr : HR uI R Q) (h : pL R (g 0) w) : gG pg tR sI Q g w :=
 lH (kn := no) (l := []) h nR hr trivial
def zC (a0 : Nb) (w : Na) (R : K1) : Prop :=
 pL R a0 w
theorem AM {a0 : Nb} {w : Na} {R : K1} (h : zC a0 w R) : fO pg iC #[a0] w R := by
 refine BK (ann := tR) Tryd.f18 sI [a0] uI 7 TrydM.mixed Tryd.func18 ?_
 exact (Ap _ _ _ R (fun _ _ h => h) h)
def rO : FA := ⟨hU, fun i => .leaf ([], []) []⟩
def sH : List ResultVar := [.tmp 2]
noncomputable def rB : Code := iM Tryd.f19
def nL (R : K1) (Ci : Nb) (w : Na) : Prop :=
 dQ pg (fI .eql 45 (.tmp 3) (.const (.pointer none)) Ci (.pointer none)) w fun b4 w =>
 lJ b4
  (R (Nc 0) w)
  (dQ pg (iW Ci) w fun b6 w =>
  dQ pg (fK 63 b6 0) w fun b7 w =>
  dQ pg (fR 22 b7) w fun b8 w =>
  dQ pg (pI .len #[22] 3 [b8]) w fun b9 w =>
  R b9 w)
theorem wT (R : K1) (hr : HR sH R Q) (h : nL R (g 0) w) : gG pg rO rB Q g w :=
 lH (kn := no) (l := []) h nR hr trivial
def uW (a0 : Nb) (w : Na) (R : K1) : Prop :=
 nL R a0 w
theorem zL {a0 : Nb} {w : Na} {R : K1} (h : uW a0 w R) : fO pg hU #[a0] w R := by
 refine BK (ann := rO) Tryd.f19 rB [a0] sH 10 TrydM.mixed Tryd.func19 ?_
 exact (wT _ _ _ R (fun _ _ h => h) h)
def gK : FA := ⟨fT, fun i => .leaf ([], []) []⟩
def jS : List ResultVar := [.tmp 4]
noncomputable def gF : Code := iM Tryd.f20
def jU (R : K1) (BP : Nb) (w : Na) : Prop :=
 R BP w
theorem vD (R : K1) (hr : HR jS R Q) (h : jU R (g 5) w) : gG pg gK (dX 1 (dX 3 gF)) Q g w :=
 lH (kn := no) (l := []) h nR hr trivial
def jT (kn : K4) (k0 : K1) (BP c8 c9 d0 : Nb) (w : Na) : Prop :=
 dQ pg (fI .lss 3 fP fP d0 c9) w fun d1 w =>
 lJ d1
  (dQ pg (kG 22 c8 d0) w fun d3 w =>
  dQ pg (fR 5 d3) w fun d4 w =>
  dQ pg (jF 5 40 d4) w fun d7 w =>
  dQ pg (fI .mul 3 fP fP (Nc 8) d0) w fun d9 w =>
  dQ pg (jF 3 35 d9) w fun e0 w =>
  dQ pg (fI .shl 40 fP fP d7 e0) w fun e1 w =>
  dQ pg (fI .or 40 fP fP BP e1) w fun e2 w =>
  dQ pg (fI .add 3 fP fP d0 (Nc 1)) w fun e3 w =>
  kn e2 c8 c9 e3 w)
  (k0 BP w)
theorem uY (kn : K4) (k0 : K1) (hn : N4 Q kn 5 18 19 20) (h0 : E1 Q k0 0 5) (h : jT kn k0 (g 5) (g 18) (g 19) (g 20) w) : gG pg gK (bI (bI (dX 1 (fN 1 (dX 3 gF))))) Q g w :=
 lH (kr := no) (l := [(0, fun g w => k0 (g 5) w)]) h hn nR ⟨h0, trivial⟩
def lZ (k0 : K1) (BP c8 c9 d0 : Nb) (w : Na) : Prop :=
 iR (fun (X : (Nb × Nb) -> K0) (t : Nb × Nb) (w : Na) => jT (fun BP _ _ d0 w => X (BP, d0) w) k0 t.1 c8 c9 t.2 w) (BP, d0) w
theorem vH (k0 : K1) (h0 : E1 Q k0 0 5) (h : lZ k0 (g 5) (g 18) (g 19) (g 20) w) : gG pg gK (bI (dX 1 (fN 1 (dX 3 gF)))) Q g w := by
 refine G8 (fun g : Env => (g 5, g 20)) (fun X t w => jT (fun BP _ _ d0 w => X (BP, d0) w) k0 t.1 (g 18) (g 19) t.2 w) h (fun X g1 w1 ha hL => ?_)
 rw [<- BJ 18 ha, <- BJ 19 ha] at hL
 exact (uY _ g1 w1 (fun BP _ _ d0 w => X (BP, d0) w) k0 (fun _ _ h => h) h0 hL)
def mE (kn : K1) (BP c8 c9 d0 : Nb) (w : Na) : Prop :=
 lZ kn BP c8 c9 d0 w
def lU (kn : K4) (Ci Dm BP : Nb) (w : Na) : Prop :=
 dQ pg (fI .geq 3 fP fP Dm (Nc 1)) w fun c3 w =>
 Gd (lS c3 true) (fun K => K Dm w) w fun c5 w =>
 Gd (lS c3 true) (fun K => dQ pg (fI .leq 3 fP fP c5 (Nc 8)) w K) w fun c6 w =>
 dQ pg (nX c3 c6 (.bool false)) w fun c7 w =>
 fO pg jO #[Ci, Dm, c7] w fun c8 w =>
 dQ pg (pI .len #[22] 3 [c8]) w fun c9 w =>
 kn BP c8 c9 (Nc 0) w
theorem vR (kn : K4) (hn : N4 Q kn 5 18 19 20) (h : lU kn (g 0) (g 1) (g 5) w) : gG pg gK (fN 1 (fN 1 (dX 3 gF))) Q g w :=
 lH (kr := no) (l := []) h hn nR trivial
def lT (kn : K1) (Ci Dm BP : Nb) (w : Na) : Prop :=
 lU (fun BP c8 c9 d0 w => mE kn BP c8 c9 d0 w) Ci Dm BP w
def mA (R : K1) (Ci Dm BP : Nb) (w : Na) : Prop :=
 lT (fun BP w => jU R BP w) Ci Dm BP w
theorem vI (kn : K1) (hn : N1 Q kn 5) (h : lT kn (g 0) (g 1) (g 5) w) : gG pg gK (fN 1 (dX 3 gF)) Q g w :=
 sW 1 (vR _ g w (mE kn) (fun g w h => fQ (Fu 0 (vH _ g w kn hn h))) h)
def lX (kn : K3) (R : K1) (Ci Dm : Nb) (w : Na) : Prop :=
 dQ pg (fI .eql 45 (.tmp 8) (.const (.pointer none)) Ci (.pointer none)) w fun b9 w =>
 lJ b9
  (R (.int .u64 0) w)
  (kn Ci Dm (.int .u64 0) w)
theorem vL (kn : K3) (R : K1) (hn : N3 Q kn 0 1 5) (hr : HR jS R Q) (h : lX kn R (g 0) (g 1) w) : gG pg gK (fN 3 gF) Q g w :=
 lH (l := []) h hn hr trivial
def mD (R : K1) (Ci Dm : Nb) (w : Na) : Prop :=
 lX (fun Ci Dm BP w => mA R Ci Dm BP w) R Ci Dm w
theorem uV (R : K1) (hr : HR jS R Q) (h : mD R (g 0) (g 1) w) : gG pg gK gF Q g w :=
 sW 3 (vL _ g w (mA R) R (fun g w h => fQ (sW 1 (vI _ g w (jU R) (fun g w h => fQ (vD _ g w R hr h)) h))) hr h)
def tM (a0 a1 : Nb) (w : Na) (R : K1) : Prop :=
 mD R a0 a1 w
theorem vW {a0 a1 : Nb} {w : Na} {R : K1} (h : tM a0 a1 w R) : fO pg fT #[a0, a1] w R := by
 refine BK (ann := gK) Tryd.f20 gF [a0, a1] jS 35 TrydM.mixed Tryd.func20 ?_
 exact (uV _ _ _ R (fun _ _ h => h) h)
def sL : FA := ⟨fZ, fun i => .leaf ([], []) []⟩
def tN : List ResultVar := [.tmp 2]
noncomputable def rT : Code := iM Tryd.f21
def oD (R : K1) (Ci : Nb) (w : Na) : Prop :=
 dQ pg (fI .eql 45 (.tmp 3) (.const (.pointer none)) Ci (.pointer none)) w fun b4 w =>
 lJ b4
  (R (Nc 1) w)
  (dQ pg (iW Ci) w fun b6 w =>
  dQ pg (fK 63 b6 1) w fun b7 w =>
  dQ pg (fR 26 b7) w fun b8 w =>
  R b8 w)
theorem zB (R : K1) (hr : HR tN R Q) (h : oD R (g 0) w) : gG pg sL rT Q g w :=
 lH (kn := no) (l := []) h nR hr trivial
def wH (a0 : Nb) (w : Na) (R : K1) : Prop :=
 oD R a0 w
theorem Au {a0 : Nb} {w : Na} {R : K1} (h : wH a0 w R) : fO pg fZ #[a0] w R := by
 refine BK (ann := sL) Tryd.f21 rT [a0] tN 9 TrydM.mixed Tryd.func21 ?_
 exact (zB _ _ _ R (fun _ _ h => h) h)
def gI : FA := ⟨kY, fun i => match Nat.beq i 1 with | true => .leaf ([8, 9], [(1, 8), (2, 8), (3, 8)]) [(false, []), (false, []), (false, []), (false, []), (false, []), (false, []), (false, []), (false, []), (true, [4, 5, 6]), (true, []), (false, [])] | false => match Nat.beq i 6 with | true => .leaf ([], []) [(false, []), (false, []), (false, []), (false, []), (false, []), (false, []), (false, []), (false, []), (false, []), (false, []), (false, []), (false, []), (false, []), (false, []), (false, []), (false, []), (false, []), (false, []), (false, []), (false, []), (false, []), (false, []), (false, []), (false, []), (false, []), (false, []), (false, [])] | false => .leaf ([], []) []⟩
def hE : List ResultVar := [.tmp 2]
noncomputable def gD : Code := iM Tryd.f22
def hZ (R : K1) (kQ fG : Nb) (w : Na) : Prop :=
 dQ pg (iW kQ) w fun p1 w =>
 dQ pg (fK 47 p1 3) w fun p2 w =>
 dQ pg (fR 22 p2) w fun p3 w =>
 dQ pg (pI .append #[22, 22] 22 [p3, fG]) w fun p5 w =>
 dQ pg (iW kQ) w fun p6 w =>
 dQ pg (fK 47 p6 3) w fun p7 w =>
 dQ pg (fX 22 p7 p5) w fun _u w =>
 dQ pg (iW kQ) w fun p9 w =>
 dQ pg (fK 47 p9 4) w fun q0 w =>
 dQ pg (fR 3 q0) w fun q1 w =>
 dQ pg (fI .add 3 fP fP q1 (Nc 1)) w fun q2 w =>
 dQ pg (iW kQ) w fun q3 w =>
 dQ pg (fK 47 q3 4) w fun q4 w =>
 dQ pg (fX 3 q4 q2) w fun _u w =>
 R (Nc 0) w
theorem xR (R : K1) (hr : HR hE R Q) (h : hZ R (g 0) (g 8) w) : gG pg gI (dX 2 (dX 1 (dX 8 (bI (dX 1 gD))))) Q g w :=
 lH (kn := no) (l := []) h nR hr trivial
def nE (kn : K2) (R : K1) (kQ B0 fG : Nb) (w : Na) : Prop :=
 dQ pg (fK 67 B0 2) w fun n1 w =>
 dQ pg (fR 4 n1) w fun n2 w =>
 Gd (lS n2 true) (fun K => K fG w) w fun n4 w =>
 Gd (lS n2 true) (fun K => dQ pg (pI .len #[22] 3 [n4]) w K) w fun n5 w =>
 Gd (lS n2 true) (fun K => dQ pg (jF 3 40 n5) w K) w fun n6 w =>
 Gd (lS n2 true) (fun K => dQ pg (fK 67 B0 1) w K) w fun n7 w =>
 Gd (lS n2 true) (fun K => dQ pg (fR 40 n7) w K) w fun n8 w =>
 Gd (lS n2 true) (fun K => dQ pg (fI .neq 40 (.tmp 96) (.tmp 98) n6 n8) w K) w fun n9 w =>
 dQ pg (nX n2 n9 (.bool false)) w fun o0 w =>
 lJ o0
  (R (Nc 11) w)
  (dQ pg (fK 67 B0 3) w fun o1 w =>
  dQ pg (fR 4 o1) w fun o2 w =>
  lJ o2
   (fO pg jK #[kQ, fG] w fun o5 w =>
   dQ pg (fI .neq 26 (.tmp 106) (.const (Nc 0)) o5 (Nc 0)) w fun o7 w =>
   lJ o7
    (R o5 w)
    (kn kQ fG w))
   (kn kQ fG w))
theorem xQ (kn : K2) (R : K1) (hn : N2 Q kn 0 8) (hr : HR hE R Q) (h : nE kn R (g 0) (g 4) (g 8) w) : gG pg gI (fN 2 (dX 1 (dX 8 (bI (dX 1 gD))))) Q g w :=
 lH (l := []) h hn hr trivial
def jH (R : K1) (kQ B0 fG : Nb) (w : Na) : Prop :=
 nE (fun kQ fG w => hZ R kQ fG w) R kQ B0 fG w
def kO (kn : K4) (k0 : K3) (R : K1) (kQ B0 Fm fG : Nb) (w : Na) : Prop :=
 dQ pg (fR 80 Fm) w fun j9 w =>
 dQ pg (fK 67 B0 0) w fun l0 w =>
 dQ pg (fR 40 l0) w fun l1 w =>
 fO pg lF #[kQ, fG, j9, l1] w fun l2 w =>
 dQ pg (iB l2 0) w fun l3 w =>
 dQ pg (iB l2 1) w fun l4 w =>
 dQ pg (iB l2 2) w fun l5 w =>
 dQ pg (iB l2 3) w fun l6 w =>
 dQ pg (fX 80 Fm l4) w fun _u w =>
 dQ pg (fI .neq 26 (.tmp 77) (.const (Nc 0)) l6 (Nc 0)) w fun l8 w =>
 lJ l8
  (R l6 w)
  (dQ pg (fK 67 B0 2) w fun m0 w =>
  dQ pg (fR 4 m0) w fun m1 w =>
  Gd (lS m1 true) (fun K => K l3 w) w fun m3 w =>
  Gd (lS m1 true) (fun K => dQ pg (pI .len #[22] 3 [m3]) w K) w fun m4 w =>
  Gd (lS m1 true) (fun K => dQ pg (jF 3 40 m4) w K) w fun m5 w =>
  Gd (lS m1 true) (fun K => dQ pg (fK 67 B0 1) w K) w fun m6 w =>
  Gd (lS m1 true) (fun K => dQ pg (fR 40 m6) w K) w fun m7 w =>
  Gd (lS m1 true) (fun K => dQ pg (fI .gtr 40 fP fP m5 m7) w K) w fun m8 w =>
  dQ pg (nX m1 m8 (.bool false)) w fun m9 w =>
  lJ m9
   (R (Nc 11) w)
   (lJ l5
    (k0 kQ B0 l3 w)
    (kn kQ B0 Fm l3 w)))
theorem xM (kn : K4) (k0 : K3) (R : K1) (hn : N4 Q kn 0 4 7 8) (h0 : E3 Q k0 0 0 4 8) (hr : HR hE R Q) (h : kO kn k0 R (g 0) (g 4) (g 7) (g 8) w) : gG pg gI (bI (bI (fN 1 (dX 8 (bI (dX 1 gD)))))) Q g w :=
 lH (l := [(0, fun g w => k0 (g 0) (g 4) (g 8) w)]) h hn hr ⟨h0, trivial⟩
def mW (k0 : K3) (R : K1) (kQ B0 Fm fG : Nb) (w : Na) : Prop :=
 iR (fun (X : Nb -> K0) (t : Nb) (w : Na) => kO (fun _ _ _ fG w => X fG w) k0 R kQ B0 Fm t w) fG w
theorem xE (k0 : K3) (R : K1) (h0 : E3 Q k0 0 0 4 8) (hr : HR hE R Q) (h : mW k0 R (g 0) (g 4) (g 7) (g 8) w) : gG pg gI (bI (fN 1 (dX 8 (bI (dX 1 gD))))) Q g w := by
 refine G8 (fun g : Env => g 8) (fun X t w => kO (fun _ _ _ fG w => X fG w) k0 R (g 0) (g 4) (g 7) t w) h (fun X g1 w1 ha hL => ?_)
 rw [<- BJ 0 ha, <- BJ 4 ha, <- BJ 7 ha] at hL
 exact (xM _ g1 w1 (fun _ _ _ fG w => X fG w) k0 R (fun _ _ h => h) h0 hr hL)
def nF (kn : K3) (R : K1) (kQ B0 Fm fG : Nb) (w : Na) : Prop :=
 mW kn R kQ B0 Fm fG w
def jI (R : K1) (kQ B0 Fm fG : Nb) (w : Na) : Prop :=
 nF (fun kQ B0 fG w => jH R kQ B0 fG w) R kQ B0 Fm fG w
theorem yE (kn : K3) (R : K1) (hn : N3 Q kn 0 4 8) (hr : HR hE R Q) (h : nF kn R (g 0) (g 4) (g 7) (g 8) w) : gG pg gI (fN 1 (dX 8 (bI (dX 1 gD)))) Q g w :=
 Fu 0 (xE _ g w kn R hn hr h)
def nC (kn : K4) (R : K1) (kQ : Nb) (w : Na) : Prop :=
 (dr w) = (dr w) /\
 dQ pg (iW kQ) (dr w) fun c2 w_ => w_ = (dr w) /\
 dQ pg (fK 47 c2 0) (dr w) fun c3 w_ => w_ = (dr w) /\
 dQ pg (fR 45 c3) (dr w) fun c4 w_ => w_ = (dr w) /\
 (dr w) = (dr w) /\
 dQ pg (iW kQ) (dr w) fun c6 w_ => w_ = (dr w) /\
 dQ pg (fK 47 c6 0) (dr w) fun c7 w_ => w_ = (dr w) /\
 dQ pg (fR 45 c7) (dr w) fun c8 w_ => w_ = (dr w) /\
 fO pg hU #[c8] (dr w) fun c9 Ju =>
 (fJ pg (fR 45 c3) c4 Ju /\ fJ pg (fK 47 c2 0) c3 Ju /\ fJ pg (iW kQ) c2 Ju /\ True) /\
 fO pg iK #[c4, c9] Ju fun d0 Kq =>
 Kq = Kq /\
 fO pg uO #[d0] Kq fun d3 w =>
 dQ pg (iB d3 0) w fun d4 w =>
 dQ pg (iB d3 1) w fun d5 w =>
 dQ pg (iB d3 2) w fun d6 w =>
 dQ pg (pN 67) w fun B0 w =>
 dQ pg (fX 67 B0 d4) w fun _u w =>
 dQ pg (fI .neq 26 (.tmp 27) (.const (Nc 0)) d6 (Nc 0)) w fun d8 w =>
 lJ d8
  (R d6 w)
  (dQ pg (hP 22 d0 (some d5) none none) w fun e3 w =>
  fO pg iC #[e3] w fun e4 w =>
  dQ pg (iW kQ) w fun e5 w =>
  dQ pg (fK 47 e5 0) w fun e6 w =>
  dQ pg (fX 45 e6 e4) w fun _u w =>
  dQ pg (fK 67 B0 0) (dr w) fun e7 w_ => w_ = (dr w) /\
  dQ pg (fR 40 e7) (dr w) fun e8 w_ => w_ = (dr w) /\
  (dr w) = (dr w) /\
  dQ pg (iW kQ) (dr w) fun f0 w_ => w_ = (dr w) /\
  dQ pg (fK 47 f0 1) (dr w) fun f1 w_ => w_ = (dr w) /\
  dQ pg (fR 40 f1) (dr w) fun f2 w_ => w_ = (dr w) /\
  dQ pg (fI .gtr 40 fP fP e8 f2) (dr w) fun f3 w_ => w_ = (dr w) /\
  (dr w) = (dr w) /\
  Gd (lS f3 false) (fun K => dQ pg (fK 67 B0 2) (dr w) K) (dr w) fun f5 w_ => w_ = (dr w) /\
  Gd (lS f3 false) (fun K => dQ pg (fR 4 f5) (dr w) K) (dr w) fun f6 w_ => w_ = (dr w) /\
  Gd (lS f3 false) (fun K => K f6 (dr w)) (dr w) fun f7 w_ => w_ = (dr w) /\
  Gd (lS f7 true) (fun K => dQ pg (fK 67 B0 1) (dr w) K) (dr w) fun f8 w_ => w_ = (dr w) /\
  Gd (lS f7 true) (fun K => dQ pg (fR 40 f8) (dr w) K) (dr w) fun f9 w_ => w_ = (dr w) /\
  Gd (lS f7 true) (fun K => K kQ (dr w)) (dr w) fun i0 w_ => w_ = (dr w) /\
  Gd (lS f7 true) (fun K => dQ pg (iW i0) (dr w) K) (dr w) fun i1 w_ => w_ = (dr w) /\
  Gd (lS f7 true) (fun K => dQ pg (fK 47 i1 2) (dr w) K) (dr w) fun i2 w_ => w_ = (dr w) /\
  Gd (lS f7 true) (fun K => dQ pg (fR 3 i2) (dr w) K) (dr w) fun i3 w_ => w_ = (dr w) /\
  Gd (lS f7 true) (fun K => K kQ (dr w)) (dr w) fun i4 w_ => w_ = (dr w) /\
  Gd (lS f7 true) (fun K => dQ pg (iW i4) (dr w) K) (dr w) fun i5 w_ => w_ = (dr w) /\
  Gd (lS f7 true) (fun K => dQ pg (fK 47 i5 3) (dr w) K) (dr w) fun i6 w_ => w_ = (dr w) /\
  Gd (lS f7 true) (fun K => dQ pg (fR 22 i6) (dr w) K) (dr w) fun i7 w_ => w_ = (dr w) /\
  Gd (lS f7 true) (fun K => dQ pg (pI .len #[22] 3 [i7]) (dr w) K) (dr w) fun i8 w_ => w_ = (dr w) /\
  Gd (lS f7 true) (fun K => dQ pg (fI .sub 3 fP fP i3 i8) (dr w) K) (dr w) fun i9 w_ => w_ = (dr w) /\
  Gd (lS f7 true) (fun K => dQ pg (jF 3 40 i9) (dr w) K) (dr w) fun j0 w_ => w_ = (dr w) /\
  Gd (lS f7 true) (fun K => dQ pg (fI .gtr 40 fP fP f9 j0) (dr w) K) (dr w) fun j1 w_ => w_ = (dr w) /\
  Gd (lS f3 false) (fun K => dQ pg (nX f7 j1 (.bool false)) (dr w) K) (dr w) fun j2 w_ => w_ = (dr w) /\
  dQ pg (nX f3 (.bool true) j2) (dr w) fun j3 w_ => w_ = (dr w) /\
  lJ j3
   (R (Nc 12) (dr w))
   (fO pg mT #[] (dr w) fun j4 w =>
   dQ pg (hX 80 [(2, j4)]) w fun j5 w =>
   dQ pg (pN 80) w fun Fm w =>
   dQ pg (fX 80 Fm j5) w fun _u w =>
   kn kQ B0 Fm (.slice none 0 0) w))
theorem wV (kn : K4) (R : K1) (hn : N4 Q kn 0 4 7 8) (hr : HR hE R Q) (h : nC kn R (g 0) w) : gG pg gI (fN 8 (bI (dX 1 gD))) Q g w :=
 lH (l := []) h hn hr trivial
def sF (R : K1) (kQ : Nb) (w : Na) : Prop :=
 nC (fun kQ B0 Fm fG w => jI R kQ B0 Fm fG w) R kQ w
def mH (R : K1) (kQ : Nb) (w : Na) : Prop :=
 sF R kQ w
def mR (kn : K1) (kQ : Nb) (w : Na) : Prop :=
 kn kQ w
theorem vX (kn : K1) (hn : N1 Q kn 0) (h : mR kn (g 0) w) : gG pg gI (fN 1 gD) Q g w :=
 lH (kr := no) (l := []) h hn nR trivial
def mO (R : K1) (kQ : Nb) (w : Na) : Prop :=
 mR (fun kQ w => mH R kQ w) kQ w
theorem vY (R : K1) (hr : HR hE R Q) (h : mO R (g 0) w) : gG pg gI gD Q g w :=
 sW 1 (vX _ g w (mH R) (fun g w h => fQ (LM (sW 8 (wV _ g w (jI R) R (fun g w h => fQ (sW 1 (yE _ g w (jH R) R (fun g w h => fQ (sW 2 (xQ _ g w (hZ R) R (fun g w h => fQ (xR _ g w R hr h)) hr h))) hr h))) hr h)))) h)
def vQ (a0 : Nb) (w : Na) (R : K1) : Prop :=
 mO R a0 w
theorem zK {a0 : Nb} {w : Na} {R : K1} (h : vQ a0 w R) : fO pg kY #[a0] w R := by
 refine BK (ann := gI) Tryd.f22 gD [a0] hE 125 TrydM.mixed Tryd.func22 ?_
 exact (vY _ _ _ R (fun _ _ h => h) h)
def sN : FA := ⟨lR, fun i => .leaf ([], []) []⟩
def tS : List ResultVar := [.tmp 2]
noncomputable def rX : Code := iM Tryd.f23
def oZ (R : K1) (kQ : Nb) (w : Na) : Prop :=
 dQ pg (iW kQ) w fun b5 w =>
 dQ pg (fK 47 b5 0) w fun b6 w =>
 dQ pg (fR 45 b6) w fun b7 w =>
 fO pg fT #[b7, (Nc 4)] w fun b8 w =>
 dQ pg (iW kQ) w fun c0 w =>
 dQ pg (fK 47 c0 0) w fun c1 w =>
 dQ pg (fR 45 c1) w fun c2 w =>
 fO pg fZ #[c2] w fun c3 w =>
 dQ pg (fI .neq 26 (.tmp 13) (.const (Nc 0)) c3 (Nc 0)) w fun c4 w =>
 Gd (lS c4 false) (fun K => K b8 w) w fun c6 w =>
 Gd (lS c4 false) (fun K => K kQ w) w fun c7 w =>
 Gd (lS c4 false) (fun K => dQ pg (iW c7) w K) w fun c8 w =>
 Gd (lS c4 false) (fun K => dQ pg (fK 47 c8 0) w K) w fun c9 w =>
 Gd (lS c4 false) (fun K => dQ pg (fR 45 c9) w K) w fun d0 w =>
 Gd (lS c4 false) (fun K => fO pg hU #[d0] w K) w fun d1 w =>
 Gd (lS c4 false) (fun K => dQ pg (jF 3 40 d1) w K) w fun d2 w =>
 Gd (lS c4 false) (fun K => dQ pg (fI .gtr 40 fP fP c6 d2) w K) w fun d3 w =>
 dQ pg (nX c4 (.bool true) d3) w fun d4 w =>
 lJ d4
  (R (Nc 10) w)
  (dQ pg (iW kQ) w fun d6 w =>
  dQ pg (fK 47 d6 0) w fun d7 w =>
  dQ pg (fR 45 d7) w fun d8 w =>
  dQ pg (jF 40 3 b8) w fun e0 w =>
  fO pg iK #[d8, e0] w fun e1 w =>
  dQ pg (iW kQ) w fun e3 w =>
  dQ pg (fK 47 e3 5) w fun e4 w =>
  dQ pg (fR 3 e4) w fun e5 w =>
  dQ pg (fI .add 3 fP fP e5 (Nc 1)) w fun e6 w =>
  dQ pg (iW kQ) w fun e7 w =>
  dQ pg (fK 47 e7 5) w fun e8 w =>
  dQ pg (fX 3 e8 e6) w fun _u w =>
  R (Nc 0) w)
theorem yI (R : K1) (hr : HR tS R Q) (h : oZ R (g 0) w) : gG pg sN rX Q g w :=
 lH (kn := no) (l := []) h nR hr trivial
def wJ (a0 : Nb) (w : Na) (R : K1) : Prop :=
 oZ R a0 w
theorem Ad {a0 : Nb} {w : Na} {R : K1} (h : wJ a0 w R) : fO pg lR #[a0] w R := by
 refine BK (ann := sN) Tryd.f23 rX [a0] tS 39 TrydM.mixed Tryd.func23 ?_
 exact (yI _ _ _ R (fun _ _ h => h) h)
def sJ : FA := ⟨lQ, fun i => .leaf ([], []) []⟩
def tT : List ResultVar := [.tmp 2]
noncomputable def rS : Code := iM Tryd.f25
def oJ (R : K1) (kQ : Nb) (w : Na) : Prop :=
 dQ pg (fI .eql 22 (.tmp 3) (.const (.slice none 0 0)) kQ (.slice none 0 0)) w fun b4 w =>
 lJ b4
  (R (.slice none 0 0) w)
  (dQ pg (iD 22 0 []) w fun b5 w =>
  dQ pg (pI .append #[22, 22] 22 [b5, kQ]) w fun b7 w =>
  R b7 w)
theorem zD (R : K1) (hr : HR tT R Q) (h : oJ R (g 0) w) : gG pg sJ rS Q g w :=
 lH (kn := no) (l := []) h nR hr trivial
def wO (a0 : Nb) (w : Na) (R : K1) : Prop :=
 oJ R a0 w
theorem Ag {a0 : Nb} {w : Na} {R : K1} (h : wO a0 w R) : fO pg lQ #[a0] w R := by
 refine BK (ann := sJ) Tryd.f25 rS [a0] tT 8 TrydM.mixed Tryd.func25 ?_
 exact (zD _ _ _ R (fun _ _ h => h) h)
def rJ : FA := ⟨jO, fun i => .leaf ([], []) []⟩
def sM : List ResultVar := [.tmp 6]
noncomputable def rE : Code := iM Tryd.f26
def nG (R : K1) (Ci Dm KX : Nb) (w : Na) : Prop :=
 dQ pg (iW Ci) w fun c0 w =>
 dQ pg (fK 63 c0 1) w fun c1 w =>
 dQ pg (fR 26 c1) w fun c2 w =>
 dQ pg (fI .neq 26 (.tmp 12) (.const (Nc 0)) c2 (Nc 0)) w fun c3 w =>
 lJ c3
  (R (.slice none 0 0) w)
  (dQ pg (Jg .not KX) w fun c6 w =>
  lJ c6
   (dQ pg (iW Ci) w fun c8 w =>
   dQ pg (fK 63 c8 1) w fun c9 w =>
   dQ pg (fX 26 c9 (Nc 1)) w fun _u w =>
   R (.slice none 0 0) w)
   (dQ pg (iW Ci) w fun d3 w =>
   dQ pg (fK 63 d3 0) w fun d4 w =>
   dQ pg (fR 22 d4) w fun d5 w =>
   dQ pg (pI .len #[22] 3 [d5]) w fun d6 w =>
   dQ pg (fI .gtr 3 fP fP Dm d6) w fun d7 w =>
   lJ d7
    (dQ pg (iW Ci) w fun d9 w =>
    dQ pg (fK 63 d9 1) w fun e0 w =>
    dQ pg (fX 26 e0 (Nc 10)) w fun _u w =>
    R (.slice none 0 0) w)
    (dQ pg (iW Ci) w fun e2 w =>
    dQ pg (fK 63 e2 0) w fun e3 w =>
    dQ pg (fR 22 e3) w fun e4 w =>
    dQ pg (hP 22 e4 none (some Dm) (some Dm)) w fun e7 w =>
    dQ pg (iW Ci) w fun f0 w =>
    dQ pg (fK 63 f0 0) w fun f1 w =>
    dQ pg (fR 22 f1) w fun f2 w =>
    dQ pg (hP 22 f2 (some Dm) none none) w fun f4 w =>
    dQ pg (iW Ci) w fun f5 w =>
    dQ pg (fK 63 f5 0) w fun f6 w =>
    dQ pg (fX 22 f6 f4) w fun _u w =>
    R e7 w)))
theorem wX (R : K1) (hr : HR sM R Q) (h : nG R (g 0) (g 1) (g 2) w) : gG pg rJ rE Q g w :=
 lH (kn := no) (l := []) h nR hr trivial
def vK (a0 a1 a2 : Nb) (w : Na) (R : K1) : Prop :=
 nG R a0 a1 a2 w
theorem yT {a0 a1 a2 : Nb} {w : Na} {R : K1} (h : vK a0 a1 a2 w R) : fO pg jO #[a0, a1, a2] w R := by
 refine BK (ann := rJ) Tryd.f26 rE [a0, a1, a2] sM 48 TrydM.mixed Tryd.func26 ?_
 exact (wX _ _ _ R (fun _ _ h => h) h)
def rA : FA := ⟨iK, fun i => .leaf ([], []) []⟩
def sD : List ResultVar := [.tmp 4]
noncomputable def pZ : Code := iM Tryd.f27
def mN (R : K1) (Ci Dm : Nb) (w : Na) : Prop :=
 dQ pg (fI .eql 45 (.tmp 5) (.const (.pointer none)) Ci (.pointer none)) w fun b6 w =>
 lJ b6
  (R (.slice none 0 0) w)
  (dQ pg (fI .geq 3 fP fP Dm (Nc 0)) w fun c0 w =>
  fO pg jO #[Ci, Dm, c0] w fun c1 w =>
  R c1 w)
theorem vV (R : K1) (hr : HR sD R Q) (h : mN R (g 0) (g 1) w) : gG pg rA pZ Q g w :=
 lH (kn := no) (l := []) h nR hr trivial
def uG (a0 a1 : Nb) (w : Na) (R : K1) : Prop :=
 mN R a0 a1 w
theorem xU {a0 a1 : Nb} {w : Na} {R : K1} (h : uG a0 a1 w R) : fO pg iK #[a0, a1] w R := by
 refine BK (ann := rA) Tryd.f27 pZ [a0, a1] sD 12 TrydM.mixed Tryd.func27 ?_
 exact (vV _ _ _ R (fun _ _ h => h) h)
def iV : FA := ⟨uO, fun i => match Nat.beq i 28 with | true => .leaf ([4, 6], [(0, 4), (2, 4), (2, 6), (5, 6)]) [(false, []), (false, []), (false, []), (false, []), (true, [1, 3]), (false, []), (true, [0, 3]), (false, []), (false, [])] | false => .leaf ([], []) []⟩
def tI : List ResultVar := [.cell 2 67, .tmp 3, .tmp 4]
noncomputable def iO : Code := iM Tryd.f28
def pY (R : K1) (lI b2 tK rF hJ : Nb) (w : Na) : Prop :=
 fO pg fZ #[tK] w fun l9 w =>
 dQ pg (fI .neq 26 (.tmp 79) (.const (Nc 0)) l9 (Nc 0)) w fun m0 w =>
 lJ m0
  (dQ pg (hX 67 []) w fun m1 w =>
  fO pg fZ #[tK] w fun m3 w =>
  dQ pg (fX 67 b2 m1) w fun _u w =>
  Er pg 67 b2 w fun r0 => R (.tuple #[r0, (Nc 0), m3]) w)
  (dQ pg (fI .neq 40 (.tmp 85) (.const (.int .u64 0)) hJ (.int .u64 0)) w fun m6 w =>
  lJ m6
   (dQ pg (hX 67 []) w fun m7 w =>
   dQ pg (fX 67 b2 m7) w fun _u w =>
   Er pg 67 b2 w fun r0 => R (.tuple #[r0, (Nc 0), (Nc 14)]) w)
   (dQ pg (fR 67 rF) (dr w) fun m8 w_ => w_ = (dr w) /\
   (dr w) = (dr w) /\
   dQ pg (pI .len #[22] 3 [lI]) (dr w) fun n0 w_ => w_ = (dr w) /\
   (dr w) = (dr w) /\
   fO pg hU #[tK] (dr w) fun n2 FQ =>
   (fJ pg (pI .len #[22] 3 [lI]) n0 FQ /\ fJ pg (fR 67 rF) m8 FQ /\ True) /\
   dQ pg (fI .sub 3 fP fP n0 n2) FQ fun n3 w_ => w_ = FQ /\
   dQ pg (fX 67 b2 m8) FQ fun _u6 Du =>
   (fJ pg (fI .sub 3 fP fP n0 n2) n3 Du /\ fJ pg (pI .len #[22] 3 [lI]) n0 Du /\ True) /\
   Du = Du /\
   Du = Du /\
   Er pg 67 b2 Du fun r0 => R (.tuple #[r0, n3, (Nc 0)]) Du))
theorem CU (R : K1) (hr : HR tI R Q) (h : pY R (g 0) (g 2) (g 5) (g 7) (g 9) w) : gG pg iV (dX 1 (dX 1 (dX 1 (dX 2 (dX 2 (dX 7 iO)))))) Q g w :=
 lH (kn := no) (l := []) h nR hr trivial
def yD (kn : K5) (lI b2 tK rF iG hJ : Nb) (w : Na) : Prop :=
 lJ iG
  (dQ pg (fK 67 rF 1) w fun l4 w =>
  dQ pg (fR 40 l4) w fun l5 w =>
  dQ pg (fK 67 rF 0) w fun l6 w =>
  dQ pg (fX 40 l6 l5) w fun _u w =>
  kn lI b2 tK rF hJ w)
  (kn lI b2 tK rF hJ w)
theorem Dg (kn : K5) (hn : N5 Q kn 0 2 5 7 9) (h : yD kn (g 0) (g 2) (g 5) (g 7) (g 8) (g 9) w) : gG pg iV (fN 1 (dX 1 (dX 1 (dX 2 (dX 2 (dX 7 iO)))))) Q g w :=
 lH (kr := no) (l := []) h hn nR trivial
def tC (R : K1) (lI b2 tK rF iG hJ : Nb) (w : Na) : Prop :=
 yD (fun lI b2 tK rF hJ w => pY R lI b2 tK rF hJ w) lI b2 tK rF iG hJ w
def wY (kn : K6) (lI b2 tK rF iG hJ mM : Nb) (w : Na) : Prop :=
 dQ pg (fI .eql 3 (.tmp 67) (.const (Nc 2)) mM (Nc 2)) w fun j8 w =>
 lJ j8
  (dQ pg (fK 67 rF 1) w fun j9 w =>
  dQ pg (fR 40 j9) w fun l0 w =>
  dQ pg (fI .add 40 fP fP l0 (.int .u64 256)) w fun l1 w =>
  dQ pg (fK 67 rF 1) w fun l2 w =>
  dQ pg (fX 40 l2 l1) w fun _u w =>
  kn lI b2 tK rF iG hJ w)
  (kn lI b2 tK rF iG hJ w)
theorem CW (kn : K6) (hn : N6 Q kn 0 2 5 7 8 9) (h : wY kn (g 0) (g 2) (g 5) (g 7) (g 8) (g 9) (g 11) w) : gG pg iV (fN 1 (dX 1 (dX 2 (dX 2 (dX 7 iO))))) Q g w :=
 lH (kr := no) (l := []) h hn nR trivial
def tH (R : K1) (lI b2 tK rF iG hJ mM : Nb) (w : Na) : Prop :=
 wY (fun lI b2 tK rF iG hJ w => tC R lI b2 tK rF iG hJ w) lI b2 tK rF iG hJ mM w
def xJ (kn : K7) (lI b2 tK rF iG hJ mM : Nb) (w : Na) : Prop :=
 dQ pg (fI .gtr 3 fP fP mM (Nc 0)) w fun j1 w =>
 lJ j1
  (fO pg fT #[tK, mM] w fun j4 w =>
  dQ pg (fK 67 rF 1) w fun j5 w =>
  dQ pg (fX 40 j5 j4) w fun _u w =>
  dQ pg (fK 67 rF 2) w fun j6 w =>
  dQ pg (fX 4 j6 (.bool true)) w fun _u w =>
  kn lI b2 tK rF iG hJ mM w)
  (kn lI b2 tK rF iG hJ mM w)
theorem C8 (kn : K7) (hn : N7 Q kn 0 2 5 7 8 9 11) (h : xJ kn (g 0) (g 2) (g 5) (g 7) (g 8) (g 9) (g 11) w) : gG pg iV (fN 1 (dX 2 (dX 2 (dX 7 iO)))) Q g w :=
 lH (kr := no) (l := []) h hn nR trivial
def qA (R : K1) (lI b2 tK rF iG hJ mM : Nb) (w : Na) : Prop :=
 xJ (fun lI b2 tK rF iG hJ mM w => tH R lI b2 tK rF iG hJ mM w) lI b2 tK rF iG hJ mM w
def yA (kn : K7) (lI b2 tK FE rF iG hJ : Nb) (w : Na) : Prop :=
 dQ pg (hX 87 [(0, (Nc 0)), (1, (Nc 2)), (2, (Nc 4)), (3, (Nc 8))]) w fun i1 w =>
 dQ pg (fI .shr 3 fP fP FE (.int .u64 6)) w fun i3 w =>
 dQ pg (Dc 87 i1 i3) w fun i4 w =>
 Gd (lS iG true) (fun K => K i4 w) w fun i7 w =>
 Gd (lS iG true) (fun K => dQ pg (fI .eql 3 (.tmp 57) (.const (Nc 0)) i7 (Nc 0)) w K) w fun i8 w =>
 dQ pg (nX iG i8 (.bool false)) w fun i9 w =>
 lJ i9
  (kn lI b2 tK rF iG hJ (Nc 1) w)
  (kn lI b2 tK rF iG hJ i4 w)
theorem C0 (kn : K7) (hn : N7 Q kn 0 2 5 7 8 9 11) (h : yA kn (g 0) (g 2) (g 5) (g 6) (g 7) (g 8) (g 9) w) : gG pg iV (fN 2 (dX 2 (dX 7 iO))) Q g w :=
 lH (kr := no) (l := []) h hn nR trivial
def pW (R : K1) (lI b2 tK FE rF iG hJ : Nb) (w : Na) : Prop :=
 yA (fun lI b2 tK rF iG hJ mM w => qA R lI b2 tK rF iG hJ mM w) lI b2 tK FE rF iG hJ w
def uX (kn : K7) (lI b2 tK FE rF iG : Nb) (w : Na) : Prop :=
 dQ pg (hX 87 [(0, (Nc 0)), (1, (Nc 1)), (2, (Nc 2)), (3, (Nc 4))]) w fun f2 w =>
 dQ pg (fI .and 3 fP fP FE (Nc 3)) w fun f4 w =>
 dQ pg (Dc 87 f2 f4) w fun f5 w =>
 dQ pg (fI .gtr 3 fP fP f5 (Nc 0)) w fun f7 w =>
 lJ f7
  (fO pg fT #[tK, f5] w fun i0 w =>
  kn lI b2 tK FE rF iG i0 w)
  (kn lI b2 tK FE rF iG (.int .u64 0) w)
theorem CD (kn : K7) (hn : N7 Q kn 0 2 5 6 7 8 9) (h : uX kn (g 0) (g 2) (g 5) (g 6) (g 7) (g 8) w) : gG pg iV (fN 2 (dX 7 iO)) Q g w :=
 lH (kr := no) (l := []) h hn nR trivial
def rU (R : K1) (lI b2 tK FE rF iG : Nb) (w : Na) : Prop :=
 uX (fun lI b2 tK FE rF iG hJ w => pW R lI b2 tK FE rF iG hJ w) lI b2 tK FE rF iG w
def uT (kn : K6) (R : K1) (lI : Nb) (w : Na) : Prop :=
 dQ pg (pN 67) w fun b2 w =>
 fO pg iC #[lI] w fun c3 w =>
 fO pg fT #[c3, (Nc 1)] w fun c5 w =>
 dQ pg (jF 40 3 c5) w fun c6 w =>
 fO pg fZ #[c3] w fun c9 w =>
 dQ pg (fI .neq 26 (.tmp 19) (.const (Nc 0)) c9 (Nc 0)) w fun d0 w =>
 lJ d0
  (dQ pg (hX 67 []) w fun d1 w =>
  fO pg fZ #[c3] w fun d3 w =>
  dQ pg (fX 67 b2 d1) w fun _u w =>
  Er pg 67 b2 w fun r0 => R (.tuple #[r0, (Nc 0), d3]) w)
  (dQ pg (fI .and 3 fP fP c6 (Nc 8)) w fun d6 w =>
  dQ pg (fI .neq 3 (.tmp 26) (.const (Nc 0)) d6 (Nc 0)) w fun d7 w =>
  lJ d7
   (dQ pg (hX 67 []) w fun d8 w =>
   dQ pg (fX 67 b2 d8) w fun _u w =>
   Er pg 67 b2 w fun r0 => R (.tuple #[r0, (Nc 0), (Nc 11)]) w)
   (dQ pg (fI .and 3 fP fP c6 (Nc 4)) w fun e0 w =>
   dQ pg (fI .neq 3 (.tmp 30) (.const (Nc 0)) e0 (Nc 0)) w fun e1 w =>
   dQ pg (hX 67 [(3, e1)]) w fun e2 w =>
   dQ pg (pN 67) w fun rF w =>
   dQ pg (fX 67 rF e2) w fun _u w =>
   dQ pg (fI .and 3 fP fP c6 (Nc 32)) w fun e4 w =>
   dQ pg (fI .neq 3 (.tmp 34) (.const (Nc 0)) e4 (Nc 0)) w fun e5 w =>
   dQ pg (Jg .not e5) w fun e7 w =>
   lJ e7
    (fO pg fT #[c3, (Nc 1)] w fun e9 w =>
    fO pg rV #[e9] w fun f0 w =>
    dQ pg (fK 67 rF 0) w fun f1 w =>
    dQ pg (fX 40 f1 f0) w fun _u w =>
    kn lI b2 c3 c6 rF e5 w)
    (kn lI b2 c3 c6 rF e5 w)))
theorem CJ (kn : K6) (R : K1) (hn : N6 Q kn 0 2 5 6 7 8) (hr : HR tI R Q) (h : uT kn R (g 0) w) : gG pg iV (fN 7 iO) Q g w :=
 lH (l := []) h hn hr trivial
def uR (R : K1) (lI : Nb) (w : Na) : Prop :=
 uT (fun lI b2 tK FE rF iG w => rU R lI b2 tK FE rF iG w) R lI w
theorem CO (R : K1) (hr : HR tI R Q) (h : uR R (g 0) w) : gG pg iV iO Q g w :=
 sW 7 (CJ _ g w (rU R) R (fun g w h => fQ (sW 2 (CD _ g w (pW R) (fun g w h => fQ (sW 2 (C0 _ g w (qA R) (fun g w h => fQ (sW 1 (C8 _ g w (tH R) (fun g w h => fQ (sW 1 (CW _ g w (tC R) (fun g w h => fQ (sW 1 (Dg _ g w (pY R) (fun g w h => fQ (CU _ g w R hr h)) h))) h))) h))) h))) h))) hr h)
def D0 (a0 : Nb) (w : Na) (R : K1) : Prop :=
 uR R a0 w
theorem DH {a0 : Nb} {w : Na} {R : K1} (h : D0 a0 w R) : fO pg uO #[a0] w R := by
 refine BK (ann := iV) Tryd.f28 iO [a0] tI 94 TrydM.mixed Tryd.func28 ?_
 exact (CO _ _ _ R (fun _ _ h => h) h)
def wM : FA := ⟨mT, fun i => .leaf ([], []) []⟩
def yW : List ResultVar := [.cell 0 72]
noncomputable def vO : Code := iM Tryd.f29
def sY (R : K1)  (w : Na) : Prop :=
 dQ pg (pN 72) w fun b0 w =>
 dQ pg (hX 72 [(0, (.int .u32 1)), (1, (.int .u32 4)), (2, (.int .u32 8))]) w fun b1 w =>
 dQ pg (fX 72 b0 b1) w fun _u w =>
 Er pg 72 b0 w fun r0 => R r0 w
theorem Bx (R : K1) (hr : HR yW R Q) (h : sY R w) : gG pg wM vO Q g w :=
 lH (kn := no) (l := []) h nR hr trivial
def BN (w : Na) (R : K1) : Prop :=
 sY R w
theorem Cj {w : Na} {R : K1} (h : BN w R) : fO pg mT #[] w R := by
 refine BK (ann := wM) Tryd.f29 vO [] yW 2 TrydM.mixed Tryd.func29 ?_
 exact (Bx _ _ _ R (fun _ _ h => h) h)
def iX : FA := ⟨lF, fun i => match Nat.beq i 24 with | true => .leaf ([], []) [(false, []), (false, []), (false, []), (false, []), (false, []), (false, []), (false, []), (false, []), (false, []), (false, []), (false, []), (false, []), (false, [])] | false => match Nat.beq i 26 with | true => .leaf ([5], [(2, 5), (3, 5)]) [(false, []), (false, []), (false, []), (false, []), (false, []), (true, [1, 2]), (false, []), (false, [])] | false => .leaf ([], []) []⟩
def jG : List ResultVar := [.tmp 8, .cell 9 80, .tmp 10, .tmp 11]
noncomputable def iU : Code := iM Tryd.f30
def iJ (R : K1) (kQ oP EO b9 tX : Nb) (w : Na) : Prop :=
 (dr w) = (dr w) /\
 dQ pg (iW kQ) (dr w) fun m8 w_ => w_ = (dr w) /\
 dQ pg (fK 47 m8 3) (dr w) fun m9 w_ => w_ = (dr w) /\
 dQ pg (fR 22 m9) (dr w) fun n0 w_ => w_ = (dr w) /\
 dQ pg (pI .len #[22] 3 [n0]) (dr w) fun n1 w_ => w_ = (dr w) /\
 (dr w) = (dr w) /\
 dQ pg (pI .len #[22] 3 [oP]) (dr w) fun n3 w_ => w_ = (dr w) /\
 dQ pg (fI .add 3 fP fP n1 n3) (dr w) fun n4 w_ => w_ = (dr w) /\
 (dr w) = (dr w) /\
 dQ pg (iW kQ) (dr w) fun n6 w_ => w_ = (dr w) /\
 dQ pg (fK 47 n6 2) (dr w) fun n7 w_ => w_ = (dr w) /\
 dQ pg (fR 3 n7) (dr w) fun n8 w_ => w_ = (dr w) /\
 dQ pg (fI .gtr 3 fP fP n4 n8) (dr w) fun n9 w_ => w_ = (dr w) /\
 lJ n9
  (dQ pg (hX 80 []) (dr w) fun o0 w =>
  dQ pg (fX 80 b9 o0) w fun _u w =>
  Er pg 80 b9 w fun r1 => R (.tuple #[(.slice none 0 0), r1, (.bool false), (Nc 12)]) w)
  ((dr (dr w)) = (dr (dr w)) /\
  dQ pg (fR 80 EO) (dr (dr w)) fun o2 w_ => w_ = (dr (dr w)) /\
  dQ pg (fK 90 tX 0) (dr (dr w)) fun o3 w_ => w_ = (dr (dr w)) /\
  dQ pg (fR 4 o3) (dr (dr w)) fun o4 w_ => w_ = (dr (dr w)) /\
  (dr (dr w)) = (dr (dr w)) /\
  dQ pg (fX 80 b9 o2) (dr (dr w)) fun _u5 Dz =>
  (fJ pg (fR 4 o3) o4 Dz /\ fJ pg (fK 90 tX 0) o3 Dz /\ True) /\
  Dz = Dz /\
  Dz = Dz /\
  Er pg 80 b9 Dz fun r1 => R (.tuple #[oP, r1, o4, (Nc 0)]) Dz)
theorem xV (R : K1) (hr : HR jG R Q) (h : iJ R (g 0) (g 1) (g 6) (g 9) (g 15) w) : gG pg iX (dX 2 (dX 9 iU)) Q g w :=
 lH (kn := no) (l := []) h nR hr trivial
def nD (kn : K5) (R : K1) (kQ oP mC EO b9 uS tX GO : Nb) (w : Na) : Prop :=
 fO pg iT #[kQ, GO] w fun i1 w =>
 dQ pg (iB i1 0) w fun i2 w =>
 dQ pg (iB i1 1) w fun i3 w =>
 dQ pg (fI .neq 26 (.tmp 54) (.const (Nc 0)) i3 (Nc 0)) w fun i5 w =>
 lJ i5
  (dQ pg (hX 80 []) w fun i6 w =>
  dQ pg (fX 80 b9 i6) w fun _u w =>
  Er pg 80 b9 w fun r1 => R (.tuple #[(.slice none 0 0), r1, (.bool false), i3]) w)
  (dQ pg (fK 90 tX 1) w fun i8 w =>
  dQ pg (fR 3 i8) w fun i9 w =>
  dQ pg (fI .eql 3 (.tmp 59) (.const (Nc 0)) i9 (Nc 0)) w fun l5 w =>
  lJ l5
   (dQ pg (pI .append #[22, 22] 22 [oP, i2]) w fun l8 w =>
   kn kQ l8 EO b9 tX w)
   (dQ pg (fI .eql 3 (.tmp 59) (.const (Nc 1)) i9 (Nc 1)) w fun m0 w =>
   lJ m0
    (dQ pg (fK 90 tX 2) w fun m3 w =>
    dQ pg (fR 3 m3) w fun m4 w =>
    fO pg kW #[i2, m4] w fun m5 w =>
    dQ pg (pI .append #[22, 22] 22 [oP, m5]) w fun m6 w =>
    kn kQ m6 EO b9 tX w)
    (dQ pg (fR 80 EO) w fun j3 w =>
    fO pg DK #[i2, oP, j3, mC, uS] w fun j6 w =>
    dQ pg (iB j6 0) w fun j7 w =>
    dQ pg (iB j6 1) w fun j8 w =>
    dQ pg (iB j6 2) w fun j9 w =>
    dQ pg (fX 80 EO j8) w fun _u w =>
    dQ pg (fI .neq 26 (.tmp 70) (.const (Nc 0)) j9 (Nc 0)) w fun l1 w =>
    lJ l1
     (dQ pg (hX 80 []) w fun l2 w =>
     dQ pg (fX 80 b9 l2) w fun _u w =>
     Er pg 80 b9 w fun r1 => R (.tuple #[(.slice none 0 0), r1, (.bool false), j9]) w)
     (kn kQ j7 EO b9 tX w))))
theorem xP (kn : K5) (R : K1) (hn : N5 Q kn 0 1 6 9 15) (hr : HR jG R Q) (h : nD kn R (g 0) (g 1) (g 3) (g 6) (g 9) (g 12) (g 15) (g 16) w) : gG pg iX (fN 2 (dX 9 iU)) Q g w :=
 lH (l := []) h hn hr trivial
def jJ (R : K1) (kQ oP mC EO b9 uS tX GO : Nb) (w : Na) : Prop :=
 nD (fun kQ oP EO b9 tX w => iJ R kQ oP EO b9 tX w) R kQ oP mC EO b9 uS tX GO w
def nB (kn : K8) (R : K1) (kQ oP Lw mC : Nb) (w : Na) : Prop :=
 dQ pg (GU 80 Lw) w fun EO w =>
 dQ pg (pN 80) w fun b9 w =>
 dQ pg (pI .min #[40, 40] 40 [mC, (.int .u64 131072)]) w fun c8 w =>
 dQ pg (jF 40 3 c8) w fun c9 w =>
 fO pg iT #[kQ, (Nc 3)] w fun d2 w =>
 dQ pg (iB d2 0) w fun d3 w =>
 dQ pg (iB d2 1) w fun d4 w =>
 dQ pg (fI .neq 26 (.tmp 25) (.const (Nc 0)) d4 (Nc 0)) w fun d6 w =>
 lJ d6
  (dQ pg (hX 80 []) w fun d7 w =>
  dQ pg (fX 80 b9 d7) w fun _u w =>
  Er pg 80 b9 w fun r1 => R (.tuple #[(.slice none 0 0), r1, (.bool false), d4]) w)
  (fO pg nT #[d3] w fun e1 w =>
  dQ pg (iB e1 0) w fun e2 w =>
  dQ pg (iB e1 1) w fun e3 w =>
  dQ pg (pN 90) w fun tX w =>
  dQ pg (fX 90 tX e2) w fun _u w =>
  dQ pg (fI .neq 26 (.tmp 34) (.const (Nc 0)) e3 (Nc 0)) w fun e5 w =>
  lJ e5
   (dQ pg (hX 80 []) w fun e6 w =>
   dQ pg (fX 80 b9 e6) w fun _u w =>
   Er pg 80 b9 w fun r1 => R (.tuple #[(.slice none 0 0), r1, (.bool false), e3]) w)
   (dQ pg (fK 90 tX 2) w fun e8 w =>
   dQ pg (fR 3 e8) w fun e9 w =>
   dQ pg (fI .gtr 3 fP fP e9 c9) w fun f1 w =>
   lJ f1
    (dQ pg (hX 80 []) w fun f2 w =>
    dQ pg (fX 80 b9 f2) w fun _u w =>
    Er pg 80 b9 w fun r1 => R (.tuple #[(.slice none 0 0), r1, (.bool false), (Nc 12)]) w)
    (dQ pg (fK 90 tX 2) w fun f3 w =>
    dQ pg (fR 3 f3) w fun f4 w =>
    dQ pg (fK 90 tX 1) w fun f5 w =>
    dQ pg (fR 3 f5) w fun f6 w =>
    dQ pg (fI .eql 3 (.tmp 46) (.const (Nc 1)) f6 (Nc 1)) w fun f7 w =>
    lJ f7
     (kn kQ oP mC EO b9 c9 tX (Nc 1) w)
     (kn kQ oP mC EO b9 c9 tX f4 w))))
theorem xO (kn : K8) (R : K1) (hn : N8 Q kn 0 1 3 6 9 12 15 16) (hr : HR jG R Q) (h : nB kn R (g 0) (g 1) (g 2) (g 3) w) : gG pg iX (fN 9 iU) Q g w :=
 lH (l := []) h hn hr trivial
def mY (R : K1) (kQ oP Lw mC : Nb) (w : Na) : Prop :=
 nB (fun kQ oP mC EO b9 uS tX GO w => jJ R kQ oP mC EO b9 uS tX GO w) R kQ oP Lw mC w
theorem xF (R : K1) (hr : HR jG R Q) (h : mY R (g 0) (g 1) (g 2) (g 3) w) : gG pg iX iU Q g w :=
 sW 9 (xO _ g w (jJ R) R (fun g w h => fQ (sW 2 (xP _ g w (iJ R) R (fun g w h => fQ (xV _ g w R hr h)) hr h))) hr h)
def vC (a0 a1 a2 a3 : Nb) (w : Na) (R : K1) : Prop :=
 mY R a0 a1 a2 a3 w
theorem zJ {a0 a1 a2 a3 : Nb} {w : Na} {R : K1} (h : vC a0 a1 a2 a3 w R) : fO pg lF #[a0, a1, a2, a3] w R := by
 refine BK (ann := iX) Tryd.f30 iU [a0, a1, a2, a3] jG 105 TrydM.mixed Tryd.func30 ?_
 exact (xF _ _ _ R (fun _ _ h => h) h)
def rH : FA := ⟨jK, fun i => .leaf ([], []) []⟩
def rY : List ResultVar := [.tmp 4]
noncomputable def pV : Code := iM Tryd.f31
def mQ (R : K1) (kQ oP : Nb) (w : Na) : Prop :=
 fO pg iT #[kQ, (Nc 4)] w fun c0 w =>
 dQ pg (iB c0 0) w fun c1 w =>
 dQ pg (iB c0 1) w fun c2 w =>
 dQ pg (fI .neq 26 (.tmp 13) (.const (Nc 0)) c2 (Nc 0)) w fun c4 w =>
 lJ c4
  (R c2 w)
  (fO pg iC #[c1] w fun c7 w =>
  fO pg fT #[c7, (Nc 4)] w fun c8 w =>
  fO pg Bl #[oP] w fun d1 w =>
  dQ pg (fI .and 40 fP fP d1 (.int .u64 4294967295)) w fun d2 w =>
  dQ pg (fI .neq 40 (.tmp 19) (.tmp 22) c8 d2) w fun d3 w =>
  lJ d3
   (R (Nc 13) w)
   (R (Nc 0) w))
theorem wA (R : K1) (hr : HR rY R Q) (h : mQ R (g 0) (g 1) w) : gG pg rH pV Q g w :=
 lH (kn := no) (l := []) h nR hr trivial
def uL (a0 a1 : Nb) (w : Na) (R : K1) : Prop :=
 mQ R a0 a1 w
theorem xT {a0 a1 : Nb} {w : Na} {R : K1} (h : uL a0 a1 w R) : fO pg jK #[a0, a1] w R := by
 refine BK (ann := rH) Tryd.f31 pV [a0, a1] rY 24 TrydM.mixed Tryd.func31 ?_
 exact (wA _ _ _ R (fun _ _ h => h) h)
def Ab : FA := ⟨rV, fun i => .leaf ([], []) []⟩
def AF : List ResultVar := [.tmp 2]
noncomputable def wN : Code := iM Tryd.f33
def uC (R : K1) (LA : Nb) (w : Na) : Prop :=
 dQ pg (fI .shr 40 fP fP LA (.int .u64 3)) w fun b5 w =>
 dQ pg (fI .add 40 fP fP (.int .u64 10) b5) w fun b6 w =>
 dQ pg (fI .shl 40 fP fP (.int .u64 1) b6) w fun b7 w =>
 dQ pg (fI .quo 40 fP fP b7 (.int .u64 8)) w fun c0 w =>
 dQ pg (fI .and 40 fP fP LA (.int .u64 7)) w fun c2 w =>
 dQ pg (fI .mul 40 fP fP c0 c2) w fun c3 w =>
 dQ pg (fI .add 40 fP fP b7 c3) w fun c4 w =>
 R c4 w
theorem Cc (R : K1) (hr : HR AF R Q) (h : uC R (g 0) w) : gG pg Ab wN Q g w :=
 lH (kn := no) (l := []) h nR hr trivial
def CB (a0 : Nb) (w : Na) (R : K1) : Prop :=
 uC R a0 w
theorem CM {a0 : Nb} {w : Na} {R : K1} (h : CB a0 w R) : fO pg rV #[a0] w R := by
 refine BK (ann := Ab) Tryd.f33 wN [a0] AF 15 TrydM.mixed Tryd.func33 ?_
 exact (Cc _ _ _ R (fun _ _ h => h) h)
def rK : FA := ⟨iT, fun i => .leaf ([], []) []⟩
def sK : List ResultVar := [.tmp 4, .tmp 5]
noncomputable def rC : Code := iM Tryd.f34
def mV (R : K1) (kQ Dm : Nb) (w : Na) : Prop :=
 dQ pg (iW kQ) w fun b8 w =>
 dQ pg (fK 47 b8 0) w fun b9 w =>
 dQ pg (fR 45 b9) w fun c0 w =>
 fO pg hU #[c0] w fun c1 w =>
 dQ pg (fI .gtr 3 fP fP Dm c1) w fun c2 w =>
 lJ c2
  (R (.tuple #[(.slice none 0 0), (Nc 10)]) w)
  (dQ pg (iW kQ) w fun c4 w =>
  dQ pg (fK 47 c4 0) w fun c5 w =>
  dQ pg (fR 45 c5) w fun c6 w =>
  fO pg iK #[c6, Dm] w fun c8 w =>
  R (.tuple #[c8, (Nc 0)]) w)
theorem xN (R : K1) (hr : HR sK R Q) (h : mV R (g 0) (g 1) w) : gG pg rK rC Q g w :=
 lH (kn := no) (l := []) h nR hr trivial
def vJ (a0 a1 : Nb) (w : Na) (R : K1) : Prop :=
 mV R a0 a1 w
theorem yL {a0 a1 : Nb} {w : Na} {R : K1} (h : vJ a0 a1 w R) : fO pg iT #[a0, a1] w R := by
 refine BK (ann := rK) Tryd.f34 rC [a0, a1] sK 19 TrydM.mixed Tryd.func34 ?_
 exact (xN _ _ _ R (fun _ _ h => h) h)
def uJ : FA := ⟨nT, fun i => .leaf ([], []) []⟩
def vT : List ResultVar := [.cell 2 90, .tmp 3]
noncomputable def tQ : Code := iM Tryd.f35
def qR (R : K1) (lI : Nb) (w : Na) : Prop :=
 dQ pg (pN 90) w fun b2 w =>
 fO pg iC #[lI] w fun b7 w =>
 fO pg fT #[b7, (Nc 3)] w fun b9 w =>
 dQ pg (jF 40 3 b9) w fun c0 w =>
 fO pg fZ #[b7] w fun c3 w =>
 dQ pg (fI .neq 26 (.tmp 13) (.const (Nc 0)) c3 (Nc 0)) w fun c4 w =>
 lJ c4
  (dQ pg (hX 90 []) w fun c5 w =>
  fO pg fZ #[b7] w fun c7 w =>
  dQ pg (fX 90 b2 c5) w fun _u w =>
  Er pg 90 b2 w fun r0 => R (.tuple #[r0, c7]) w)
  (dQ pg (fI .shr 3 fP fP c0 (.int .u64 1)) w fun d0 w =>
  dQ pg (fI .and 3 fP fP d0 (Nc 3)) w fun d1 w =>
  dQ pg (fI .gtr 3 fP fP d1 (Nc 2)) w fun d2 w =>
  lJ d2
   (dQ pg (hX 90 []) w fun d3 w =>
   dQ pg (fX 90 b2 d3) w fun _u w =>
   Er pg 90 b2 w fun r0 => R (.tuple #[r0, (Nc 11)]) w)
   (dQ pg (fI .and 3 fP fP c0 (Nc 1)) w fun d5 w =>
   dQ pg (fI .eql 3 (.tmp 25) (.const (Nc 1)) d5 (Nc 1)) w fun d6 w =>
   dQ pg (fI .shr 3 fP fP c0 (.int .u64 1)) w fun d8 w =>
   dQ pg (fI .and 3 fP fP d8 (Nc 3)) w fun d9 w =>
   dQ pg (fI .shr 3 fP fP c0 (.int .u64 3)) w fun e1 w =>
   dQ pg (hX 90 [(0, d6), (1, d9), (2, e1)]) w fun e2 w =>
   dQ pg (fX 90 b2 e2) w fun _u w =>
   Er pg 90 b2 w fun r0 => R (.tuple #[r0, (Nc 0)]) w))
theorem AQ (R : K1) (hr : HR vT R Q) (h : qR R (g 0) w) : gG pg uJ tQ Q g w :=
 lH (kn := no) (l := []) h nR hr trivial
def AE (a0 : Nb) (w : Na) (R : K1) : Prop :=
 qR R a0 w
theorem A7 {a0 : Nb} {w : Na} {R : K1} (h : AE a0 w R) : fO pg nT #[a0] w R := by
 refine BK (ann := uJ) Tryd.f35 tQ [a0] vT 33 TrydM.mixed Tryd.func35 ?_
 exact (AQ _ _ _ R (fun _ _ h => h) h)
def gH : FA := ⟨kW, fun i => match Nat.beq i 9 with | true => .leaf ([7], []) [(false, []), (false, []), (false, []), (false, []), (false, []), (false, []), (false, []), (true, []), (false, []), (false, [])] | false => .leaf ([], []) []⟩
def mX : List ResultVar := [.tmp 4]
noncomputable def gC : Code := iM Tryd.f36
def kN (R : K1) (gY : Nb) (w : Na) : Prop :=
 R gY w
theorem wU (R : K1) (hr : HR mX R Q) (h : kN R (g 7) w) : gG pg gH (dX 1 (dX 2 (dX 2 (dX 2 gC)))) Q g w :=
 lH (kn := no) (l := []) h nR hr trivial
def kM (kn : K2) (k0 : K1) (gY EI : Nb) (w : Na) : Prop :=
 dQ pg (pI .len #[22] 3 [gY]) w fun e6 w =>
 dQ pg (fI .lss 3 fP fP EI e6) w fun e7 w =>
 lJ e7
  ((dr w) = (dr w) /\
  (dr w) = (dr w) /\
  (dr w) = (dr w) /\
  dQ pg (hP 22 gY (some EI) none none) (dr w) fun f1 w_ => w_ = (dr w) /\
  (dr w) = (dr w) /\
  (dr w) = (dr w) /\
  dQ pg (hP 22 gY none (some EI) none) (dr w) fun f4 w_ => w_ = (dr w) /\
  dQ pg (pI .copy #[22, 22] 3 [f1, f4]) (dr w) fun f5 Is =>
  dQ pg (fI .add 3 fP fP EI f5) Is fun f6 w_ => w_ = Is /\
  Is = Is /\
  kn gY f6 Is)
  (k0 gY w)
theorem xG (kn : K2) (k0 : K1) (hn : N2 Q kn 7 8) (h0 : E1 Q k0 0 7) (h : kM kn k0 (g 7) (g 8) w) : gG pg gH (bI (bI (fN 1 (dX 2 (dX 2 (dX 2 gC)))))) Q g w :=
 lH (kr := no) (l := [(0, fun g w => k0 (g 7) w)]) h hn nR ⟨h0, trivial⟩
def nK (k0 : K1) (gY EI : Nb) (w : Na) : Prop :=
 iR (fun (X : Nb -> K0) (t : Nb) (w : Na) => kM (fun _ EI w => X EI w) k0 gY t w) EI w
theorem wR (k0 : K1) (h0 : E1 Q k0 0 7) (h : nK k0 (g 7) (g 8) w) : gG pg gH (bI (fN 1 (dX 2 (dX 2 (dX 2 gC))))) Q g w := by
 refine G8 (fun g : Env => g 8) (fun X t w => kM (fun _ EI w => X EI w) k0 (g 7) t w) h (fun X g1 w1 ha hL => ?_)
 rw [<- BJ 7 ha] at hL
 exact (xG _ g1 w1 (fun _ EI w => X EI w) k0 (fun _ _ h => h) h0 hL)
def nH (kn : K1) (gY EI : Nb) (w : Na) : Prop :=
 nK kn gY EI w
def kP (R : K1) (gY EI : Nb) (w : Na) : Prop :=
 nH (fun gY w => kN R gY w) gY EI w
theorem xS (kn : K1) (hn : N1 Q kn 7) (h : nH kn (g 7) (g 8) w) : gG pg gH (fN 1 (dX 2 (dX 2 (dX 2 gC)))) Q g w :=
 Fu 0 (wR _ g w kn hn h)
def nM (kn : K2) (BM GQ : Nb) (w : Na) : Prop :=
 dQ pg (jF 35 3 GQ) w fun d9 w =>
 dQ pg (yY 22 d9 d9) w fun e0 w =>
 dQ pg (pI .copy #[22, 22] 3 [e0, BM]) w fun e3 w =>
 kn e0 e3 w
theorem xZ (kn : K2) (hn : N2 Q kn 7 8) (h : nM kn (g 0) (g 6) w) : gG pg gH (fN 2 (dX 2 (dX 2 gC))) Q g w :=
 lH (kr := no) (l := []) h hn nR trivial
def nJ (R : K1) (BM GQ : Nb) (w : Na) : Prop :=
 nM (fun gY EI w => kP R gY EI w) BM GQ w
def nA (kn : K2) (BM pC : Nb) (w : Na) : Prop :=
 dQ pg (pI .len #[22] 3 [BM]) w fun c4 w =>
 dQ pg (jF 3 35 c4) w fun c5 w =>
 dQ pg (jF 3 35 pC) w fun c7 w =>
 fO pg qK #[c5, c7] w fun c8 w =>
 dQ pg (iB c8 0) w fun c9 w =>
 dQ pg (iB c8 1) w fun d0 w =>
 dQ pg (fI .gtr 35 fP fP c9 (.int .u64 0)) w fun d2 w =>
 Gd (lS d2 false) (fun K => K d0 w) w fun d4 w =>
 Gd (lS d2 false) (fun K => dQ pg (fI .gtr 35 fP fP d4 (.int .u64 9223372036854775807)) w K) w fun d5 w =>
 dQ pg (nX d2 (.bool true) d5) w fun d6 w =>
 lJ d6
  (dQ pg (H7 9 (.string ⟨#[116, 104, 101, 32, 114, 101, 115, 117, 108, 116, 32, 111, 102, 32, 40, 108, 101, 110, 40, 120, 41, 32, 42, 32, 99, 111, 117, 110, 116, 41, 32, 111, 118, 101, 114, 102, 108, 111, 119, 115]⟩)) w fun d7 w =>
  dQ pg (V (Instr.panic d7)) w fun _u w =>
  kn BM d0 w)
  (kn BM d0 w)
theorem yB (kn : K2) (hn : N2 Q kn 0 6) (h : nA kn (g 0) (g 1) w) : gG pg gH (fN 2 (dX 2 gC)) Q g w :=
 lH (kr := no) (l := []) h hn nR trivial
def nI (R : K1) (BM pC : Nb) (w : Na) : Prop :=
 nA (fun BM GQ w => nJ R BM GQ w) BM pC w
def mI (kn : K2) (BM pC : Nb) (w : Na) : Prop :=
 dQ pg (fI .lss 3 fP fP pC (Nc 0)) w fun c0 w =>
 lJ c0
  (dQ pg (H7 9 (.string ⟨#[99, 97, 110, 110, 111, 116, 32, 98, 101, 32, 110, 101, 103, 97, 116, 105, 118, 101]⟩)) w fun c1 w =>
  dQ pg (V (Instr.panic c1)) w fun _u w =>
  kn BM pC w)
  (kn BM pC w)
theorem wB (kn : K2) (hn : N2 Q kn 0 1) (h : mI kn (g 0) (g 1) w) : gG pg gH (fN 2 gC) Q g w :=
 lH (kr := no) (l := []) h hn nR trivial
def mP (R : K1) (BM pC : Nb) (w : Na) : Prop :=
 mI (fun BM pC w => nI R BM pC w) BM pC w
theorem vU (R : K1) (hr : HR mX R Q) (h : mP R (g 0) (g 1) w) : gG pg gH gC Q g w :=
 sW 2 (wB _ g w (nI R) (fun g w h => fQ (sW 2 (yB _ g w (nJ R) (fun g w h => fQ (sW 2 (xZ _ g w (kP R) (fun g w h => fQ (sW 1 (xS _ g w (kN R) (fun g w h => fQ (wU _ g w R hr h)) h))) h))) h))) h)
def vG (a0 a1 : Nb) (w : Na) (R : K1) : Prop :=
 mP R a0 a1 w
theorem zG {a0 a1 : Nb} {w : Na} {R : K1} (h : vG a0 a1 w R) : fO pg kW #[a0, a1] w R := by
 refine BK (ann := gH) Tryd.f36 gC [a0, a1] mX 48 TrydM.mixed Tryd.func36 ?_
 exact (vU _ _ _ R (fun _ _ h => h) h)
def D8 : FA := ⟨Bl, fun i => .leaf ([], []) []⟩
def EF : List ResultVar := [.tmp 2]
noncomputable def DC : Code := iM Tryd.f38
def CR (R : K1) (lI : Nb) (w : Na) : Prop :=
 fO pg Bv #[] w fun b4 w =>
 fO pg pD #[b4, lI] w fun b7 w =>
 fO pg rZ #[b4] w fun b9 w =>
 R b9 w
theorem Fs (R : K1) (hr : HR EF R Q) (h : CR R (g 0) w) : gG pg D8 DC Q g w :=
 lH (kn := no) (l := []) h nR hr trivial
def IV (a0 : Nb) (w : Na) (R : K1) : Prop :=
 CR R a0 w
theorem FD {a0 : Nb} {w : Na} {R : K1} (h : IV a0 w R) : fO pg Bl #[a0] w R := by
 refine BK (ann := D8) Tryd.f38 DC [a0] EF 10 TrydM.mixed Tryd.func38 ?_
 exact (Fs _ _ _ R (fun _ _ h => h) h)
def wP : FA := ⟨qK, fun i => .leaf ([], []) []⟩
def yM : List ResultVar := [.tmp 4, .tmp 5]
noncomputable def uZ : Code := iM Tryd.f39
def sO (R : K1) (BM KE : Nb) (w : Na) : Prop :=
 lJ (.bool false)
  (dQ pg (jF 35 70 BM) w fun c2 w =>
  dQ pg (jF 35 70 KE) w fun c4 w =>
  fO pg CE #[c2, c4] w fun c5 w =>
  dQ pg (iB c5 0) w fun c6 w =>
  dQ pg (iB c5 1) w fun c7 w =>
  dQ pg (jF 70 35 c6) w fun c9 w =>
  dQ pg (jF 70 35 c7) w fun d1 w =>
  R (.tuple #[c9, d1]) w)
  (fO pg nO #[BM, KE] w fun d5 w =>
  dQ pg (iB d5 0) w fun d6 w =>
  dQ pg (iB d5 1) w fun d7 w =>
  R (.tuple #[d6, d7]) w)
theorem BB (R : K1) (hr : HR yM R Q) (h : sO R (g 0) (g 1) w) : gG pg wP uZ Q g w :=
 lH (kn := no) (l := []) h nR hr trivial
def BQ (a0 a1 : Nb) (w : Na) (R : K1) : Prop :=
 sO R a0 a1 w
theorem B4 {a0 a1 : Nb} {w : Na} {R : K1} (h : BQ a0 a1 w R) : fO pg qK #[a0, a1] w R := by
 refine BK (ann := wP) Tryd.f39 uZ [a0, a1] yM 30 TrydM.mixed Tryd.func39 ?_
 exact (BB _ _ _ R (fun _ _ h => h) h)
def DA : FA := ⟨Bv, fun i => .leaf ([], []) []⟩
def DW : List ResultVar := [.tmp 0]
noncomputable def Cr : Code := iM Tryd.f43
def Cm (R : K1)  (w : Na) : Prop :=
 dQ pg (fI .add 40 fP fP (.int .u64 11400714785074694791) (.int .u64 14029467366897019727)) w fun b3 w =>
 dQ pg (Jg .neg (.int .u64 11400714785074694791)) w fun b5 w =>
 dQ pg (hX 49 [(0, b3), (1, (.int .u64 14029467366897019727)), (2, (.int .u64 0)), (3, b5)]) w fun b6 w =>
 dQ pg (hX 138 [(0, b6)]) w fun b7 w =>
 dQ pg (GU 138 b7) w fun b8 w =>
 R b8 w
theorem EB (R : K1) (hr : HR DW R Q) (h : Cm R w) : gG pg DA Cr Q g w :=
 lH (kn := no) (l := []) h nR hr trivial
def Hc (w : Na) (R : K1) : Prop :=
 Cm R w
theorem EZ {w : Na} {R : K1} (h : Hc w R) : fO pg Bv #[] w R := by
 refine BK (ann := DA) Tryd.f43 Cr [] DW 9 TrydM.mixed Tryd.func43 ?_
 exact (EB _ _ _ R (fun _ _ h => h) h)
def fY : FA := ⟨pD, fun i => match Nat.beq i 3 with | true => .leaf ([9], []) [(false, []), (false, []), (false, []), (false, []), (false, []), (false, []), (false, []), (false, []), (false, []), (true, []), (false, [])] | false => match Nat.beq i 10 with | true => .leaf ([17, 18, 22], [(4, 17), (5, 17), (6, 17), (7, 17), (17, 19), (17, 20), (18, 19), (18, 20)]) [(false, []), (false, []), (false, []), (false, []), (false, []), (false, []), (false, []), (false, []), (false, []), (false, []), (false, []), (false, []), (false, []), (false, []), (false, []), (false, []), (false, []), (true, [9, 10, 11, 12]), (true, []), (false, [0, 1]), (false, [1, 2]), (false, []), (true, [])] | false => .leaf ([], []) []⟩
def rW : List ResultVar := []
noncomputable def fU : Code := iM Tryd.f44
def jR (kn : K2) (iY pT : Nb) (w : Na) : Prop :=
 dQ pg (iW iY) w fun l4 w =>
 dQ pg (fK 138 l4 2) w fun l5 w =>
 dQ pg (fX 3 l5 (Nc 0)) w fun _u w =>
 kn iY pT w
theorem Bd (kn : K2) (hn : N2 Q kn 0 1) (h : jR kn (g 0) (g 1) w) : gG pg fY (dX 1 (cT (dX 4 (bI (dX 1 (bI (bI (dX 2 fU)))))))) Q g w :=
 lH (kr := no) (l := []) h hn nR trivial
def lC (kn : K3) (k2 : K2) (iY pT f7 : Nb) (w : Na) : Prop :=
 dQ pg (fI .lss 3 fP fP f7 (Nc 4)) w fun f8 w =>
 lJ f8
  ((dr w) = (dr w) /\
  (dr w) = (dr w) /\
  (dr w) = (dr w) /\
  (dr w) = (dr w) /\
  dQ pg (iW iY) (dr w) fun i4 w_ => w_ = (dr w) /\
  dQ pg (fK 138 i4 0) (dr w) fun i5 w_ => w_ = (dr w) /\
  dQ pg (kG 49 i5 f7) (dr w) fun i6 w_ => w_ = (dr w) /\
  dQ pg (fR 40 i6) (dr w) fun i7 w_ => w_ = (dr w) /\
  (dr w) = (dr w) /\
  dQ pg (iW iY) (dr w) fun i9 w_ => w_ = (dr w) /\
  dQ pg (fK 138 i9 1) (dr w) fun j0 w_ => w_ = (dr w) /\
  (dr w) = (dr w) /\
  dQ pg (fI .mul 3 fP fP (Nc 8) f7) (dr w) fun j2 w_ => w_ = (dr w) /\
  (dr w) = (dr w) /\
  dQ pg (fI .mul 3 fP fP (Nc 8) f7) (dr w) fun j4 w_ => w_ = (dr w) /\
  dQ pg (fI .add 3 fP fP j4 (Nc 8)) (dr w) fun j5 w_ => w_ = (dr w) /\
  dQ pg (hP 136 j0 (some j2) (some j5) none) (dr w) fun j6 w_ => w_ = (dr w) /\
  fO pg pF #[j6] (dr w) fun j7 Cb =>
  (fJ pg (fR 40 i6) i7 Cb /\ fJ pg (kG 49 i5 f7) i6 Cb /\ fJ pg (fK 138 i4 0) i5 Cb /\ fJ pg (iW iY) i4 Cb /\ True) /\
  fO pg rD #[i7, j7] Cb fun j8 Ck =>
  dQ pg (iW iY) Ck fun j9 w_ => w_ = Ck /\
  (fJ pg (iW iY) j9 Cb /\ fJ pg (iW iY) j9 (dr w) /\ True) /\
  dQ pg (fK 138 j9 0) Ck fun l0 w_ => w_ = Ck /\
  (fJ pg (fK 138 j9 0) l0 Cb /\ fJ pg (fK 138 j9 0) l0 (dr w) /\ True) /\
  dQ pg (kG 49 l0 f7) Ck fun l1 w_ => w_ = Ck /\
  dQ pg (fX 40 l1 j8) Ck fun _u22 Ku =>
  dQ pg (fI .add 3 fP fP f7 (Nc 1)) Ku fun l2 w =>
  kn iY pT l2 w)
  (k2 iY pT w)
theorem A6 (kn : K3) (k2 : K2) (hn : N3 Q kn 0 1 47) (h2 : E2 Q k2 2 0 1) (h : lC kn k2 (g 0) (g 1) (g 47) w) : gG pg fY (bI (bI (dX 1 (fN 1 (cT (dX 4 (bI (dX 1 (bI (bI (dX 2 fU))))))))))) Q g w :=
 lH (kr := no) (l := [(2, fun g w => k2 (g 0) (g 1) w)]) h hn nR ⟨h2, trivial⟩
def rQ (k2 : K2) (iY pT f7 : Nb) (w : Na) : Prop :=
 iR (fun (X : Nb -> K0) (t : Nb) (w : Na) => lC (fun _ _ f7 w => X f7 w) k2 iY pT t w) f7 w
theorem Bc (k2 : K2) (h2 : E2 Q k2 2 0 1) (h : rQ k2 (g 0) (g 1) (g 47) w) : gG pg fY (bI (dX 1 (fN 1 (cT (dX 4 (bI (dX 1 (bI (bI (dX 2 fU)))))))))) Q g w := by
 refine G8 (fun g : Env => g 47) (fun X t w => lC (fun _ _ f7 w => X f7 w) k2 (g 0) (g 1) t w) h (fun X g1 w1 ha hL => ?_)
 rw [<- BJ 0 ha, <- BJ 1 ha] at hL
 exact (A6 _ g1 w1 (fun _ _ f7 w => X f7 w) k2 (fun _ _ h => h) h2 hL)
def sC (kn : K2) (iY pT f7 : Nb) (w : Na) : Prop :=
 rQ kn iY pT f7 w
def rR (kn : K3) (iY pT : Nb) (w : Na) : Prop :=
 kn iY pT (Nc 0) w
theorem Bb (kn : K3) (hn : N3 Q kn 0 1 47) (h : rR kn (g 0) (g 1) w) : gG pg fY (fN 1 (fN 1 (cT (dX 4 (bI (dX 1 (bI (bI (dX 2 fU))))))))) Q g w :=
 lH (kr := no) (l := []) h hn nR trivial
def nQ (kn : K2) (iY pT : Nb) (w : Na) : Prop :=
 rR (fun iY pT f7 w => sC kn iY pT f7 w) iY pT w
def nS (kn : K2) (iY pT : Nb) (w : Na) : Prop :=
 nQ (fun iY pT w => jR kn iY pT w) iY pT w
theorem Bj (kn : K2) (hn : N2 Q kn 0 1) (h : nQ kn (g 0) (g 1) w) : gG pg fY (fN 1 (cT (dX 4 (bI (dX 1 (bI (bI (dX 2 fU)))))))) Q g w :=
 sW 1 (Bb _ g w (sC kn) (fun g w h => fQ (Fu 2 (Bc _ g w kn hn h))) h)
def kZ (kn : K2) (iY pT : Nb) (w : Na) : Prop :=
 kn iY pT w
theorem Ba (kn : K2) (hn : N2 Q kn 0 1) (h : kZ kn (g 0) (g 1) w) : gG pg fY (cE (dX 4 (bI (dX 1 (bI (bI (dX 2 fU))))))) Q g w :=
 lH (kr := no) (l := []) h hn nR trivial
def lG (kn : K2) (iY pT f6 : Nb) (w : Na) : Prop :=
 lJ f6 (nS kn iY pT w) (kZ kn iY pT w)
def kH (kn : K3) (iY pT : Nb) (w : Na) : Prop :=
 (dr w) = (dr w) /\
 dQ pg (iW iY) (dr w) fun d2 w_ => w_ = (dr w) /\
 dQ pg (fK 138 d2 1) (dr w) fun d3 w_ => w_ = (dr w) /\
 (dr w) = (dr w) /\
 dQ pg (iW iY) (dr w) fun d5 w_ => w_ = (dr w) /\
 dQ pg (fK 138 d5 2) (dr w) fun d6 w_ => w_ = (dr w) /\
 dQ pg (fR 3 d6) (dr w) fun d7 w_ => w_ = (dr w) /\
 dQ pg (hP 136 d3 (some d7) none none) (dr w) fun d8 w_ => w_ = (dr w) /\
 (dr w) = (dr w) /\
 dQ pg (pI .copy #[22, 22] 3 [d8, pT]) (dr w) fun e0 Kr =>
 Kr = Kr /\
 dQ pg (iW iY) Kr fun e2 w =>
 dQ pg (fK 138 e2 2) w fun e3 w =>
 dQ pg (fR 3 e3) w fun e4 w =>
 dQ pg (fI .add 3 fP fP e4 e0) w fun e6 w =>
 dQ pg (iW iY) w fun e7 w =>
 dQ pg (fK 138 e7 2) w fun e8 w =>
 dQ pg (fX 3 e8 e6) w fun _u w =>
 dQ pg (hP 22 pT (some e0) none none) w fun f1 w =>
 dQ pg (iW iY) w fun f3 w =>
 dQ pg (fK 138 f3 2) w fun f4 w =>
 dQ pg (fR 3 f4) w fun f5 w =>
 dQ pg (fI .eql 3 (.tmp 45) (.const (Nc 32)) f5 (Nc 32)) w fun f6 w =>
 kn iY f1 f6 w
theorem A2 (kn : K3) (hn : N3 Q kn 0 1 46) (h : kH kn (g 0) (g 1) w) : gG pg fY (fN 4 (bI (dX 1 (bI (bI (dX 2 fU)))))) Q g w :=
 lH (kr := no) (l := []) h hn nR trivial
def mG (kn : K2) (iY pT : Nb) (w : Na) : Prop :=
 kH (fun iY pT f6 w => lG kn iY pT f6 w) iY pT w
def kJ (kn : K2) (iY pT : Nb) (w : Na) : Prop :=
 mG kn iY pT w
def kE (kn : K2) (k0 : K0) (iY pT : Nb) (w : Na) : Prop :=
 dQ pg (pI .len #[22] 3 [pT]) w fun c9 w =>
 dQ pg (fI .gtr 3 fP fP c9 (Nc 0)) w fun d0 w =>
 lJ d0
  (kn iY pT w)
  (k0 w)
theorem AT (kn : K2) (k0 : K0) (hn : N2 Q kn 0 1) (h0 : E0 Q k0 0) (h : kE kn k0 (g 0) (g 1) w) : gG pg fY (fN 1 (bI (bI (dX 2 fU)))) Q g w :=
 lH (kr := no) (l := [(0, fun g w => k0 w)]) h hn nR ⟨h0, trivial⟩
def jL (kn : K2) (k0 : K0) (iY pT : Nb) (w : Na) : Prop :=
 kE (fun iY pT w => kJ kn iY pT w) k0 iY pT w
def mJ (k0 : K0) (iY pT : Nb) (w : Na) : Prop :=
 iR (fun (X : Nb -> K0) (t : Nb) (w : Na) => jL (fun _ pT w => X pT w) k0 iY t w) pT w
theorem AV (kn : K2) (k0 : K0) (hn : N2 Q kn 0 1) (h0 : E0 Q k0 0) (h : jL kn k0 (g 0) (g 1) w) : gG pg fY (bI (bI (dX 2 fU))) Q g w :=
 sW 1 (AT _ g w (kJ kn) k0 (fun g w h => fQ (Fu 1 (sW 4 (A2 _ g w (lG kn) (fun g w h => fQ (LH (.tmp 46) (fun h => (sW 1 (Bj _ g w (jR kn) (fun g w h => fQ (Bd _ g w kn hn h)) h))) (fun h => (Ba _ g w kn hn h)) h)) h)))) h0 h)
theorem AZ (k0 : K0) (h0 : E0 Q k0 0) (h : mJ k0 (g 0) (g 1) w) : gG pg fY (bI (dX 2 fU)) Q g w := by
 refine G8 (fun g : Env => g 1) (fun X t w => jL (fun _ pT w => X pT w) k0 (g 0) t w) h (fun X g1 w1 ha hL => ?_)
 rw [<- BJ 0 ha] at hL
 exact (AV _ g1 w1 (fun _ pT w => X pT w) k0 (fun _ _ h => h) h0 hL)
def qN (kn : K0) (iY pT : Nb) (w : Na) : Prop :=
 mJ kn iY pT w
def qP (kn : K2) (R : K1) (iY pT : Nb) (w : Na) : Prop :=
 dQ pg (fI .eql 106 (.tmp 6) (.const (.pointer none)) iY (.pointer none)) w fun b7 w =>
 lJ b7
  (R (.tuple #[]) w)
  (dQ pg (iW iY) w fun b9 w =>
  dQ pg (fK 138 b9 3) w fun c0 w =>
  dQ pg (fR 40 c0) w fun c1 w =>
  dQ pg (pI .len #[22] 3 [pT]) w fun c3 w =>
  dQ pg (jF 3 40 c3) w fun c4 w =>
  dQ pg (fI .add 40 fP fP c1 c4) w fun c5 w =>
  dQ pg (iW iY) w fun c6 w =>
  dQ pg (fK 138 c6 3) w fun c7 w =>
  dQ pg (fX 40 c7 c5) w fun _u w =>
  kn iY pT w)
theorem AS (kn : K2) (R : K1) (hn : N2 Q kn 0 1) (hr : HR rW R Q) (h : qP kn R (g 0) (g 1) w) : gG pg fY (fN 2 fU) Q g w :=
 lH (l := []) h hn hr trivial
def qT (kn : K0) (R : K1) (iY pT : Nb) (w : Na) : Prop :=
 qP (fun iY pT w => qN kn iY pT w) R iY pT w
theorem AW (kn : K0) (R : K1) (hn : N0 Q kn) (hr : HR rW R Q) (h : qT kn R (g 0) (g 1) w) : gG pg fY fU Q g w :=
 sW 2 (AS _ g w (qN kn) R (fun g w h => fQ (Fu 0 (AZ _ g w kn hn h))) hr h)
def Bn (a0 a1 : Nb) (w : Na) (R : K1) : Prop :=
 qT (fun  w => R (.tuple #[]) w) R a0 a1 w
theorem BE {a0 a1 : Nb} {w : Na} {R : K1} (h : Bn a0 a1 w R) : fO pg pD #[a0, a1] w R := by
 refine BK (ann := fY) Tryd.f44 fU [a0, a1] rW 76 TrydM.mixed Tryd.func44 ?_
 exact (AW _ _ _ (fun  w => R (.tuple #[]) w) R (fun _ _ h => h) (fun _ _ h => h) h)
def gX : FA := ⟨rZ, fun i => match Nat.beq i 3 with | true => .leaf ([1], [(1, 3), (1, 4), (1, 5)]) [(false, []), (true, []), (false, []), (false, [1]), (false, [2]), (false, [3]), (false, []), (false, [])] | false => match Nat.beq i 4 with | true => .leaf ([], []) [(false, []), (false, []), (false, []), (false, []), (false, []), (false, []), (false, []), (false, []), (false, [])] | false => .leaf ([], []) []⟩
def qE : List ResultVar := [.tmp 2]
noncomputable def gN : Code := iM Tryd.f45
def qJ (R : K1) (hY : Nb) (w : Na) : Prop :=
 dQ pg (fI .shr 40 fP fP hY (.int .u64 33)) w fun j9 w =>
 dQ pg (fI .xor 40 fP fP hY j9) w fun l0 w =>
 dQ pg (fI .mul 40 fP fP l0 (.int .u64 14029467366897019727)) w fun l1 w =>
 dQ pg (fI .shr 40 fP fP l1 (.int .u64 29)) w fun l4 w =>
 dQ pg (fI .xor 40 fP fP l1 l4) w fun l5 w =>
 dQ pg (fI .mul 40 fP fP l5 (.int .u64 1609587929392839161)) w fun l6 w =>
 dQ pg (fI .shr 40 fP fP l6 (.int .u64 32)) w fun l9 w =>
 dQ pg (fI .xor 40 fP fP l6 l9) w fun m0 w =>
 R m0 w
theorem BW (R : K1) (hr : HR qE R Q) (h : qJ R (g 3) w) : gG pg gX (dX 1 (dX 1 (dX 1 (dX 4 gN)))) Q g w :=
 lH (kn := no) (l := []) h nR hr trivial
def mS (kn : K4) (k2 : K1) (hY i3 i4 i5 : Nb) (w : Na) : Prop :=
 dQ pg (fI .lss 3 fP fP i5 i4) w fun i6 w =>
 lJ i6
  (dQ pg (kG 22 i3 i5) w fun i7 w =>
  dQ pg (fR 5 i7) w fun i8 w =>
  dQ pg (jF 5 40 i8) w fun j1 w =>
  dQ pg (fI .mul 40 fP fP j1 (.int .u64 2870177450012600261)) w fun j2 w =>
  dQ pg (fI .xor 40 fP fP hY j2) w fun j3 w =>
  fO pg gM #[j3, (Nc 11)] w fun j4 w =>
  dQ pg (fI .mul 40 fP fP j4 (.int .u64 11400714785074694791)) w fun j5 w =>
  dQ pg (fI .add 3 fP fP i5 (Nc 1)) w fun j6 w =>
  kn j5 i3 i4 j6 w)
  (k2 hY w)
theorem BZ (kn : K4) (k2 : K1) (hn : N4 Q kn 3 53 54 55) (h2 : E1 Q k2 2 3) (h : mS kn k2 (g 3) (g 53) (g 54) (g 55) w) : gG pg gX (bI (bI (dX 1 (fN 1 (dX 1 (dX 1 (dX 4 gN))))))) Q g w :=
 lH (kr := no) (l := [(2, fun g w => k2 (g 3) w)]) h hn nR ⟨h2, trivial⟩
def uA (k2 : K1) (hY i3 i4 i5 : Nb) (w : Na) : Prop :=
 iR (fun (X : (Nb × Nb) -> K0) (t : Nb × Nb) (w : Na) => mS (fun hY _ _ i5 w => X (hY, i5) w) k2 t.1 i3 i4 t.2 w) (hY, i5) w
theorem Ce (k2 : K1) (h2 : E1 Q k2 2 3) (h : uA k2 (g 3) (g 53) (g 54) (g 55) w) : gG pg gX (bI (dX 1 (fN 1 (dX 1 (dX 1 (dX 4 gN)))))) Q g w := by
 refine G8 (fun g : Env => (g 3, g 55)) (fun X t w => mS (fun hY _ _ i5 w => X (hY, i5) w) k2 t.1 (g 53) (g 54) t.2 w) h (fun X g1 w1 ha hL => ?_)
 rw [<- BJ 53 ha, <- BJ 54 ha] at hL
 exact (BZ _ g1 w1 (fun hY _ _ i5 w => X (hY, i5) w) k2 (fun _ _ h => h) h2 hL)
def uB (kn : K1) (hY i3 i4 i5 : Nb) (w : Na) : Prop :=
 uA kn hY i3 i4 i5 w
def uE (kn : K4) (hY yF : Nb) (w : Na) : Prop :=
 dQ pg (pI .len #[22] 3 [yF]) w fun i4 w =>
 kn hY yF i4 (Nc 0) w
theorem B9 (kn : K4) (hn : N4 Q kn 3 53 54 55) (h : uE kn (g 3) (g 4) w) : gG pg gX (fN 1 (fN 1 (dX 1 (dX 1 (dX 4 gN))))) Q g w :=
 lH (kr := no) (l := []) h hn nR trivial
def uD (kn : K1) (hY yF : Nb) (w : Na) : Prop :=
 uE (fun hY i3 i4 i5 w => uB kn hY i3 i4 i5 w) hY yF w
def qL (R : K1) (hY yF : Nb) (w : Na) : Prop :=
 uD (fun hY w => qJ R hY w) hY yF w
theorem B8 (kn : K1) (hn : N1 Q kn 3) (h : uD kn (g 3) (g 4) w) : gG pg gX (fN 1 (dX 1 (dX 1 (dX 4 gN)))) Q g w :=
 sW 1 (B9 _ g w (uB kn) (fun g w h => fQ (Fu 2 (Ce _ g w kn hn h))) h)
def qG (kn : K2) (hY yF : Nb) (w : Na) : Prop :=
 dQ pg (pI .len #[22] 3 [yF]) w fun f0 w =>
 dQ pg (fI .geq 3 fP fP f0 (Nc 4)) w fun f1 w =>
 lJ f1
  (dQ pg (hP 22 yF none (some (Nc 4)) none) w fun f4 w =>
  fO pg pF #[f4] w fun f5 w =>
  dQ pg (fI .mul 40 fP fP f5 (.int .u64 11400714785074694791)) w fun f6 w =>
  dQ pg (fI .xor 40 fP fP hY f6) w fun f7 w =>
  fO pg gM #[f7, (Nc 23)] w fun f8 w =>
  dQ pg (fI .mul 40 fP fP f8 (.int .u64 14029467366897019727)) w fun f9 w =>
  dQ pg (fI .add 40 fP fP f9 (.int .u64 1609587929392839161)) w fun i0 w =>
  dQ pg (hP 22 yF (some (Nc 4)) none none) w fun i2 w =>
  kn i0 i2 w)
  (kn hY yF w)
theorem BV (kn : K2) (hn : N2 Q kn 3 4) (h : qG kn (g 3) (g 4) w) : gG pg gX (fN 1 (dX 1 (dX 4 gN))) Q g w :=
 lH (kr := no) (l := []) h hn nR trivial
def qC (R : K1) (hY yF : Nb) (w : Na) : Prop :=
 qG (fun hY yF w => qL R hY yF w) hY yF w
def lY (kn : K2) (k0 : K2) (hY yF : Nb) (w : Na) : Prop :=
 dQ pg (pI .len #[22] 3 [yF]) w fun d6 w =>
 dQ pg (fI .geq 3 fP fP d6 (Nc 8)) w fun d7 w =>
 lJ d7
  (dQ pg (hP 22 yF none (some (Nc 8)) none) w fun e0 w =>
  fO pg pF #[e0] w fun e1 w =>
  fO pg rD #[(.int .u64 0), e1] w fun e2 w =>
  dQ pg (fI .xor 40 fP fP hY e2) w fun e3 w =>
  fO pg gM #[e3, (Nc 27)] w fun e4 w =>
  dQ pg (fI .mul 40 fP fP e4 (.int .u64 11400714785074694791)) w fun e5 w =>
  dQ pg (fI .add 40 fP fP e5 (.int .u64 9650029242287828579)) w fun e6 w =>
  dQ pg (hP 22 yF (some (Nc 8)) none none) w fun e8 w =>
  kn e6 e8 w)
  (k0 hY yF w)
theorem BI (kn : K2) (k0 : K2) (hn : N2 Q kn 3 4) (h0 : E2 Q k0 0 3 4) (h : lY kn k0 (g 3) (g 4) w) : gG pg gX (bI (bI (fN 1 (dX 4 gN)))) Q g w :=
 lH (kr := no) (l := [(0, fun g w => k0 (g 3) (g 4) w)]) h hn nR ⟨h0, trivial⟩
def sP (k0 : K2) (hY yF : Nb) (w : Na) : Prop :=
 iR (fun (X : (Nb × Nb) -> K0) (t : Nb × Nb) (w : Na) => lY (fun hY yF w => X (hY, yF) w) k0 t.1 t.2 w) (hY, yF) w
theorem BH (k0 : K2) (h0 : E2 Q k0 0 3 4) (h : sP k0 (g 3) (g 4) w) : gG pg gX (bI (fN 1 (dX 4 gN))) Q g w := by
 refine G8 (fun g : Env => (g 3, g 4)) (fun X t w => lY (fun hY yF w => X (hY, yF) w) k0 t.1 t.2 w) h (fun X g1 w1 ha hL => ?_)
 exact (BI _ g1 w1 (fun hY yF w => X (hY, yF) w) k0 (fun _ _ h => h) h0 hL)
def sS (kn : K2) (hY yF : Nb) (w : Na) : Prop :=
 sP kn hY yF w
def pG (R : K1) (hY yF : Nb) (w : Na) : Prop :=
 sS (fun hY yF w => qC R hY yF w) hY yF w
theorem BA (kn : K2) (hn : N2 Q kn 3 4) (h : sS kn (g 3) (g 4) w) : gG pg gX (fN 1 (dX 4 gN)) Q g w :=
 Fu 0 (BH _ g w kn hn h)
def sV (kn : K2) (R : K1) (iY : Nb) (w : Na) : Prop :=
 dQ pg (fI .eql 106 (.tmp 7) (.const (.pointer none)) iY (.pointer none)) w fun b8 w =>
 lJ b8
  (fO pg Bl #[(.slice none 0 0)] w fun b9 w =>
  R b9 w)
  ((dr w) = (dr w) /\
  fO pg nN #[iY] (dr w) fun c1 mB =>
  mB = mB /\
  dQ pg (iW iY) mB fun c3 w_ => w_ = mB /\
  (fJ pg (iW iY) c3 (dr w) /\ True) /\
  dQ pg (fK 138 c3 3) mB fun c4 w_ => w_ = mB /\
  (fJ pg (fK 138 c3 3) c4 (dr w) /\ True) /\
  dQ pg (fR 40 c4) mB fun c5 w_ => w_ = mB /\
  (fJ pg (fR 40 c4) c5 (dr w) /\ True) /\
  dQ pg (fI .add 40 fP fP c1 c5) mB fun c6 w_ => w_ = mB /\
  mB = mB /\
  (dr mB) = (dr mB) /\
  dQ pg (iW iY) (dr mB) fun c8 w_ => w_ = (dr mB) /\
  dQ pg (fK 138 c8 1) (dr mB) fun c9 w_ => w_ = (dr mB) /\
  (dr mB) = (dr mB) /\
  dQ pg (iW iY) (dr mB) fun d1 w_ => w_ = (dr mB) /\
  dQ pg (fK 138 d1 2) (dr mB) fun d2 w_ => w_ = (dr mB) /\
  dQ pg (fR 3 d2) (dr mB) fun d3 w_ => w_ = (dr mB) /\
  dQ pg (hP 136 c9 none (some d3) none) (dr mB) fun d4 w_ => w_ = (dr mB) /\
  (dr mB) = (dr mB) /\
  kn c6 d4 (dr mB))
theorem Bz (kn : K2) (R : K1) (hn : N2 Q kn 3 4) (hr : HR qE R Q) (h : sV kn R (g 0) w) : gG pg gX (fN 4 gN) Q g w :=
 lH (l := []) h hn hr trivial
def sR (R : K1) (iY : Nb) (w : Na) : Prop :=
 sV (fun hY yF w => pG R hY yF w) R iY w
theorem BC (R : K1) (hr : HR qE R Q) (h : sR R (g 0) w) : gG pg gX gN Q g w :=
 sW 4 (Bz _ g w (pG R) R (fun g w h => fQ (sW 1 (BA _ g w (qC R) (fun g w h => fQ (sW 1 (BV _ g w (qL R) (fun g w h => fQ (sW 1 (B8 _ g w (qJ R) (fun g w h => fQ (BW _ g w R hr h)) h))) h))) h))) hr h)
def Cq (a0 : Nb) (w : Na) (R : K1) : Prop :=
 sR R a0 w
theorem CH {a0 : Nb} {w : Na} {R : K1} (h : Cq a0 w R) : fO pg rZ #[a0] w R := by
 refine BK (ann := gX) Tryd.f45 gN [a0] qE 81 TrydM.mixed Tryd.func45 ?_
 exact (BC _ _ _ R (fun _ _ h => h) h)
def uH : FA := ⟨nO, fun i => .leaf ([], []) []⟩
def vE : List ResultVar := [.tmp 4, .tmp 5]
noncomputable def tW : Code := iM Tryd.f47
def qO (R : K1) (BM KE : Nb) (w : Na) : Prop :=
 dQ pg (fI .and 40 fP fP BM (.int .u64 4294967295)) w fun c5 w =>
 dQ pg (fI .shr 40 fP fP BM (.int .u64 32)) w fun c7 w =>
 dQ pg (fI .and 40 fP fP KE (.int .u64 4294967295)) w fun c9 w =>
 dQ pg (fI .shr 40 fP fP KE (.int .u64 32)) w fun d1 w =>
 dQ pg (fI .mul 40 fP fP c5 c9) w fun d4 w =>
 dQ pg (fI .mul 40 fP fP c7 c9) w fun d7 w =>
 dQ pg (fI .shr 40 fP fP d4 (.int .u64 32)) w fun d9 w =>
 dQ pg (fI .add 40 fP fP d7 d9) w fun e0 w =>
 dQ pg (fI .and 40 fP fP e0 (.int .u64 4294967295)) w fun e2 w =>
 dQ pg (fI .shr 40 fP fP e0 (.int .u64 32)) w fun e4 w =>
 dQ pg (fI .mul 40 fP fP c5 d1) w fun e8 w =>
 dQ pg (fI .add 40 fP fP e2 e8) w fun e9 w =>
 dQ pg (fI .mul 40 fP fP c7 d1) w fun f2 w =>
 dQ pg (fI .add 40 fP fP f2 e4) w fun f4 w =>
 dQ pg (fI .shr 40 fP fP e9 (.int .u64 32)) w fun f6 w =>
 dQ pg (fI .add 40 fP fP f4 f6) w fun f7 w =>
 dQ pg (fI .mul 40 fP fP BM KE) w fun i0 w =>
 R (.tuple #[f7, i0]) w
theorem AO (R : K1) (hr : HR vE R Q) (h : qO R (g 0) (g 1) w) : gG pg uH tW Q g w :=
 lH (kn := no) (l := []) h nR hr trivial
def AG (a0 a1 : Nb) (w : Na) (R : K1) : Prop :=
 qO R a0 a1 w
theorem Bm {a0 a1 : Nb} {w : Na} {R : K1} (h : AG a0 a1 w R) : fO pg nO #[a0, a1] w R := by
 refine BK (ann := uH) Tryd.f47 tW [a0, a1] vE 51 TrydM.mixed Tryd.func47 ?_
 exact (AO _ _ _ R (fun _ _ h => h) h)
def BS : FA := ⟨rD, fun i => .leaf ([], []) []⟩
def CF : List ResultVar := [.tmp 4]
noncomputable def Bg : Code := iM Tryd.f60
def Am (R : K1) (LG LI : Nb) (w : Na) : Prop :=
 dQ pg (fI .mul 40 fP fP LI (.int .u64 14029467366897019727)) w fun b7 w =>
 dQ pg (fI .add 40 fP fP LG b7) w fun b8 w =>
 fO pg gM #[b8, (Nc 31)] w fun b9 w =>
 dQ pg (fI .mul 40 fP fP b9 (.int .u64 11400714785074694791)) w fun c0 w =>
 R c0 w
theorem DF (R : K1) (hr : HR CF R Q) (h : Am R (g 0) (g 1) w) : gG pg BS Bg Q g w :=
 lH (kn := no) (l := []) h nR hr trivial
def EW (a0 a1 : Nb) (w : Na) (R : K1) : Prop :=
 Am R a0 a1 w
theorem Ea {a0 a1 : Nb} {w : Na} {R : K1} (h : EW a0 a1 w R) : fO pg rD #[a0, a1] w R := by
 refine BK (ann := BS) Tryd.f60 Bg [a0, a1] CF 11 TrydM.mixed Tryd.func60 ?_
 exact (DF _ _ _ R (fun _ _ h => h) h)
def jP : FA := ⟨pF, fun i => .leaf ([], []) []⟩
def yC : List ResultVar := [.tmp 2]
noncomputable def jD : Code := iM Tryd.f61
def tL (R : K1) (hY : Nb) (w : Na) : Prop :=
 R hY w
theorem Db (R : K1) (hr : HR yC R Q) (h : tL R (g 3) w) : gG pg jP (dX 1 (dX 2 jD)) Q g w :=
 lH (kn := no) (l := []) h nR hr trivial
def qB (kn : K4) (k0 : K1) (hY b6 b7 b8 : Nb) (w : Na) : Prop :=
 dQ pg (fI .lss 3 fP fP b8 b7) w fun b9 w =>
 lJ b9
  (dQ pg (kG 22 b6 b8) w fun c1 w =>
  dQ pg (fR 5 c1) w fun c2 w =>
  dQ pg (jF 5 40 c2) w fun c5 w =>
  dQ pg (fI .mul 3 fP fP (Nc 8) b8) w fun c7 w =>
  dQ pg (jF 3 35 c7) w fun c8 w =>
  dQ pg (fI .shl 40 fP fP c5 c8) w fun c9 w =>
  dQ pg (fI .or 40 fP fP hY c9) w fun d0 w =>
  dQ pg (fI .add 3 fP fP b8 (Nc 1)) w fun d1 w =>
  kn d0 b6 b7 d1 w)
  (k0 hY w)
theorem C3 (kn : K4) (k0 : K1) (hn : N4 Q kn 3 6 7 8) (h0 : E1 Q k0 0 3) (h : qB kn k0 (g 3) (g 6) (g 7) (g 8) w) : gG pg jP (bI (bI (dX 1 (fN 1 (dX 2 jD))))) Q g w :=
 lH (kr := no) (l := [(0, fun g w => k0 (g 3) w)]) h hn nR ⟨h0, trivial⟩
def xX (k0 : K1) (hY b6 b7 b8 : Nb) (w : Na) : Prop :=
 iR (fun (X : (Nb × Nb) -> K0) (t : Nb × Nb) (w : Na) => qB (fun hY _ _ b8 w => X (hY, b8) w) k0 t.1 b6 b7 t.2 w) (hY, b8) w
theorem C5 (k0 : K1) (h0 : E1 Q k0 0 3) (h : xX k0 (g 3) (g 6) (g 7) (g 8) w) : gG pg jP (bI (dX 1 (fN 1 (dX 2 jD)))) Q g w := by
 refine G8 (fun g : Env => (g 3, g 8)) (fun X t w => qB (fun hY _ _ b8 w => X (hY, b8) w) k0 t.1 (g 6) (g 7) t.2 w) h (fun X g1 w1 ha hL => ?_)
 rw [<- BJ 6 ha, <- BJ 7 ha] at hL
 exact (C3 _ g1 w1 (fun hY _ _ b8 w => X (hY, b8) w) k0 (fun _ _ h => h) h0 hL)
def xK (kn : K1) (hY b6 b7 b8 : Nb) (w : Na) : Prop :=
 xX kn hY b6 b7 b8 w
def xC (kn : K4) (lI hY : Nb) (w : Na) : Prop :=
 dQ pg (pI .len #[22] 3 [lI]) w fun b7 w =>
 kn hY lI b7 (Nc 0) w
theorem CT (kn : K4) (hn : N4 Q kn 3 6 7 8) (h : xC kn (g 0) (g 3) w) : gG pg jP (fN 1 (fN 1 (dX 2 jD))) Q g w :=
 lH (kr := no) (l := []) h hn nR trivial
def xW (kn : K1) (lI hY : Nb) (w : Na) : Prop :=
 xC (fun hY b6 b7 b8 w => xK kn hY b6 b7 b8 w) lI hY w
def xB (R : K1) (lI hY : Nb) (w : Na) : Prop :=
 xW (fun hY w => tL R hY w) lI hY w
theorem Dd (kn : K1) (hn : N1 Q kn 3) (h : xW kn (g 0) (g 3) w) : gG pg jP (fN 1 (dX 2 jD)) Q g w :=
 sW 1 (CT _ g w (xK kn) (fun g w h => fQ (Fu 0 (C5 _ g w kn hn h))) h)
def xL (kn : K2) (lI : Nb) (w : Na) : Prop :=
 kn lI (.int .u64 0) w
theorem CZ (kn : K2) (hn : N2 Q kn 0 3) (h : xL kn (g 0) w) : gG pg jP (fN 2 jD) Q g w :=
 lH (kr := no) (l := []) h hn nR trivial
def xH (R : K1) (lI : Nb) (w : Na) : Prop :=
 xL (fun lI hY w => xB R lI hY w) lI w
theorem Df (R : K1) (hr : HR yC R Q) (h : xH R (g 0) w) : gG pg jP jD Q g w :=
 sW 2 (CZ _ g w (xB R) (fun g w h => fQ (sW 1 (Dd _ g w (tL R) (fun g w h => fQ (Db _ g w R hr h)) h))) h)
def DX (a0 : Nb) (w : Na) (R : K1) : Prop :=
 xH R a0 w
theorem DG {a0 : Nb} {w : Na} {R : K1} (h : DX a0 w R) : fO pg pF #[a0] w R := by
 refine BK (ann := jP) Tryd.f61 jD [a0] yC 23 TrydM.mixed Tryd.func61 ?_
 exact (Df _ _ _ R (fun _ _ h => h) h)
def gA : FA := ⟨nN, fun i => .leaf ([], []) []⟩
def mL : List ResultVar := [.tmp 2]
noncomputable def fV : Code := iM Tryd.f62
def mK (R : K1) (hY : Nb) (w : Na) : Prop :=
 R hY w
theorem A1 (R : K1) (hr : HR mL R Q) (h : mK R (g 3) w) : gG pg gA (dX 1 (dX 1 (dX 3 fV))) Q g w :=
 lH (kn := no) (l := []) h nR hr trivial
def kK (kn : K3) (k2 : K1) (hY e2 e3 : Nb) (w : Na) : Prop :=
 dQ pg (fI .lss 3 fP fP e3 (Nc 4)) w fun e4 w =>
 lJ e4
  (dQ pg (Dc 49 e2 e3) w fun e5 w =>
  fO pg rD #[(.int .u64 0), e5] w fun e8 w =>
  dQ pg (fI .xor 40 fP fP hY e8) w fun e9 w =>
  dQ pg (fI .mul 40 fP fP e9 (.int .u64 11400714785074694791)) w fun f0 w =>
  dQ pg (fI .add 40 fP fP f0 (.int .u64 9650029242287828579)) w fun f1 w =>
  dQ pg (fI .add 3 fP fP e3 (Nc 1)) w fun f2 w =>
  kn f1 e2 f2 w)
  (k2 hY w)
theorem AY (kn : K3) (k2 : K1) (hn : N3 Q kn 3 32 33) (h2 : E1 Q k2 2 3) (h : kK kn k2 (g 3) (g 32) (g 33) w) : gG pg gA (bI (bI (dX 1 (fN 1 (dX 1 (dX 3 fV)))))) Q g w :=
 lH (kr := no) (l := [(2, fun g w => k2 (g 3) w)]) h hn nR ⟨h2, trivial⟩
def qX (k2 : K1) (hY e2 e3 : Nb) (w : Na) : Prop :=
 iR (fun (X : (Nb × Nb) -> K0) (t : Nb × Nb) (w : Na) => kK (fun hY _ e3 w => X (hY, e3) w) k2 t.1 e2 t.2 w) (hY, e3) w
theorem AP (k2 : K1) (h2 : E1 Q k2 2 3) (h : qX k2 (g 3) (g 32) (g 33) w) : gG pg gA (bI (dX 1 (fN 1 (dX 1 (dX 3 fV))))) Q g w := by
 refine G8 (fun g : Env => (g 3, g 33)) (fun X t w => kK (fun hY _ e3 w => X (hY, e3) w) k2 t.1 (g 32) t.2 w) h (fun X g1 w1 ha hL => ?_)
 rw [<- BJ 32 ha] at hL
 exact (AY _ g1 w1 (fun hY _ e3 w => X (hY, e3) w) k2 (fun _ _ h => h) h2 hL)
def qY (kn : K1) (hY e2 e3 : Nb) (w : Na) : Prop :=
 qX kn hY e2 e3 w
def qW (kn : K3) (iY hY : Nb) (w : Na) : Prop :=
 dQ pg (iW iY) w fun e0 w =>
 dQ pg (fK 138 e0 0) w fun e1 w =>
 dQ pg (fR 49 e1) w fun e2 w =>
 kn hY e2 (Nc 0) w
theorem AN (kn : K3) (hn : N3 Q kn 3 32 33) (h : qW kn (g 0) (g 3) w) : gG pg gA (fN 1 (fN 1 (dX 1 (dX 3 fV)))) Q g w :=
 lH (kr := no) (l := []) h hn nR trivial
def qV (kn : K1) (iY hY : Nb) (w : Na) : Prop :=
 qW (fun hY e2 e3 w => qY kn hY e2 e3 w) iY hY w
def qS (R : K1) (iY hY : Nb) (w : Na) : Prop :=
 qV (fun hY w => mK R hY w) iY hY w
theorem AX (kn : K1) (hn : N1 Q kn 3) (h : qV kn (g 0) (g 3) w) : gG pg gA (fN 1 (dX 1 (dX 3 fV))) Q g w :=
 sW 1 (AN _ g w (qY kn) (fun g w h => fQ (Fu 2 (AP _ g w kn hn h))) h)
def kF (kn : K4) (k0 : K2) (iY hY c3 c4 : Nb) (w : Na) : Prop :=
 dQ pg (fI .lss 3 fP fP c4 (Nc 4)) w fun c5 w =>
 lJ c5
  (dQ pg (Dc 87 c3 c4) w fun c7 w =>
  dQ pg (iW iY) w fun d1 w =>
  dQ pg (fK 138 d1 0) w fun d2 w =>
  dQ pg (kG 49 d2 c4) w fun d3 w =>
  dQ pg (fR 40 d3) w fun d4 w =>
  fO pg gM #[d4, c7] w fun d6 w =>
  dQ pg (fI .add 40 fP fP hY d6) w fun d7 w =>
  dQ pg (fI .add 3 fP fP c4 (Nc 1)) w fun d8 w =>
  kn iY d7 c3 d8 w)
  (k0 iY hY w)
theorem AR (kn : K4) (k0 : K2) (hn : N4 Q kn 0 3 13 14) (h0 : E2 Q k0 0 0 3) (h : kF kn k0 (g 0) (g 3) (g 13) (g 14) w) : gG pg gA (bI (bI (dX 1 (fN 1 (dX 3 fV))))) Q g w :=
 lH (kr := no) (l := [(0, fun g w => k0 (g 0) (g 3) w)]) h hn nR ⟨h0, trivial⟩
def qQ (k0 : K2) (iY hY c3 c4 : Nb) (w : Na) : Prop :=
 iR (fun (X : (Nb × Nb) -> K0) (t : Nb × Nb) (w : Na) => kF (fun _ hY _ c4 w => X (hY, c4) w) k0 iY t.1 c3 t.2 w) (hY, c4) w
theorem AU (k0 : K2) (h0 : E2 Q k0 0 0 3) (h : qQ k0 (g 0) (g 3) (g 13) (g 14) w) : gG pg gA (bI (dX 1 (fN 1 (dX 3 fV)))) Q g w := by
 refine G8 (fun g : Env => (g 3, g 14)) (fun X t w => kF (fun _ hY _ c4 w => X (hY, c4) w) k0 (g 0) t.1 (g 13) t.2 w) h (fun X g1 w1 ha hL => ?_)
 rw [<- BJ 0 ha, <- BJ 13 ha] at hL
 exact (AR _ g1 w1 (fun _ hY _ c4 w => X (hY, c4) w) k0 (fun _ _ h => h) h0 hL)
def pS (kn : K2) (iY hY c3 c4 : Nb) (w : Na) : Prop :=
 qQ kn iY hY c3 c4 w
def pM (kn : K4) (iY hY : Nb) (w : Na) : Prop :=
 dQ pg (hX 87 [(0, (Nc 1)), (1, (Nc 7)), (2, (Nc 12)), (3, (Nc 18))]) w fun c3 w =>
 kn iY hY c3 (Nc 0) w
theorem Ae (kn : K4) (hn : N4 Q kn 0 3 13 14) (h : pM kn (g 0) (g 3) w) : gG pg gA (fN 1 (fN 1 (dX 3 fV))) Q g w :=
 lH (kr := no) (l := []) h hn nR trivial
def pQ (kn : K2) (iY hY : Nb) (w : Na) : Prop :=
 pM (fun iY hY c3 c4 w => pS kn iY hY c3 c4 w) iY hY w
def pK (R : K1) (iY hY : Nb) (w : Na) : Prop :=
 pQ (fun iY hY w => qS R iY hY w) iY hY w
theorem Av (kn : K2) (hn : N2 Q kn 0 3) (h : pQ kn (g 0) (g 3) w) : gG pg gA (fN 1 (dX 3 fV)) Q g w :=
 sW 1 (Ae _ g w (pS kn) (fun g w h => fQ (Fu 0 (AU _ g w kn hn h))) h)
def lN (kn : K2) (R : K1) (iY : Nb) (w : Na) : Prop :=
 dQ pg (iW iY) w fun b9 w =>
 dQ pg (fK 138 b9 3) w fun c0 w =>
 dQ pg (fR 40 c0) w fun c1 w =>
 dQ pg (fI .lss 40 fP fP c1 (.int .u64 32)) w fun c2 w =>
 lJ c2
  (R (.int .u64 2870177450012600261) w)
  (kn iY (.int .u64 0) w)
theorem Ac (kn : K2) (R : K1) (hn : N2 Q kn 0 3) (hr : HR mL R Q) (h : lN kn R (g 0) w) : gG pg gA (fN 3 fV) Q g w :=
 lH (l := []) h hn hr trivial
def lP (R : K1) (iY : Nb) (w : Na) : Prop :=
 lN (fun iY hY w => pK R iY hY w) R iY w
theorem Aw (R : K1) (hr : HR mL R Q) (h : lP R (g 0) w) : gG pg gA fV Q g w :=
 sW 3 (Ac _ g w (pK R) R (fun g w h => fQ (sW 1 (Av _ g w (qS R) (fun g w h => fQ (sW 1 (AX _ g w (mK R) (fun g w h => fQ (A1 _ g w R hr h)) h))) h))) hr h)
def uF (a0 : Nb) (w : Na) (R : K1) : Prop :=
 lP R a0 w
theorem A8 {a0 : Nb} {w : Na} {R : K1} (h : uF a0 w R) : fO pg nN #[a0] w R := by
 refine BK (ann := gA) Tryd.f62 fV [a0] mL 44 TrydM.mixed Tryd.func62 ?_
 exact (Aw _ _ _ R (fun _ _ h => h) h)
def oC : FA := ⟨gM, fun i => .leaf ([], []) []⟩
def pH : List ResultVar := [.tmp 4]
noncomputable def nP : Code := iM Tryd.f63
def kS (R : K1) (BM LL : Nb) (w : Na) : Prop :=
 dQ pg (jF 3 35 LL) w fun b7 w =>
 dQ pg (fI .and 35 fP fP b7 (.int .u64 63)) w fun b8 w =>
 dQ pg (fI .shl 40 fP fP BM b8) w fun c1 w =>
 dQ pg (fI .sub 35 fP fP (.int .u64 64) b8) w fun c4 w =>
 dQ pg (fI .shr 40 fP fP BM c4) w fun c5 w =>
 dQ pg (fI .or 40 fP fP c1 c5) w fun c6 w =>
 R c6 w
theorem tY (R : K1) (hr : HR pH R Q) (h : kS R (g 0) (g 1) w) : gG pg oC nP Q g w :=
 lH (kn := no) (l := []) h nR hr trivial
def rP (a0 a1 : Nb) (w : Na) (R : K1) : Prop :=
 kS R a0 a1 w
theorem uM {a0 a1 : Nb} {w : Na} {R : K1} (h : rP a0 a1 w R) : fO pg gM #[a0, a1] w R := by
 refine BK (ann := oC) Tryd.f63 nP [a0, a1] pH 17 TrydM.mixed Tryd.func63 ?_
 exact (tY _ _ _ R (fun _ _ h => h) h)
end Go.Proofs.YthohephggmkeeaaDoor
namespace Go.En
open Go
section
variable {P : Program} {w : Na} {t : TypeId} {ox oy : Operand} {k : IntKind} {a b : Int}
theorem kI (s : Sem Nb) : (V s).run P w = (s.run P w).andThen fun v w => .ok (.value v) w := by
 unfold V; rw [Sem.run_bind] <;> rfl
theorem Lx (s : Sem Unit) : (U s).run P w = (s.run P w).andThen fun _ w => .ok .skip w := by
 unfold U; rw [Sem.run_bind] <;> rfl
theorem eE : (fI .add t ox oy (.int k a) (.int k b)).run P w = .ok (.value (.int k (k.wrap (a + b)))) w := by
 simp [fI, vZ, kI, binOp, Op.intArith]
theorem eT : (fI .sub t ox oy (.int k a) (.int k b)).run P w = .ok (.value (.int k (k.wrap (a - b)))) w := by
 simp [fI, vZ, kI, binOp, Op.intArith]
theorem eK : (fI .mul t ox oy (.int k a) (.int k b)).run P w = .ok (.value (.int k (k.wrap (a * b)))) w := by
 simp [fI, vZ, kI, binOp, Op.intArith]
theorem fC (h : b ≠ 0) : (fI .quo t ox oy (.int k a) (.int k b)).run P w = .ok (.value (.int k (k.wrap (a.tdiv b)))) w := by
 simp [fI, vZ, kI, binOp, Op.intDiv, h]
theorem fB (h : b ≠ 0) : (fI .rem t ox oy (.int k a) (.int k b)).run P w = .ok (.value (.int k (a.tmod b))) w := by
 simp [fI, vZ, kI, binOp, Op.intDiv, h]
def uN (k : IntKind) (a b : Int) : Int := k.wrap (BitVec.ofInt k.bits a &&& BitVec.ofInt k.bits b).toNat
def KD (k : IntKind) (a b : Int) : Int := k.wrap (BitVec.ofInt k.bits a ||| BitVec.ofInt k.bits b).toNat
def Cg (k : IntKind) (a b : Int) : Int := k.wrap (BitVec.ofInt k.bits a ^^^ BitVec.ofInt k.bits b).toNat
def Hb (k : IntKind) (a b : Int) : Int := k.wrap (BitVec.ofInt k.bits a &&& ~~~BitVec.ofInt k.bits b).toNat
theorem eX : (fI .and t ox oy (.int k a) (.int k b)).run P w = .ok (.value (.int k (uN k a b))) w := by
 simp [fI, vZ, kI, binOp, Op.intBits, uN]
theorem fL : (fI .or t ox oy (.int k a) (.int k b)).run P w = .ok (.value (.int k (KD k a b))) w := by
 simp [fI, vZ, kI, binOp, Op.intBits, KD]
theorem fA : (fI .xor t ox oy (.int k a) (.int k b)).run P w = .ok (.value (.int k (Cg k a b))) w := by
 simp [fI, vZ, kI, binOp, Op.intBits, Cg]
theorem dK : (fI .andNot t ox oy (.int k a) (.int k b)).run P w = .ok (.value (.int k (Hb k a b))) w := by
 simp [fI, vZ, kI, binOp, Op.intBits, Hb]
theorem eL {k' : IntKind} (h : 0 <= b) : (fI .shl t ox oy (.int k a) (.int k' b)).run P w = .ok (.value (.int k (k.wrap (a * 2 ^ (min b.toNat k.bits))))) w := by
 simp [fI, vZ, kI, binOp, Op.shift, Int.not_lt.2 h]
theorem eN {k' : IntKind} (h : 0 <= b) : (fI .shr t ox oy (.int k a) (.int k' b)).run P w = .ok (.value (.int k (a.fdiv (2 ^ (min b.toNat k.bits))))) w := by
 simp [fI, vZ, kI, binOp, Op.shift, Int.not_lt.2 h]
theorem eY : (fI .eql t ox oy (.int k a) (.int k b)).run P w = .ok (.value (.bool (a == b))) w := by
 simp [fI, vZ, kI, binOp, Op.intCmp, eqGuard]
theorem eB : (fI .neq t ox oy (.int k a) (.int k b)).run P w = .ok (.value (.bool (a != b))) w := by
 simp [fI, vZ, kI, binOp, Op.intCmp, eqGuard]
theorem eI : (fI .lss t ox oy (.int k a) (.int k b)).run P w = .ok (.value (.bool (decide (a < b)))) w := by
 simp [fI, vZ, kI, binOp, Op.intCmp]
theorem eM : (fI .leq t ox oy (.int k a) (.int k b)).run P w = .ok (.value (.bool (decide (a <= b)))) w := by
 simp [fI, vZ, kI, binOp, Op.intCmp]
theorem eF : (fI .gtr t ox oy (.int k a) (.int k b)).run P w = .ok (.value (.bool (decide (b < a)))) w := by
 simp [fI, vZ, kI, binOp, Op.intCmp]
theorem eJ : (fI .geq t ox oy (.int k a) (.int k b)).run P w = .ok (.value (.bool (decide (b <= a)))) w := by
 simp [fI, vZ, kI, binOp, Op.intCmp]
theorem fD : (Jg .neg (.int k a)).run P w = .ok (.value (.int k (k.wrap (0 - a)))) w := by
 simp [Jg, kI, Op.unary, Op.intArith]
theorem eZ : (Jg .xor (.int k a)).run P w = .ok (.value (.int k (Cg k (if k.signed then -1 else k.max) a))) w := by
 simp [Jg, kI, Op.unary, Op.intBits, Cg]
theorem eC (c : Bool) : (Jg .not (.bool c)).run P w = .ok (.value (.bool !c)) w := by
 simp [Jg, kI, Op.unary]
theorem dS (c : Bool) (x y : Nb) : (nX (.bool c) x y).run P w = .ok (.value (if c then x else y)) w := by
 simp [nX, asBool]
theorem Ef {x y : Nb} {r : Bool} (hg : eqGuard .eql t ox oy x y = pure ()) (hb : binOp .eql t x y = (do pure (.bool (<- Op.equal t x y)))) (he : (Op.equal t x y).run P w = .ok r w) :
 (fI .eql t ox oy x y).run P w = .ok (.value (.bool r)) w := by
 unfold fI
 simp only [vZ, kI, hg, hb, pure_bind]
 rw [Sem.run_bind, he] <;> rfl
theorem Hp (n : Nat) (c d : Bool) (hu : P.underlying t = some .bool) : (Op.equalIn (n + 1) t (.bool c) (.bool d)).run P w = .ok (c == d) w := by
 simp only [Op.equalIn, underlying]
 simp [hu]
theorem Jl (c d : Bool) (hu : P.underlying t = some .bool) : (Op.equal t (.bool c) (.bool d)).run P w = .ok (c == d) w := Hp 9999 c d hu
theorem Ks (c d : Bool) (hu : P.underlying t = some .bool) : (fI .eql t ox oy (.bool c) (.bool d)).run P w = .ok (.value (.bool (c == d))) w :=
 Ef rfl rfl (Jl c d hu)
theorem dZ {n : Int} (h0 : -9223372036854775808 <= n) (h1 : n <= 9223372036854775807) : IntKind.i64.wrap n = n := by
 unfold IntKind.wrap; simp [IntKind.bits, IntKind.signed]; split <;> omega
theorem dY {n : Int} (h0 : 0 <= n) (h1 : n <= 18446744073709551615) : IntKind.u64.wrap n = n := by
 unfold IntKind.wrap; simp [IntKind.bits, IntKind.signed]; omega
theorem eP {n : Int} (h0 : -2147483648 <= n) (h1 : n <= 2147483647) : IntKind.i32.wrap n = n := by
 unfold IntKind.wrap; simp [IntKind.bits, IntKind.signed]; split <;> omega
theorem eU {n : Int} (h0 : 0 <= n) (h1 : n <= 4294967295) : IntKind.u32.wrap n = n := by
 unfold IntKind.wrap; simp [IntKind.bits, IntKind.signed]; omega
theorem eH {n : Int} (h0 : 0 <= n) (h1 : n <= 65535) : IntKind.u16.wrap n = n := by
 unfold IntKind.wrap; simp [IntKind.bits, IntKind.signed]; omega
theorem fM {n : Int} (h0 : 0 <= n) (h1 : n <= 255) : IntKind.u8.wrap n = n := by
 unfold IntKind.wrap; simp [IntKind.bits, IntKind.signed]; omega
theorem LJ (n : Int) : IntKind.u8.wrap n = n % 256 := by
 unfold IntKind.wrap; simp [IntKind.bits, IntKind.signed]
theorem KA (x y : ByteArray) (h : ((x.size + y.size : Nat) : Int) <= 9223372036854775807) : (fI .add t ox oy (.string x) (.string y)).run P w = .ok (.value (.string (x ++ y))) w := by
 have : ¬ (((x.size + y.size : Nat) : Int) > IntKind.i64.max) := by
  have e : IntKind.i64.max = 9223372036854775807 := by decide
  rw [e]; omega
 simp only [fI, vZ, kI, binOp, Op.stringOp, this, if_false]
 rfl
theorem H8 (x y : ByteArray) : (fI .eql t ox oy (.string x) (.string y)).run P w = .ok (.value (.bool (x.toList == y.toList))) w := by
 simp [fI, vZ, kI, binOp, Op.stringOp, eqGuard]
theorem IG (n : Nat) {e : TypeId} (hu : P.underlying t = some (.pointer e)) (x : Option Addr) : (Op.equalIn (n + 1) t (.pointer x) (.pointer none)).run P w = .ok x.isNone w := by
 simp only [Op.equalIn, underlying]
 cases x <;> simp [hu]
theorem Kg {e : TypeId} (hu : P.underlying t = some (.pointer e)) (x : Option Addr) : (Op.equal t (.pointer x) (.pointer none)).run P w = .ok x.isNone w := IG 9999 hu x
theorem Js (m : Nat) {e : TypeId} (hu : P.underlying t = some (.slice e)) (x : Option Addr) (n c : Nat) : (Op.equalIn (m + 1) t (.slice x n c) (.slice none 0 0)).run P w = .ok x.isNone w := by
 simp only [Op.equalIn, underlying]
 cases x <;> simp [hu]
theorem KZ {e : TypeId} (hu : P.underlying t = some (.slice e)) (x : Option Addr) (n c : Nat) : (Op.equal t (.slice x n c) (.slice none 0 0)).run P w = .ok x.isNone w := Js 9999 hu x n c
theorem Jb {e : TypeId} (hu : P.underlying t = some (.pointer e)) (x : Option Addr) : (fI .eql t ox oy (.pointer x) (.pointer none)).run P w = .ok (.value (.bool x.isNone)) w :=
 Ef rfl rfl (Kg hu x)
theorem Jx {e : TypeId} (hu : P.underlying t = some (.slice e)) (x : Option Addr) (n c : Nat) : (fI .eql t ox oy (.slice x n c) (.slice none 0 0)).run P w = .ok (.value (.bool x.isNone)) w :=
 Ef rfl rfl (KZ hu x n c)
theorem sQ {s : TypeId} {d : TypeDesc} {kd : IntKind} (hs : P.underlying s = some d) (hu : P.underlying t = some (.int kd)) : (jF s t (.int k a)).run P w = .ok (.value (.int kd (kd.wrap a))) w := by
 cases d <;> simp [jF, kI, convert, underlying, hs, hu, Conv.intToInt]
theorem Fa {ty : TypeId} {e : TypeId} (hu : P.underlying t = some (.slice e)) (x : Option Addr) (n c : Nat) : (pI .len #[t] ty [.slice x n c]).run P w = .ok (.value (.int .i64 n)) w := by
 simp [pI, builtin, Builtin.len_, underlying, hu, goInt]
theorem Kp {ty : TypeId} (hu : P.underlying t = some .string) (x : ByteArray) : (pI .len #[t] ty [.string x]).run P w = .ok (.value (.int .i64 x.size)) w := by
 simp [pI, builtin, Builtin.len_, underlying, hu, goInt]
theorem eS {ats : Array TypeId} {ty : TypeId} : (pI .min ats ty [.int k a, .int k b]).run P w = .ok (.value (.int k (if b < a then b else a))) w := by
 simp [pI, builtin, Builtin.min_, Builtin.min2]
theorem eQ {ats : Array TypeId} {ty : TypeId} : (pI .max ats ty [.int k a, .int k b]).run P w = .ok (.value (.int k (if b > a then b else a))) w := by
 simp [pI, builtin, Builtin.max_, Builtin.max2]
theorem gP (a b : Nb) : (iB (.tuple #[a, b]) 0).run P w = .ok (.value a) w := Eq.trans rfl rfl
theorem gQ (a b : Nb) : (iB (.tuple #[a, b]) 1).run P w = .ok (.value b) w := Eq.trans rfl rfl
theorem gT (a b c : Nb) : (iB (.tuple #[a, b, c]) 0).run P w = .ok (.value a) w := Eq.trans rfl rfl
theorem gU (a b c : Nb) : (iB (.tuple #[a, b, c]) 1).run P w = .ok (.value b) w := Eq.trans rfl rfl
theorem gV (a b c : Nb) : (iB (.tuple #[a, b, c]) 2).run P w = .ok (.value c) w := Eq.trans rfl rfl
theorem gR (a b c d : Nb) : (iB (.tuple #[a, b, c, d]) 0).run P w = .ok (.value a) w := Eq.trans rfl rfl
theorem gW (a b c d : Nb) : (iB (.tuple #[a, b, c, d]) 1).run P w = .ok (.value b) w := Eq.trans rfl rfl
theorem gS (a b c d : Nb) : (iB (.tuple #[a, b, c, d]) 2).run P w = .ok (.value c) w := Eq.trans rfl rfl
theorem gO (a b c d : Nb) : (iB (.tuple #[a, b, c, d]) 3).run P w = .ok (.value d) w := Eq.trans rfl rfl
theorem eA (x : Addr) : (iW (.pointer (some x))).run P w = .ok (.value (.pointer (some x))) w := Eq.trans rfl rfl
theorem jN {fs : Array Field} {f : Field} {i : Nat} {inf : TypeInfo} (hu : P.underlying t = some (.struct fs)) (hf : fs[i]? = some f)
 (hi : P.info? f.type = some inf) (hz : inf.size ≠ 0) (x : Addr) : (fK t (.pointer (some x)) i).run P w = .ok (.value (.pointer (some (x.add f.offset)))) w := by
 simp [fK, kI, Instr.fieldAt, underlying, hu, hf, Instr.sureAddr, fieldPlace, sizeOf, typeInfo, hi, hz]
theorem I4 {e : TypeId} {inf : TypeInfo} (hu : P.underlying t = some (.slice e)) (hi : P.info? e = some inf) (x : Addr) (n c : Nat) (h0 : 0 <= a) (h1 : a < n) :
 (kG t (.slice (some x) n c) (.int k a)).run P w = .ok (.value (.pointer (some (x.add (a.toNat * inf.size))))) w := by
 simp [kG, kI, Instr.indexAt, asIntOf, underlying, hu, h0, h1, sizeOf, typeInfo, hi]
theorem IU {e : TypeId} {len : Nat} {inf : TypeInfo} (hu : P.underlying t = some (.array len e)) (hi : P.info? e = some inf) (x : Addr) (h0 : 0 <= a) (h1 : a < len) :
 (kG t (.pointer (some x)) (.int k a)).run P w = .ok (.value (.pointer (some (x.add (a.toNat * inf.size))))) w := by
 simp [kG, kI, Instr.indexAt, asIntOf, underlying, hu, h0, h1, sizeOf, typeInfo, hi, Instr.sureAddr]
theorem J9 (hu : P.underlying t = some .string) (x : ByteArray) (h0 : 0 <= a) (h1 : a.toNat < x.size) :
 (Dc t (.string x) (.int k a)).run P w = .ok (.value (.int .u8 (x[a.toNat]'h1).toNat)) w := by
 simp [Dc, kI, Instr.index, asIntOf, underlying, hu, h0, h1]
end
def iA (w : Na) (b : Nat) (cs : List Nb) : Prop :=
 ∃ T lo hi, w.heap[b]? = some (.cells cs.toArray T (lo, hi)) /\ (cs.length <= lo ∨ hi = lo)
structure gB (w w' : Na) (M : Nat -> Prop) : Prop where
 os : w'.os = w.os
 tape : w'.tape = w.tape
 output : w'.output = w.output
 size : w.heap.size <= w'.heap.size
 keep : ∀ b, b < w.heap.size -> ¬ M b -> w'.heap[b]? = w.heap[b]?
def mZ : Nat -> Prop := fun _ => False
theorem gB.refl (w : Na) (M : Nat -> Prop) : gB w w M := ⟨rfl, rfl, rfl, Md _, fun _ _ _ => rfl⟩
theorem gB.mono {w w' : Na} {M N : Nat -> Prop} (h : gB w w' M) (hm : ∀ b, b < w.heap.size -> M b -> N b) : gB w w' N :=
 ⟨h.os, h.tape, h.output, h.size, fun b hb hn => h.keep b hb fun hM => hn (hm b hb hM)⟩
theorem gB.trans {a b c : Na} {M N : Nat -> Prop} (h : gB a b M) (k : gB b c N) (hn : ∀ x, x < a.heap.size -> N x -> M x) : gB a c M :=
 ⟨k.os.trans h.os, k.tape.trans h.tape, k.output.trans h.output, Nat.le_trans h.size k.size,
   fun x hx hM => (k.keep x (MX hx h.size) fun h => hM (hn x hx h)).trans (h.keep x hx hM)⟩
theorem gB.seq {a b c : Na} {M : Nat -> Prop} (h : gB a b M) (k : gB b c M) : gB a c M := h.trans k fun _ _ h => h
theorem gB.new {a b c : Na} {M : Nat -> Prop} {x : Nat} (h : gB a b M) (k : gB b c (fun y => y = x)) (hx : a.heap.size <= x) : gB a c M :=
 h.trans k fun y hy e => absurd hy (by subst e; omega)
theorem gB.below {w w' : Na} (h : gB w w' mZ) : Go.RowKit.Below w.heap.size w w' :=
 ⟨h.os, h.tape, h.output, h.size, fun k hk => h.keep k hk fun h => h⟩
theorem gB.dr (w : Na) (M : Nat -> Prop) : gB w (dr w) M := ⟨rfl, rfl, rfl, Md _, fun _ _ _ => rfl⟩
theorem gB.alloc (w : Na) (o : Obj) (M : Nat -> Prop) : gB w (w.alloc o) M :=
 ⟨rfl, rfl, rfl, by simp, fun b hb _ => by show (w.heap.push o)[b]? = _; rw [Array.getElem?_push, if_neg (by omega)]⟩
theorem DL (w : Na) (a : Addr) (v : Nb) (b : Nat) (h : b ≠ a.block) : (w.setCell a v).heap[b]? = w.heap[b]? := Go.RowKit.Below.heap_setCell w a v b h
theorem gB.setCell (w : Na) (a : Addr) (v : Nb) {M : Nat -> Prop} (h : a.block < w.heap.size -> M a.block) : gB w (w.setCell a v) M :=
 ⟨rfl, rfl, rfl, by simp, fun b hb hM => DL w a v b fun e => hM (e ▸ h (e ▸ hb))⟩
theorem iA.lt {w : Na} {b : Nat} {cs : List Nb} (h : iA w b cs) : b < w.heap.size := by
 obtain ⟨T, lo, hi, h, _⟩ := h
 rcases MN b w.heap.size with h' | h'
 .exact h'
 .rw [MZ h'] at h; cases h
theorem iA.ext {w w' : Na} {b : Nat} {cs : List Nb} {M : Nat -> Prop} (h : iA w b cs) (hx : gB w w' M) (hM : ¬ M b) : iA w' b cs := by
 have := h.lt
 obtain ⟨T, lo, hi, h, k⟩ := h
 exact ⟨T, lo, hi, by rw [hx.keep b this hM]; exact h, k⟩
theorem iA.cell {w : Na} {b off : Nat} {cs : List Nb} (h : iA w b cs) : w.cell? ⟨b, off, none⟩ = cs[off]? := by
 obtain ⟨T, lo, hi, h, _⟩ := h
 simp [World.cell?, h]
theorem iA.free {w : Na} {b off : Nat} {cs : List Nb} {s : Option Nat} (h : iA w b cs) (ho : off < cs.length) : w.frozen? ⟨b, off, s⟩ = false := by
 obtain ⟨T, lo, hi, h, k⟩ := h
 simp only [World.frozen?, h]
 rcases k with k | k <;> (simp; omega)
theorem iA.setCell {w : Na} {b off : Nat} {cs : List Nb} (h : iA w b cs) (v : Nb) : iA (w.setCell ⟨b, off, none⟩ v) b (cs.set off v) := by
 have hb := h.lt
 obtain ⟨T, lo, hi, h, k⟩ := h
 refine ⟨T, lo, hi, ?_, by simpa using k⟩
 simp only [World.setCell, MR, h]
 simp
theorem iA.alloc (w : Na) (cs : List Nb) (T : TypeId) : iA (w.alloc (.cells cs.toArray T)) w.heap.size cs :=
 ⟨T, 0, 0, by show (w.heap.push _)[w.heap.size]? = _; simp, .inr rfl⟩
theorem IX {w w' : Na} {M : Nat -> Prop} {a : Addr} {v : Nb} (h : w.cell? a = some v) (hx : gB w w' M) (hM : ¬ M a.block) : w'.cell? a = some v := by
 have hb := World.block_lt_of_cell? w a h
 have e := hx.keep _ hb hM
 unfold World.cell? at h ⊢
 rw [e]; exact h
section
variable {P : Program} {w : Na} {t : TypeId}
def GY (d : TypeDesc) : Bool := match d with | .struct _ | .array _ _ => true | _ => false
theorem Br {d : TypeDesc} (hu : P.underlying t = some d) : (isAgg t).run P w = .ok (GY d) w := by
 cases d <;> simp [isAgg, underlying, hu, GY]
theorem hG {i : TypeInfo} (hi : P.info? t = some i) : (sizeOf t).run P w = .ok i.size w := by simp [sizeOf, typeInfo, hi]
theorem CL {b off : Nat} {cs : List Nb} (ho : iA w b cs) : ∀ (n i : Nat) (acc : Array Nb), off + i + n <= cs.length →
 (loadCellsFrom ⟨b, off, none⟩ i n acc).run P w = .ok (acc ++ ((cs.drop (off + i)).take n).toArray) w := by
 intro n
 induction n with
 | zero => intro i acc _; simp [loadCellsFrom]
 | succ n ih =>
   intro i acc h
   have hc : w.cell? ((⟨b, off, none⟩ : Addr).add i) = some cs[off + i] := by
    unfold Addr.add
    split
    .rename_i hi; subst hi; rw [ho.cell]; simp
    .show w.cell? ⟨b, off + i, none⟩ = _; rw [ho.cell]; simp
   simp only [loadCellsFrom, Sem.run_bind, run_load, hc, Result.andThen_ok]
   rw [ih (i + 1) _ (by omega)]
   congr 1
   rw [MU (by omega : off + i < cs.length)]
   simp [MS]
theorem BU {b off n : Nat} {cs : List Nb} (ho : iA w b cs) (h : off + n <= cs.length) :
 (loadCells ⟨b, off, none⟩ n).run P w = .ok ((cs.drop off).take n).toArray w := by
 unfold loadCells
 rw [CL ho n 0 #[] (by omega)]
 simp
theorem Ff {d : TypeDesc} {i : TypeInfo} (hu : P.underlying t = some d) (hd : GY d = true) (hi : P.info? t = some i) {b off : Nat} {cs : List Nb} (ho : iA w b cs) (h : off + i.size <= cs.length) :
 (fR t (.pointer (some ⟨b, off, none⟩))).run P w = .ok (.value (.agg ((cs.drop off).take i.size).toArray)) w := by
 unfold fR
 rw [kI]
 simp only [Instr.loadAt, Instr.sureAddr, loadVar, pure_bind, Sem.run_bind, Br hu, hd, Result.andThen_ok, if_true, hG hi, BU ho h, Sem.run_pure]
def one (v : Nb) : Bool := match v with | .agg _ | .tuple _ => false | _ => true
theorem Gw {a : Addr} {v x : Nb} (hv : one v = true) (hc : w.cell? a = some x) (hf : w.frozen? a = false) : (store a v).run P w = .ok () (w.setCell a v) := by
 unfold store
 cases v <;> simp [one] at hv <;> simp [Sem.run, hc, hf]
def gE (cs : List Nb) (off : Nat) : List Nb -> List Nb
 | [] => cs
 | v :: vs => gE (cs.set off v) (off + 1) vs
theorem vF {b : Nat} {M : Nat -> Prop} (hM : M b) : ∀ (vs : List Nb) (w : Na) (off i : Nat) (cs : List Nb), iA w b cs -> off + i + vs.length <= cs.length -> (∀ v ∈ vs, one v = true) →
 ∃ w', (storeCells ⟨b, off, none⟩ vs i).run P w = .ok () w' /\ iA w' b (gE cs (off + i) vs) /\ gB w w' M /\ w'.heap.size = w.heap.size /\ w'.drawn = w.drawn := by
 intro vs
 induction vs with
 | nil => intro w off i cs ho _ _; exact ⟨w, by simp [storeCells], ho, gB.refl _ _, rfl, rfl⟩
 | cons v vs ih =>
   intro w off i cs ho h hv
   simp only [Mc] at h
   have ha : (⟨b, off, none⟩ : Addr).add i = ⟨b, off + i, none⟩ := by
    unfold Addr.add; split
    .rename_i hi; subst hi; rfl
    .rfl
   have hlt : off + i < cs.length := by omega
   have hc : w.cell? ⟨b, off + i, none⟩ = some cs[off + i] := by rw [ho.cell]; simp
   have hs := Gw (P := P) (hv v (by simp)) hc (ho.free hlt)
   obtain ⟨w', h1, h2, h3, h4, h5⟩ := ih (w.setCell ⟨b, off + i, none⟩ v) off (i + 1) (cs.set (off + i) v) (ho.setCell v) (by simp; omega) (fun x hx => hv x (Mb _ hx))
   refine ⟨w', ?_, h2, (gB.setCell w _ v fun _ => hM).trans h3 (fun _ _ h => h), by rw [h4]; simp, by rw [h5] <;> rfl⟩
   simp only [storeCells, Sem.run_bind, ha, hs, Result.andThen_ok]
   exact h1
theorem yP {i : TypeInfo} (hi : P.info? t = some i) {b off : Nat} {cs : List Nb} (ho : iA w b cs) {v : Nb} (hs : v.cells.size = i.size)
 (hv : ∀ x ∈ v.cells.toList, one x = true) (h : off + i.size <= cs.length) {K : Nb -> Na -> Prop}
 (hk : ∀ w', iA w' b (gE cs off v.cells.toList) -> gB w w' (fun x => x = b) -> w'.heap.size = w.heap.size -> K undef w') : dQ P (fX t (.pointer (some ⟨b, off, none⟩)) v) w K := by
 obtain ⟨w', h1, h2, h3, h4, _⟩ := vF (P := P) (M := fun x => x = b) rfl v.cells.toList w off 0 cs ho (by simp [hs]; omega) hv
 have : (fX t (.pointer (some ⟨b, off, none⟩)) v).run P w = .ok .skip w' := by
  unfold fX
  rw [Lx]
  simp only [Instr.storeAt, Instr.sureAddr, storeVar, pure_bind, Sem.run_bind, hG hi, Result.andThen_ok, hs]
  simp [h1]
 unfold dQ
 rw [this]
 exact hk w' h2 h3 h4
theorem EN {v : Nb} (hv : one v = true) : v.cells = #[v] := by cases v <;> simp [one] at hv <;> rfl
theorem qM {i : TypeInfo} (hi : P.info? t = some i) (h1 : i.size = 1) {b off : Nat} {cs : List Nb} (ho : iA w b cs) {v : Nb} (hv : one v = true) (h : off < cs.length) {K : Nb -> Na -> Prop}
 (hk : ∀ w', iA w' b (cs.set off v) -> gB w w' (fun x => x = b) -> w'.heap.size = w.heap.size -> K undef w') : dQ P (fX t (.pointer (some ⟨b, off, none⟩)) v) w K := by
 have e := EN hv
 refine yP hi ho (by rw [e, h1] <;> rfl) (by rw [e]; simpa using hv) (by omega) fun w' a b c => hk w' ?_ b c
 rw [e] at a; exact a
def Gz (c : Option Nb) (w : Na) (H4 : Result Next) : Result Next := match c with | some v => .ok (.value v) w | none => H4
def H4 (P : Program) (t : TypeId) (x : Addr) (w : Na) : Result Next := (fR t (.pointer (some x))).run P w
theorem dH (v : Nb) (w : Na) (f : Result Next) : Gz (some v) w f = .ok (.value v) w := rfl
theorem Fk {d : TypeDesc} (hu : P.underlying t = some d) (hd : GY d = false) (x : Addr) (w : Na) :
 (fR t (.pointer (some x))).run P w = Gz (w.cell? x) w (H4 P t x w) := by
 cases h : w.cell? x with
 | none => rfl
 | some v =>
   unfold fR
   rw [kI]
   simp only [Instr.loadAt, Instr.sureAddr, loadVar, pure_bind, Sem.run_bind, Br hu, hd, Result.andThen_ok, LQ, if_false, run_load, h, Gz]
theorem DU {d : TypeDesc} {i : TypeInfo} (hu : P.underlying t = some d) (hd : GY d = true) (hi : P.info? t = some i) {b off : Nat} {cs : List Nb} (ho : iA w b cs) (h : off + i.size <= cs.length) {K : Nb -> Prop}
 (hk : K (.agg ((cs.drop off).take i.size).toArray)) : Er P t (.pointer (some ⟨b, off, none⟩)) w K := by
 refine ⟨_, ?_, hk⟩
 simp only [asAddr, loadVar, pure_bind, Sem.run_bind, Br hu, hd, Result.andThen_ok, if_true, hG hi, BU ho h, Sem.run_pure]
theorem DV {v : Nb} {K : Nb -> Na -> Prop} (hk : ∀ w', iA w' w.heap.size v.cells.toList -> gB w w' mZ -> w'.heap.size = w.heap.size + 1 -> K (.pointer (some ⟨w.heap.size, 0, none⟩)) w') :
 dQ P (GU t v) w K := by
 have : (GU t v).run P w = .ok (.value (.pointer (some ⟨w.heap.size, 0, none⟩))) (w.alloc (.cells v.cells.toList.toArray t)) := by
  unfold GU; rw [kI]
  simp [Instr.box, newVar, newRow]
 unfold dQ
 rw [this]
 exact hk _ (iA.alloc _ _ _) (gB.alloc _ _ _) (by simp)
theorem Bt {i : TypeInfo} {z : Nb} (hi : P.info? t = some i) (hz : i.zero = some z) {K : Nb -> Na -> Prop}
 (hk : ∀ w', iA w' w.heap.size z.cells.toList -> gB w w' mZ -> w'.heap.size = w.heap.size + 1 -> K (.pointer (some ⟨w.heap.size, 0, none⟩)) w') :
 dQ P (pN t) w K := by
 have : (pN t).run P w = .ok (.value (.pointer (some ⟨w.heap.size, 0, none⟩))) (w.alloc (.cells z.cells.toList.toArray t)) := by
  unfold pN; rw [kI]
  simp [Instr.alloc, zeroValue, typeInfo, hi, hz, newVar, newRow]
 unfold dQ
 rw [this]
 exact hk _ (iA.alloc _ _ _) (gB.alloc _ _ _) (by simp)
end
theorem kT {P : Program} {w : Na} {k : IntKind} {a : Int} {y : Nat} {code : BoundsCode} (h0 : 0 <= a) (h1 : a <= y) : (Instr.sliceBound (.int k a) y code).run P w = .ok a.toNat w := by
 simp [Instr.sliceBound, asIntOf, h0, h1]
section
variable {P : Program} {w : Na} {t e : TypeId} {k k' : IntKind} {lo hi : Int} {i : TypeInfo}
def iE (x : Option Addr) (m l sz : Nat) : Option Addr := if m = l then x else x.map (·.add (l * sz))
theorem G2 (hu : P.underlying t = some (.slice e)) (hi' : P.info? e = some i) (x : Option Addr) (n c : Nat) (h0 : 0 <= lo) (h1 : lo <= n) :
 (hP t (.slice x n c) (some (.int k lo)) none none).run P w = .ok (.value (.slice (iE x c lo.toNat i.size) (n - lo.toNat) (c - lo.toNat))) w := by
 simp only [hP, kI, Instr.sliceAt, underlying, hu, Sem.run_bind, run_program, Result.andThen_ok, Sem.run_pure, Instr.slice, Instr.sliceBounds, pure_bind, kT h0 h1, hG hi', iE]
theorem GZ (hu : P.underlying t = some (.slice e)) (hi' : P.info? e = some i) (x : Option Addr) (n c : Nat) (h0 : 0 <= hi) (h1 : hi <= c) :
 (hP t (.slice x n c) none (some (.int k hi)) none).run P w = .ok (.value (.slice (iE x c 0 i.size) (hi.toNat - 0) (c - 0))) w := by
 simp only [hP, kI, Instr.sliceAt, underlying, hu, Sem.run_bind, run_program, Result.andThen_ok, Sem.run_pure, Instr.slice, Instr.sliceBounds, pure_bind, kT h0 h1, hG hi', iE]
theorem Fo (hu : P.underlying t = some (.slice e)) (hi' : P.info? e = some i) (x : Option Addr) (n c : Nat) (h0 : 0 <= lo) (h1 : lo <= hi) (h2 : hi <= c) :
 (hP t (.slice x n c) (some (.int k lo)) (some (.int k' hi)) none).run P w = .ok (.value (.slice (iE x c lo.toNat i.size) (hi.toNat - lo.toNat) (c - lo.toNat))) w := by
 have h3 : (0 : Int) <= hi := by omega
 have h4 : lo <= (hi.toNat : Int) := by omega
 simp only [hP, kI, Instr.sliceAt, underlying, hu, Sem.run_bind, run_program, Result.andThen_ok, Sem.run_pure, Instr.slice, Instr.sliceBounds, pure_bind, kT h3 h2, kT h0 h4, hG hi', iE]
theorem Gm (hu : P.underlying t = some .string) (x : ByteArray) (h0 : 0 <= lo) (h1 : lo <= x.size) :
 (hP t (.string x) (some (.int k lo)) none none).run P w = .ok (.value (.string (x.extract lo.toNat x.size))) w := by
 simp only [hP, kI, Instr.sliceAt, underlying, hu, Sem.run_bind, run_program, Result.andThen_ok, Sem.run_pure, Instr.slice, Instr.sliceBounds, pure_bind, Option.isSome_none, LQ, if_false, kT h0 h1]
theorem F9 (hu : P.underlying t = some .string) (x : ByteArray) (h0 : 0 <= hi) (h1 : hi <= x.size) :
 (hP t (.string x) none (some (.int k hi)) none).run P w = .ok (.value (.string (x.extract 0 hi.toNat))) w := by
 simp only [hP, kI, Instr.sliceAt, underlying, hu, Sem.run_bind, run_program, Result.andThen_ok, Sem.run_pure, Instr.slice, Instr.sliceBounds, pure_bind, Option.isSome_none, LQ, if_false, kT h0 h1]
def sU (a : Addr) (m l sz : Nat) : Addr := if m = l then a else a.add (l * sz)
theorem FX {n : Nat} (hu : P.underlying t = some (.array n e)) (hi' : P.info? e = some i) (x : Addr) (h0 : 0 <= lo) (h1 : lo <= n) :
 (hP t (.pointer (some x)) (some (.int k lo)) none none).run P w = .ok (.value (.slice (some (sU x n lo.toNat i.size)) (n - lo.toNat) (n - lo.toNat))) w := by
 simp only [hP, kI, Instr.sliceAt, Instr.sureAddr, underlying, hu, Sem.run_bind, run_program, Result.andThen_ok, Sem.run_pure, Instr.sliceBounds, pure_bind, kT h0 h1, hG hi', sU]
theorem Gp {n : Nat} (hu : P.underlying t = some (.array n e)) (hi' : P.info? e = some i) (x : Addr) (h0 : 0 <= hi) (h1 : hi <= n) :
 (hP t (.pointer (some x)) none (some (.int k hi)) none).run P w = .ok (.value (.slice (some (sU x n 0 i.size)) (hi.toNat - 0) (n - 0))) w := by
 simp only [hP, kI, Instr.sliceAt, Instr.sureAddr, underlying, hu, Sem.run_bind, run_program, Result.andThen_ok, Sem.run_pure, Instr.sliceBounds, pure_bind, kT h0 h1, hG hi', sU]
theorem Eu {n : Nat} (hu : P.underlying t = some (.array n e)) (hi' : P.info? e = some i) (x : Addr) (h0 : 0 <= lo) (h1 : lo <= hi) (h2 : hi <= n) :
 (hP t (.pointer (some x)) (some (.int k lo)) (some (.int k' hi)) none).run P w = .ok (.value (.slice (some (sU x n lo.toNat i.size)) (hi.toNat - lo.toNat) (n - lo.toNat))) w := by
 have h3 : (0 : Int) <= hi := by omega
 have h4 : lo <= (hi.toNat : Int) := by omega
 simp only [hP, kI, Instr.sliceAt, Instr.sureAddr, underlying, hu, Sem.run_bind, run_program, Result.andThen_ok, Sem.run_pure, Instr.sliceBounds, pure_bind, kT h3 h2, kT h0 h4, hG hi', sU]
end
def Sl (w : Na) (v : Nb) (l : List Nb) : Prop :=
 ∃ a n c, v = .slice a n c /\ n = l.length /\ n <= c /\ (0 < n -> ∃ b off, a = some ⟨b, off, none⟩ /\ ∀ i, i < n -> w.cell? ⟨b, off + i, none⟩ = l[i]?)
def Co (v : Nb) (M : Nat -> Prop) : Prop := match v with | .slice (some a) (_ + 1) _ => M a.block | _ => False
theorem Sl.ext {w w' : Na} {v : Nb} {l : List Nb} {M : Nat -> Prop} (h : Sl w v l) (hx : gB w w' M) (hM : ¬ Co v M) : Sl w' v l := by
 obtain ⟨a, n, c, rfl, hn, hc, h⟩ := h
 refine ⟨a, n, c, rfl, hn, hc, fun h0 => ?_⟩
 obtain ⟨b, off, rfl, h2⟩ := h h0
 refine ⟨b, off, rfl, fun i hi => ?_⟩
 have h1 := h2 i hi
 obtain ⟨v, hv⟩ : ∃ v, l[i]? = some v := ⟨l[i], by simp⟩
 rw [hv] at h1 ⊢
 refine IX h1 hx ?_
 obtain ⟨m, rfl⟩ : ∃ m, n = m + 1 := ⟨n - 1, by omega⟩
 exact hM
theorem Sl.old {w : Na} {v : Nb} {l : List Nb} (h : Sl w v l) : ¬ Co v (fun b => w.heap.size <= b) := by
 obtain ⟨a, n, c, rfl, hn, hc, h⟩ := h
 unfold Co
 split
 .rename_i x m _ e
  obtain ⟨rfl, rfl, rfl⟩ : a = some x /\ n = m + 1 /\ c = _ := by simpa using e
  obtain ⟨b, off, e, h2⟩ := h (by omega)
  have e := Ms e; subst e
  have h1 := h2 0 (by omega)
  obtain ⟨v, hv⟩ : ∃ v, l[0]? = some v := ⟨l[0], by simp⟩
  rw [hv] at h1
  have := World.block_lt_of_cell? _ _ h1
  simp at this ⊢; omega
 .simp
def pU (x : UInt8) : Nb := .int .u8 x.toNat
abbrev Bs (w : Na) (v : Nb) (l : List UInt8) : Prop := Sl w v (l.map pU)
theorem vN (b o n : Nat) : (⟨b, o, none⟩ : Addr).add n = ⟨b, o + n, none⟩ := by
 unfold Addr.add; split
 .rename_i h; subst h; rfl
 .rfl
section
variable {P : Program} {w : Na} {t e : TypeId} {k : IntKind} {a : Int}
theorem Bq {inf : TypeInfo} (hz : inf.size = 1) (hu : P.underlying t = some (.slice e)) (hi : P.info? e = some inf) (b o n c : Nat) (h0 : 0 <= a) (h1 : a < n) :
 (kG t (.slice (some ⟨b, o, none⟩) n c) (.int k a)).run P w = .ok (.value (.pointer (some ⟨b, o + a.toNat, none⟩))) w := by
 rw [I4 hu hi _ n c h0 h1, vN, hz, MF]
theorem Hu {inf : TypeInfo} {len : Nat} (hz : inf.size = 1) (hu : P.underlying t = some (.array len e)) (hi : P.info? e = some inf) (b o : Nat) (h0 : 0 <= a) (h1 : a < (len : Int)) :
 (kG t (.pointer (some ⟨b, o, none⟩)) (.int k a)).run P w = .ok (.value (.pointer (some ⟨b, o + a.toNat, none⟩))) w := by
 rw [IU hu hi _ h0 h1, vN, hz, MF]
end
section
variable {P : Program} {w : Na} {s d e : TypeId}
theorem IN (hs : P.underlying s = some (.slice e)) (hd : P.underlying d = some .string) (he : P.underlying e = some (.int .u8)) {l : List UInt8} {v : Nb} (h : Bs w v l) :
 (jF s d v).run P w = .ok (.value (.string ⟨l.toArray⟩)) w := by
 obtain ⟨a, n, c, rfl, hn, hc, h⟩ := h
 simp only [LZ] at hn
 unfold jF
 rw [kI]
 have key : (convert s d (.slice a n c)).run P w = .ok (.string ⟨l.toArray⟩) w := by
  cases a with
  | none =>
    have hl : l = [] := by
     cases l with
     | nil => rfl
     | cons x l => obtain ⟨b, off, e, _⟩ := h (by rw [hn]; simp); cases e
    subst hl
    rw [run_convert_bytes_string w s d e none n c hs he hd]
    rfl
  | some x =>
    subst hn
    refine run_convert_bytes_back w s d e x c l hs he hd fun j hj => ?_
    obtain ⟨b, off, hx, h2⟩ := h (by omega)
    have hx := Ms hx
    subst hx
    rw [vN, h2 j hj]
    simp [pU, hj]
 rw [key] <;> rfl
end
theorem Gr (l : List UInt8) : ∀ x ∈ l.map pU, one x = true := by
 intro x hx
 obtain ⟨c, _, rfl⟩ := M6.1 hx
 rfl
theorem HV {b o m l sz : Nat} (h : l ≠ m) : sU ⟨b, o, none⟩ m l sz = ⟨b, o + l * sz, none⟩ := by
 unfold sU; rw [if_neg (fun e => h e.symm), vN]
theorem Cf {b o m l : Nat} (h : l ≠ m) : sU ⟨b, o, none⟩ m l 1 = ⟨b, o + l, none⟩ := by rw [HV h, MF]
theorem Sl.drop {w : Na} {b o n c : Nat} {l : List Nb} (h : Sl w (.slice (some ⟨b, o, none⟩) n c) l) {k : Nat} (hk : k <= n) :
 Sl w (.slice (iE (some ⟨b, o, none⟩) c k 1) (n - k) (c - k)) (l.drop k) := by
 obtain ⟨x, m, c', e, hm, hc, hh⟩ := h
 cases e
 refine ⟨_, _, _, rfl, by rw [L7]; omega, by omega, fun h0 => ?_⟩
 obtain ⟨b', o', e, h2⟩ := hh (by omega)
 cases e
 have hne : ¬ c = k := by omega
 refine ⟨b, o + k, by unfold iE; rw [if_neg hne, Mm, vN, MF], fun i hi => ?_⟩
 rw [MS, h2 (k + i) (by omega), List.getElem?_drop]
theorem Sl.take {w : Na} {b o n c : Nat} {l : List Nb} (h : Sl w (.slice (some ⟨b, o, none⟩) n c) l) {k : Nat} (hk : k <= n) :
 Sl w (.slice (iE (some ⟨b, o, none⟩) c 0 1) (k - 0) (c - 0)) (l.take k) := by
 obtain ⟨x, m, c', e, hm, hc, hh⟩ := h
 cases e
 refine ⟨_, _, _, rfl, by rw [L6]; omega, by omega, fun h0 => ?_⟩
 obtain ⟨b', o', e, h2⟩ := hh (by omega)
 cases e
 have hne : ¬ c = 0 := by omega
 refine ⟨b, o, by unfold iE; rw [if_neg hne, Mm, vN] <;> rfl, fun i hi => ?_⟩
 rw [h2 i (by omega), MY (by omega)]
theorem HI {b o n c k : Nat} {M : Nat -> Prop} (h : ¬ Co (.slice (some ⟨b, o, none⟩) n c) M) (hn : 0 < n) (m : Nat) : ¬ Co (.slice (iE (some ⟨b, o, none⟩) c k 1) m (c - k)) M := by
 have hb : ¬ M b := by
  obtain ⟨n', rfl⟩ : ∃ n', n = n' + 1 := ⟨n - 1, by omega⟩
  exact h
 unfold Co iE
 split
 .rename_i x q _ e
  simp only [Value.slice.injEq] at e
  obtain ⟨e, _, _⟩ := e
  split at e
  .cases e; exact hb
  .rw [Mm, vN] at e; cases e; exact hb
 .simp
theorem iA.bs {w : Na} {b off c : Nat} {cs : List Nb} {l : List UInt8} (h : iA w b cs) (hc : l.length <= c) (hl : ∀ i (hi : i < l.length), cs[off + i]? = some (pU l[i])) : Bs w (.slice (some ⟨b, off, none⟩) l.length c) l :=
 ⟨_, _, _, rfl, by simp, hc, fun _ => ⟨b, off, rfl, fun i hi => by rw [h.cell, hl i hi]; simp [hi]⟩⟩
section
variable {P : Program} {w : Na} {t e : TypeId} {k : IntKind} {a : Int}
theorem J4 {len : Nat} {d : TypeDesc} {i : TypeInfo} (hu : P.underlying t = some (.array len e)) (hd : P.underlying e = some d) (ha : GY d = false) (hi : P.info? e = some i) (h1 : i.size = 1)
 (cs : Array Nb) (h0 : 0 <= a) (hl : a < (len : Int)) {v : Nb} (hv : cs[a.toNat]? = some v) : (Dc t (.agg cs) (.int k a)).run P w = .ok (.value v) w := by
 unfold Dc
 rw [kI]
 simp only [Instr.index, asIntOf, pure_bind, underlying, hu, Sem.run_bind, run_program, Result.andThen_ok, Sem.run_pure, h0, hl, and_self, if_true, hG hi, h1, MF, part, Br hd, ha, LQ, if_false, hv]
def J8 (P : Program) (t : TypeId) (cs : Array Nb) (k : IntKind) (a : Int) (w : Na) : Result Next := (Dc t (.agg cs) (.int k a)).run P w
theorem IK {len : Nat} {d : TypeDesc} {i : TypeInfo} (hu : P.underlying t = some (.array len e)) (hd : P.underlying e = some d) (ha : GY d = false) (hi : P.info? e = some i) (h1 : i.size = 1)
 (cs : Array Nb) (h0 : 0 <= a) (hl : a < (len : Int)) : (Dc t (.agg cs) (.int k a)).run P w = Gz cs[a.toNat]? w (J8 P t cs k a w) := by
 cases hv : cs[a.toNat]? with
 | none => rfl
 | some v => exact J4 hu hd ha hi h1 cs h0 hl hv
theorem Cp {b off : Nat} {l : List Nb} (h : ∀ i, i < l.length -> w.cell? ⟨b, off + i, none⟩ = l[i]?) (n : Nat) (hn : n <= l.length) :
 (loadCells ⟨b, off, none⟩ n).run P w = .ok (l.take n).toArray w := by
 have key : ∀ (m i : Nat) (acc : Array Nb), i + m <= l.length -> (loadCellsFrom ⟨b, off, none⟩ i m acc).run P w = .ok (acc ++ ((l.drop i).take m).toArray) w := by
  intro m
  induction m with
  | zero => intro i acc _; simp [loadCellsFrom]
  | succ m ih =>
    intro i acc hm
    have hc := h i (by omega)
    rw [L3 (by omega)] at hc
    simp only [loadCellsFrom, Sem.run_bind, run_load, vN, hc, Result.andThen_ok]
    rw [ih (i + 1) _ (by omega), MU (by omega : i < l.length), Ma]
    simp
 unfold loadCells
 rw [key n 0 #[] (by omega)]
 simp
theorem Ex {sz n : Nat} {v : Nb} {l : List Nb} (h1 : sz = 1) (h : Sl w v l) (hn : n <= l.length) : (Builtin.firstCells sz n v).run P w = .ok (l.take n).toArray w := by
 subst h1
 obtain ⟨x, m, c, rfl, hm, hc, hh⟩ := h
 cases x with
 | none =>
   have : l = [] := by
    cases l with
    | nil => rfl
    | cons y l => obtain ⟨b, off, e, _⟩ := hh (by rw [hm]; simp); cases e
   subst this
   simp [Builtin.firstCells]
 | some x =>
   simp only [Builtin.firstCells, MF]
   by_cases h0 : 0 < m
   .obtain ⟨b, off, e, h2⟩ := hh h0
    have e := Ms e; subst e
    exact Cp (fun i hi => h2 i (by omega)) n hn
   .have h00 : n = 0 := by omega
    subst h00
    simp [loadCells, loadCellsFrom]
theorem Km {v : Nb} {l : List Nb} (h : Sl w v l) : (Builtin.lenOf v).run P w = .ok l.length w := by
 obtain ⟨x, m, c, rfl, hm, hc, hh⟩ := h
 simp [Builtin.lenOf, hm]
theorem IZ {ty t2 : TypeId} {i : TypeInfo} (hu : P.underlying t = some (.slice e)) (hi : P.info? e = some i) (h1 : i.size = 1) {b off dl c : Nat} {cs : List Nb} (ho : iA w b cs) (hl : off + dl <= cs.length)
 {v : Nb} {l : List Nb} (h : Sl w v l) (hv : ∀ x ∈ l, one x = true) {K : Nb -> Na -> Prop}
 (hk : ∀ w', iA w' b (gE cs off (l.take (min l.length dl))) -> gB w w' (fun x => x = b) -> w'.heap.size = w.heap.size -> K (.int .i64 (min l.length dl : Nat)) w') :
 dQ P (pI .copy #[t, t2] ty [.slice (some ⟨b, off, none⟩) dl c, v]) w K := by
 have hlen : (l.take (min l.length dl)).length = min l.length dl := by rw [L6]; omega
 obtain ⟨w', s1, s2, s3, s4, _⟩ := vF (P := P) (M := fun x => x = b) rfl (l.take (min l.length dl)) w off 0 cs ho (by rw [hlen]; omega) (fun x hx => hv x (M7 hx))
 have : (pI .copy #[t, t2] ty [.slice (some ⟨b, off, none⟩) dl c, v]).run P w = .ok (.value (.int .i64 (min l.length dl : Nat))) w' := by
  unfold pI builtin
  simp only [Builtin.copy_, MG, LO, LP]
  simp only [underlying, Sem.run_bind, run_program, Result.andThen_ok, hu, Sem.run_pure, Km h, hG hi, h1]
  have := Ex (P := P) (n := min l.length dl) rfl h (Nat.min_le_left _ _)
  rw [show (Nat.min l.length dl) = min l.length dl from rfl, this]
  simp only [Result.andThen_ok, s1, goInt]
 unfold dQ
 rw [this]
 exact hk w' (by simpa using s2) s3 s4
theorem I3 {i : TypeInfo} {z : Nb} (hu : P.underlying t = some (.slice e)) (hi : P.info? e = some i) (h1 : i.size = 1) (hz : i.zero = some z) (hz1 : one z = true) {n : Int} (h0 : 0 <= n) (hn : i.bytes * n <= 2 ^ 48) (hn2 : n <= 9223372036854775807)
 {K : Nb -> Na -> Prop}
 (hk : ∀ w', iA w' w.heap.size (List.replicate n.toNat z) -> gB w w' mZ -> w'.heap.size = w.heap.size + 1 -> K (.slice (some ⟨w.heap.size, 0, none⟩) n.toNat n.toNat) w') :
 dQ P (yY t (.int k n) (.int k n)) w K := by
 have hw : IntKind.i64.wrap n = n := dZ (by omega) hn2
 have hcells : z.cells = #[z] := EN hz1
 have harr : (Array.range n.toNat).map (fun j => (#[z] : Array Nb)[j % (#[z] : Array Nb).size]!) = (List.replicate n.toNat z).toArray := by
  apply Array.ext
  .simp
  .intro j h1 h2; simp [Nat.mod_one]
 have hz' : (zeroValue e).run P w = .ok z w := by simp [zeroValue, typeInfo, hi, hz]
 have : (yY t (.int k n) (.int k n)).run P w = .ok (.value (.slice (some ⟨w.heap.size, 0, none⟩) n.toNat n.toNat)) (w.alloc (.cells (List.replicate n.toNat z).toArray e)) := by
  unfold yY
  rw [kI]
  have t1 : (decide (n < 0) || decide ((i.bytes : Int) * n > 2 ^ 48) || decide (n < 0) || decide (n > n)) = false := by
   simp only [M5, decide_eq_false_iff_not]; omega
  by_cases hn0 : n.toNat = 0
  .simp only [Instr.makeSlice, underlying, typeInfo, asInt, asIntOf, pure_bind, Sem.run_bind, run_program, Result.andThen_ok, hu, hi, Sem.run_pure, hw, t1, LQ, if_false, run_askRoom, hG hi, h1, MF, hn0, if_true, newRow, run_newObj]
   have : (Array.range 0).map (fun x => (#[] : Array Nb)[x % (#[] : Array Nb).size]!) = (List.replicate 0 z).toArray := by simp
   rw [this]
   rfl
  .simp only [Instr.makeSlice, underlying, typeInfo, asInt, asIntOf, pure_bind, Sem.run_bind, run_program, Result.andThen_ok, hu, hi, Sem.run_pure, hw, t1, LQ, if_false, run_askRoom, hG hi, h1, MF, hn0, hz', hcells, newRow, run_newObj, harr]
   rfl
 unfold dQ
 rw [this]
 exact hk _ (iA.alloc _ _ _) (gB.alloc _ _ _) (by simp)
end
def Cl (w : Na) (sz : Nat) (v : Nb) (n : Nat) (l : List Nb) : Prop :=
 ∃ a c, v = .slice a n c /\ l.length = n * sz /\ (0 < n -> ∃ b off, a = some ⟨b, off, none⟩ /\ ∀ i, i < l.length -> w.cell? ⟨b, off + i, none⟩ = l[i]?)
def Dx (w : Na) (base sz : Nat) (v : Nb) (n : Nat) (l : List Nb) : Prop :=
 l.length = n * sz /\ ((v = .slice none 0 0 /\ n = 0) ∨
   ∃ b c rest, v = .slice (some ⟨b, 0, none⟩) n c /\ base <= b /\ iA w b (l ++ rest) /\ (l ++ rest).length = c * sz /\ n <= c)
def yG (w : Na) (S : Nat -> Prop) (sz : Nat) (v : Nb) (n : Nat) (l : List Nb) : Prop :=
 l.length = n * sz /\ ((v = .slice none 0 0 /\ n = 0) ∨
   ∃ b c rest, v = .slice (some ⟨b, 0, none⟩) n c /\ S b /\ iA w b (l ++ rest) /\ (l ++ rest).length = c * sz /\ n <= c)
theorem Sl.cl {w : Na} {v : Nb} {l : List Nb} (h : Sl w v l) : Cl w 1 v l.length l := by
 obtain ⟨a, n, c, rfl, rfl, hc, h⟩ := h
 exact ⟨a, c, rfl, by omega, fun h0 => h h0⟩
theorem iA.cl {w : Na} {b sz n c off : Nat} {cs l : List Nb} (h : iA w b cs) (hl : l.length = n * sz) (hcs : ∀ i, i < l.length -> cs[off + i]? = l[i]?) : Cl w sz (.slice (some ⟨b, off, none⟩) n c) n l :=
 ⟨_, _, rfl, hl, fun _ => ⟨b, off, rfl, fun i hi => by rw [h.cell, hcs i hi]⟩⟩
theorem Dx.nil (w : Na) (base sz : Nat) : Dx w base sz (.slice none 0 0) 0 [] := ⟨by simp, .inl ⟨rfl, rfl⟩⟩
theorem Dx.ext {w w' : Na} {base sz n : Nat} {v : Nb} {l : List Nb} {M : Nat -> Prop} (h : Dx w base sz v n l) (hx : gB w w' M) (hM : ∀ b, base <= b -> ¬ M b) : Dx w' base sz v n l := by
 refine ⟨h.1, ?_⟩
 rcases h.2 with h2 | ⟨b, c, rest, h1, h2, h3, h4, h5⟩
 .exact .inl h2
 .exact .inr ⟨b, c, rest, h1, h2, h3.ext hx (hM b h2), h4, h5⟩
theorem Dx.cl {w : Na} {base sz n : Nat} {v : Nb} {l : List Nb} (h : Dx w base sz v n l) : Cl w sz v n l := by
 rcases h.2 with ⟨rfl, rfl⟩ | ⟨b, c, rest, rfl, h2, h3, h4, h5⟩
 .exact ⟨_, _, rfl, h.1, fun h => by omega⟩
 .refine ⟨_, _, rfl, h.1, fun _ => ⟨b, 0, rfl, fun i hi => ?_⟩⟩
  rw [h3.cell, LX, Mk hi]
theorem Dx.sl {w : Na} {base n : Nat} {v : Nb} {l : List Nb} (h : Dx w base 1 v n l) : Sl w v l := by
 have hl := h.1
 rcases h.2 with ⟨rfl, rfl⟩ | ⟨b, c, rest, rfl, h2, h3, h4, h5⟩
 .exact ⟨_, _, _, rfl, by omega, by omega, fun h => by omega⟩
 .refine ⟨_, _, _, rfl, by omega, h5, fun _ => ⟨b, 0, rfl, fun i hi => ?_⟩⟩
  rw [h3.cell, LX, Mk (by omega)]
section
variable {P : Program} {w : Na} {t e : TypeId}
theorem Fb {b off : Nat} {l : List Nb} (h : ∀ i, i < l.length -> w.cell? ⟨b, off + i, none⟩ = l[i]?) : (loadCells ⟨b, off, none⟩ l.length).run P w = .ok l.toArray w := by
 have := Cp (P := P) h l.length (Md _)
 rwa [List.take_length] at this
theorem tJ {sz n : Nat} {v : Nb} {l : List Nb} (h : Cl w sz v n l) : (Builtin.firstCells sz n v).run P w = .ok l.toArray w := by
 obtain ⟨x, c, rfl, hl, hh⟩ := h
 cases x with
 | none =>
   have : n = 0 := by
    rcases Nat.eq_zero_or_pos n with h | h
    .exact h
    .obtain ⟨b, off, e, _⟩ := hh h; cases e
   subst this
   have : l = [] := ME.1 (by omega)
   subst this
   simp [Builtin.firstCells]
 | some x =>
   simp only [Builtin.firstCells]
   rw [<- hl]
   by_cases h0 : 0 < n
   .obtain ⟨b, off, e, h2⟩ := hh h0
    have e := Ms e; subst e
    exact Fb h2
   .have : n = 0 := by omega
    subst this
    have : l = [] := ME.1 (by omega)
    subst this
    simp [loadCells, loadCellsFrom]
theorem yZ (zs : Array Nb) (n : Nat) : (Builtin.zeroCells zs n).size = n * zs.size := by simp [Builtin.zeroCells]
theorem Ez (vs : List Nb) : ∀ (LN rest : List Nb), vs.length <= rest.length -> gE (LN ++ rest) LN.length vs = LN ++ vs ++ rest.drop vs.length := by
 induction vs with
 | nil => intro LN rest _; simp [gE]
 | cons v vs ih =>
   intro LN rest h
   cases rest with
   | nil => simp at h
   | cons r rest =>
     have := ih (LN ++ [v]) rest (by simpa using h)
     simp only [gE, L4, Mc, List.length_nil, Mi, Mz, MH] at this ⊢
     rw [List.drop_succ_cons, <- this, Mo _ _ (Md _), M8, L2, LX]
theorem Gc {S : Nat -> Prop} {sz n m : Nat} {i : TypeInfo} {z : Nb} {ty t2 e2 : TypeId} (hu : P.underlying t = some (.slice e)) (hu2 : P.underlying t2 = some (.slice e2)) (hi : P.info? e = some i) (hsz : i.size = sz) (hz : i.zero = some z) (hzs : z.cells.size = sz)
 {v x : Nb} {l news : List Nb} (h : yG w S sz v n l) (hx : Cl w sz x m news) (hone : ∀ y ∈ news, one y = true) (hb : ∀ b, w.heap.size <= b -> S b)
 (hn : n + m <= 9223372036854775807) (hbytes : (n + m) * i.bytes <= 140737488355328) (_hpos : i.bytes ≠ 0)
 {K : Nb -> Na -> Prop} (hk : ∀ v' w', yG w' S sz v' (n + m) (l ++ news) -> gB w w' S -> Cl w' sz v n l -> K v' w') : dQ P (pI .append #[t, t2] ty [v, x]) w K := by
 have hlx : (Builtin.lenOf x).run P w = .ok m w := by
  obtain ⟨a, c, rfl, _⟩ := hx; simp [Builtin.lenOf]
 have hnl := hx.choose_spec.choose_spec.2.1
 have hfx := tJ (P := P) hx
 have hmax : IntKind.i64.max = 9223372036854775807 := by decide
 have hnot : ¬ (((n + m : Nat) : Int) > IntKind.i64.max /\ (False ∨ i.bytes = 0)) := by rw [hmax]; omega
 have hz' : ∀ w, (zeroValue e).run P w = .ok z w := fun w => by simp [zeroValue, typeInfo, hi, hz]
 have hlen := h.1
 rcases h.2 with ⟨rfl, rfl⟩ | ⟨b, c, rest, rfl, h2, h3, h4, h5⟩
 .
  have hl0 : l = [] := ME.1 (by omega)
  subst hl0
  by_cases hm : m = 0
  .subst hm
   have hn0 : news = [] := ME.1 (by omega)
   subst hn0
   have : (pI .append #[t, t2] ty [.slice none 0 0, x]).run P w = .ok (.value (.slice none 0 0)) w := by
    unfold pI builtin
    simp only [Builtin.append_, MG, LO, LP]
    simp only [underlying, Sem.run_bind, run_program, Result.andThen_ok, hu, hu2, Sem.run_pure, hG hi, hsz, LQ, if_false, hlx, Md, Nat.add_zero, if_true, LV, hfx]
   unfold dQ
   rw [this]
   exact hk _ _ ⟨by simp, .inl ⟨rfl, by omega⟩⟩ (gB.refl _ _) ⟨none, 0, rfl, hlen, fun h => absurd h (by omega)⟩
  .have hfit := growslice_fits (need := 0 + m) (old := 0) (bytes := i.bytes) (by omega) (by omega)
   have hfit' : ¬ (Builtin.nextslicecap (0 + m) 0 * i.bytes > 2 ^ 48) := by omega
   have hle : ¬ (0 + m <= 0) := by omega
   have hq : (Question.appendCap (0 + m) 0 e).forced = false := rfl
   obtain ⟨r, hr⟩ : ∃ r, (Question.appendCap (0 + m) 0 e).cut (w.tape w.drawn (.appendCap (0 + m) 0 e)) = m + r :=
    ⟨(w.tape w.drawn (.appendCap (0 + m) 0 e)) % (2 ^ 63 - (0 + m)), by simp only [Question.cut]; omega⟩
   have : (pI .append #[t, t2] ty [.slice none 0 0, x]).run P w = .ok (.value (.slice (some ⟨w.heap.size, 0, none⟩) (0 + m) (m + r))) ((dr w).alloc (.cells (news ++ (Builtin.zeroCells z.cells (m + r - (0 + m))).toList).toArray e)) := by
    have hfx' := tJ (P := P) (w := dr w) hx
    unfold pI builtin
    simp only [Builtin.append_, MG, LO, LP]
    simp only [underlying, typeInfo, Sem.run_bind, run_program, Result.andThen_ok, hu, hu2, hi, Sem.run_pure, hG hi, hsz, LQ, if_false, hlx, hle, LV, if_true, hnot, hfit', run_choose, hq, hr, run_askRoom]
    change ((Sem.run P _ (dr w)).andThen _).andThen _ = _
    simp only [Sem.run_bind, hfx', run_firstCells_none, Result.andThen_ok, hz', Sem.run_pure, newRow, run_newObj]
    have e1 : (#[] ++ news.toArray ++ Builtin.zeroCells z.cells (m + r - (0 + m)) : Array Nb) = (news ++ (Builtin.zeroCells z.cells (m + r - (0 + m))).toList).toArray := by
     apply Array.ext'; simp
    rw [e1]
    rfl
   unfold dQ
   rw [this]
   refine hk _ _ ⟨by simp only [MH]; rw [hnl, LX], .inr ⟨w.heap.size, m + r, (Builtin.zeroCells z.cells (m + r - (0 + m))).toList, by rw [LX], hb _ (Md _), iA.alloc (dr w) _ _, ?_, by omega⟩⟩ ((gB.dr w _).seq (gB.alloc _ _ _)) ⟨none, 0, rfl, hlen, fun h => absurd h (by omega)⟩
   simp only [MH, L4, Array.length_toList, yZ, hzs, hnl]
   rw [show m + r - (0 + m) = r from by omega, MT]
 .by_cases hc : n + m <= c
  .
   have hroom : news.length <= rest.length := by
    rw [L4, hlen] at h4
    have : (n + m) * sz <= c * sz := Nat.mul_le_mul_right _ hc
    rw [MT] at this; omega
   obtain ⟨w', s1, s2, s3, s4, _⟩ := vF (P := P) (M := S) h2 news w (n * sz) 0 (l ++ rest) h3 (by rw [L4, hlen]; omega) hone
   have : (pI .append #[t, t2] ty [.slice (some ⟨b, 0, none⟩) n c, x]).run P w = .ok (.value (.slice (some ⟨b, 0, none⟩) (n + m) c)) w' := by
    unfold pI builtin
    simp only [Builtin.append_, MG, LO, LP]
    simp only [underlying, Sem.run_bind, run_program, Result.andThen_ok, hu, hu2, Sem.run_pure, hG hi, hsz, LQ, if_false, hlx, hc, if_true, LV, hfx, vN, LX, s1]
   unfold dQ
   rw [this]
   rw [Nat.add_zero, <- hlen, Ez _ _ _ hroom] at s2
   refine hk _ _ ⟨by rw [L4, hlen, hnl, MT], .inr ⟨b, c, rest.drop news.length, rfl, h2, s2, ?_, hc⟩⟩ s3 ⟨_, _, rfl, hlen, fun _ => ⟨b, 0, rfl, fun i hi => by
    rw [s2.cell, LX, Mi, Mk hi]⟩⟩
   rw [<- h4]; simp; omega
  .
   have hfit := growslice_fits (need := n + m) (old := c) (bytes := i.bytes) (by omega) hbytes
   have hfit' : ¬ (Builtin.nextslicecap (n + m) c * i.bytes > 2 ^ 48) := by omega
   have hq : (Question.appendCap (n + m) c e).forced = false := rfl
   obtain ⟨r, hr⟩ : ∃ r, (Question.appendCap (n + m) c e).cut (w.tape w.drawn (.appendCap (n + m) c e)) = n + m + r :=
    ⟨(w.tape w.drawn (.appendCap (n + m) c e)) % (2 ^ 63 - (n + m)), by simp only [Question.cut]⟩
   have hold : Cl (dr w) sz (.slice (some ⟨b, 0, none⟩) n c) n l := ⟨_, _, rfl, hlen, fun _ => ⟨b, 0, rfl, fun i hi => by
    show w.cell? _ = _
    rw [h3.cell, LX, Mk hi]⟩⟩
   have : (pI .append #[t, t2] ty [.slice (some ⟨b, 0, none⟩) n c, x]).run P w = .ok (.value (.slice (some ⟨w.heap.size, 0, none⟩) (n + m) (n + m + r))) ((dr w).alloc (.cells (l ++ news ++ (Builtin.zeroCells z.cells (n + m + r - (n + m))).toList).toArray e)) := by
    have hfx' := tJ (P := P) (w := dr w) hx
    have hfo := tJ (P := P) hold
    unfold pI builtin
    simp only [Builtin.append_, MG, LO, LP]
    simp only [underlying, typeInfo, Sem.run_bind, run_program, Result.andThen_ok, hu, hu2, hi, Sem.run_pure, hG hi, hsz, LQ, if_false, hlx, hc, LV, if_true, hnot, hfit', run_choose, hq, hr, run_askRoom]
    change ((Sem.run P _ (dr w)).andThen _).andThen _ = _
    simp only [Sem.run_bind, hfx', hfo, Result.andThen_ok, hz', Sem.run_pure, newRow, run_newObj]
    have e1 : (l.toArray ++ news.toArray ++ Builtin.zeroCells z.cells (n + m + r - (n + m)) : Array Nb) = (l ++ news ++ (Builtin.zeroCells z.cells (n + m + r - (n + m))).toList).toArray := by
     apply Array.ext'; simp
    rw [e1]
    rfl
   unfold dQ
   rw [this]
   refine hk _ _ ⟨by rw [L4, hlen, hnl, MT], .inr ⟨w.heap.size, n + m + r, _, rfl, hb _ (Md _), iA.alloc (dr w) _ _, ?_, by omega⟩⟩ ((gB.dr w _).seq (gB.alloc _ _ _)) ⟨_, _, rfl, hlen, fun _ => ⟨b, 0, rfl, fun i hi => by
    have o9 := h3.ext ((gB.dr w mZ).seq (gB.alloc (dr w) (.cells (l ++ news ++ (Builtin.zeroCells z.cells (n + m + r - (n + m))).toList).toArray e) mZ)) (fun h => h)
    rw [o9.cell, LX, Mk hi]⟩⟩
   simp only [L4, Array.length_toList, yZ, hzs, hnl, hlen]
   rw [show n + m + r - (n + m) = r from by omega, MT, MT]
theorem Ds {S : Nat -> Prop} {sz n m : Nat} {i : TypeInfo} {z : Nb} {ty t2 e2 : TypeId} (hu : P.underlying t = some (.slice e)) (hu2 : P.underlying t2 = some (.slice e2)) (hi : P.info? e = some i) (hsz : i.size = sz) (hz : i.zero = some z) (hzs : z.cells.size = sz)
 {v x : Nb} {l news : List Nb} (h : yG w S sz v n l) (hx : Cl w sz x m news) (hone : ∀ y ∈ news, one y = true) (hb : ∀ b, w.heap.size <= b -> S b)
 (hn : n + m <= 9223372036854775807) (hbytes : (n + m) * i.bytes <= 140737488355328) (_hpos : i.bytes ≠ 0)
 {K : Nb -> Na -> Prop} (hk : ∀ v' w', yG w' S sz v' (n + m) (l ++ news) -> gB w w' S -> K v' w') : dQ P (pI .append #[t, t2] ty [v, x]) w K :=
 Gc hu hu2 hi hsz hz hzs h hx hone hb hn hbytes _hpos fun v' w' a b _ => hk v' w' a b
theorem GD {base sz n m : Nat} {i : TypeInfo} {z : Nb} {ty t2 e2 : TypeId} (hu : P.underlying t = some (.slice e)) (hu2 : P.underlying t2 = some (.slice e2)) (hi : P.info? e = some i) (hsz : i.size = sz) (hz : i.zero = some z) (hzs : z.cells.size = sz)
 {v x : Nb} {l news : List Nb} (h : Dx w base sz v n l) (hx : Cl w sz x m news) (hone : ∀ y ∈ news, one y = true) (hb : base <= w.heap.size)
 (hn : n + m <= 9223372036854775807) (hbytes : (n + m) * i.bytes <= 140737488355328) (_hpos : i.bytes ≠ 0)
 {K : Nb -> Na -> Prop} (hk : ∀ v' w', Dx w' base sz v' (n + m) (l ++ news) -> gB w w' (fun y => base <= y) -> K v' w') : dQ P (pI .append #[t, t2] ty [v, x]) w K :=
 Ds (S := fun y => base <= y) hu hu2 hi hsz hz hzs h hx hone (fun _ h => Nat.le_trans hb h) hn hbytes _hpos hk
end
end Go.En

/- Parts of the proof of DecodeSkips: merged and given short names by a program of ours. -/
import Derived.Orders
import Derived.Below
import Derived.KernelRfl
import Derived.Eval
import Derived.RangeFuncRecord
import Derived.Laws.Sem
import Derived.Scope
import Derived.Test.YthohephggmkeeaaDoorRows
import Derived.Laws.IdiomStrings
set_option linter.unusedVariables false
set_option linter.unusedSimpArgs false
open Array renaming getElem?_setIfInBounds_self_of_lt → LL, getElem?_setIfInBounds_ne → LM, all_eq_true' → LQ, getD_eq_getD_getElem? → Lp, getElem?_eq_getElem → Ly, getElem?_modify → Mj, getElem?_eq_none → Mu, mem_of_getElem? → My
open Bool renaming or_eq_true → LS, not_eq_true' → LV, false_eq_true → Lh, not_false → Ll, not_true → Lm, and_eq_true → Lo, or_eq_false_iff → Mk, false_or → Mm
open List renaming append_assoc → L3, mem_cons → L5, length_eq_zero_iff → L7, length_cons → LA, all_eq_true → LI, getElem?_append_left → LJ, mem_range → LK, getD_eq_getElem?_getD → LN, set_append_right → LO, map_congr_left → LR, mem_append_left → LZ, getElem?_cons_zero → Lf, getElem?_cons_succ → Lg, length_map → Lq, getElem?_eq_getElem → Lr, set_cons_zero → Ls, length_take → Lt, length_drop → Lv, length_append → Lw, mem_cons_of_mem → Lx, take_succ_cons → Lz, getElem?_toArray → Mb, getElem?_take_of_lt → Mc, cons_append → Md, getElem?_eq_none → Mg, mem_append_right → Mh, drop_eq_getElem_cons → Mq, mem_append → Mr, nil_append → Ms
open Nat renaming mul_one → L9, le_refl → LB, eq_of_beq_eq_true → LC, zero_add → Ln, blt_eq → Me, lt_or_ge → Mf, le_of_ble_eq_true → Mi, add_assoc → Mn, add_mul → Mo, lt_of_lt_of_le → Mt
open Option renaming map_some → LH, getD_some → Ml
open Option.some renaming inj → LP
namespace Go.En
open Go
abbrev MA := World
abbrev MB := Value
abbrev Env := Nat -> MB
def put (g : Env) (d : Option Tmp) (v : MB) : Env :=
 match d with
 | some d => fun i => match Nat.beq i d with | true => v | false => g i
 | none => g
def ev (g : Env) : Operand -> MB
 | .tmp t => g t
 | .const v => v
 | .global b => .pointer (some ⟨b, 0, none⟩)
 | .func f => .func (.func f) #[] #[]
def KP (P : Program) (f : FuncId) (args : Array MB) (w : MA) (v : MB) (w' : MA) : Prop :=
 Calls P f args w fun e w'' => e = .returned v /\ w'' = w'
def fI (P : Program) (f : FuncId) (args : Array MB) (w : MA) (R : MB -> MA -> Prop) : Prop :=
 ∃ v w', KP P f args w v w' /\ R v w'
theorem fI.mono {P : Program} {f : FuncId} {args : Array MB} {w : MA} {R R' : MB -> MA -> Prop} (h : fI P f args w R)
 (hr : ∀ v w', R v w' -> R' v w') : fI P f args w R' :=
 let ⟨v, w', a, b⟩ := h; ⟨v, w', a, hr _ _ b⟩
def KA (P : Program) (l : Nat) (f : FuncId) (tmps : Array MB) (Le bd : Code) (w : MA) (v : MB) (w' : MA) : Prop :=
 RoundIn Fence.wide 0 P l f tmps Le bd w fun e w'' => e = .returned v /\ w'' = w'
def Kg (P : Program) (l : Nat) (f : FuncId) (tmps : Array MB) (Le bd : Code) (w : MA) (R : MB -> MA -> Prop) : Prop :=
 ∃ v w', KA P l f tmps Le bd w v w' /\ R v w'
def HI (P : Program) (r : Result Next) (K : MB -> MA -> Prop) : Prop :=
 match r with
 | .ok (.value v) w => K v w
 | .ok .skip w => K undef w
 | .ok (.enter f args) w => fI P f args w K
 | .ok (.round l f tmps Le bd) w => Kg P l f tmps Le bd w K
 | _ => False
theorem cQ (P : Program) (v : MB) (w : MA) (K : MB -> MA -> Prop) : HI P (.ok (.value v) w) K = K v w := Eq.trans rfl rfl
theorem stepR_skip (P : Program) (w : MA) (K : MB -> MA -> Prop) : HI P (.ok .skip w) K = K undef w := Eq.trans rfl rfl
def dQ (P : Program) (s : Sem Next) (w : MA) (K : MB -> MA -> Prop) : Prop := HI P (s.run P w) K
def fE (P : Program) (s : Sem Next) (v : MB) (w : MA) : Prop := s.run P w = .ok (.value v) w
def Gd (b : Bool) (s : (MB -> MA -> Prop) -> Prop) (w : MA) (K : MB -> MA -> Prop) : Prop :=
 match b with
 | true => s K
 | false => K undef w
def KW (v : MB) : Option Bool := match v with | .bool b => some b | _ => none
def jU (v : MB) (want : Bool) : Bool := KW v == some want
def lC (v : MB) (A B : Prop) : Prop :=
 match v with
 | .bool b => (match b with | true => A | false => B)
 | _ => False
def sC (ops : Array Oper) (j : Nat) : Option Tmp := (ops[j]?).bind (·.dst)
def pJ (g : Env) (t : Option Tmp) (want : Bool) : Bool := match t with | some t => jU (g t) want | none => false
def V (s : Sem MB) : Sem Next := do pure (.value (<- s))
def U (s : Sem Unit) : Sem Next := do s; pure .skip
def xU (op : BinOp) : Bool := match op with | .eql | .neq => true | _ => false
def fD (op : BinOp) (t : TypeId) (ox oy : Operand) (x y : MB) : Sem Next :=
 match xU op with
 | true => V (do eqGuard op t ox oy x y; binOp op t x y)
 | false => V (binOp op t x y)
def nR (b : Builtin) (ats : Array TypeId) (ty : TypeId) (args : List MB) : Sem Next := builtin b ats ty #[] args.toArray
def CR (f : MB) (args : List MB) : Sem Next := do let d <- Deferred.ofValue f args.toArray; invoke d.target d.args
def Jm (fn : Fn) (first captured : List MB) : Sem Next := V (Instr.makeFunc fn first.toArray captured.toArray)
def hX (t : TypeId) (ps : List (Nat × MB)) : Sem Next := V (Instr.build t ps.toArray)
def hZ (t : TypeId) (n : Nat) (ps : List (Nat × MB)) : Sem Next := V (Instr.buildSlice t n ps.toArray)
def yK (g : Env) (o : Oper) : Sem Next :=
 match o.op with
 | .binOp op t x y _ => fD op t x y (ev g x) (ev g y)
 | .makeFunc fn first captured => Jm fn (first.toList.map (ev g)) (captured.toList.map (ev g))
 | .build t ps => hX t (ps.toList.map fun p => (p.1, ev g p.2))
 | .buildSlice t n ps => hZ t n (ps.toList.map fun p => (p.1, ev g p.2))
 | .call c => (match c.callee with
   | .builtin b => nR b c.argTypes o.type (c.args.toList.map (ev g))
   | .value f => CR (ev g f) (c.args.toList.map (ev g))
   | _ => execOp (ev g) o)
 | _ => execOp (ev g) o
def vX (P : Program) (g : Env) (o : Oper) (w : MA) (K : MB -> MA -> Prop) : Prop :=
 match o.op with
 | .move x => K (ev g x) w
 | .assign x => K (ev g x) w
 | .call c => (match c.callee with
   | .value (.func f) => fI P f (c.args.toList.map (ev g)).toArray w K
   | _ => dQ P (yK g o) w K)
 | _ => dQ P (yK g o) w K
def uE (P : Program) (ops : Array Oper) (g : Env) (o : Oper) (w : MA) (K : MB -> MA -> Prop) : Prop :=
 match o.guard with
 | none => vX P g o w K
 | some (j, want) => Gd (pJ g (sC ops j) want) (vX P g o w) w K
def DW (P : Program) (ops : Array Oper) : List Oper -> Env -> MA -> (Env -> MA -> Prop) -> Prop
 | [], g, w, K => K g w
 | o :: rest, g, w, K => uE P ops g o w fun v w' => DW P ops rest (put g o.dst v) w' K
structure Rec where
 heavy : Bool
 o : Oper
 g : Env
 w : MA
 v : MB
def KD (ops : Array Oper) (o : Oper) (g : Env) : Bool := match o.guard with | none => true | some (j, want) => pJ g (sC ops j) want
def Gs (b : Bool) (p : Prop) : Prop := match b with | true => p | false => True
def BD (P : Program) (ops : Array Oper) (q : Rec) (o : Oper) (g : Env) (w' : MA) (v : MB) : Prop :=
 match q.heavy with
 | true => Gs (KD ops o g) (fE P (yK g o) v q.w)
 | false => Gs (KD ops q.o q.g) (fE P (yK q.g q.o) q.v w')
def DB (i j : Nat) : List (Nat × Nat) -> Bool
 | [] => false
 | (a, b) :: r => match Nat.beq a i with
   | true => (match Nat.beq b j with | true => true | false => DB i j r)
   | false => DB i j r
def kO (i : Nat) : List Nat -> Bool
 | [] => false
 | a :: r => match Nat.beq a i with | true => true | false => kO i r
def Fk : List Rec -> Nat -> Option Rec
 | [], _ => none
 | q :: _, 0 => some q
 | _ :: r, n + 1 => Fk r n
def Jh (P : Program) (ops : Array Oper) (o : Oper) (g : Env) (w' : MA) (v : MB) (hist : List Rec) : List Nat -> Prop
 | [] => True
 | k :: ks => (match Fk hist k with
   | some q => BD P ops q o g w' v
   | none => False) /\ Jh P ops o g w' v hist ks
abbrev GW := List Nat × List (Nat × Nat)
abbrev Fa := List (Bool × List Nat)
def lG (P : Program) (ops : Array Oper) : List Oper -> Fa -> List Rec -> Env -> MA -> (Env -> MA -> Prop) -> Prop
 | [], _, _, g, w, K => K g w
 | _ :: _, [], _, _, _, _ => False
 | o :: rest, (hv, ks) :: pl, hist, g, w, K =>
   uE P ops g o w fun v w' =>
    match hv, ks with
    | true, [] => lG P ops rest pl (⟨true, o, g, w, v⟩ :: hist) (put g o.dst v) w' K
    | true, k :: ks => Jh P ops o g w' v hist (k :: ks) /\ lG P ops rest pl (⟨true, o, g, w, v⟩ :: hist) (put g o.dst v) w' K
    | false, [] => w' = w /\ lG P ops rest pl (⟨false, o, g, w, v⟩ :: hist) (put g o.dst v) w K
    | false, k :: ks => w' = w /\ Jh P ops o g w v hist (k :: ks) /\ lG P ops rest pl (⟨false, o, g, w, v⟩ :: hist) (put g o.dst v) w K
def iW {α : Type} (F : (α -> MA -> Prop) -> α -> MA -> Prop) (g : α) (w : MA) : Prop :=
 ∃ I : Nat -> α -> MA -> Prop, (∃ n, I n g w) /\ ∀ n g w, I n g w -> F (fun g' w' => ∃ m, m < n /\ I m g' w') g w
def qE (K : Env -> MA -> Prop) (Q : Exit -> Env -> MA -> Prop) : Exit -> Env -> MA -> Prop :=
 fun e g w => (fun (_ : Program -> Sem Next -> MA -> (MB -> MA -> Prop) -> Prop) => match e with | .normal => K g w | e => Q e g w) dQ
def Jc (id : Nat) (Q : Exit -> Env -> MA -> Prop) : Exit -> Env -> MA -> Prop :=
 fun e g w => (fun (_ : Program -> Sem Next -> MA -> (MB -> MA -> Prop) -> Prop) => match e with | .exit i => (match Nat.beq i id with | true => Q .normal g w | false => Q (.exit i) g w) | e => Q e g w) dQ
inductive HT where
 | leaf (an : GW) (pl : Fa)
 | perm (π : List Nat) (es : List (Nat × Nat)) (an : GW) (pl : Fa)
 | split (a b : Nat) (x y : HT)
structure FA where
 f : FuncId
 t : Nat -> HT
def nZ : List Nat -> Nat -> Nat
 | [], _ => 0
 | a :: r, i => match Nat.beq a i with | true => 0 | false => nZ r i + 1
def uA (π : List Nat) (i : Nat) : List (Nat × Nat) -> List Edge
 | [] => []
 | (a, b) :: r => match Nat.beq b i with | true => ⟨nZ π a, .data⟩ :: uA π i r | false => uA π i r
def wG (π : List Nat) (es : List (Nat × Nat)) (i : Nat) (o : Oper) : Oper :=
 { dst := o.dst, op := o.op, type := o.type, pos := o.pos, after := (o.after.toList.map (fun e => (⟨nZ π e.on, e.ground⟩ : Edge)) ++ uA π i es).toArray,
   guard := match o.guard with | none => none | some (j, b) => some (nZ π j, b) }
def BY (π : List Nat) (es : List (Nat × Nat)) (l : List Oper) : List Nat -> List Oper
 | [] => []
 | i :: r => match l[i]? with | some o => wG π es i o :: BY π es l r | none => BY π es l r
def kG (π : List Nat) (es : List (Nat × Nat)) (ops : Array Oper) : Array Oper := (BY π es ops.toList π).toArray
def JE (f : FuncId) (id : Nat) (ops : Array Oper) (a b : Nat) (w : MA) : Bool :=
 Nat.ble ((Region.schedule true ops (w.tape w.drawn (.order f id))).idxOf a) ((Region.schedule true ops (w.tape w.drawn (.order f id))).idxOf b)
def Ord (b : Bool) (A B : Prop) : Prop := match b with | true => A | false => B
def FT (P : Program) (f : FuncId) (id : Nat) (ops : Array Oper) : HT -> Env -> MA -> MA -> (Env -> MA -> Prop) -> Prop
 | .leaf _ pl, g, _, w, K => lG P ops ops.toList pl [] g w K
 | .perm π es _ pl, g, _, w, K => lG P (kG π es ops) (kG π es ops).toList pl [] g w K
 | .split a b x y, g, w0, w, K => Ord (JE f id ops a b w0) (FT P f id ops x g w0 w K) (FT P f id ops y g w0 w K)
def DS : Nat := 1000003
def FK : MB -> List Deferred
 | .pointer (some a) => [{ target := .collected a.block, args := #[] }]
 | _ => []
def noMark : MB -> Bool
 | .pointer _ => false
 | _ => true
def tmpsOf (N : Nat) (g : Env) : Array MB := Array.ofFn (n := N) fun i => g i.val
def Hf (P : Program) (f : FuncId) : Nat := match P.funcs[f]? with | some fn => fn.ntmps | none => 0
def Ke (Q : Exit -> Env -> MA -> Prop) (g : Env) : Option Code -> MA -> Prop
 | none, w => Q .normal g w
 | some .ret, w => Q .ret g w
 | some (.exit i), w => Q (.exit i) g w
 | _, _ => False
def Kj (l : Nat) (Q : Exit -> Env -> MA -> Prop) (g : Env) (w : MA) : Prop :=
 ∃ r : Loop, w.heap[l]? = some (.loop r) /\ r.state ≠ .busy /\ Ke Q g r.pending (w.putObj l (.loop { r with state := .exhausted }))
def Kb (f : FuncId) (N : Nat) (ps : Array Tmp) (Le bd : Code) (g : Env) (w : MA) : MA :=
 (w.alloc (.deferred (some []))).alloc (.loop { state := .ready, pending := none, fn := f, tmps := tmpsOf N g, params := ps, assign := Le, body := bd, defers := w.heap.size })
def Kz (P : Program) (r : Result Next) (K : MB -> MA -> Prop) : Prop :=
 match r with
 | .ok (.enter f args) w => fI P f args w K
 | _ => False
def BJ (l : Nat) : MB := .func (.yield l) #[] #[]
def RF (P : Program) (f : FuncId) (gf : Operand) (ps : Array Tmp) (Le bd : Code) (Q : Exit -> Env -> MA -> Prop) (g : Env) (w : MA) : Prop :=
 match noMark (g DS) with
 | true => Kz P ((CR (ev g gf) [BJ (w.heap.size + 1)]).run P (Kb f (Hf P f) ps Le bd g w)) fun _ w3 =>
  Kj (w.heap.size + 1) Q (put g (some DS) (.pointer (some ⟨w.heap.size, 0, none⟩))) w3
 | false => False
def gK (P : Program) (ann : FA) : Code -> (Exit -> Env -> MA -> Prop) -> Env -> MA -> Prop
 | .skip, Q, g, w => Q .normal g w
 | .region id ops draw, Q, g, w => match draw with
   | false => DW P ops ops.toList g w (Q .normal)
   | true => FT P ann.f id ops (ann.t id) g w { w with drawn := w.drawn + 1 } (Q .normal)
 | .seq x y, Q, g, w => gK P ann x (qE (fun g w => gK P ann y Q g w) Q) g w
 | .cond c x y, Q, g, w => lC (ev g c) (gK P ann x Q g w) (gK P ann y Q g w)
 | .block id c, Q, g, w => gK P ann c (Jc id Q) g w
 | .loop c, Q, g, w => iW (fun X g w => gK P ann c (qE X Q) g w) g w
 | .scope c, Q, g, w => gK P ann c Q g w
 | .label _, Q, g, w => Q .normal g w
 | .exit id, Q, g, w => Q (.exit id) g w
 | .ret, Q, g, w => Q .ret g w
 | .rangeFunc gf ps Le bd, Q, g, w => RF P ann.f gf ps Le bd Q g w
 | _, _, _, _ => False
def GK (N : Nat) (o : Oper) : Bool := match o.dst with | some d => Nat.blt d N | none => true
def HC (b : Array Nat) (i j : Nat) : Bool := (b.getD j 0).testBit i
def looks (ops : Array Oper) (o : Oper) : List Tmp :=
 (o.op.operands.toList.filterMap fun | .tmp t => some t | _ => none) ++ (match o.guard with | some (j, _) => (sC ops j).toList | none => [])
def Ii (ops : Array Oper) (x y : Oper) : Bool :=
 (match x.dst with | some d => (looks ops y).contains d || y.dst == some d | none => false) ||
 (match y.dst with | some d => (looks ops x).contains d | none => false)
def C6 (o : Oper) : Bool := match o.op with | .select .. => true | _ => false
def Ia (o : Oper) : Bool := match o.op with | .call { callee := .value (.func _), .. } => true | _ => false
def Ef (o : Oper) : Bool := match o.op with | .defer .. => true | _ => false
def EA : Operand -> Bool | .tmp t => Nat.blt t DS | _ => true
def Dm (P : Program) (o : Oper) : Bool :=
 match o.op with
 | .call c => (match c.callee with
   | .value (.func f) => (match P.funcs[f]? with | some fn => fn.body.isSome && !(fn.name == "runtime.NumGoroutine") | none => false)
   | .builtin b => (match b with | .print | .println => false | _ => true)
   | _ => true)
 | _ => true
def qX (P : Program) (o : Oper) : Bool := Dm P o && (o.op.operands.toList.all EA && (!C6 o && !Ef o))
def zP (o : Oper) : Bool := match o.op with | .move _ | .assign _ => true | _ => false
def AV (ops : Array Oper) (b : Array Nat) (an : GW) (i j : Nat) (x y : Oper) : Bool :=
 HC b i j ||
 (!Ii ops x y &&
   match kO i an.1, kO j an.1 with
   | true, true => false
   | false, false => true
   | true, false => zP y || DB i j an.2
   | false, true => zP x || DB i j an.2)
def Fl (ops : Array Oper) (b : Array Nat) (an : GW) : Bool :=
 (List.range ops.size).all fun j => (List.range j).all fun i =>
  match ops[i]?, ops[j]? with
  | some x, some y => AV ops b an i j x y
  | _, _ => false
def Ek (ops : Array Oper) : Bool :=
 (List.range ops.size).all fun i => match ops[i]? with
  | some o => o.after.all fun e => !Region.binds .any e || Nat.blt e.on i
  | none => false
def Ei (ops : Array Oper) (b : Array Nat) : Bool :=
 (List.range ops.size).all fun j => (List.range ops.size).all fun i =>
  !HC b i j || (match ops[j]? with
   | some o => o.after.any fun e => Region.binds .any e && (Nat.beq e.on i || HC b i e.on)
   | none => false)
def Dz (ops : Array Oper) (an : GW) : Bool :=
 Ek ops && Ei ops (Region.before ops) && Fl ops (Region.before ops) an && (ops.all fun o => !C6 o) &&
  (List.range ops.size).all fun i => match ops[i]? with | some o => !Ia o || kO i an.1 | none => false
def Dq (n : Nat) (an : GW) (pl : Fa) : Bool :=
 (List.range n).all fun i => match pl[i]? with
  | some (h, ks) => h == kO i an.1 && an.2.all fun p => !Nat.beq p.2 i || (Nat.blt p.1 i && ks.contains (i - 1 - p.1))
  | none => false
def F2 (π : List Nat) (ops : Array Oper) : Bool :=
 Nat.beq π.length ops.size && ((List.range ops.size).all fun k => match π[k]? with | some i => Nat.beq (nZ π i) k && Nat.blt i ops.size | none => false) &&
  ((List.range ops.size).all fun i => match π[nZ π i]? with | some j => Nat.beq j i | none => false) &&
  ((List.range ops.size).all fun i => match ops[i]? with
    | some o => (o.after.all fun e => Nat.blt e.on ops.size) && (match o.guard with | some (j, _) => Nat.blt j ops.size | none => true)
    | none => false)
def BP (P : Program) (N : Nat) (ops : Array Oper) : List (Nat × Nat) -> HT -> Bool
 | _, .leaf an pl => Dz ops an && Dq ops.size an pl
 | path, .perm π es an pl => (es.all fun p => DB p.1 p.2 path && Nat.blt p.1 ops.size) && F2 π ops && (kG π es ops).all (GK N) && (kG π es ops).all (qX P) &&
  Dz (kG π es ops) an && Dq (kG π es ops).size an pl
 | path, .split a b x y => !Nat.beq a b && BP P N ops ((a, b) :: path) x && BP P N ops ((b, a) :: path) y
def codeOk (P : Program) (N : Nat) (ann : FA) : Code -> Bool
 | .skip | .exit _ | .ret | .label _ => true
 | .scope c => codeOk P N ann c
 | .region id ops draw => ops.all (GK N) && ops.all (qX P) && (!draw || BP P N ops [] (ann.t id))
 | .seq x y => codeOk P N ann x && codeOk P N ann y
 | .cond c x y => EA c && (codeOk P N ann x && codeOk P N ann y)
 | .block _ c => codeOk P N ann c
 | .loop c => codeOk P N ann c
 | .rangeFunc gf _ _ _ => EA gf
 | _ => false
def oF : Code -> Bool
 | .seq x y => oF x && oF y
 | .cond _ x y => oF x && oF y
 | .block _ c => oF c
 | .loop c => oF c
 | .scope c => oF c
 | .rangeFunc .. => false
 | _ => true
def Ff : ResultVar -> Bool
 | .tmp t => Nat.blt t DS
 | .cell a _ => Nat.blt a DS
theorem yA (g : Env) (d i : Nat) (v : MB) : put g (some d) v i = if i = d then v else g i := by
 unfold put
 by_cases h : i = d
 .subst h; simp
 .have : Nat.beq i d = false := by
   cases hb : Nat.beq i d
   .rfl
   .exact absurd (LC hb) h
  simp [this, h]
theorem FY {P : Program} {o : Oper} (h : qX P o = true) : Dm P o = true := by
 unfold qX at h; simp only [Lo] at h; exact h.1
theorem Gj {P : Program} {o : Oper} (h : qX P o = true) : ∀ x ∈ o.op.operands, EA x = true := by
 unfold qX at h; simp only [Lo] at h
 intro x hx
 exact LI.1 h.2.1 x (by simpa using hx)
theorem FZ {P : Program} {o : Oper} (h : qX P o = true) : C6 o = false := by
 unfold qX at h; simp only [Lo, LV] at h; exact h.2.2.1
theorem Gt {P : Program} {o : Oper} (h : qX P o = true) : Ef o = false := by
 unfold qX at h; simp only [Lo, LV] at h; exact h.2.2.2
def Bx (N : Nat) (ops : Array Oper) : Prop := ∀ (i : Nat) (o : Oper), ops[i]? = some o -> ∀ t, o.dst = some t -> t < N
structure A0 (N : Nat) (g : Env) (a : Act) : Prop where
 le : N <= DS
 defers : a.defers = FK (g DS)
 size : a.tmps.size = N
 at_ : ∀ i, i ≠ DS -> a.tmps.getD i undef = g i
theorem A0.ev {N : Nat} {g : Env} {a : Act} (h : A0 N g a) (x : Operand) (hx : EA x = true) : a.eval x = ev g x := by
 cases x with
 | tmp t =>
   have : t < DS := (Me (x := t) (y := DS)) ▸ hx
   have e := h.at_ t (Nat.ne_of_lt this)
   simp [Act.eval, En.ev, <- e]
 | _ => simp [Act.eval, En.ev]
theorem A0.put {N : Nat} {g : Env} {a : Act} (h : A0 N g a) (d : Option Tmp) (v : MB) (hd : ∀ t, d = some t -> t < N) :
 A0 N (put g d v) (a.put d v) := by
 cases d with
 | none => exact h
 | some t =>
   obtain ⟨h0, h1, h2, h3⟩ := h
   have ht := hd t rfl
   refine ⟨h0, ?_, by simp [Act.put, h2], fun i hne => ?_⟩
   .rw [yA, if_neg (Nat.ne_of_gt (Mt ht h0))]; exact h1
   .rw [yA, <- h3 i hne]
    by_cases hi : i = t
    .subst hi; simp [Act.put, h2, ht]
    .have hi' : t ≠ i := fun e => hi e.symm
     simp [Act.put, hi, LM hi']
theorem A0.wanted {N : Nat} {g : Env} {a : Act} (h : A0 N g a) (ops : Array Oper) (hd : Bx N ops) (o : Oper) :
 Region.wanted o (yielded ops a.tmps) = match o.guard with | none => true | some (j, want) => pJ g (sC ops j) want := by
 unfold Region.wanted
 cases o.guard with
 | none => rfl
 | some p =>
   obtain ⟨j, want⟩ := p
   simp only [yielded, pJ, sC]
   cases ho : ops[j]? with
   | none => simp
   | some o' =>
     cases hdd : o'.dst with
     | none => simp [hdd]
     | some t =>
       have hlt := hd j o' ho t hdd
       have hle := h.le
       have h3 := h.at_ t (Nat.ne_of_lt (Mt hlt hle))
       simp only [hdd, Option.bind_some, jU, KW, <- h3]
       simp only [Lp]
       cases ht : a.tmps[t]? with
       | none => simp [undef]
       | some v => cases v <;> simp
def KH (P : Program) (o : Oper) (a : Act) (next : Act -> MA -> Prop) : Result Next -> Prop
 | .ok (.value v) w' => next (a.put o.dst v) w'
 | .ok .skip w' => next (a.put o.dst undef) w'
 | .ok (.enter f args) w' => ∃ v w'', KP P f args w' v w'' /\ next (a.put o.dst v) w''
 | .ok (.round l f tmps Le bd) w' => ∃ v w'', KA P l f tmps Le bd w' v w'' /\ next (a.put o.dst v) w''
 | _ => False
def Gr (P : Program) (o : Oper) (a : Act) (w : MA) (next : Act -> MA -> Prop) : Prop := Ef o = false /\ KH P o a next ((execOp a.eval o).run P w)
def AH (P : Program) (ops : Array Oper) (i : Nat) (K : Act -> MA -> Prop) (a : Act) (w : MA) : Prop :=
 match ops[i]? with
 | none => K a w
 | some o => if Region.wanted o (yielded ops a.tmps) then Gr P o a w K else K (a.put o.dst undef) w
def rV (P : Program) (ops : Array Oper) (Q : Act -> MA -> Prop) : List Nat -> Act -> MA -> Prop
 | [], a, w => Q a w
 | i :: rest, a, w => AH P ops i (rV P ops Q rest) a w
def Dy (P : Program) (ops : Array Oper) (Q : Act -> MA -> Prop) : Nat -> Array Bool -> Act -> MA -> Prop
 | 0, listed, a, w => Region.ready .any ops listed = [] /\ Q a w
 | fuel + 1, listed, a, w =>
   (Region.ready .any ops listed = [] -> Q a w) /\ ∀ i ∈ Region.ready .any ops listed, AH P ops i (Dy P ops Q fuel (listed.setIfInBounds i true)) a w
theorem Ez {P : Program} {o : Oper} {a : Act} {w : MA} {K K' : Act -> MA -> Prop} (h : ∀ a w, K a w -> K' a w) (hh : Gr P o a w K) : Gr P o a w K' := by
 refine ⟨hh.1, ?_⟩
 have hh := hh.2
 generalize (execOp a.eval o).run P w = r at *
 cases r with
 | ok x w' =>
   cases x <;> simp only [KH] at hh ⊢ <;> first | exact h _ _ hh | (obtain ⟨v, w'', h1, h2⟩ := hh; exact ⟨v, w'', h1, h _ _ h2⟩) | exact hh
 | halt x w' => exact hh.elim
theorem GA {P : Program} {ops : Array Oper} {i : Nat} {a : Act} {w : MA} {K K' : Act -> MA -> Prop} (h : ∀ a w, K a w -> K' a w) (hh : AH P ops i K a w) : AH P ops i K' a w := by
 unfold AH at *
 split
 .exact h _ _ (by simpa [*] using hh)
 .rename_i o ho
  simp only [ho] at hh
  split
  .rename_i hw; simp only [hw, if_true] at hh; exact Ez h hh
  .rename_i hw; simp only [hw] at hh; exact h _ _ hh
def DF (ro : Option Nat) : Fence := { Fence.wide with round := ro }
theorem Hm {P : Program} {ops : Array Oper} {Q : Act -> MA -> Prop} (ro : Option Nat) : ∀ (L : List Nat) (a : Act) (w : MA), rV P ops Q L a w →
 wpOpsIn (DF ro) 0 P ops (fun e a w => e = .normal /\ Q a w) L a w := by
 intro L
 induction L with
 | nil => intro a w h; exact ⟨rfl, h⟩
 | cons i L ih =>
   intro a w h
   simp only [rV, AH] at h
   simp only [wpOpsIn]
   cases ho : ops[i]? with
   | none => rw [ho] at h; exact ih _ _ h
   | some o =>
     rw [ho] at h
     simp only at h ⊢
     by_cases hw : Region.wanted o (yielded ops a.tmps) = true
     .rw [if_pos hw] at h ⊢
      obtain ⟨hd, h⟩ := h
      refine ⟨fun _ _ => trivial, ?_⟩
      rw [Oper.semAt_eq _ _ _ (fun c hc => by simp [Ef, hc] at hd)]
      generalize (execOp a.eval o).run P w = r at *
      cases r with
      | halt x w' => exact h.elim
      | ok x w' =>
        cases x <;> simp only [KH] at h <;> simp only [Oper.uponIn] <;> try (exact h.elim)
        .exact ih _ _ h
        .exact ih _ _ h
        .obtain ⟨v, w'', h1, h2⟩ := h
         refine ⟨fun hn => by simp [DF, Fence.wide] at hn, ?_⟩
         have := callsIn_wide (n := 0).2 h1
         refine CallsIn.mono (F := DF ro) (n := 0) this ?_
         rintro e w3 ⟨rfl, rfl⟩
         exact ih _ _ h2
        .obtain ⟨v, w'', h1, h2⟩ := h
         refine ⟨fun hn => by simp [DF, Fence.wide] at hn, ?_⟩
         refine RoundIn.mono (F := DF ro) (n := 0) h1 ?_
         rintro e w3 ⟨rfl, rfl⟩
         exact ih _ _ h2
     .rw [if_neg hw] at h ⊢
      exact ⟨fun _ _ => trivial, ih _ _ h⟩
section
variable {P : Program} {ops : Array Oper}
def Dc (P : Program) (ops : Array Oper) (g : Env) (o : Oper) (w : MA) (v : MB) (w' : MA) : Prop :=
 ∀ K : MB -> MA -> Prop, K v w' -> uE P ops g o w K
theorem GI {s : Sem Next} {w : MA} {K : MB -> MA -> Prop} (h : dQ P s w K) :
 ∃ v w', (∀ K' : MB -> MA -> Prop, K' v w' -> dQ P s w K') /\ K v w' := by
 unfold dQ at *
 generalize s.run P w = r at *
 match r, h with
 | .ok (.value v) w1, h => exact ⟨v, w1, fun _ h' => h', h⟩
 | .ok .skip w1, h => exact ⟨undef, w1, fun _ h' => h', h⟩
 | .ok (.enter f args) w1, h =>
   obtain ⟨v, w', hr, hk⟩ := h
   exact ⟨v, w', fun _ h' => ⟨v, w', hr, h'⟩, hk⟩
 | .ok (.round l f tmps Le bd) w1, h =>
   obtain ⟨v, w', hr, hk⟩ := h
   exact ⟨v, w', fun _ h' => ⟨v, w', hr, h'⟩, hk⟩
theorem El {g : Env} {o : Oper} {w : MA} {K : MB -> MA -> Prop} (h : vX P g o w K) :
 ∃ v w', (∀ K' : MB -> MA -> Prop, K' v w' -> vX P g o w K') /\ K v w' := by
 unfold vX at *
 split at h
 .exact ⟨_, _, fun _ h' => h', h⟩
 .exact ⟨_, _, fun _ h' => h', h⟩
 .split at h
  .obtain ⟨v, w', a, b⟩ := h
   exact ⟨v, w', fun _ h' => ⟨v, w', a, h'⟩, b⟩
  .exact GI h
 .exact GI h
theorem I8 (op : BinOp) (t : TypeId) (ox oy : Operand) (x y : MB) : fD op t ox oy x y = V (do eqGuard op t ox oy x y; binOp op t x y) := by
 cases op <;> simp [fD, xU, eqGuard]
theorem IA {g : Env} {o : Oper} (ho : qX P o = true) : yK g o = execOp (ev g) o := by
 have ho := FY ho
 unfold yK
 split
 .rename_i op t x y yt hx
  simp only [execOp, hx, I8, V]
 .rename_i fn first captured hx
  have e1 : (List.map (ev g) first.toList).toArray = first.map (ev g) := by obtain ⟨l⟩ := first; simp
  have e2 : (List.map (ev g) captured.toList).toArray = captured.map (ev g) := by obtain ⟨l⟩ := captured; simp
  simp only [execOp, hx, Jm, V, e1, e2]
 .rename_i t ps hx
  have e : (List.map (fun p : Nat × Operand => (p.1, ev g p.2)) ps.toList).toArray = ps.map (fun p => (p.1, ev g p.2)) := by obtain ⟨l⟩ := ps; simp
  simp only [execOp, hx, hX, V, e]
 .rename_i t n ps hx
  have e : (List.map (fun p : Nat × Operand => (p.1, ev g p.2)) ps.toList).toArray = ps.map (fun p => (p.1, ev g p.2)) := by obtain ⟨l⟩ := ps; simp
  simp only [execOp, hx, hZ, V, e]
 .rename_i c hx
  split
  .rename_i b hb
   simp only [execOp, hx, resolve, hb, pure_bind, invoke, nR]
   unfold Dm at ho
   simp only [hx, hb] at ho
   have e : (List.map (ev g) c.args.toList).toArray = c.args.map (ev g) := by obtain ⟨l⟩ := c.args; simp
   rw [e]
   cases b <;> first | rfl | (cases ho)
  .rename_i f hb
   have e : (List.map (ev g) c.args.toList).toArray = c.args.map (ev g) := by obtain ⟨l⟩ := c.args; simp
   simp only [execOp, hx, resolve, hb, CR, e]
  .rfl
 .rfl
theorem ES {f : FuncId} {fn : Func} (hf : P.funcs[f]? = some fn) (hb : fn.body.isSome = true) (hn : (fn.name == "runtime.NumGoroutine") = false)
 (args : Array MB) (w : MA) : (callFunc f args).run P w = .ok (.enter f args) w := by
 unfold callFunc
 have hb' : fn.body.isNone = false := by cases h : fn.body <;> simp_all
 show Sem.run P (Sem.program fun p => _) w = _
 simp only [Sem.run]
 simp only [bind, Sem.bind, hf, hn, hb', Lh, if_false]
 rfl
theorem zO {g : Env} {o : Oper} {w : MA} {K : MB -> MA -> Prop} (h : uE P ops g o w K) :
 ∃ v w', Dc P ops g o w v w' /\ K v w' := by
 unfold Dc
 unfold uE at *
 split at h
 .obtain ⟨v, w', h1, h2⟩ := El h
  exact ⟨v, w', h1, h2⟩
 .rename_i j want hg
  unfold Gd at *
  cases hb : pJ g (sC ops j) want with
  | true =>
    simp only [hb] at h
    obtain ⟨v, w', h1, h2⟩ := El h
    exact ⟨v, w', fun K hk => h1 K hk, h2⟩
  | false =>
    simp only [hb] at h
    exact ⟨_, _, fun K hk => hk, h⟩
theorem C2 {N i : Nat} {g : Env} {a : Act} {o : Oper} {w w' : MA} {v : MB} {next : Act -> MA -> Prop}
 (hi : ops[i]? = some o) (hc : qX P o = true) (hd : Bx N ops) (hr : A0 N g a) (hy : Dc P ops g o w v w') (hn : next (a.put o.dst v) w') : AH P ops i next a w := by
 have h := hy (fun v2 w2 => v2 = v /\ w2 = w') ⟨rfl, rfl⟩
 unfold AH
 rw [hi]
 simp only [hr.wanted ops hd]
 have run : vX P g o w (fun v2 w2 => v2 = v /\ w2 = w') -> Gr P o a w next := by
  intro h
  refine ⟨Gt hc, ?_⟩
  have hevs : execOp a.eval o = execOp (ev g) o := execOp_congr o (fun cs b he => by have := FZ hc; simp [C6, he] at this) (fun x hx => hr.ev x (Gj hc x hx))
  have stp : dQ P (yK g o) w (fun v2 w2 => v2 = v /\ w2 = w') -> KH P o a next ((execOp (ev g) o).run P w) := by
   intro h
   rw [IA hc] at h
   unfold dQ at h
   generalize (execOp (ev g) o).run P w = r at *
   match r, h with
   | .ok (.value v) w1, h => obtain ⟨rfl, rfl⟩ := h; exact hn
   | .ok .skip w1, h => obtain ⟨rfl, rfl⟩ := h; exact hn
   | .ok (.enter f args) w1, h =>
     obtain ⟨v2, w2, hret, rfl, rfl⟩ := h
     exact ⟨_, _, hret, hn⟩
   | .ok (.round l f tmps Le bd) w1, h =>
     obtain ⟨v2, w2, hret, rfl, rfl⟩ := h
     exact ⟨_, _, hret, hn⟩
  rw [hevs]
  unfold vX at h
  split at h
  .rename_i x hx
   obtain ⟨rfl, rfl⟩ := h
   simp only [execOp, hx]; exact hn
  .rename_i x hx
   obtain ⟨rfl, rfl⟩ := h
   simp only [execOp, hx]; exact hn
  .rename_i c hx
   split at h
   .rename_i f hcal
    obtain ⟨v2, w2, hret, rfl, rfl⟩ := h
    have e : (execOp (ev g) o).run P w = .ok (.enter f (List.map (ev g) c.args.toList).toArray) w := by
     have hc := FY hc
     unfold Dm at hc
     simp only [hx, hcal] at hc
     cases hfn : P.funcs[f]? with
     | none => rw [hfn] at hc; cases hc
     | some fn =>
       rw [hfn] at hc
       simp only [Lo, LV] at hc
       have ea : (List.map (ev g) c.args.toList).toArray = c.args.map (ev g) := by obtain ⟨l⟩ := c.args; simp
       rw [ea]
       simp only [execOp, hx, resolve, hcal, ev, Deferred.ofValue, pure_bind, invoke]
       simp only [Array.empty_append, Array.append_empty]
       exact ES hfn hc.1 hc.2 _ w
    rw [e]
    exact ⟨_, _, hret, hn⟩
   .exact stp h
  .exact stp h
 unfold uE at h
 cases hg : o.guard with
 | none =>
   rw [hg] at h
   simp only [if_true]
   exact run h
 | some p =>
   obtain ⟨j, want⟩ := p
   simp only [hg] at h
   simp only
   by_cases hb : pJ g (sC ops j) want = true
   .rw [if_pos hb]
    simp only [hb, Gd] at h
    exact run h
   .rw [if_neg hb]
    have hb' : pJ g (sC ops j) want = false := by simpa using hb
    simp only [hb', Gd] at h
    obtain ⟨rfl, rfl⟩ := h
    exact hn
def B4 (P : Program) (ops : Array Oper) : Prop := ∀ (i : Nat) (o : Oper), ops[i]? = some o -> qX P o = true
theorem Hk {N : Nat} (hd : Bx N ops) (hca : B4 P ops) {Q : Act -> MA -> Prop} {K : Env -> MA -> Prop}
 (hQ : ∀ g a w, A0 N g a -> K g w -> Q a w) :
 ∀ (l : List Oper) (k : Nat) (g : Env) (a : Act) (w : MA), (∀ j, l[j]? = ops[k + j]?) -> A0 N g a -> DW P ops l g w K →
   rV P ops Q (List.range' k l.length) a w := by
 intro l
 induction l with
 | nil => intro k g a w _ hr h; exact hQ _ _ _ hr h
 | cons o l ih =>
   intro k g a w hl hr h
   have h0 : ops[k]? = some o := by have := hl 0; simpa using this.symm
   obtain ⟨v, w', hy, hk⟩ := zO h
   rw [LA, List.range'_succ]
   show AH P ops k (rV P ops Q _) a w
   refine C2 h0 (hca k o h0) hd hr hy ?_
   refine ih (k + 1) _ _ _ (fun j => ?_) (hr.put _ _ (hd k o h0)) hk
   have := hl (j + 1)
   simp only [Lg] at this
   rw [this]; congr 1; omega
def CX (an : GW) (O : Nat -> Oper) (G : Nat -> Env) (W : Nat -> MA) (V : Nat -> MB) (i : Nat) : Rec :=
 ⟨kO i an.1, O i, G i, W i, V i⟩
def GR (P : Program) (ops : Array Oper) (an : GW) (O : Nat -> Oper) (G : Nat -> Env) (W : Nat -> MA) (V : Nat -> MB) (i j : Nat) : Prop :=
 BD P ops (CX an O G W V i) (O j) (G j) (W (j + 1)) (V j)
structure HD (P : Program) (ops : Array Oper) (an : GW) (g0 : Env) (w0 : MA) (n : Nat) (O : Nat -> Oper) (G : Nat -> Env) (W : Nat -> MA) (V : Nat -> MB) : Prop where
 g0 : G 0 = g0
 w0 : W 0 = w0
 op : ∀ i, i < n -> ops[i]? = some (O i)
 yld : ∀ i, i < n -> Dc P ops (G i) (O i) (W i) (V i) (W (i + 1))
 light : ∀ i, i < n -> kO i an.1 = false -> W (i + 1) = W i
 env : ∀ i, i < n -> G (i + 1) = put (G i) (O i).dst (V i)
 chk : ∀ i j, i < j -> j < n -> DB i j an.2 = true -> GR P ops an O G W V i j
theorem Fj {o : Oper} {g : Env} {w' : MA} {v : MB} {hist : List Rec} : ∀ {ks : List Nat}, Jh P ops o g w' v hist ks -> ∀ k ∈ ks, ∃ q, Fk hist k = some q /\ BD P ops q o g w' v := by
 intro ks
 induction ks with
 | nil => intro _ k hk; cases hk
 | cons a ks ih =>
   rintro ⟨h1, h2⟩ k hk
   rcases L5.1 hk with rfl | hk
   .cases hn : Fk hist k with
    | none => rw [hn] at h1; exact h1.elim
    | some q => rw [hn] at h1; exact ⟨q, rfl, h1⟩
   .exact ih h2 k hk
theorem G4 {n : Nat} {an : GW} {pl : Fa} (h : Dq n an pl = true) {i : Nat} (hi : i < n) :
 ∃ ks, pl[i]? = some (kO i an.1, ks) /\ ∀ j, DB j i an.2 = true -> j < i /\ (i - 1 - j) ∈ ks := by
 have := LI.1 h i (LK.2 hi)
 cases hp : pl[i]? with
 | none => rw [hp] at this; cases this
 | some p =>
   obtain ⟨hv, ks⟩ := p
   rw [hp] at this
   simp only [Lo] at this
   obtain ⟨h1, h2⟩ := this
   have h1 : hv = kO i an.1 := by simpa using h1
   refine ⟨ks, by rw [h1], fun j hj => ?_⟩
   have mm : ∀ (l : List (Nat × Nat)), DB j i l = true -> (j, i) ∈ l := by
    intro l
    induction l with
    | nil => intro h; cases h
    | cons q r ih =>
      obtain ⟨a, b⟩ := q
      intro h
      unfold DB at h
      cases ha : Nat.beq a j with
      | true =>
        simp only [ha] at h
        cases hb : Nat.beq b i with
        | true =>
          obtain rfl := LC ha
          obtain rfl := LC hb
          exact List.mem_cons_self
        | false => simp only [hb] at h; exact Lx _ (ih h)
      | false => simp only [ha] at h; exact Lx _ (ih h)
   have := LI.1 h2 (j, i) (mm _ hj)
   simp only [Nat.beq_refl, Lm, Mm, Lo] at this
   refine ⟨?_, by simpa using this.2⟩
   have hlt := this.1
   exact (Me (x := j) (y := i)) ▸ hlt
theorem FF {an : GW} {pl : Fa} {g0 : Env} {w0 : MA} {K : Env -> MA -> Prop} (hpl : Dq ops.size an pl = true) :
 ∀ (l : List Oper) (m : Nat) (hist : List Rec) (O : Nat -> Oper) (G : Nat -> Env) (W : Nat -> MA) (V : Nat -> MB),
   (∀ j, l[j]? = ops[m + j]?) -> m + l.length = ops.size -> HD P ops an g0 w0 m O G W V -> (∀ i, i < m -> Fk hist (m - 1 - i) = some (CX an O G W V i)) →
   lG P ops l (pl.drop m) hist (G m) (W m) K →
   ∃ (O : Nat -> Oper) (G : Nat -> Env) (W : Nat -> MA) (V : Nat -> MB), HD P ops an g0 w0 (m + l.length) O G W V /\ K (G (m + l.length)) (W (m + l.length)) := by
 intro l
 induction l with
 | nil => intro m hist O G W V _ _ hr _ h; exact ⟨O, G, W, V, hr, by unfold lG at h; exact h⟩
 | cons o l ih =>
   intro m hist O G W V hl hlen hr hh h
   have h0 : ops[m]? = some o := by have := hl 0; simpa using this.symm
   have hmn : m < ops.size := by rw [LA] at hlen; omega
   obtain ⟨ks, hk1, hk2⟩ := G4 hpl hmn
   have hdrop : pl.drop m = (kO m an.1, ks) :: pl.drop (m + 1) := by
    have hlt : m < pl.length := by
     rcases Mf m pl.length with h | h
     .exact h
     .rw [Mg h] at hk1; cases hk1
    rw [Mq hlt]
    rw [Lr hlt] at hk1
    rw [LP hk1]
   rw [hdrop] at h
   obtain ⟨v, w', hy, hk⟩ := zO h
   have key : (kO m an.1 = false -> w' = W m) /\ (∀ k ∈ ks, ∃ q, Fk hist k = some q /\ BD P ops q o (G m) w' v) /\
       (lG P ops l (pl.drop (m + 1)) (⟨kO m an.1, o, G m, W m, v⟩ :: hist) (put (G m) o.dst v) w' K) := by
    have nil : ∀ w', ∀ k ∈ ([] : List Nat), ∃ q, Fk hist k = some q /\ BD P ops q o (G m) w' v := fun _ k hk => (by cases hk)
    cases hm : kO m an.1 with
    | true =>
      rw [hm] at hk
      cases ks with
      | nil => exact ⟨fun e => (by cases e), nil _, hk⟩
      | cons k ks => exact ⟨fun e => (by cases e), Fj hk.1, hk.2⟩
    | false =>
      rw [hm] at hk
      cases ks with
      | nil => obtain ⟨rfl, hk⟩ := hk; exact ⟨fun _ => rfl, nil _, hk⟩
      | cons k ks => obtain ⟨rfl, hc, hk⟩ := hk; exact ⟨fun _ => rfl, Fj hc, hk⟩
   obtain ⟨kl, c1, c2⟩ := key
   let O' : Nat -> Oper := fun i => if i = m then o else O i
   let V' : Nat -> MB := fun i => if i = m then v else V i
   let G' : Nat -> Env := fun i => if i = m + 1 then put (G m) o.dst v else G i
   let W' : Nat -> MA := fun i => if i = m + 1 then w' else W i
   have eO : ∀ i, i < m -> O' i = O i := fun i hi => if_neg (by omega)
   have eV : ∀ i, i < m -> V' i = V i := fun i hi => if_neg (by omega)
   have eG : ∀ i, i <= m -> G' i = G i := fun i hi => if_neg (by omega)
   have eW : ∀ i, i <= m -> W' i = W i := fun i hi => if_neg (by omega)
   have oO : O' m = o := if_pos rfl
   have oV : V' m = v := if_pos rfl
   have oG : G' (m + 1) = put (G m) o.dst v := if_pos rfl
   have oW : W' (m + 1) = w' := if_pos rfl
   have eR : ∀ i, i < m -> CX an O' G' W' V' i = CX an O G W V i := fun i hi => by
    simp only [CX, eO i hi, eV i hi, eG i (by omega), eW i (by omega)]
   have hr' : HD P ops an g0 w0 (m + 1) O' G' W' V' := by
    refine ⟨by rw [eG 0 (by omega)]; exact hr.g0, by rw [eW 0 (by omega)]; exact hr.w0, fun i hi => ?_, fun i hi => ?_, fun i hi hm => ?_, fun i hi => ?_, fun i j hij hj hm => ?_⟩
    .by_cases hi' : i = m
     .subst hi'; rw [oO]; exact h0
     .rw [eO i (by omega)]; exact hr.op i (by omega)
    .by_cases hi' : i = m
     .subst hi'; rw [oO, oV, oW, eG i (by omega), eW i (by omega)]; exact hy
     .rw [eO i (by omega), eV i (by omega), eG i (by omega), eW i (by omega), eW (i + 1) (by omega)]; exact hr.yld i (by omega)
    .by_cases hi' : i = m
     .subst hi'; rw [oW, eW i (by omega)]; exact kl hm
     .rw [eW i (by omega), eW (i + 1) (by omega)]; exact hr.light i (by omega) hm
    .by_cases hi' : i = m
     .subst hi'; rw [oO, oV, oG, eG i (by omega)]
     .rw [eO i (by omega), eV i (by omega), eG i (by omega), eG (i + 1) (by omega)]; exact hr.env i (by omega)
    .unfold GR
     by_cases hj' : j = m
     .subst hj'
      rw [eR i (by omega), oO, oV, oW, eG j (by omega)]
      obtain ⟨q, hq, hc⟩ := c1 _ (hk2 i hm).2
      rw [hh i hij] at hq
      obtain rfl := LP hq
      exact hc
     .rw [eR i (by omega), eO j (by omega), eV j (by omega), eG j (by omega), eW (j + 1) (by omega)]
      exact hr.chk i j hij (by omega) hm
   have := ih (m + 1) (⟨kO m an.1, o, G m, W m, v⟩ :: hist) O' G' W' V' (fun j => by
       have := hl (j + 1)
       simp only [Lg] at this
       rw [this]; congr 1; omega) (by rw [LA] at hlen; omega) hr' (fun i hi => by
       by_cases hi' : i = m
       .subst hi'
        rw [show i + 1 - 1 - i = 0 from by omega]
        simp only [Fk, CX, oO, oV, eG i (by omega), eW i (by omega)]
       .rw [eR i (by omega), show m + 1 - 1 - i = (m - 1 - i) + 1 from by omega]
        exact hh i (by omega)) (by rw [oG, oW]; exact c2)
   rw [LA, show m + (l.length + 1) = m + 1 + l.length from by omega]
   exact this
end
section
variable {P : Program} {ops : Array Oper} {an : GW} {g0 : Env} {w0 : MA} {O : Nat -> Oper} {G : Nat -> Env} {W : Nat -> MA} {V : Nat -> MB}
def zE (n : Nat) (O : Nat -> Oper) (V : Nat -> MB) (g0 : Env) (S : Nat -> Prop) (g : Env) : Prop :=
 ∀ s, (∃ j, j < n /\ S j /\ (O j).dst = some s /\ (∀ k, k < n -> S k -> (O k).dst = some s -> k <= j) /\ g s = V j) ∨
   ((∀ j, j < n -> S j -> (O j).dst ≠ some s) /\ g s = g0 s)
theorem zE.agree {n : Nat} {S T : Nat -> Prop} {g g' : Env} (h : zE n O V g0 S g) (h' : zE n O V g0 T g') (s : Nat)
 (hs : ∀ j, j < n -> (O j).dst = some s -> (S j ↔ T j)) : g s = g' s := by
 rcases h s with ⟨j, h1, h2, h3, h4, h5⟩ | ⟨h1, h2⟩ <;> rcases h' s with ⟨k, k1, k2, k3, k4, k5⟩ | ⟨k1, k2⟩
 .have a := h4 k k1 ((hs k k1 k3).2 k2) k3
  have b := k4 j h1 ((hs j h1 h3).1 h2) h3
  have : j = k := by omega
  subst this; rw [h5, k5]
 .exact absurd h3 (k1 j h1 ((hs j h1 h3).1 h2))
 .exact absurd k3 (h1 k k1 ((hs k k1 k3).2 k2))
 .rw [h2, k2]
theorem zE.step {n : Nat} {S : Nat -> Prop} {g : Env} (h : zE n O V g0 S g) (i : Nat) (hi : i < n)
 (hw : ∀ s, (O i).dst = some s -> ∀ j, j < n -> j ≠ i -> (O j).dst = some s -> S j -> j < i) :
 zE n O V g0 (fun j => S j ∨ j = i) (put g (O i).dst (V i)) := by
 intro s
 cases hd : (O i).dst with
 | none =>
   rcases h s with ⟨j, h1, h2, h3, h4, h5⟩ | ⟨h1, h2⟩
   .refine .inl ⟨j, h1, .inl h2, h3, fun k k1 k2 k3 => ?_, h5⟩
    rcases k2 with k2 | rfl
    .exact h4 k k1 k2 k3
    .rw [hd] at k3; cases k3
   .refine .inr ⟨fun j h3 h4 h5 => ?_, h2⟩
    rcases h4 with h4 | rfl
    .exact h1 j h3 h4 h5
    .rw [hd] at h5; cases h5
 | some t =>
   rw [yA]
   by_cases hst : s = t
   .subst hst
    rw [if_pos rfl]
    refine .inl ⟨i, hi, .inr rfl, hd, fun k k1 k2 k3 => ?_, rfl⟩
    rcases k2 with k2 | rfl
    .by_cases hk : k = i
     .omega
     .have := hw s hd k k1 hk k3 k2; omega
    .omega
   .rw [if_neg hst]
    rcases h s with ⟨j, h1, h2, h3, h4, h5⟩ | ⟨h1, h2⟩
    .refine .inl ⟨j, h1, .inl h2, h3, fun k k1 k2 k3 => ?_, h5⟩
     rcases k2 with k2 | rfl
     .exact h4 k k1 k2 k3
     .rw [hd] at k3; exact absurd (LP k3).symm hst
    .refine .inr ⟨fun j h3 h4 h5 => ?_, h2⟩
     rcases h4 with h4 | rfl
     .exact h1 j h3 h4 h5
     .rw [hd] at h5; exact absurd (LP h5).symm hst
theorem HD.envFor {n : Nat} (r : HD P ops an g0 w0 n O G W V) : ∀ i, i <= n -> zE n O V g0 (fun j => j < i) (G i) := by
 intro i
 induction i with
 | zero => intro _ s; exact .inr ⟨fun j _ h => absurd h (by omega), by rw [r.g0]⟩
 | succ i ih =>
   intro hi
   have h := ih (by omega)
   have := h.step (V := V) i (by omega) (fun s _ j _ _ _ hj => hj)
   rw [<- r.env i (by omega)] at this
   intro s
   rcases this s with ⟨j, h1, h2, h3, h4, h5⟩ | ⟨h1, h2⟩
   .exact .inl ⟨j, h1, by omega, h3, fun k k1 k2 k3 => h4 k k1 (by omega) k3, h5⟩
   .exact .inr ⟨fun j a b => h1 j a (by omega), h2⟩
theorem HD.still {n : Nat} (r : HD P ops an g0 w0 n O G W V) (i : Nat) : ∀ d, i + d <= n -> (∀ h, i <= h -> h < i + d -> kO h an.1 = false) -> W (i + d) = W i := by
 intro d
 induction d with
 | zero => intro _ _; rfl
 | succ d ih =>
   intro h1 h2
   rw [<- Mn, r.light (i + d) (by omega) (h2 _ (by omega) (by omega))]
   exact ih (by omega) (fun h a b => h2 h a (by omega))
theorem HD.still' {n : Nat} (r : HD P ops an g0 w0 n O G W V) {i k : Nat} (hik : i <= k) (hk : k <= n) (hh : ∀ h, i <= h -> h < k -> kO h an.1 = false) : W k = W i := by
 have := r.still i (k - i) (by omega) (fun h a b => hh h a (by omega))
 rwa [show i + (k - i) = k from by omega] at this
theorem FI {i k : Nat} : (∃ h, i <= h /\ h < k /\ kO h an.1 = true) -> ∃ h, i <= h /\ h < k /\ kO h an.1 = true /\ ∀ h', i <= h' -> h' < h -> kO h' an.1 = false := by
 rintro ⟨h, h1, h2, h3⟩
 induction h using Nat.strongRecOn with
 | _ h ih =>
   by_cases hx : ∃ h', i <= h' /\ h' < h /\ kO h' an.1 = true
   .obtain ⟨h', a, b, c⟩ := hx
    exact ih h' b a (by omega) c
   .refine ⟨h, h1, h2, h3, fun h' a b => ?_⟩
    cases hm : kO h' an.1
    .rfl
    .exact absurd ⟨h', a, b, hm⟩ hx
theorem Dx {i k : Nat} : (∃ h, i <= h /\ h < k /\ kO h an.1 = true) -> ∃ h, i <= h /\ h < k /\ kO h an.1 = true /\ ∀ h', h < h' -> h' < k -> kO h' an.1 = false := by
 rintro ⟨h, h1, h2, h3⟩
 induction hd : k - h using Nat.strongRecOn generalizing h with
 | _ d ih =>
   by_cases hx : ∃ h', h < h' /\ h' < k /\ kO h' an.1 = true
   .obtain ⟨h', a, b, c⟩ := hx
    exact ih (k - h') (by omega) h' (by omega) b c rfl
   .refine ⟨h, h1, h2, h3, fun h' a b => ?_⟩
    cases hm : kO h' an.1
    .rfl
    .exact absurd ⟨h', a, b, hm⟩ hx
structure Dr (ops : Array Oper) (an : GW) (O : Nat -> Oper) (b : Array Nat) : Prop where
 back : ∀ i, i < ops.size -> ∀ e ∈ (O i).after, Region.binds .any e = true -> e.on < i
 closed : ∀ i j, i < ops.size -> j < ops.size -> HC b i j = true -> ∃ e ∈ (O j).after, Region.binds .any e = true /\ (e.on = i ∨ HC b i e.on = true)
 pair : ∀ i j, i < j -> j < ops.size -> AV ops b an i j (O i) (O j) = true
 sel : ∀ i, i < ops.size -> C6 (O i) = false
 fn : ∀ i, i < ops.size -> Ia (O i) = true -> kO i an.1 = true
theorem G8 (h : Dz ops an = true) (ho : ∀ i, i < ops.size -> ops[i]? = some (O i)) : Dr ops an O (Region.before ops) := by
 unfold Dz at h
 simp only [Lo] at h
 obtain ⟨⟨⟨⟨h1, h2⟩, h3⟩, h5⟩, h6⟩ := h
 refine ⟨fun i hi e he hb => ?_, fun i j hi hj hb => ?_, fun i j hij hj => ?_, fun i hi => ?_, fun i hi hf => ?_⟩
 .unfold Ek at h1
  have := LI.1 h1 i (LK.2 hi)
  rw [ho i hi] at this
  have := LQ.1 this e he
  simp only [hb, Lm, Mm] at this
  exact (Me (x := e.on) (y := i)) ▸ this
 .unfold Ei at h2
  have := LI.1 (LI.1 h2 j (LK.2 hj)) i (LK.2 hi)
  rw [ho j hj] at this
  simp only [hb, Lm, Mm] at this
  obtain ⟨e, he, h⟩ := Array.any_eq_true'.1 this
  simp only [Lo, LS] at h
  refine ⟨e, he, h.1, h.2.imp (fun h => LC h) id⟩
 .unfold Fl at h3
  have := LI.1 (LI.1 h3 j (LK.2 hj)) i (LK.2 hij)
  rw [ho i (by omega), ho j hj] at this
  exact this
 .have := LQ.1 h5 (O i) (My (ho i hi))
  simpa using this
 .have := LI.1 h6 i (LK.2 hi)
  rw [ho i hi] at this
  simpa [hf] using this
theorem IC {i j : Nat} : ∀ {l : List (Nat × Nat)}, DB i j l = true -> (i, j) ∈ l := by
 intro l
 induction l with
 | nil => intro h; cases h
 | cons p r ih =>
   obtain ⟨a, b⟩ := p
   intro h
   unfold DB at h
   cases ha : Nat.beq a i with
   | true =>
     simp only [ha] at h
     cases hb : Nat.beq b j with
     | true =>
       obtain rfl := LC ha
       obtain rfl := LC hb
       exact List.mem_cons_self
     | false => simp only [hb] at h; exact Lx _ (ih h)
   | false => simp only [ha] at h; exact Lx _ (ih h)
theorem Dr.order {b : Array Nat} (st : Dr ops an O b) {S : Nat -> Prop} {i : Nat} (hi : i < ops.size)
 (hdown : ∀ j k, j < ops.size -> k < ops.size -> S k -> HC b j k = true -> S j) (hbi : ∀ j, j < ops.size -> HC b j i = true -> S j) (hni : ¬ S i)
 {s : Nat} (hs : s ∈ looks ops (O i) ∨ (O i).dst = some s) {j : Nat} (hj : j < ops.size) (hji : j ≠ i) (hd : (O j).dst = some s) : S j ↔ j < i := by
 rcases Mf j i with h | h
 .refine ⟨fun _ => h, fun _ => ?_⟩
  have p := st.pair j i h hi
  unfold AV at p
  simp only [LS, Lo, LV] at p
  rcases p with p | p
  .exact hbi j hj p
  .exfalso
   have p1 := p.1
   unfold Ii at p1
   simp only [hd, Mk] at p1
   rcases hs with hs | hs
   .have := p1.1.1; simp [hs] at this
   .have := p1.1.2; simp [hs] at this
 .have h' : i < j := by omega
  refine ⟨fun hS => ?_, fun hh => by omega⟩
  exfalso
  have p := st.pair i j h' hj
  unfold AV at p
  simp only [LS, Lo, LV] at p
  rcases p with p | p
  .exact hni (hdown i j hi hj hS p)
  .have p1 := p.1
   unfold Ii at p1
   simp only [hd, Mk] at p1
   rcases hs with hs | hs
   .have := p1.2; simp [hs] at this
   .have := p1.1; rw [hs] at this; simp at this
theorem yZ {g g' : Env} {o : Oper} (h : ∀ s ∈ looks ops o, g s = g' s) : ∀ x ∈ o.op.operands, ev g x = ev g' x := by
 intro x hx
 cases x with
 | tmp t => exact h t (LZ _ (List.mem_filterMap.2 ⟨.tmp t, by simpa using hx, rfl⟩))
 | _ => rfl
theorem Fx {g g' : Env} {o : Oper} (hs : C6 o = false) (h : ∀ s ∈ looks ops o, g s = g' s) : yK g o = yK g' o := by
 have e := execOp_congr o (fun cs b he => by simp [C6, he] at hs) (yZ h)
 have k := yZ h
 unfold yK
 split
 .rename_i op t x y yt hx
  rw [k x (by simp [hx, Op.operands]), k y (by simp [hx, Op.operands])]
 .rename_i fn first captured hx
  have e1 : List.map (ev g) first.toList = List.map (ev g') first.toList := LR fun p hp => k p (by simp [hx, Op.operands]; exact .inl (by simpa using hp))
  have e2 : List.map (ev g) captured.toList = List.map (ev g') captured.toList := LR fun p hp => k p (by simp [hx, Op.operands]; exact .inr (by simpa using hp))
  rw [e1, e2]
 .rename_i t ps hx
  congr 1
  refine LR fun p hp => ?_
  rw [k p.2 (by simp [hx, Op.operands]; exact ⟨p.1, by simpa using hp⟩)]
 .rename_i t n ps hx
  congr 1
  refine LR fun p hp => ?_
  rw [k p.2 (by simp [hx, Op.operands]; exact ⟨p.1, by simpa using hp⟩)]
 .rename_i c hx
  split
  .rename_i b hb
   congr 1
   refine LR fun p hp => ?_
   exact k p (by simp [hx, Op.operands, Call.operands, hb]; simpa using hp)
  .rename_i f hb
   have : List.map (ev g) c.args.toList = List.map (ev g') c.args.toList := LR fun p hp => k p (by simp [hx, Op.operands, Call.operands, hb]; exact .inr (by simpa using hp))
   rw [this, k f (by simp [hx, Op.operands, Call.operands, hb])]
  .exact e
 .exact e
theorem DX {g g' : Env} {o : Oper} {j : Nat} {want : Bool} (hg : o.guard = some (j, want)) (h : ∀ s ∈ looks ops o, g s = g' s) :
 pJ g (sC ops j) want = pJ g' (sC ops j) want := by
 cases hs : sC ops j with
 | none => rfl
 | some t =>
   have := h t (Mh _ (by simp [hg, hs]))
   simp [pJ, this]
theorem B8 {g g' : Env} {o : Oper} {w : MA} {K : MB -> MA -> Prop} (hs : C6 o = false) (h : ∀ s ∈ looks ops o, g s = g' s)
 (hk : uE P ops g o w K) : uE P ops g' o w K := by
 have e := Fx (ops := ops) hs h
 have run : vX P g o w = vX P g' o w := by
  funext K
  unfold vX
  split
  .rename_i x hx
   have := yZ (ops := ops) h x (by simp [hx, Op.operands])
   rw [this]
  .rename_i x hx
   have := yZ (ops := ops) h x (by simp [hx, Op.operands])
   rw [this]
  .rename_i c hx
   have k := yZ h
   have : List.map (ev g) c.args.toList = List.map (ev g') c.args.toList := LR fun p hp => k p (by simp [hx, Op.operands, Call.operands]; exact .inr (by simpa using hp))
   rw [this, e]
  .rw [e]
 unfold uE at *
 cases hg : o.guard with
 | none => rw [hg] at hk; simp only at hk ⊢; rwa [<- run]
 | some p =>
   obtain ⟨j, want⟩ := p
   simp only [hg] at hk ⊢
   rw [<- run, <- DX hg h]
   exact hk
theorem FL {n : Nat} (hn : n = ops.size) {b : Array Nat} (r : HD P ops an g0 w0 n O G W V) (st : Dr ops an O b) {S : Nat -> Prop} {i k : Nat} (hi : i < n) (hk : k <= n)
 (hdown : ∀ j k, j < ops.size -> k < ops.size -> S k -> HC b j k = true -> S j) (hbi : ∀ j, j < ops.size -> HC b j i = true -> S j) (hni : ¬ S i)
 (hS : ∀ h, h < n -> kO h an.1 = true -> (S h ↔ h < k)) (hl : kO i an.1 = false) :
 Dc P ops (G i) (O i) (W k) (V i) (W k) := by
 subst hn
 have same : Gs (KD ops (O i) (G i)) (fE P (yK (G i) (O i)) (V i) (W k)) -> zP (O i) = false -> Dc P ops (G i) (O i) (W k) (V i) (W k) := by
  intro hs hm K hK
  have run : fE P (yK (G i) (O i)) (V i) (W k) -> vX P (G i) (O i) (W k) K := by
   intro hs
   unfold fE at hs
   have stp : dQ P (yK (G i) (O i)) (W k) K := by unfold dQ; rw [hs]; exact hK
   unfold vX
   split
   .rename_i x hx; simp [zP, hx] at hm
   .rename_i x hx; simp [zP, hx] at hm
   .rename_i c hx
    have hf : Ia (O i) = false := by
     cases hh : Ia (O i)
     .rfl
     .rw [st.fn i hi hh] at hl; cases hl
    obtain ⟨cal, cargs, cats⟩ := c
    cases cal with
    | value f =>
      cases f with
      | func f => simp [Ia, hx] at hf
      | _ => exact stp
    | _ => exact stp
   .exact stp
  have hy := r.yld i hi (fun v _ => v = V i) rfl
  unfold uE at hy ⊢
  unfold KD at hs
  cases hg : (O i).guard with
  | none => rw [hg] at hs; exact run hs
  | some p =>
    obtain ⟨j, want⟩ := p
    rw [hg] at hs
    simp only [hg] at hs hy ⊢
    cases hb : pJ (G i) (sC ops j) want with
    | true => rw [hb] at hs; exact run hs
    | false =>
      rw [hb] at hy
      have : undef = V i := hy
      show K undef (W k)
      rw [this]; exact hK
 have moved : zP (O i) = true -> Dc P ops (G i) (O i) (W k) (V i) (W k) := by
  intro hm K hK
  have hy := r.yld i hi (fun v _ => v = V i) rfl
  unfold uE at hy ⊢
  have mv : ∀ (K' : MB -> MA -> Prop) w, vX P (G i) (O i) w K' ↔ ∃ x, ((O i).op = .move x ∨ (O i).op = .assign x) /\ K' (ev (G i) x) w := by
   intro K' w
   unfold vX
   unfold zP at hm
   split
   .rename_i x hx; constructor
    .intro h; exact ⟨x, .inl hx, h⟩
    .rintro ⟨y, h | h, h'⟩
     .rw [hx] at h; cases h; exact h'
     .rw [hx] at h; cases h
   .rename_i x hx; constructor
    .intro h; exact ⟨x, .inr hx, h⟩
    .rintro ⟨y, h | h, h'⟩
     .rw [hx] at h; cases h
     .rw [hx] at h; cases h; exact h'
   .rename_i c hx; simp [hx] at hm
   .rename_i h1 h2 _; split at hm
    .rename_i x hx; exact absurd hx (h1 x)
    .rename_i x hx; exact absurd hx (h2 x)
    .cases hm
  cases hg : (O i).guard with
  | none =>
    rw [hg] at hy
    simp only at hy ⊢
    rw [mv] at hy ⊢
    obtain ⟨x, hx, h⟩ := hy
    exact ⟨x, hx, h ▸ hK⟩
  | some p =>
    obtain ⟨j, want⟩ := p
    simp only [hg] at hy ⊢
    unfold Gd at *
    cases hb : pJ (G i) (sC ops j) want with
    | true =>
      simp only [hb] at hy ⊢
      rw [mv] at hy ⊢
      obtain ⟨x, hx, h⟩ := hy
      exact ⟨x, hx, h ▸ hK⟩
    | false =>
      simp only [hb] at hy ⊢
      rwa [hy]
 rcases Nat.le_total k i with hki | hki
 .by_cases hx : ∃ h, k <= h /\ h < i /\ kO h an.1 = true
  .obtain ⟨h, h1, h2, h3, h4⟩ := FI hx
   have e : W h = W k := r.still' h1 (by omega) h4
   have p := st.pair h i h2 hi
   unfold AV at p
   simp only [LS, Lo, LV] at p
   rcases p with p | p
   .have := hbi h (by omega) p
    have := (hS h (by omega) h3).1 this
    omega
   .have p2 := p.2
    rw [h3, hl] at p2
    simp only [LS] at p2
    cases hmv : zP (O i) with
    | true => exact moved hmv
    | false =>
      rcases p2 with p2 | p2
      .rw [hmv] at p2; cases p2
      .refine same ?_ hmv
       have c := r.chk h i h2 hi p2
       unfold GR BD CX at c
       simp only [h3] at c
       rw [<- e]; exact c
  .have e : W i = W k := r.still' hki (by omega) (fun h a b => by
    cases hm : kO h an.1
    .rfl
    .exact absurd ⟨h, a, b, hm⟩ hx)
   have hy := r.yld i hi
   rw [r.light i hi hl, e] at hy
   exact hy
 .by_cases hx : ∃ h, i <= h /\ h < k /\ kO h an.1 = true
  .obtain ⟨h, h1, h2, h3, h4⟩ := Dx hx
   have hne : h ≠ i := fun e => by rw [e, hl] at h3; cases h3
   have e : W k = W (h + 1) := r.still' (by omega) hk (fun h' a b => h4 h' (by omega) b)
   have p := st.pair i h (by omega) (by omega)
   unfold AV at p
   simp only [LS, Lo, LV] at p
   rcases p with p | p
   .exact absurd (hdown i h (by omega) (by omega) ((hS h (by omega) h3).2 h2) p) hni
   .have p2 := p.2
    rw [h3, hl] at p2
    simp only [LS] at p2
    cases hmv : zP (O i) with
    | true => exact moved hmv
    | false =>
      rcases p2 with p2 | p2
      .rw [hmv] at p2; cases p2
      .refine same ?_ hmv
       have c := r.chk i h (by omega) (by omega) p2
       unfold GR BD CX at c
       simp only [hl] at c
       rw [e]; exact c
  .have e : W k = W i := r.still' hki hk (fun h a b => by
    cases hm : kO h an.1
    .rfl
    .exact absurd ⟨h, a, b, hm⟩ hx)
   have hy := r.yld i hi
   rw [r.light i hi hl, <- e] at hy
   exact hy
def jD (listed : Array Bool) (i : Nat) : Prop := listed.getD i false = true
theorem IH {N n : Nat} (hn : n = ops.size) (hd : Bx N ops) (hca : B4 P ops) {b : Array Nat} (r : HD P ops an g0 w0 n O G W V) (st : Dr ops an O b)
 {Q : Act -> MA -> Prop} (hQ : ∀ a, A0 N (G n) a -> Q a (W n)) :
 ∀ (fuel : Nat) (listed : Array Bool) (g : Env) (a : Act) (k : Nat), listed.size = n -> A0 N g a -> k <= n →
   (∀ j, j < n -> jD listed j -> ∀ e ∈ (O j).after, Region.binds .any e = true -> jD listed e.on) →
   zE n O V g0 (jD listed) g -> (∀ h, h < n -> kO h an.1 = true -> (jD listed h ↔ h < k)) →
   ((List.range n).filter fun i => !listed.getD i false).length <= fuel →
   Dy P ops Q fuel listed a (W k) := by
 subst hn
 have ready_iff : ∀ (listed : Array Bool), listed.size = ops.size -> ∀ i, i ∈ Region.ready .any ops listed ↔ (i < ops.size /\ ¬ jD listed i /\ ∀ e ∈ (O i).after, Region.binds .any e = true -> jD listed e.on) := by
  intro listed hsz i
  unfold Region.ready jD
  rw [List.mem_filter, LK]
  constructor
  .rintro ⟨h1, h2⟩
   rw [r.op i h1] at h2
   simp only [Lo, LH, Ml] at h2
   refine ⟨h1, ?_, fun e he hb => ?_⟩
   .have := h2.1
    rw [Lp] at this ⊢
    rw [Ly (by omega)] at this ⊢
    simpa using this
   .have := LQ.1 h2.2 e he
    simpa [hb] using this
  .rintro ⟨h1, h2, h3⟩
   refine ⟨h1, ?_⟩
   rw [r.op i h1]
   simp only [Lo, LH, Ml]
   refine ⟨?_, LQ.2 fun e he => ?_⟩
   .rw [Lp] at h2 ⊢
    rw [Ly (by omega)] at h2 ⊢
    simpa using h2
   .by_cases hb : Region.binds .any e = true
    .simp [hb, h3 e he hb]
    .simp [hb]
 have none_ready : ∀ (listed : Array Bool), listed.size = ops.size -> Region.ready .any ops listed = [] -> ∀ i, i < ops.size -> jD listed i := by
  intro listed hsz hr i
  induction i using Nat.strongRecOn with
  | _ i ih =>
    intro hi
    refine Classical.byContradiction fun hl => ?_
    have : i ∈ Region.ready .any ops listed := (ready_iff listed hsz i).2 ⟨hi, hl, fun e he hb => by
     have := st.back i hi e he hb
     exact ih e.on this (by omega)⟩
    rw [hr] at this; cases this
 have all_done : ∀ (listed : Array Bool) (g : Env) (a : Act) (k : Nat), A0 N g a -> k <= ops.size -> zE ops.size O V g0 (jD listed) g →
     (∀ h, h < ops.size -> kO h an.1 = true -> (jD listed h ↔ h < k)) -> (∀ i, i < ops.size -> jD listed i) -> Q a (W k) := by
  intro listed g a k hr hk he hh hall
  have e : W ops.size = W k := r.still' hk (LB _) (fun h h1 h2 => by
   cases hm : kO h an.1
   .rfl
   .have := (hh h h2 hm).1 (hall h h2); omega)
  have eg : g = G ops.size := funext fun s => he.agree (r.envFor ops.size (LB _)) s (fun j hj _ => ⟨fun _ => hj, fun _ => hall j hj⟩)
  rw [<- e]; exact hQ a (eg ▸ hr)
 intro fuel
 induction fuel with
 | zero =>
   intro listed g a k hsz hr hk hdep henv hh hc
   have hall : ∀ i, i < ops.size -> jD listed i := by
    intro i hi
    have hnil : ((List.range ops.size).filter fun i => !listed.getD i false) = [] := L7.1 (by omega)
    have := List.filter_eq_nil_iff.1 hnil i (LK.2 hi)
    unfold jD; simpa using this
   refine ⟨?_, all_done listed g a k hr hk henv hh hall⟩
   rw [List.eq_nil_iff_forall_not_mem]
   intro i hi
   have := (ready_iff listed hsz i).1 hi
   exact this.2.1 (hall i this.1)
 | succ fuel ih =>
   intro listed g a k hsz hr hk hdep henv hh hc
   refine ⟨fun hn => all_done listed g a k hr hk henv hh (none_ready listed hsz hn), fun i hi => ?_⟩
   obtain ⟨h1, h2, h3⟩ := (ready_iff listed hsz i).1 hi
   have hdown : ∀ k j, j < ops.size -> k < ops.size -> jD listed k -> HC b j k = true -> jD listed j := by
    intro k
    induction k using Nat.strongRecOn with
    | _ k ihk =>
      intro j hj hk hl hb
      obtain ⟨e, he, hbi, h⟩ := st.closed j k hj hk hb
      have hle := hdep k hk hl e he hbi
      rcases h with h | h
      .exact h ▸ hle
      .have hlt := st.back k hk e he hbi
       exact ihk e.on hlt j hj (by omega) hle h
   have hbi : ∀ j, j < ops.size -> HC b j i = true -> jD listed j := by
    intro j hj hb
    obtain ⟨e, he, hbi, h⟩ := st.closed j i hj h1 hb
    have hle := h3 e he hbi
    rcases h with h | h
    .exact h ▸ hle
    .have hlt := st.back i h1 e he hbi
     exact hdown e.on j hj (by omega) hle h
   have hdown' : ∀ j k, j < ops.size -> k < ops.size -> jD listed k -> HC b j k = true -> jD listed j := fun j k => hdown k j
   have hlooks : ∀ s ∈ looks ops (O i), (G i) s = g s := fun s hs =>
    (r.envFor i (by omega)).agree henv s (fun j hj hd => by
      by_cases hji : j = i
      .subst hji
       exact ⟨fun h => absurd h (by omega), fun h => absurd h h2⟩
      .exact (st.order h1 hdown' hbi h2 (.inl hs) hj hji hd).symm)
   have hl' : ∀ j, jD (listed.setIfInBounds i true) j ↔ (jD listed j ∨ j = i) := by
    intro j
    unfold jD
    rw [Lp, Lp]
    by_cases hji : j = i
    .subst hji
     rw [LL (by omega)]
     simp
    .rw [LM (fun e => hji e.symm)]
     simp [hji]
   have next : ∀ k', k' <= ops.size -> (∀ h, h < ops.size -> kO h an.1 = true -> ((jD listed h ∨ h = i) ↔ h < k')) -> Dc P ops g (O i) (W k) (V i) (W k') →
       AH P ops i (Dy P ops Q fuel (listed.setIfInBounds i true)) a (W k) := by
    intro k' hk' hh' hy
    refine C2 (r.op i h1) (hca i _ (r.op i h1)) hd hr hy ?_
    refine ih _ (put g (O i).dst (V i)) _ k' (by simp [hsz]) (hr.put _ _ (hd i _ (r.op i h1))) hk' ?_ ?_ ?_ ?_
    .intro j hj hlj e he hb
     rw [hl'] at hlj ⊢
     rcases hlj with hlj | rfl
     .exact .inl (hdep j hj hlj e he hb)
     .exact .inl (h3 e he hb)
    .have := henv.step i h1 (fun s hs j hj hji hd hlj => (st.order h1 hdown' hbi h2 (.inr hs) hj hji hd).1 hlj)
     intro s
     rcases this s with ⟨j, j1, j2, j3, j4, j5⟩ | ⟨j1, j2⟩
     .exact .inl ⟨j, j1, (hl' j).2 j2, j3, fun k k1 k2 k3 => j4 k k1 ((hl' k).1 k2) k3, j5⟩
     .exact .inr ⟨fun j a b => j1 j a ((hl' j).1 b), j2⟩
    .intro h a b; rw [hl']; exact hh' h a b
    .have hin : i ∈ (List.range ops.size).filter fun i => !listed.getD i false :=
      List.mem_filter.2 ⟨LK.2 h1, by unfold jD at h2; simpa using h2⟩
     have e1 : ((List.range ops.size).filter fun j => !(listed.setIfInBounds i true).getD j false) = ((List.range ops.size).filter fun j => !listed.getD j false).filter fun j => j != i := by
      rw [List.filter_filter]
      refine List.filter_congr fun j _ => ?_
      have := hl' j
      unfold jD at this
      by_cases hji : j = i
      .have hh : (listed.setIfInBounds i true).getD j false = true := this.2 (.inr hji)
       rw [hh, hji]; simp
      .have hne : (j != i) = true := by simpa using hji
       rw [hne, Bool.true_and]
       cases ha : listed.getD j false with
       | true => rw [this.2 (.inl ha)]
       | false =>
         cases hb : (listed.setIfInBounds i true).getD j false with
         | false => rfl
         | true => rcases this.1 hb with h | h
                   .rw [ha] at h; cases h
                   .exact absurd h hji
     have hnd : ((List.range ops.size).filter fun j => !listed.getD j false).Nodup := List.nodup_range.filter _
     rw [e1, <- List.Nodup.erase_eq_filter hnd, List.length_erase_of_mem hin]
     omega
   cases hm : kO i an.1 with
   | true =>
     have hS : ∀ h, h < ops.size -> kO h an.1 = true -> (jD listed h ↔ h < i) := by
      intro h hh1 hhm
      rcases Nat.lt_trichotomy h i with hlt | heq | hgt
      .refine ⟨fun _ => hlt, fun _ => ?_⟩
       have p := st.pair h i hlt h1
       unfold AV at p
       rw [hhm, hm] at p
       simp only [LS, Lo, Lh, and_false, or_false] at p
       exact hbi h hh1 p
      .subst heq; exact ⟨fun hh => absurd hh h2, fun hh => absurd hh (by omega)⟩
      .refine ⟨fun hl => ?_, fun hh => absurd hh (by omega)⟩
       have p := st.pair i h hgt hh1
       unfold AV at p
       rw [hhm, hm] at p
       simp only [LS, Lo, Lh, and_false, or_false] at p
       exact absurd (hdown h i h1 hh1 hl p) h2
     have eW : W k = W i := by
      rcases Nat.le_total k i with hki | hki
      .exact (r.still' hki (by omega) (fun h a b => by
        cases hx : kO h an.1
        .rfl
        .have := (hh h (by omega) hx).1 ((hS h (by omega) hx).2 b); omega)).symm
      .exact r.still' hki hk (fun h a b => by
        cases hx : kO h an.1
        .rfl
        .have := (hS h (by omega) hx).1 ((hh h (by omega) hx).2 b); omega)
     refine next (i + 1) (by omega) (fun h a b => ?_) ?_
     .rw [hS h a b]; omega
     .rw [eW]
      intro K hK
      exact B8 (ops := ops) (st.sel i h1) hlooks (r.yld i h1 K hK)
   | false =>
     refine next k hk (fun h a b => ?_) ?_
     .rw [<- hh h a b]
      constructor
      .rintro (h' | rfl)
       .exact h'
       .rw [hm] at b; cases b
      .exact .inl
     .intro K hK
      exact B8 (ops := ops) (st.sel i h1) hlooks (FL rfl r st h1 hk hdown' hbi h2 hh hm K hK)
end
abbrev DN (P : Program) : Machine -> Prop := Machine.fenced P Fence.wide
def Ec (P : Program) (f : FuncId) (ro : Option Nat) (c : Code) (Q : Exit -> Act -> MA -> Prop) (a : Act) (w : MA) : Prop :=
 ∀ (b : Frame) (k : List Item) (cs : List Frame), b.fn = f -> b.roundOf = ro -> ∃ e a' w', Q e a' w' /\ ArrivesIn (DN P) P (lone (b.atR a (.code c :: k)) cs w) b k cs e a' w'
section
variable {P : Program} {f : FuncId} {ro : Option Nat} {Q : Exit -> Act -> MA -> Prop} {a : Act} {w : MA}
theorem zI {m m1 : Machine} (h : step P m = .next m1) : StepsIn (DN P) P m m1 := .one (fenced_wide P m) h
theorem Ab {m m1 m2 : Machine} (h : step P m = .next m1) (h' : StepsIn (DN P) P m1 m2) : StepsIn (DN P) P m m2 := .head (fenced_wide P m) h h'
theorem HO (h : Q .normal a w) : Ec P f ro .skip Q a w := fun _ _ _ _ _ => ⟨.normal, a, w, h, zI Go.stepR_skip⟩
theorem G5 {l : Nat} (h : Q .normal a w) : Ec P f ro (.label l) Q a w := fun _ _ _ _ _ => ⟨.normal, a, w, h, zI stepR_label⟩
theorem Fi {id : Nat} (h : Q (.exit id) a w) : Ec P f ro (.exit id) Q a w :=
 fun _ k _ _ _ => ⟨.exit id, a, w, h, fun _ hk => zI (stepR_exit hk), fun _ hk => ⟨k, hk, .refl _⟩⟩
theorem GZ (h : Q .ret a w) : Ec P f ro .ret Q a w :=
 fun _ k _ _ _ => ⟨.ret, a, w, h, fun hn => ⟨_, zI (stepR_ret hn)⟩, fun _ => ⟨k, .refl _⟩⟩
theorem I5 {x y : Code} (h : Ec P f ro x (Exit.then (Ec P f ro y Q) Q) a w) : Ec P f ro (.seq x y) Q a w := by
 intro b k cs hb hro
 obtain ⟨e, a1, w1, hq, har⟩ := h b (.code y :: k) cs hb hro
 cases e with
 | normal =>
   obtain ⟨e2, a2, w2, hq2, har2⟩ := hq b k cs hb hro
   exact ⟨e2, a2, w2, hq2, .of_steps (Ab stepR_seq har) har2⟩
 | _ => exact ⟨_, a1, w1, hq, .of_steps (zI stepR_seq) (.pass (x := .code y) rfl (fun _ _ => .inl (by simp)) har)⟩
theorem H9 {c : Operand} {x y : Code} {t : Bool} (hc : a.eval c = .bool t) (h : Ec P f ro (if t then x else y) Q a w) : Ec P f ro (.cond c x y) Q a w :=
 fun b k cs hb hro => let ⟨e, a1, w1, q, r⟩ := h b k cs hb hro; ⟨e, a1, w1, q, .of_steps (zI (stepR_cond hc)) r⟩
theorem Hw {id : Nat} {c : Code} (h : Ec P f ro c (Exit.inBlock id Q) a w) : Ec P f ro (.block id c) Q a w := by
 intro b k cs hb hro
 obtain ⟨e, a1, w1, hq, har⟩ := h b (.inBlock id :: k) cs hb hro
 cases e with
 | normal => exact ⟨.normal, a1, w1, hq, Ab stepR_block (StepsIn.trans har (zI stepR_inBlock))⟩
 | exit i =>
   by_cases hid : i = id
   .simp only [Exit.inBlock, hid, if_true] at hq
    exact ⟨.normal, a1, w1, hq, Ab stepR_block (har.1 k (by simp [exitTo, hid]))⟩
   .simp only [Exit.inBlock, hid, if_false] at hq
    have this : (id == i) = false := by simp; exact fun h => hid h.symm
    have hx : exitTo i (.inBlock id :: k) = exitTo i k := by simp [exitTo, this]
    exact ⟨.exit i, a1, w1, hq, fun k' hk => Ab stepR_block (har.1 k' (by rw [hx]; exact hk)),
     fun hr' hk => let ⟨k1, h1, h2⟩ := har.2 hr' (by rw [hx]; exact hk); ⟨k1, h1, Ab stepR_block h2⟩⟩
 | goto l =>
   have hx : gotoIn l (.inBlock id :: k) = gotoIn l k := by simp [gotoIn]
   exact ⟨_, a1, w1, hq, fun k' hk => Ab stepR_block (har.1 k' (by rw [hx]; exact hk)),
    fun hr' hk => let ⟨k1, h1, h2⟩ := har.2 hr' (by rw [hx]; exact hk); ⟨k1, h1, Ab stepR_block h2⟩⟩
 | ret => exact ⟨_, a1, w1, hq, .of_steps (zI stepR_block) har⟩
 | panic ch => exact ⟨_, a1, w1, hq, .of_steps (zI stepR_block) har⟩
 | outgrown => exact ⟨_, a1, w1, hq, .of_steps (zI stepR_block) har⟩
theorem qH {b : Frame} {k : List Item} {cs : List Frame} {c : Code} :
 step P (lone (b.atR a (.code (.scope c) :: k)) cs w) = .next (lone (b.atR a (.code c :: .inScope c :: k)) cs w) :=
 step_lone_go (by simp [stepG, stepG.exec, Frame.atR])
theorem D4 {b : Frame} {k : List Item} {cs : List Frame} {c : Code} :
 step P (lone (b.atR a (.inScope c :: k)) cs w) = .next (lone (b.atR a k) cs w) :=
 step_lone_go (by simp [stepG, stepG.exec, Frame.atR])
theorem Hj {c : Code} (h : Ec P f ro c (Exit.noGoto Q) a w) : Ec P f ro (.scope c) Q a w := by
 intro b k cs hb hro
 obtain ⟨e, a1, w1, hq, har⟩ := h b (.inScope c :: k) cs hb hro
 cases e with
 | normal => exact ⟨.normal, a1, w1, hq, Ab qH (StepsIn.trans har (zI D4))⟩
 | exit id =>
   have hx : exitTo id (.inScope c :: k) = exitTo id k := by simp [exitTo]
   exact ⟨.exit id, a1, w1, hq, fun k' hk => Ab qH (har.1 k' (by rw [hx]; exact hk)),
    fun hr' hk => let ⟨k1, h1, h2⟩ := har.2 hr' (by rw [hx]; exact hk); ⟨k1, h1, Ab qH h2⟩⟩
 | goto l => exact hq.elim
 | ret => exact ⟨_, a1, w1, hq, .of_steps (zI qH) har⟩
 | panic ch => exact ⟨_, a1, w1, hq, .of_steps (zI qH) har⟩
 | outgrown => exact ⟨_, a1, w1, hq, .of_steps (zI qH) har⟩
theorem IE {c : Code} (I : Act -> MA -> Prop) (μ : Act -> MA -> Nat) (h0 : I a w)
 (round : ∀ a w, I a w -> Ec P f ro c (Exit.then (fun a' w' => I a' w' /\ μ a' w' < μ a w) Q) a w) : Ec P f ro (.loop c) Q a w := by
 intro b k cs hb hro
 have key : ∀ n a w, μ a w = n -> I a w →
     ∃ e a' w', Q e a' w' /\ ArrivesIn (DN P) P (lone (b.atR a (.code c :: .inLoop c :: k)) cs w) b k cs e a' w' := by
  intro n
  induction n using Nat.strongRecOn with
  | _ n ih =>
    intro a w hn hI
    obtain ⟨e, a1, w1, hq, har⟩ := round a w hI b (.inLoop c :: k) cs hb hro
    cases e with
    | normal =>
      obtain ⟨hI1, hlt⟩ := hq
      obtain ⟨e2, a2, w2, hq2, har2⟩ := ih (μ a1 w1) (hn ▸ hlt) a1 w1 rfl hI1
      exact ⟨e2, a2, w2, hq2, .of_steps (StepsIn.trans har (zI stepR_inLoop)) har2⟩
    | _ => exact ⟨_, a1, w1, hq, .pass (x := .inLoop c) rfl (fun _ _ => .inl (by simp)) har⟩
 obtain ⟨e, a', w', hq, har⟩ := key _ a w rfl h0
 exact ⟨e, a', w', hq, .of_steps (zI stepR_loop) har⟩
theorem GN {ops : Array Oper} {L : List Nat} (h : rV P ops (Q .normal) L a w) (b : Frame) (k : List Item) (cs : List Frame) (hro : b.roundOf = ro) :
 ∃ e a' w', Q e a' w' /\ ArrivesIn (DN P) P (lone (b.atR a (.inRegion ops L :: k)) cs w) b k cs e a' w' := by
 obtain ⟨e, a', w', ⟨rfl, hq⟩, hs⟩ := wp_opsIn (F := DF ro) (n := 0) L a w (Hm ro L a w h) b k cs hro trivial (fun _ h => by simp [DF, Fence.wide] at h)
 exact ⟨.normal, a', w', hq, hs⟩
theorem Ga {id : Nat} {ops : Array Oper} (h : rV P ops (Q .normal) (List.range ops.size) a w) : Ec P f ro (.region id ops false) Q a w := by
 intro b k cs hb hro
 obtain ⟨e, a1, w1, q, r⟩ := GN h b k cs hro
 exact ⟨e, a1, w1, q, .of_steps (zI stepR_region) r⟩
theorem Di (hm : P.follows .mixedOrders = true) {id : Nat} {ops : Array Oper}
 (h : rV P ops (Q .normal) (Region.schedule true ops (w.tape w.drawn (.order f id))) a { w with drawn := w.drawn + 1 }) : Ec P f ro (.region id ops true) Q a w := by
 intro b k cs hb hro
 obtain ⟨e, a1, w1, q, r⟩ := GN h b k cs hro
 refine ⟨e, a1, w1, q, .of_steps (zI ?_) r⟩
 have := @stepR_region_draw P b a k cs w ops id
 rw [hm, hb] at this
 exact this
def yR (v : MB) (w : MA) (K : MA -> Prop) : Prop :=
 match v with
 | .pointer (some a) => w.heap[a.block]? = some (.deferred (some [])) /\ K (w.putObj a.block (.deferred none))
 | _ => K w
def G2 (P : Program) (fn : Func) (R : MB -> MA -> Prop) : Exit -> Act -> MA -> Prop
 | .normal, a, w | .ret, a, w => ∃ m, a.defers = FK m /\ yR m w fun w' => ∃ v, (results fn a.tmps).run P w' = .ok v w' /\ R v w'
 | _, _, _ => False
theorem FD {fn : Func} {R : MB -> MA -> Prop} {fr : Frame} {cs : List Frame} (hm : fr.mode = .returning) (hf : P.funcs[fr.fn]? = some fn) (hk : fr.kind = .normal) {m : MB} (hd : fr.defers = FK m)
 (h : yR m w fun w' => ∃ v, (results fn fr.tmps).run P w' = .ok v w' /\ R v w') :
 ∃ v w' fr', R v w' /\ Steps P (lone fr cs w) (lone fr' cs w') /\ fr'.fn = fr.fn /\ fr'.leaving P w' (.returned v) := by
 have nil : fr.defers = [] -> (∃ v, (results fn fr.tmps).run P w = .ok v w /\ R v w) →
     ∃ v w' fr', R v w' /\ Steps P (lone fr cs w) (lone fr' cs w') /\ fr'.fn = fr.fn /\ fr'.leaving P w' (.returned v) := by
  rintro hd ⟨v, hv, hR⟩
  exact ⟨v, w, fr, hR, .refl _ _, rfl, hm, hd, hk, fn, hf, hv⟩
 cases m with
 | pointer p =>
   cases p with
   | none => exact nil hd h
   | some a =>
     obtain ⟨h1, v, hv, hR⟩ := h
     have hs := step_collected (P := P) (fr := fr) (cs := cs) (w := w) (d := { target := .collected a.block, args := #[] }) (r := a.block) (ds := []) (calls := [])
      (by rw [hm]; simp) hd rfl (run_takeDeferred h1)
     exact ⟨v, _, { fr with defers := [] }, hR, .head hs (.refl _ _), rfl, hm, rfl, hk, fn, hf, hv⟩
 | _ => exact nil hd h
theorem EM {fn : Func} {c : Code} {args : Array MB} {w : MA} {R : MB -> MA -> Prop}
 (hf : P.funcs[f]? = some fn) (hb : fn.body = some c)
 (h : Ec P f none c (G2 P fn R) { tmps := args ++ Array.replicate (fn.ntmps - args.size) undef, defers := [] } w) : Calls P f args w fun e w' => ∃ v, e = .returned v /\ R v w' := by
 intro cs
 let b : Frame := { (default : Frame) with fn := f, kind := .normal, roundOf := none }
 have henter : Frame.enter P f args .normal = b.atR { tmps := args ++ Array.replicate (fn.ntmps - args.size) undef, defers := [] } [.code c] := by
  simp [Frame.enter, Frame.atR, hf, hb, b]
 obtain ⟨e, a', w', hq, har⟩ := h b [] cs rfl rfl
 rw [<- henter] at har
 cases e with
 | normal =>
   obtain ⟨m, hd, hq⟩ := hq
   obtain ⟨v, w2, fr, hR, hs, hfn, hl⟩ := FD (P := P) (cs := cs) (fr := { b.atR a' [] with mode := .returning }) rfl hf rfl hd hq
   exact ⟨.returned v, w2, fr, ⟨v, rfl, hR⟩, (StepsIn.steps har).trans (.head (stepR_end rfl) hs), hfn, hl⟩
 | ret =>
   obtain ⟨m, hd, hq⟩ := hq
   obtain ⟨todo, hs0⟩ := har.1 rfl
   obtain ⟨v, w2, fr, hR, hs, hfn, hl⟩ := FD (P := P) (cs := cs) (fr := { b.atR a' todo with mode := .returning }) rfl hf rfl hd hq
   exact ⟨.returned v, w2, fr, ⟨v, rfl, hR⟩, (StepsIn.steps hs0).trans hs, hfn, hl⟩
 | panic chain => exact hq.elim
 | exit id => exact hq.elim
 | goto l => exact hq.elim
 | outgrown => exact hq.elim
def Jp (P : Program) (f : FuncId) (Q : Exit -> Act -> MA -> Prop) (a : Act) (w : MA) : Option Code -> Prop
 | none => Q .normal a w
 | some c => Ec P f none c Q a w
theorem G7 {gf : Operand} {ps : Array Tmp} {Le bd : Code} {d : Deferred} {g : FuncId} {args : Array MB} {w1 : MA} {l : Nat} {mark : List Deferred} {w2 w3 : MA} {v : MB}
 (he : (Instr.enterLoop f a.tmps ps Le bd none).run P w = .ok (l, mark) w1)
 (hres : (resolve a.eval (rangeCall gf l) 0).run P w1 = .ok d w1) (hinv : (invoke d.target d.args).run P w1 = .ok (.enter g args) w2)
 (hcall : KP P g args w2 v w3)
 {jump : Option Code} {w4 : MA} (hend : (Instr.endLoop l).run P w3 = .ok jump w4)
 (hj : Jp P f Q { a with defers := mark ++ a.defers } w4 jump) :
 Ec P f none (.rangeFunc gf ps Le bd) Q a w := by
 intro b k cs hb hro
 rw [<- hb, <- hro] at he
 have henter := stepR_rangeFunc (P := P) (b := b) (a := a) (k := k) (cs := cs) (w := w) he hres hinv
 obtain ⟨e, w3', fr, ⟨rfl, rfl⟩, hsteps, hfn, hleave⟩ := hcall (b.atR { a with defers := mark ++ a.defers } (.inRangeFunc l :: k) :: cs)
 have sback : StepsIn (DN P) P (lone (b.atR a (.code (.rangeFunc gf ps Le bd) :: k)) cs w) (lone (b.atR { a with defers := mark ++ a.defers } ((jump.map Item.code).toList ++ k)) cs w4) := by
  refine Ab henter (StepsIn.trans (stepsIn_wide.2 hsteps) (Ab (m1 := lone (b.atR { a with defers := mark ++ a.defers } (.endRangeFunc l :: k)) cs w3') ?_ (zI (stepR_endRangeFunc hend))))
  rw [<- finish_atR_inRangeFunc l v]; exact step_leave_returned hleave
 cases jump with
 | none => exact ⟨.normal, _, w4, hj, sback⟩
 | some c =>
   obtain ⟨e', a'', w5, hq, harr⟩ := hj b k cs hb hro
   exact ⟨e', a'', w5, hq, .of_steps sback harr⟩
end
def EG (ops : Array Oper) : Nat -> Array Bool -> List Nat -> Prop
 | 0, _, L => L = []
 | _ + 1, listed, [] => Region.ready .any ops listed = []
 | n + 1, listed, i :: L => i ∈ Region.ready .any ops listed /\ EG ops n (listed.setIfInBounds i true) L
section
variable {P : Program} {ops : Array Oper} {Q : Act -> MA -> Prop}
theorem I3 : ∀ (fuel t : Nat) (listed : Array Bool), EG ops fuel listed (Region.linearise.go .any ops fuel t listed []) := by
 intro fuel
 induction fuel with
 | zero => intro t listed; simp [Region.linearise.go, EG]
 | succ fuel ih =>
   intro t listed
   simp only [Region.linearise.go]
   change EG ops (fuel + 1) listed (match (Region.ready .any ops listed)[t % (Region.ready .any ops listed).length]? with
    | some i => Region.linearise.go .any ops fuel (t / (Region.ready .any ops listed).length) (listed.setIfInBounds i true) [i]
    | none => [].reverse)
   cases hi : (Region.ready .any ops listed)[t % (Region.ready .any ops listed).length]? with
   | none =>
     have : Region.ready .any ops listed = [] := by
      cases hr : Region.ready .any ops listed with
      | nil => rfl
      | cons x xs =>
        rw [hr] at hi
        have hlt : t % (x :: xs).length < (x :: xs).length := Nat.mod_lt _ (by simp)
        rw [Lr hlt] at hi
        cases hi
     simpa [EG] using this
   | some i =>
     simp only []
     rw [linearise_go_acc]
     exact ⟨List.mem_of_getElem? hi, ih _ _⟩
theorem Cc : ∀ (fuel : Nat) (listed : Array Bool) (L : List Nat) (a : Act) (w : MA), Dy P ops Q fuel listed a w -> EG ops fuel listed L -> rV P ops Q L a w := by
 intro fuel
 induction fuel with
 | zero => intro listed L a w h hL; obtain rfl : L = [] := hL; exact h.2
 | succ fuel ih =>
   intro listed L a w h hL
   cases L with
   | nil => exact h.1 hL
   | cons i L =>
     exact GA (fun a w hh => ih _ _ a w hh hL.2) (h.2 i hL.1)
end
structure D3 (π : List Nat) (ops : Array Oper) : Prop where
 len : π.length = ops.size
 to : ∀ i, i < ops.size -> nZ π i < ops.size /\ π[nZ π i]? = some i
 back : ∀ k, k < ops.size -> ∃ i, π[k]? = some i /\ nZ π i = k /\ i < ops.size
 after : ∀ (i : Nat) (o : Oper), ops[i]? = some o -> ∀ e ∈ o.after, e.on < ops.size
 guard : ∀ (i : Nat) (o : Oper) (j : Nat) (b : Bool), ops[i]? = some o -> o.guard = some (j, b) -> j < ops.size
theorem I0 {π : List Nat} {ops : Array Oper} (h : F2 π ops = true) : D3 π ops := by
 unfold F2 at h
 simp only [Lo] at h
 obtain ⟨⟨⟨h1, h2⟩, h3⟩, h4⟩ := h
 have h1 := LC h1
 have at4 : ∀ (i : Nat) (o : Oper), ops[i]? = some o -> (o.after.all fun e => Nat.blt e.on ops.size) = true /\ (match o.guard with | some (j, _) => Nat.blt j ops.size | none => true) = true := by
  intro i o ho
  have hi : i < ops.size := by
   rcases Mf i ops.size with h | h
   .exact h
   .rw [Mu h] at ho; cases ho
  have := LI.1 h4 i (LK.2 hi)
  rw [ho] at this
  simp only [Lo] at this
  refine ⟨this.1, ?_⟩
  have h := this.2
  revert h
  cases o.guard <;> exact id
 refine ⟨h1, fun i hi => ?_, fun k hk => ?_, fun i o ho e he => ?_, fun i o j b ho hg => ?_⟩
 .have := LI.1 h3 i (LK.2 hi)
  cases hp : π[nZ π i]? with
  | none => rw [hp] at this; cases this
  | some j =>
    rw [hp] at this
    obtain rfl := LC this
    refine ⟨?_, rfl⟩
    rcases Mf (nZ π j) π.length with h | h
    .omega
    .rw [Mg h] at hp; cases hp
 .have := LI.1 h2 k (LK.2 hk)
  cases hp : π[k]? with
  | none => rw [hp] at this; cases this
  | some i =>
    rw [hp] at this
    simp only [Lo] at this
    exact ⟨i, rfl, LC this.1, (Me (x := i) (y := ops.size)) ▸ this.2⟩
 .have := LQ.1 (at4 i o ho).1 e he
  exact (Me (x := e.on) (y := ops.size)) ▸ this
 .have := (at4 i o ho).2
  rw [hg] at this
  exact (Me (x := j) (y := ops.size)) ▸ this
theorem Em {π : List Nat} {es : List (Nat × Nat)} {l : List Oper} : ∀ (r : List Nat), (∀ i ∈ r, i < l.length) -> (BY π es l r).length = r.length /\ ∀ k i : Nat, r[k]? = some i -> (BY π es l r)[k]? = (l[i]?).map (wG π es i) := by
 intro r
 induction r with
 | nil => intro _; exact ⟨rfl, fun k i h => by simp at h⟩
 | cons j r ih =>
   intro h
   obtain ⟨h1, h2⟩ := ih fun i hi => h i (Lx _ hi)
   have hj : j < l.length := h j (by simp)
   simp only [BY, Lr hj]
   refine ⟨by simp [h1], fun k i hk => ?_⟩
   cases k with
   | zero => simp at hk; subst hk; simp [Lr hj]
   | succ k => simp at hk ⊢; exact h2 k i hk
section
variable {P : Program} {ops : Array Oper} {Q : Act -> MA -> Prop} {π : List Nat} {es : List (Nat × Nat)}
theorem D3.mem (p : D3 π ops) : ∀ i ∈ π, i < ops.toList.length := by
 intro i hi
 obtain ⟨k, hk, e⟩ := List.getElem_of_mem hi
 obtain ⟨j, h1, _, h2⟩ := p.back k (by rw [<- p.len]; exact hk)
 rw [Lr hk] at h1
 cases h1
 rw [<- e]; simpa using h2
theorem D3.size (p : D3 π ops) : (kG π es ops).size = ops.size := by
 unfold kG
 rw [List.size_toArray, (Em (es := es) (π := π) π p.mem).1, p.len]
theorem D3.get (p : D3 π ops) {i : Nat} (hi : i < ops.size) : (kG π es ops)[nZ π i]? = (ops[i]?).map (wG π es i) := by
 unfold kG
 have := (Em (es := es) (π := π) π p.mem).2 (nZ π i) i (p.to i hi).2
 rw [Array.getElem?_toList] at this
 simpa using this
theorem Gz {i : Nat} {o : Oper} {a : Act} {w : MA} {K : Act -> MA -> Prop} : Gr P (wG π es i o) a w K ↔ Gr P o a w K := by
 unfold Gr
 have h1 : execOp a.eval (wG π es i o) = execOp a.eval o := by
  obtain ⟨d, op, ty, ps, af, g⟩ := o
  cases op <;> rfl
 have h2 : Ef (wG π es i o) = Ef o := rfl
 rw [h1, h2]
 generalize (execOp a.eval o).run P w = r
 cases r with
 | ok n w => cases n <;> exact Iff.rfl
 | halt x w => exact Iff.rfl
theorem FR (p : D3 π ops) {i : Nat} {o : Oper} (ho : ops[i]? = some o) (tmps : Array MB) :
 Region.wanted (wG π es i o) (yielded (kG π es ops) tmps) = Region.wanted o (yielded ops tmps) := by
 unfold Region.wanted wG
 simp only
 cases hg : o.guard with
 | none => rfl
 | some q =>
   obtain ⟨j, b⟩ := q
   simp only
   have hj := p.guard i o j b ho hg
   have : (kG π es ops)[nZ π j]?.bind (·.dst) = (ops[j]?).bind (·.dst) := by
    rw [p.get hj]
    cases ops[j]? <;> rfl
   unfold yielded
   rw [this]
theorem GG (p : D3 π ops) : ∀ (L : List Nat), (∀ i ∈ L, i < ops.size) -> ∀ (a : Act) (w : MA), rV P (kG π es ops) Q (L.map (nZ π)) a w -> rV P ops Q L a w := by
 intro L
 induction L with
 | nil => intro _ a w h; exact h
 | cons i L ih =>
   intro hL a w h
   rw [List.map_cons] at h
   simp only [rV] at h ⊢
   have hi := hL i (by simp)
   have ih := ih fun i hi => hL i (Lx _ hi)
   unfold AH at h ⊢
   rw [p.get hi] at h
   rw [Ly hi] at h ⊢
   simp only [LH] at h
   rw [FR p (Ly hi)] at h
   simp only
   split
   .rename_i hw
    rw [if_pos hw, Gz] at h
    exact Ez (fun a w => ih a w) h
   .rename_i hw
    rw [if_neg hw] at h
    exact ih _ _ h
theorem A1 {ops : Array Oper} {listed : Array Bool} (hsz : listed.size = ops.size) (i : Nat) :
 i ∈ Region.ready .any ops listed ↔ (i < ops.size /\ listed.getD i false = false /\ ∀ o, ops[i]? = some o -> ∀ e ∈ o.after, Region.binds .any e = true -> listed.getD e.on false = true) := by
 unfold Region.ready
 rw [List.mem_filter, LK]
 constructor
 .rintro ⟨h1, h2⟩
  rw [Ly h1] at h2
  simp only [Lo, LH, Ml] at h2
  refine ⟨h1, ?_, fun o ho e he hb => ?_⟩
  .have := h2.1
   rw [Lp] at this ⊢
   rw [Ly (by omega)] at this ⊢
   simpa using this
  .rw [Ly h1] at ho
   cases ho
   have := LQ.1 h2.2 e he
   simpa [hb] using this
 .rintro ⟨h1, h2, h3⟩
  refine ⟨h1, ?_⟩
  rw [Ly h1]
  simp only [Lo, LH, Ml]
  refine ⟨?_, LQ.2 fun e he => ?_⟩
  .rw [Lp] at h2 ⊢
   rw [Ly (by omega)] at h2 ⊢
   simpa using h2
  .by_cases hb : Region.binds .any e = true
   .simp [hb, h3 _ (Ly h1) e he hb]
   .simp [hb]
theorem HW {π : List Nat} {i : Nat} : ∀ {es : List (Nat × Nat)} {e : Edge}, e ∈ uA π i es -> ∃ a, (a, i) ∈ es /\ e.on = nZ π a := by
 intro es
 induction es with
 | nil => intro e h; simp [uA] at h
 | cons q r ih =>
   obtain ⟨a, b⟩ := q
   intro e h
   simp only [uA] at h
   cases hb : Nat.beq b i with
   | true =>
     rw [hb] at h
     obtain rfl := LC hb
     rcases L5.1 h with rfl | h
     .exact ⟨a, by simp, rfl⟩
     .obtain ⟨a, h1, h2⟩ := ih h; exact ⟨a, Lx _ h1, h2⟩
   | false => rw [hb] at h; obtain ⟨a, h1, h2⟩ := ih h; exact ⟨a, Lx _ h1, h2⟩
theorem Hb (p : D3 π ops) {L0 : List Nat} (hes : ∀ q ∈ es, L0.idxOf q.1 <= L0.idxOf q.2 /\ q.1 ≠ q.2 /\ q.1 < ops.size) :
 ∀ (fuel : Nat) (listed listed' : Array Bool) (pre L : List Nat), L0 = pre ++ L -> listed.size = ops.size -> listed'.size = ops.size →
   (∀ j, j < ops.size -> listed'.getD (nZ π j) false = listed.getD j false) -> (∀ j ∈ pre, listed.getD j false = true) -> (∀ j, listed.getD j false = true -> j ∈ pre) →
   EG ops fuel listed L -> EG (kG π es ops) fuel listed' (L.map (nZ π)) /\ ∀ i ∈ L, i < ops.size := by
 intro fuel
 induction fuel with
 | zero => intro listed listed' pre L _ _ _ _ _ _ h; obtain rfl : L = [] := h; exact ⟨rfl, by simp⟩
 | succ fuel ih =>
   intro listed listed' pre L hL0 hs hs' hrel hpre hpre' h
   have hsz : (kG π es ops).size = ops.size := p.size
   cases L with
   | nil =>
     refine ⟨?_, by simp⟩
     show Region.ready .any (kG π es ops) listed' = []
     rw [List.eq_nil_iff_forall_not_mem]
     intro k hk
     obtain ⟨h1, h2, h3⟩ := (A1 (by omega) k).1 hk
     obtain ⟨i, hi1, hi2, hi3⟩ := p.back k (by omega)
     have : i ∈ Region.ready .any ops listed := by
      refine (A1 hs i).2 ⟨hi3, ?_, fun o ho e he hb => ?_⟩
      .rw [<- hrel i hi3, hi2]; exact h2
      .have g := p.get (es := es) hi3
       rw [hi2, ho] at g
       have hon := p.after i o ho e he
       have := h3 _ g ⟨nZ π e.on, e.ground⟩ (by
        simp only [wG, List.mem_toArray, Mr, List.mem_map]
        exact .inl ⟨e, by simpa using he, rfl⟩) (by unfold Region.binds at hb ⊢; exact hb)
       rw [<- hrel e.on hon]; exact this
     rw [show Region.ready .any ops listed = [] from h] at this
     cases this
   | cons i L =>
     obtain ⟨h1, h2⟩ := h
     obtain ⟨r1, r2, r3⟩ := (A1 hs i).1 h1
     have hnot : i ∉ pre := fun hm => by rw [hpre i hm] at r2; cases r2
     have hidx : L0.idxOf i = pre.length := by
      rw [hL0, List.idxOf_append, if_neg hnot]; simp
     have ready' : nZ π i ∈ Region.ready .any (kG π es ops) listed' := by
      refine (A1 (by omega) _).2 ⟨by rw [hsz]; exact (p.to i r1).1, by rw [hrel i r1]; exact r2, fun o' ho' e' he' hb => ?_⟩
      rw [p.get r1, Ly r1] at ho'
      simp only [LH, Option.some.injEq] at ho'
      subst ho'
      simp only [wG, List.mem_toArray, Mr, List.mem_map] at he'
      rcases he' with ⟨e, he, rfl⟩ | he'
      .have ho := Ly r1
       have he2 : e ∈ ops[i].after := by simpa using he
       rw [hrel e.on (p.after i _ ho e he2)]
       exact r3 _ ho e he2 (by unfold Region.binds at hb ⊢; exact hb)
      .obtain ⟨a, ha, hon⟩ := HW he'
       obtain ⟨q1, q2, q3⟩ := hes _ ha
       simp only at q1 q2 q3
       rw [hon, hrel a q3]
       refine hpre a ?_
       rw [hidx] at q1
       rw [hL0, List.idxOf_append] at q1
       by_cases hm : a ∈ pre
       .exact hm
       .rw [if_neg hm] at q1
        exfalso
        have hz : (i :: L).idxOf a = 0 := by omega
        rw [List.idxOf_cons] at hz
        cases hb : (i == a) with
        | true => exact q2 (by simpa using (beq_iff_eq.1 hb).symm)
        | false => rw [hb] at hz; simp at hz
     have hlen' : listed'.size = ops.size := hs'
     obtain ⟨k1, k2⟩ := ih (listed.setIfInBounds i true) (listed'.setIfInBounds (nZ π i) true) (pre ++ [i]) L (by rw [hL0]; simp) (by simp [hs]) (by simp [hs'])
      (fun j hj => by
       by_cases hji : j = i
       .subst hji
        rw [Lp, Lp, LL (by rw [hs']; exact (p.to j hj).1), LL (by omega)]
       .have hne : nZ π i ≠ nZ π j := fun e => by
         have a1 := (p.to i r1).2
         have a2 := (p.to j hj).2
         rw [e] at a1
         rw [a1] at a2
         exact hji (LP a2).symm
        have := hrel j hj
        rw [Lp, Lp] at this ⊢
        rw [LM hne, LM (fun e => hji e.symm)]
        exact this)
      (fun j hj => by
       rw [Lp]
       rcases Mr.1 hj with hj | hj
       .by_cases hji : j = i
        .subst hji; rw [LL (by omega)] <;> rfl
        .rw [LM (fun e => hji e.symm), <- Lp]; exact hpre j hj
       .have : j = i := by simpa using hj
        subst this
        rw [LL (by omega)] <;> rfl)
      (fun j hj => by
       by_cases hji : j = i
       .subst hji; simp
       .rw [Lp, LM (fun e => hji e.symm), <- Lp] at hj
        exact LZ _ (hpre' j hj))
      h2
     exact ⟨⟨ready', k1⟩, fun j hj => (L5.1 hj).elim (fun e => e ▸ r1) (k2 j)⟩
end
section
variable {P : Program} {ops : Array Oper}
theorem Da {N : Nat} {an : GW} {pl : Fa} (hok : Dz ops an = true) (hpl : Dq ops.size an pl = true) (hd : Bx N ops) (hca : B4 P ops)
 {K : Env -> MA -> Prop} {Q : Act -> MA -> Prop} (hQ : ∀ g a w, A0 N g a -> K g w -> Q a w) {g : Env} {a : Act} {w : MA} (hr : A0 N g a)
 (h : lG P ops ops.toList pl [] g w K) : Dy P ops Q ops.size (Array.replicate ops.size false) a w := by
 have r0 : HD P ops an g w 0 (fun _ => default) (fun _ => g) (fun _ => w) (fun _ => undef) :=
  ⟨rfl, rfl, fun i hi => by omega, fun i hi => by omega, fun i hi => by omega, fun i hi => by omega, fun i j _ hj => by omega⟩
 obtain ⟨O, G, W, V, r, hk⟩ := FF hpl ops.toList 0 [] _ _ _ _ (fun j => by simp) (by simp) r0 (fun i hi => by omega) h
 simp only [Ln, Array.length_toList] at r hk
 have st := G8 hok r.op
 have := IH (Q := Q) (n := ops.size) rfl hd hca r st (fun a hra => hQ _ a _ hra hk) ops.size (Array.replicate ops.size false) g a 0 (by simp) hr (by omega)
  (fun j hj hl => by unfold jD at hl; simp [Lp, hj] at hl)
  (fun s => .inr ⟨fun j hj hl => by unfold jD at hl; simp [Lp, hj] at hl, rfl⟩)
  (fun h hh _ => ⟨fun hl => by unfold jD at hl; simp [Lp, hh] at hl, fun hl => by omega⟩)
  (Nat.le_trans (List.length_filter_le _ _) (by simp))
 rw [r.w0] at this
 exact this
theorem CO {N : Nat} {ops : Array Oper} (h : ops.all (GK N) = true) : Bx N ops := by
 intro i o ho t ht
 have := LQ.1 h o (My ho)
 unfold GK at this
 rw [ht] at this
 exact (Me (x := t) (y := N)) ▸ this
theorem DV {ops : Array Oper} (h : ops.all (qX P) = true) : B4 P ops :=
 fun _ o ho => LQ.1 h o (My ho)
theorem F7 {N : Nat} {f : FuncId} {id : Nat} (hd : Bx N ops) (hca : B4 P ops)
 {K : Env -> MA -> Prop} {Q : Act -> MA -> Prop} (hQ : ∀ g a w, A0 N g a -> K g w -> Q a w) {g : Env} {a : Act} {w0 w : MA} (hr : A0 N g a) :
 ∀ (T : HT) (path : List (Nat × Nat)), BP P N ops path T = true →
   (∀ q ∈ path, (Region.schedule true ops (w0.tape w0.drawn (.order f id))).idxOf q.1 <= (Region.schedule true ops (w0.tape w0.drawn (.order f id))).idxOf q.2 /\ q.1 ≠ q.2) →
   FT P f id ops T g w0 w K -> rV P ops Q (Region.schedule true ops (w0.tape w0.drawn (.order f id))) a w := by
 have lin : EG ops ops.size (Array.replicate ops.size false) (Region.schedule true ops (w0.tape w0.drawn (.order f id))) := by
  unfold Region.schedule
  simp only [Bool.true_or, if_true]
  exact I3 _ _ _
 generalize hL : Region.schedule true ops (w0.tape w0.drawn (.order f id)) = L at lin ⊢
 intro T
 induction T with
 | leaf an pl =>
   intro path hok _ h
   simp only [BP, Lo] at hok
   exact Cc _ _ _ _ _ (Da hok.1 hok.2 hd hca hQ hr h) lin
 | perm π es an pl =>
   intro path hok hpath h
   simp only [BP, Lo] at hok
   obtain ⟨⟨⟨⟨⟨h1, h2⟩, h3⟩, h4⟩, h5⟩, h6⟩ := hok
   have p := I0 h2
   have hes : ∀ q ∈ es, L.idxOf q.1 <= L.idxOf q.2 /\ q.1 ≠ q.2 /\ q.1 < ops.size := fun q hq => by
    have := LI.1 h1 q hq
    simp only [Lo] at this
    have hp := hpath q (IC this.1)
    exact ⟨hp.1, hp.2, (Me (x := q.1) (y := ops.size)) ▸ this.2⟩
   obtain ⟨k1, k2⟩ := Hb (es := es) p hes ops.size (Array.replicate ops.size false) (Array.replicate ops.size false) [] L rfl (by simp) (by simp)
    (fun j hj => by simp [Lp, hj, (p.to j hj).1]) (by simp)
    (fun j hj => by rw [Lp] at hj; by_cases hh : j < ops.size <;> simp [hh] at hj) lin
   have hw := Da h5 h6 (CO h3) (DV h4) hQ hr h
   rw [p.size] at hw
   exact GG (es := es) p L k2 a w (Cc _ _ _ _ _ hw k1)
 | split x y A B ihA ihB =>
   intro path hok hpath h
   simp only [BP, Lo] at hok
   have hne : x ≠ y := by
    intro e
    have := hok.1.1
    rw [e] at this
    simp at this
   simp only [FT] at h
   unfold Ord JE at h
   rw [hL] at h
   cases hb : Nat.ble (L.idxOf x) (L.idxOf y) with
   | true =>
     rw [hb] at h
     refine ihA _ hok.1.2 (fun q hq => ?_) h
     rcases L5.1 hq with rfl | hq
     .exact ⟨Mi hb, hne⟩
     .exact hpath q hq
   | false =>
     rw [hb] at h
     refine ihB _ hok.2 (fun q hq => ?_) h
     rcases L5.1 hq with rfl | hq
     .refine ⟨?_, hne.symm⟩
      simp only
      rcases Mf (L.idxOf y) (L.idxOf x) with hh | hh
      .omega
      .have := Nat.ble_eq_true_of_le hh; rw [this] at hb; cases hb
     .exact hpath q hq
end
section
variable {P : Program} {ann : FA}
def jW : List Oper -> List Nat
 | [] => []
 | o :: r => match o.dst with | some d => d :: jW r | none => jW r
def Bf : Code -> List Nat
 | .region _ ops _ => jW ops.toList
 | .seq x y => Bf x ++ Bf y
 | .cond _ x y => Bf x ++ Bf y
 | .block _ c => Bf c
 | .scope c => Bf c
 | .loop c => Bf c
 | .rangeFunc .. => [DS]
 | _ => []
def jC (l : List Nat) (g g' : Env) : Prop := ∀ s, s ∉ l -> g' s = g s
theorem jC.refl (l : List Nat) (g : Env) : jC l g g := fun _ _ => rfl
theorem jC.trans {l l1 l2 : List Nat} {a b c : Env} (h : jC l1 a b) (k : jC l2 b c) (h1 : ∀ s, s ∈ l1 -> s ∈ l) (h2 : ∀ s, s ∈ l2 -> s ∈ l) : jC l a c :=
 fun s hs => (k s fun h => hs (h2 s h)).trans (h s fun h => hs (h1 s h))
theorem jC.mono {l l1 : List Nat} {a b : Env} (h : jC l1 a b) (h1 : ∀ s, s ∈ l1 -> s ∈ l) : jC l a b := fun s hs => h s fun hh => hs (h1 s hh)
theorem jC.put {l : List Nat} {a : Env} (d : Option Tmp) (v : MB) (h : ∀ t, d = some t -> t ∈ l) : jC l a (put a d v) := by
 intro s hs
 cases d with
 | none => rfl
 | some t =>
   rw [yA, if_neg (fun e => hs (by rw [e]; exact h t rfl))]
theorem Gc {ops : Array Oper} {K : Env -> MA -> Prop} : ∀ (l : List Oper) (g : Env) (w : MA), DW P ops l g w K →
 ∃ g' w', K g' w' /\ jC (jW l) g g' /\ ∀ K' : Env -> MA -> Prop, K' g' w' -> DW P ops l g w K' := by
 intro l
 induction l with
 | nil => intro g w h; exact ⟨g, w, h, jC.refl _ _, fun _ h => h⟩
 | cons o l ih =>
   intro g w h
   obtain ⟨v, w1, hy, h1⟩ := zO h
   obtain ⟨g', w', hk, ha, hall⟩ := ih _ _ h1
   refine ⟨g', w', hk, ?_, fun K' hk' => hy _ (hall K' hk')⟩
   refine jC.trans (jC.put o.dst v (l := jW (o :: l)) fun t ht => by simp [jW, ht]) ha (fun _ h => h) (fun s hs => ?_)
   unfold jW
   split
   .exact Lx _ hs
   .exact hs
theorem Db {ops : Array Oper} {K : Env -> MA -> Prop} : ∀ (l : List Oper) (pl : Fa) (hist : List Rec) (g : Env) (w : MA), lG P ops l pl hist g w K →
 ∃ g' w', K g' w' /\ jC (jW l) g g' /\ ∀ K' : Env -> MA -> Prop, K' g' w' -> lG P ops l pl hist g w K' := by
 intro l
 induction l with
 | nil => intro pl hist g w h; unfold lG at h; exact ⟨g, w, h, jC.refl _ _, fun _ h => (by unfold lG; exact h)⟩
 | cons o l ih =>
   intro pl hist g w h
   cases pl with
   | nil => exact h.elim
   | cons p pl =>
     obtain ⟨hv, ks⟩ := p
     obtain ⟨v, w1, hy, h1⟩ := zO h
     have tail : ∀ (w2 : MA) (hist' : List Rec), lG P ops l pl hist' (put g o.dst v) w2 K →
         ∃ g' w', K g' w' /\ jC (jW (o :: l)) g g' /\ ∀ K' : Env -> MA -> Prop, K' g' w' -> lG P ops l pl hist' (put g o.dst v) w2 K' := by
      intro w2 hist' c2
      obtain ⟨g', w', hk, ha, hall⟩ := ih _ _ _ _ c2
      refine ⟨g', w', hk, ?_, hall⟩
      refine jC.trans (jC.put o.dst v (l := jW (o :: l)) fun t ht => by simp [jW, ht]) ha (fun _ h => h) (fun s hs => ?_)
      unfold jW
      split
      .exact Lx _ hs
      .exact hs
     cases hv with
     | true =>
       cases ks with
       | nil =>
         obtain ⟨g', w', hk, ha, hall⟩ := tail w1 _ h1
         exact ⟨g', w', hk, ha, fun K' hk' => hy _ (hall K' hk')⟩
       | cons k ks =>
         obtain ⟨hc, h1⟩ := h1
         obtain ⟨g', w', hk, ha, hall⟩ := tail w1 _ h1
         exact ⟨g', w', hk, ha, fun K' hk' => hy _ ⟨hc, hall K' hk'⟩⟩
     | false =>
       cases ks with
       | nil =>
         obtain ⟨rfl, h1⟩ := h1
         obtain ⟨g', w', hk, ha, hall⟩ := tail w1 _ h1
         exact ⟨g', w', hk, ha, fun K' hk' => hy _ ⟨rfl, hall K' hk'⟩⟩
       | cons k ks =>
         obtain ⟨rfl, hc, h1⟩ := h1
         obtain ⟨g', w', hk, ha, hall⟩ := tail w1 _ h1
         exact ⟨g', w', hk, ha, fun K' hk' => hy _ ⟨rfl, hc, hall K' hk'⟩⟩
theorem vZ {l : List Oper} {s : Nat} : s ∈ jW l ↔ ∃ o ∈ l, o.dst = some s := by
 induction l with
 | nil => simp [jW]
 | cons o l ih =>
   unfold jW
   cases hd : o.dst with
   | none => simp [ih, hd]
   | some d => simp [ih, hd, eq_comm]
theorem F4 {π : List Nat} {es : List (Nat × Nat)} {l : List Oper} {s : Nat} : ∀ (r : List Nat), s ∈ jW (BY π es l r) -> s ∈ jW l := by
 intro r
 induction r with
 | nil => intro h; simp [BY, jW] at h
 | cons i r ih =>
   intro h
   simp only [BY] at h
   cases ho : l[i]? with
   | none => rw [ho] at h; exact ih h
   | some o =>
     rw [ho] at h
     obtain ⟨o', h1, h2⟩ := vZ.1 h
     rcases L5.1 h1 with rfl | h1
     .exact vZ.2 ⟨o, List.mem_of_getElem? ho, h2⟩
     .exact ih (vZ.2 ⟨o', h1, h2⟩)
theorem HH {f : FuncId} {id : Nat} {ops : Array Oper} {K : Env -> MA -> Prop} {g : Env} {w0 : MA} : ∀ (T : HT) (w : MA), FT P f id ops T g w0 w K →
 ∃ g' w', K g' w' /\ jC (jW ops.toList) g g' /\ ∀ K' : Env -> MA -> Prop, K' g' w' -> FT P f id ops T g w0 w K' := by
 intro T
 induction T with
 | leaf an pl => intro w h; exact Db _ _ _ _ _ h
 | perm π es an pl =>
   intro w h
   obtain ⟨g', w', a, b, c⟩ := Db _ _ _ _ _ h
   exact ⟨g', w', a, b.mono (fun s hs => F4 π (by simpa [kG] using hs)), c⟩
 | split x y A B ihA ihB =>
   intro w h
   simp only [FT, Ord] at h ⊢
   cases hb : JE f id ops x y w0 with
   | true => rw [hb] at h; exact ihA w h
   | false => rw [hb] at h; exact ihB w h
theorem iW.head {α : Type} {F : (α -> MA -> Prop) -> α -> MA -> Prop} (hmono : ∀ X Y g w, (∀ g w, X g w -> Y g w) -> F X g w -> F Y g w)
 {g : α} {w : MA} (h : F (fun g' w' => iW F g' w') g w) (hdet : ∃ g' w', iW F g' w' /\ ∀ X : α -> MA -> Prop, X g' w' -> F X g w) : iW F g w := by
 obtain ⟨g1, w1, ⟨I, ⟨n1, h1⟩, hI⟩, hF⟩ := hdet
 refine ⟨fun n g' w' => I n g' w' ∨ (n = n1 + 1 /\ g' = g /\ w' = w), ⟨n1 + 1, .inr ⟨rfl, rfl, rfl⟩⟩, ?_⟩
 rintro n g' w' (h | ⟨rfl, rfl, rfl⟩)
 .exact hmono _ _ _ _ (fun _ _ ⟨m, hm, hh⟩ => ⟨m, hm, .inl hh⟩) (hI _ _ _ h)
 .exact hF _ ⟨n1, by omega, .inl h1⟩
theorem Jz {f : FuncId} {gf : Operand} {ps : Array Tmp} {Le bd : Code} {Q : Exit -> Env -> MA -> Prop} {g : Env} {w : MA} (h : RF P f gf ps Le bd Q g w) :
 ∃ e g' w', Q e g' w' /\ jC [DS] g g' /\ ∀ Q' : Exit -> Env -> MA -> Prop, Q' e g' w' -> RF P f gf ps Le bd Q' g w := by
 unfold RF at h ⊢
 cases hn : noMark (g DS) with
 | false => rw [hn] at h; exact h.elim
 | true =>
   rw [hn] at h
   simp only at h ⊢
   generalize (CR (ev g gf) [BJ (w.heap.size + 1)]).run P (Kb f (Hf P f) ps Le bd g w) = r at *
   match r, h with
   | .ok (.enter f2 args) w1, h =>
     obtain ⟨v, w3, hret, r, h1, h2, h3⟩ := h
     have ha : jC [DS] g (put g (some DS) (.pointer (some ⟨w.heap.size, 0, none⟩))) := jC.put _ _ (fun t ht => by cases ht; simp)
     cases hp : r.pending with
     | none =>
       rw [hp] at h3
       exact ⟨.normal, _, _, h3, ha, fun Q' h => ⟨v, w3, hret, r, h1, h2, by rw [hp]; exact h⟩⟩
     | some c =>
       rw [hp] at h3
       cases c <;> first
        | exact h3.elim
        | exact ⟨.ret, _, _, h3, ha, fun Q' h => ⟨v, w3, hret, r, h1, h2, by rw [hp]; exact h⟩⟩
        | exact ⟨.exit _, _, _, h3, ha, fun Q' h => ⟨v, w3, hret, r, h1, h2, by rw [hp]; exact h⟩⟩
theorem GX : ∀ (c : Code) (Q : Exit -> Env -> MA -> Prop) (g : Env) (w : MA), gK P ann c Q g w →
 ∃ e g' w', Q e g' w' /\ jC (Bf c) g g' /\ ∀ Q' : Exit -> Env -> MA -> Prop, Q' e g' w' -> gK P ann c Q' g w := by
 intro c
 induction c with
 | skip => intro Q g w h; exact ⟨_, _, _, h, jC.refl _ _, fun _ h => h⟩
 | region id ops draw =>
   intro Q g w h
   cases draw with
   | false =>
     obtain ⟨g', w', a, b, c⟩ := Gc _ _ _ h
     exact ⟨.normal, g', w', a, b, fun Q' h => c _ h⟩
   | true =>
     obtain ⟨g', w', a, b, c⟩ := HH _ _ h
     exact ⟨.normal, g', w', a, b, fun Q' h => c _ h⟩
 | seq x y ihx ihy =>
   intro Q g w h
   obtain ⟨e, g1, w1, a, b, c⟩ := ihx _ _ _ h
   cases e with
   | normal =>
     obtain ⟨e2, g2, w2, a2, b2, c2⟩ := ihy _ _ _ a
     exact ⟨e2, g2, w2, a2, b.trans b2 (fun s h => LZ _ h) (fun s h => Mh _ h), fun Q' h => c _ (c2 _ h)⟩
   | _ => exact ⟨_, g1, w1, a, b.mono (fun s h => LZ _ h), fun Q' h => c _ h⟩
 | cond c x y ihx ihy =>
   intro Q g w h
   simp only [gK] at h ⊢
   unfold lC at h ⊢
   cases hc : ev g c with
   | bool b =>
     rw [hc] at h
     cases b with
     | true =>
       obtain ⟨e, g', w', a, b, c⟩ := ihx _ _ _ h
       exact ⟨e, g', w', a, b.mono (fun s h => LZ _ h), c⟩
     | false =>
       obtain ⟨e, g', w', a, b, c⟩ := ihy _ _ _ h
       exact ⟨e, g', w', a, b.mono (fun s h => Mh _ h), c⟩
   | _ => rw [hc] at h; exact h.elim
 | block id c ih =>
   intro Q g w h
   obtain ⟨e, g', w', a, b, c⟩ := ih _ _ _ h
   cases e with
   | exit i =>
     simp only [Jc] at a
     cases hb : Nat.beq i id with
     | true =>
       simp only [hb] at a
       refine ⟨.normal, g', w', a, b, fun Q' h => c _ ?_⟩
       simp only [Jc, hb]; exact h
     | false =>
       simp only [hb] at a
       refine ⟨.exit i, g', w', a, b, fun Q' h => c _ ?_⟩
       simp only [Jc, hb]; exact h
   | _ => exact ⟨_, g', w', a, b, fun Q' h => c _ h⟩
 | loop c ih =>
   intro Q g w h
   have hmono : ∀ (Q : Exit -> Env -> MA -> Prop) (X Y : Env -> MA -> Prop) g w, (∀ g w, X g w -> Y g w) -> gK P ann c (qE X Q) g w -> gK P ann c (qE Y Q) g w := by
    intro Q X Y g w hxy h
    obtain ⟨e, g', w', a, _, k⟩ := ih _ _ _ h
    refine k _ ?_
    cases e with
    | normal => exact hxy _ _ a
    | _ => exact a
   obtain ⟨I, ⟨n, h0⟩, hI⟩ := h
   have key : ∀ n g w, I n g w -> ∃ e g' w', Q e g' w' /\ jC (Bf c) g g' /\ ∀ Q' : Exit -> Env -> MA -> Prop, Q' e g' w' -> iW (fun X g w => gK P ann c (qE X Q') g w) g w := by
    intro n
    induction n using Nat.strongRecOn with
    | _ n ih2 =>
      intro g w hg
      obtain ⟨e, g1, w1, a, b, k⟩ := ih _ _ _ (hI n g w hg)
      have once : ∀ (Q' : Exit -> Env -> MA -> Prop), (∀ X : Env -> MA -> Prop, gK P ann c (qE X Q') g w) -> iW (fun X g w => gK P ann c (qE X Q') g w) g w := by
       intro Q' h
       refine ⟨fun n g' w' => g' = g /\ w' = w, ⟨0, rfl, rfl⟩, ?_⟩
       rintro _ g' w' ⟨rfl, rfl⟩
       exact h _
      cases e with
      | normal =>
        obtain ⟨m, hm, hIm⟩ := a
        obtain ⟨e2, g2, w2, a2, b2, k2⟩ := ih2 m hm g1 w1 hIm
        refine ⟨e2, g2, w2, a2, b.trans b2 (fun _ h => h) (fun _ h => h), fun Q' h => ?_⟩
        have hl := k2 Q' h
        exact iW.head (hmono Q') (k _ hl) ⟨g1, w1, hl, fun X hx => k _ hx⟩
      | _ => exact ⟨_, g1, w1, a, b, fun Q' h => once Q' fun X => k _ h⟩
   exact key n g w h0
 | exit id => intro Q g w h; exact ⟨_, _, _, h, jC.refl _ _, fun _ h => h⟩
 | label l => intro Q g w h; exact ⟨_, _, _, h, jC.refl _ _, fun _ h => h⟩
 | scope c ih => intro Q g w h; exact ih Q g w h
 | ret => intro Q g w h; exact ⟨_, _, _, h, jC.refl _ _, fun _ h => h⟩
 | rangeFunc gf ps Le bd => intro Q g w h; exact Jz h
 | _ => intro Q g w h; exact h.elim
theorem sV {c : Code} {Q Q' : Exit -> Env -> MA -> Prop} {g : Env} {w : MA} (h : gK P ann c Q g w)
 (hq : ∀ e g' w', jC (Bf c) g g' -> Q e g' w' -> Q' e g' w') : gK P ann c Q' g w :=
 let ⟨_, _, _, a, b, k⟩ := GX c Q g w h
 k _ (hq _ _ _ b a)
def JL (Q : Exit -> Env -> MA -> Prop) : Exit -> Env -> MA -> Prop
 | .goto _, _, _ => False
 | e, g, w => Q e g w
theorem GD : ∀ (c : Code) (Q : Exit -> Env -> MA -> Prop) (g : Env) (w : MA), gK P ann c Q g w -> gK P ann c (JL Q) g w := by
 intro c
 induction c with
 | skip => intro Q g w h; exact h
 | region id ops draw => intro Q g w h; cases draw <;> exact h
 | seq x y ihx ihy =>
   intro Q g w h
   show gK P ann x (qE (fun g w => gK P ann y (JL Q) g w) (JL Q)) g w
   refine sV (ihx _ _ _ h) (fun e g' w' _ hq => ?_)
   cases e with
   | normal => exact ihy _ _ _ hq
   | goto l => exact hq.elim
   | _ => exact hq
 | cond c x y ihx ihy =>
   intro Q g w h
   simp only [gK] at h ⊢
   unfold lC at h ⊢
   cases hc : ev g c with
   | bool b =>
     rw [hc] at h
     cases b with
     | true => exact ihx _ _ _ h
     | false => exact ihy _ _ _ h
   | _ => rw [hc] at h; exact h.elim
 | block id c ih =>
   intro Q g w h
   show gK P ann c (Jc id (JL Q)) g w
   refine sV (ih _ _ _ h) (fun e g' w' _ hq => ?_)
   cases e with
   | exit i =>
     simp only [JL, Jc] at hq ⊢
     cases hb : Nat.beq i id with
     | true => rw [hb] at hq; exact hq
     | false => rw [hb] at hq; exact hq
   | goto l => exact hq.elim
   | _ => exact hq
 | loop c ih =>
   intro Q g w h
   obtain ⟨I, h0, hI⟩ := h
   refine ⟨I, h0, fun n g w hi => ?_⟩
   refine sV (ih _ _ _ (hI n g w hi)) (fun e g' w' _ hq => ?_)
   cases e with
   | normal => exact hq
   | goto l => exact hq.elim
   | _ => exact hq
 | exit id => intro Q g w h; exact h
 | label l => intro Q g w h; exact h
 | scope c ih => intro Q g w h; exact ih Q g w h
 | ret => intro Q g w h; exact h
 | rangeFunc gf ps Le bd =>
   intro Q g w h
   have h : RF P ann.f gf ps Le bd Q g w := h
   show RF P ann.f gf ps Le bd (JL Q) g w
   unfold RF at h ⊢
   cases hn : noMark (g DS) with
   | false => rw [hn] at h; exact h.elim
   | true =>
     rw [hn] at h
     simp only at h ⊢
     generalize (CR (ev g gf) [BJ (w.heap.size + 1)]).run P (Kb ann.f (Hf P ann.f) ps Le bd g w) = r at *
     match r, h with
     | .ok (.enter f2 args) w1, h =>
       obtain ⟨v, w3, hret, r, h1, h2, h3⟩ := h
       refine ⟨v, w3, hret, r, h1, h2, ?_⟩
       cases hp : r.pending with
       | none => rw [hp] at h3; exact h3
       | some c => rw [hp] at h3; cases c <;> exact h3
 | _ => intro Q g w h; exact h.elim
theorem DT {N : Nat} {g : Env} {a : Act} (h : A0 N g a) : a.tmps = tmpsOf N g := by
 refine Array.ext (by simp [tmpsOf, h.size]) fun i h1 h2 => ?_
 have hi : i < N := by rw [<- h.size]; exact h1
 have := h.at_ i (Nat.ne_of_lt (Mt hi h.le))
 rw [Lp, Ly h1] at this
 simp [tmpsOf] at this ⊢
 exact this
theorem Iu {v : MB} (h : noMark v = true) : FK v = [] := by cases v <;> first | rfl | cases h
theorem Hz {N : Nat} (hm : P.follows .mixedOrders = true) {ro : Option Nat} (hN : Hf P ann.f = N) : ∀ (c : Code), codeOk P N ann c = true -> ro = none ∨ oF c = true →
 ∀ (Q : Exit -> Env -> MA -> Prop) (QA : Exit -> Act -> MA -> Prop) (g : Env) (a : Act) (w : MA), A0 N g a →
   (∀ e g a w, A0 N g a -> Q e g w -> QA e a w) -> gK P ann c Q g w -> Ec P ann.f ro c QA a w := by
 intro c
 induction c with
 | skip => intro _ _ Q QA g a w hr hq h; exact HO (hq _ _ _ _ hr h)
 | region id ops draw =>
   intro hok _ Q QA g a w hr hq h
   simp only [codeOk, Lo, LS, LV] at hok
   have hd := CO hok.1.1
   have hca := DV hok.1.2
   cases draw with
   | false =>
     refine Ga ?_
     have := Hk hd hca (P := P) (Q := QA .normal) (K := Q .normal) (fun g a w => hq .normal g a w) ops.toList 0 g a w (fun j => by simp) hr h
     rw [List.range_eq_range']
     simpa using this
   | true =>
     rcases hok.2 with h1 | h1
     .cases h1
     .exact Di hm (F7 hd hca (fun g a w => hq .normal g a w) hr _ [] h1 (by simp) h)
 | seq x y ihx ihy =>
   intro hok hfl Q QA g a w hr hq h
   simp only [codeOk, Lo] at hok
   have hfx : ro = none ∨ oF x = true := hfl.imp id fun h => by simp only [oF, Lo] at h; exact h.1
   have hfy : ro = none ∨ oF y = true := hfl.imp id fun h => by simp only [oF, Lo] at h; exact h.2
   refine I5 (ihx hok.1 hfx _ _ g a w hr (fun e g a w hr h => ?_) h)
   cases e with
   | normal => exact ihy hok.2 hfy _ _ g a w hr hq h
   | _ => exact hq _ _ _ _ hr h
 | cond c x y ihx ihy =>
   intro hok hfl Q QA g a w hr hq h
   simp only [codeOk, Lo] at hok
   have hfx : ro = none ∨ oF x = true := hfl.imp id fun h => by simp only [oF, Lo] at h; exact h.1
   have hfy : ro = none ∨ oF y = true := hfl.imp id fun h => by simp only [oF, Lo] at h; exact h.2
   simp only [gK] at h
   unfold lC at h
   have he := hr.ev c hok.1
   cases hc : ev g c with
   | bool b =>
     rw [hc] at h he
     refine H9 he ?_
     cases b with
     | true => exact ihx hok.2.1 hfx _ _ g a w hr hq h
     | false => exact ihy hok.2.2 hfy _ _ g a w hr hq h
   | _ => rw [hc] at h; exact h.elim
 | block id c ih =>
   intro hok hfl Q QA g a w hr hq h
   refine Hw (ih hok hfl _ _ g a w hr (fun e g a w hr h => ?_) h)
   cases e with
   | exit i =>
     unfold Exit.inBlock
     simp only [Jc] at h
     by_cases hi : i = id
     .subst hi
      simp only [if_true]
      simp only [Nat.beq_refl] at h
      exact hq _ _ _ _ hr h
     .simp only [hi, if_false]
      have : Nat.beq i id = false := by
       cases hb : Nat.beq i id
       .rfl
       .exact absurd (LC hb) hi
      simp only [this] at h
      exact hq _ _ _ _ hr h
   | _ => exact hq _ _ _ _ hr h
 | loop c ih =>
   intro hok hfl Q QA g a w hr hq h
   obtain ⟨I, h0, hround⟩ := h
   have hex : ∀ a w, (∃ n g, A0 N g a /\ I n g w) -> ∃ n, (∃ g, A0 N g a /\ I n g w) /\ ∀ m, (∃ g, A0 N g a /\ I m g w) -> n <= m := by
    rintro a w ⟨n, hn⟩
    induction n using Nat.strongRecOn with
    | _ n ih2 =>
      by_cases hx : ∃ m, m < n /\ ∃ g, A0 N g a /\ I m g w
      .obtain ⟨m, hm, h⟩ := hx; exact ih2 m hm h
      .exact ⟨n, hn, fun m hm => Nat.le_of_not_lt fun hlt => hx ⟨m, hlt, hm⟩⟩
   have hdec : ∀ a w, Decidable (∃ n g, A0 N g a /\ I n g w) := fun a w => Classical.propDecidable _
   let μ : Act -> MA -> Nat := fun a w => if hh : ∃ n g, A0 N g a /\ I n g w then Classical.choose (hex a w hh) else 0
   have hμ : ∀ a w n g, A0 N g a -> I n g w -> μ a w <= n /\ ∃ g, A0 N g a /\ I (μ a w) g w := by
    intro a w n g hr hI
    have hh : ∃ n g, A0 N g a /\ I n g w := ⟨n, g, hr, hI⟩
    have e : μ a w = Classical.choose (hex a w hh) := dif_pos hh
    have s := Classical.choose_spec (hex a w hh)
    rw [e]
    exact ⟨s.2 n ⟨g, hr, hI⟩, s.1⟩
   obtain ⟨n0, h0⟩ := h0
   refine IE (fun a w => ∃ n g, A0 N g a /\ I n g w) μ ⟨n0, g, hr, h0⟩ ?_
   rintro a w ⟨n, g, hr, hI⟩
   obtain ⟨_, g', hr', hI'⟩ := hμ a w n g hr hI
   refine ih hok hfl _ _ g' a w hr' (fun e g1 a1 w1 hr1 h => ?_) (hround _ _ _ hI')
   cases e with
   | normal =>
     obtain ⟨m, hm, hIm⟩ := h
     have := hμ a1 w1 m g1 hr1 hIm
     exact ⟨⟨m, g1, hr1, hIm⟩, by omega⟩
   | _ => exact hq _ _ _ _ hr1 h
 | label l => intro _ _ Q QA g a w hr hq h; exact G5 (hq _ _ _ _ hr h)
 | scope c ih =>
   intro hok hfl Q QA g a w hr hq h
   refine Hj (ih hok hfl (JL Q) _ g a w hr (fun e g a w hr h => ?_) (GD c _ g w h))
   cases e with
   | goto l => exact h.elim
   | _ => exact hq _ _ _ _ hr h
 | exit id => intro _ _ Q QA g a w hr hq h; exact Fi (hq _ _ _ _ hr h)
 | ret => intro _ _ Q QA g a w hr hq h; exact GZ (hq _ _ _ _ hr h)
 | rangeFunc gf ps Le bd =>
   intro hok hfl Q QA g a w hr hq h
   have hro : ro = none := hfl.resolve_right (by simp [oF])
   subst hro
   have hok : EA gf = true := hok
   have h : RF P ann.f gf ps Le bd Q g w := h
   unfold RF at h
   cases hn : noMark (g DS) with
   | false => rw [hn] at h; exact h.elim
   | true =>
     rw [hn] at h
     simp only [hN] at h
     have ed : a.defers = [] := by rw [hr.defers, Iu hn]
     have er := run_enterLoop_outer (P := P) (w := w) ann.f a.tmps ps Le bd
     rw [DT hr] at er
     have er : (Instr.enterLoop ann.f a.tmps ps Le bd none).run P w = .ok (w.heap.size + 1, [{ target := .collected w.heap.size, args := #[] }]) (Kb ann.f N ps Le bd g w) := by rw [DT hr]; exact er
     generalize Kb ann.f N ps Le bd g w = w1 at *
     have ee := hr.ev gf hok
     unfold CR at h
     have hres : resolve a.eval (rangeCall gf (w.heap.size + 1)) 0 = Deferred.ofValue (ev g gf) #[BJ (w.heap.size + 1)] := by
      have : resolve a.eval (rangeCall gf (w.heap.size + 1)) 0 = Deferred.ofValue (a.eval gf) #[BJ (w.heap.size + 1)] := by
       simp only [resolve, List.map_toArray, List.map_cons, List.map_nil]; rfl
      rw [this, ee]
     rw [show ([BJ (w.heap.size + 1)] : List MB).toArray = #[BJ (w.heap.size + 1)] from rfl, <- hres, Sem.run_bind] at h
     cases hv : (resolve a.eval (rangeCall gf (w.heap.size + 1)) 0).run P w1 with
     | halt x wx => rw [hv] at h; exact h.elim
     | ok d wx =>
       have hwx : wx = w1 := by
        rw [hres] at hv
        unfold Deferred.ofValue at hv
        split at hv <;> first | (simp only [Sem.run_pure] at hv; cases hv; rfl) | (simp [stuck] at hv)
       subst hwx
       rw [hv] at h
       simp only [Result.andThen] at h
       cases hi : (invoke d.target d.args).run P wx with
       | halt x w2 => rw [hi] at h; exact h.elim
       | ok nx w2 =>
         rw [hi] at h
         cases nx <;> try (exact h.elim)
         obtain ⟨v, w3, hret, r, h1, h2, h3⟩ := h
         have hrel : ∀ w, A0 N (put g (some DS) (.pointer (some ⟨w, 0, none⟩))) { a with defers := [{ target := .collected w, args := #[] }] ++ a.defers } := fun w => by
          refine ⟨hr.le, ?_, hr.size, fun i hi => ?_⟩
          .rw [yA, if_pos rfl, ed] <;> rfl
          .rw [yA, if_neg hi]; exact hr.at_ i hi
         have key : ∀ (j : Option Code) (w5 : MA), Ke Q (put g (some DS) (.pointer (some ⟨w.heap.size, 0, none⟩))) j w5 →
             Jp P ann.f QA { a with defers := [{ target := .collected w.heap.size, args := #[] }] ++ a.defers } w5 j := by
          intro j w5 h
          cases j with
          | none => exact hq _ _ _ _ (hrel _) h
          | some c =>
            cases c <;> first
             | exact h.elim
             | exact GZ (hq _ _ _ _ (hrel _) h)
             | exact Fi (hq _ _ _ _ (hrel _) h)
         exact G7 er hv hi hret (run_endLoop h1 h2) (key _ _ h3)
 | _ => intro hok; simp [codeOk] at hok
def lD (P : Program) : List ResultVar -> Env -> MA -> (List MB -> Prop) -> Prop
 | [], _, _, K => K []
 | .tmp t :: r, g, w, K => lD P r g w fun vs => K (g t :: vs)
 | .cell a t :: r, g, w, K => ∃ v, (do loadVar t (<- asAddr (g a)) : Sem MB).run P w = .ok v w /\ lD P r g w fun vs => K (v :: vs)
def D6 : List MB -> MB
 | [v] => v
 | vs => .tuple vs.toArray
def Kt (P : Program) (rs : List ResultVar) (R : MB -> MA -> Prop) : Exit -> Env -> MA -> Prop
 | .normal, g, w => lD P rs g w fun vs => R (D6 vs) w
 | .ret, g, w => lD P rs g w fun vs => R (D6 vs) w
 | _, _, _ => False
theorem FG {N : Nat} {g : Env} {a : Act} {w : MA} (hr : A0 N g a) : ∀ (rs : List ResultVar), rs.all Ff = true -> ∀ (K : List MB -> Prop), lD P rs g w K →
 ∃ vs, K vs /\ (rs.mapM fun | .tmp t => pure (a.tmps.getD t undef) | .cell b t => do loadVar t (<- asAddr (a.tmps.getD b undef)) : Sem (List MB)).run P w = .ok vs w := by
 have ne : ∀ t : Nat, Nat.blt t DS = true -> a.tmps.getD t undef = g t := fun t h => hr.at_ t (Nat.ne_of_lt ((Me (x := t) (y := DS)) ▸ h))
 intro rs
 induction rs with
 | nil => intro _ K h; exact ⟨[], h, by simp⟩
 | cons r rs ih =>
   intro hok K h
   simp only [List.all_cons, Lo] at hok
   cases r with
   | tmp t =>
     obtain ⟨vs, h1, h2⟩ := ih hok.2 _ h
     refine ⟨_, h1, ?_⟩
     rw [List.mapM_cons]
     rw [pure_bind, Sem.run_bind]
     simp only [h2, Result.andThen, Sem.run_pure, ne t hok.1]
   | cell b t =>
     obtain ⟨v, hv, h⟩ := h
     obtain ⟨vs, h1, h2⟩ := ih hok.2 _ h
     refine ⟨_, h1, ?_⟩
     rw [List.mapM_cons]
     rw [<- ne b hok.1] at hv
     rw [Sem.run_bind]
     simp only [hv, Result.andThen]
     rw [Sem.run_bind]
     simp only [h2, Result.andThen]
     rfl
theorem JJ (vs : Array MB) : (if h : vs.size = 1 then vs[0] else Value.tuple vs) = D6 vs.toList := by
 obtain ⟨l⟩ := vs
 match l with
 | [] => rfl
 | [v] => rfl
 | a :: b :: r => simp [D6]
theorem EU {N : Nat} {g : Env} {a : Act} {w : MA} (fn : Func) {rs : List ResultVar} (hok : rs.all Ff = true) (hrs : fn.results = rs.toArray) (hr : A0 N g a) {R : MB -> MA -> Prop}
 (h : lD P rs g w fun vs => R (D6 vs) w) : ∃ v, (results fn a.tmps).run P w = .ok v w /\ R v w := by
 obtain ⟨vs, h1, h2⟩ := FG hr rs hok _ h
 refine ⟨D6 vs, ?_, h1⟩
 unfold results
 rw [hrs, Array.mapM_eq_mapM_toList, List.toList_toArray]
 simp only [bind_assoc, map_eq_pure_bind]
 rw [Sem.run_bind]
 refine Eq.trans (congrArg (fun r => Result.andThen r _) h2) ?_
 simp only [Result.andThen]
 simp only [pure_bind, Sem.run_pure, JJ]
def Dv (args : List MB) : Env := fun i => args.getD i undef
def Km (P : Program) (rs : List ResultVar) (R : MB -> MA -> Prop) : Exit -> Env -> MA -> Prop
 | .normal, g, w => yR (g DS) w fun w => lD P rs g w fun vs => R (D6 vs) w
 | .ret, g, w => yR (g DS) w fun w => lD P rs g w fun vs => R (D6 vs) w
 | _, _, _ => False
theorem FN {g : Env} {w : MA} : ∀ (rs : List ResultVar) (K : List MB -> Prop), lD P rs g w K -> ∃ vs, K vs /\ ∀ K' : List MB -> Prop, K' vs -> lD P rs g w K' := by
 intro rs
 induction rs with
 | nil => intro K h; exact ⟨_, h, fun _ h => h⟩
 | cons r rs ih =>
   intro K h
   cases r with
   | tmp t =>
     obtain ⟨vs, a, b⟩ := ih _ h
     exact ⟨_, a, fun K' h => b _ h⟩
   | cell b t =>
     obtain ⟨v, hv, h⟩ := h
     obtain ⟨vs, a, b⟩ := ih _ h
     exact ⟨_, a, fun K' h => ⟨v, hv, b _ h⟩⟩
theorem Ep {v : MB} {w : MA} {K : MA -> Prop} (h : yR v w K) : ∃ w', K w' /\ ∀ K' : MA -> Prop, K' w' -> yR v w K' := by
 cases v with
 | pointer p =>
   cases p with
   | none => exact ⟨_, h, fun _ h => h⟩
   | some a => exact ⟨_, h.2, fun _ h' => ⟨h.1, h'⟩⟩
 | _ => exact ⟨_, h, fun _ h => h⟩
theorem Gx {v : MB} {w : MA} {K K' : MA -> Prop} (h : yR v w K) (hk : ∀ w, K w -> K' w) : yR v w K' :=
 let ⟨w', a, b⟩ := Ep h; b _ (hk w' a)
theorem FV {args : List MB} {N i : Nat} (hle : args.length <= N) (hi : N <= i) : Dv args i = undef := by
 unfold Dv
 rw [LN, Mg (by omega)] <;> rfl
theorem EJ {f : FuncId} {fn : Func} {c : Code} {args : List MB} {w : MA} {rs : List ResultVar} {R : MB -> MA -> Prop} (hm : P.follows .mixedOrders = true) (hAf : ann.f = f)
 (hf : P.funcs[f]? = some fn) (hb : fn.body = some c) (hrs : fn.results = rs.toArray) {N : Nat} (hN : fn.ntmps = N) (hle : args.length <= N)
 (hok : codeOk P N ann c = true) (hro : rs.all Ff = true) (hND : Nat.ble N DS = true) (h : gK P ann c (Km P rs R) (Dv args) w) : fI P f args.toArray w R := by
 obtain ⟨e, g', w', hq, _, hall⟩ := GX _ _ _ _ h
 have hND := Mi hND
 have hNt : Hf P ann.f = N := by unfold Hf; rw [hAf, hf]; exact hN
 have hrv : yR (g' DS) w' fun w => lD P rs g' w fun vs => R (D6 vs) w := by cases e <;> first | exact hq | exact hq.elim
 obtain ⟨w2, hrv2, hsh⟩ := Ep hrv
 obtain ⟨vs, hv, hrest⟩ := FN _ _ hrv2
 refine ⟨D6 vs, w2, ?_, hv⟩
 have hrel : A0 N (Dv args) { tmps := args.toArray ++ Array.replicate (fn.ntmps - args.toArray.size) undef, defers := [] } := by
  refine ⟨hND, by rw [FV hle hND] <;> rfl, by simp [hN]; omega, fun i _ => ?_⟩
  simp only [Dv, Lp, LN]
  by_cases hi : i < args.length
  .simp [Array.getElem?_append, hi]
  .simp only [Array.getElem?_append, List.size_toArray, hi, if_false, Array.getElem?_replicate]
   rw [Mg (by omega)]
   split <;> rfl
 have key := EM (P := P) (f := f) hf hb (R := fun v3 w3 => v3 = D6 vs /\ w3 = w2) (args := args.toArray) (w := w)
  (hAf ▸ Hz hm hNt c hok (.inl rfl) (Km P rs fun v3 w3 => v3 = D6 vs /\ w3 = w2) _ _ _ _ hrel (fun e g a w hr h => ?_) (hall _ ?_))
 .refine Calls.mono key ?_
  rintro e w3 ⟨v, rfl, rfl, rfl⟩
  exact ⟨rfl, rfl⟩
 .have hx : ∀ {w}, (yR (g DS) w fun w => lD P rs g w fun vs' => D6 vs' = D6 vs /\ w = w2) -> ∃ m, a.defers = FK m /\ yR m w fun w' => ∃ v, (results fn a.tmps).run P w' = .ok v w' /\ (v = D6 vs /\ w' = w2) := by
   intro w h
   exact ⟨_, hr.defers, Gx h fun w h => EU fn hro hrs hr (R := fun v3 w3 => v3 = D6 vs /\ w3 = w2) h⟩
  cases e with
  | normal => exact hx h
  | ret => exact hx h
  | _ => exact h.elim
 .have := hsh (fun w => lD P rs g' w fun vs' => D6 vs' = D6 vs /\ w = w2) (hrest _ ⟨rfl, rfl⟩)
  cases e <;> first | exact this | exact hq.elim
theorem IX {N : Nat} : ∀ (c : Code), codeOk P N ann c = true -> oF c = true -> ∀ s ∈ Bf c, s < N := by
 intro c
 induction c with
 | region id ops draw =>
   intro hok _ s hs
   simp only [codeOk, Lo] at hok
   obtain ⟨o, h1, h2⟩ := vZ.1 hs
   obtain ⟨i, hi, rfl⟩ := List.getElem_of_mem h1
   exact CO hok.1.1 i _ (by simp at hi ⊢) s h2
 | seq x y ihx ihy =>
   intro hok hfl s hs
   simp only [codeOk, oF, Lo] at hok hfl
   rcases Mr.1 hs with hs | hs
   .exact ihx hok.1 hfl.1 s hs
   .exact ihy hok.2 hfl.2 s hs
 | cond c x y ihx ihy =>
   intro hok hfl s hs
   simp only [codeOk, oF, Lo] at hok hfl
   rcases Mr.1 hs with hs | hs
   .exact ihx hok.2.1 hfl.1 s hs
   .exact ihy hok.2.2 hfl.2 s hs
 | block id c ih => intro hok hfl s hs; exact ih hok hfl s hs
 | loop c ih => intro hok hfl s hs; exact ih hok hfl s hs
 | scope c ih => intro hok hfl s hs; exact ih hok hfl s hs
 | rangeFunc => intro _ hfl; simp [oF] at hfl
 | _ => intro _ _ s hs; simp [Bf] at hs
theorem Fg {f : FuncId} {fn : Func} {c : Code} {args : List MB} {w : MA} {rs : List ResultVar} {R : MB -> MA -> Prop} (hm : P.follows .mixedOrders = true) (hAf : ann.f = f)
 (hf : P.funcs[f]? = some fn) (hb : fn.body = some c) (hrs : fn.results = rs.toArray) {N : Nat} (hN : fn.ntmps = N) (hle : args.length <= N)
 (hok : codeOk P N ann c = true) (hro : rs.all Ff = true) (hND : Nat.ble N DS = true) (hfl : oF c = true) (h : gK P ann c (Kt P rs R) (Dv args) w) : fI P f args.toArray w R := by
 refine EJ hm hAf hf hb hrs hN hle hok hro hND (sV h fun e g' w' ha hq => ?_)
 have hND := Mi hND
 have : g' DS = undef := by
  rw [ha DS (fun hd => absurd (IX c hok hfl DS hd) (Nat.not_lt.2 hND)), FV hle hND]
 cases e with
 | normal => show yR (g' DS) w' (fun w => lD P rs g' w fun vs => R (D6 vs) w); rw [this]; exact hq
 | ret => show yR (g' DS) w' (fun w => lD P rs g' w fun vs => R (D6 vs) w); rw [this]; exact hq
 | _ => exact hq.elim
theorem D1 {f : FuncId} {args : Array MB} {w : MA} {R : MB -> MA -> Prop} (h : fI P f args w R) :
 Calls P f args w fun e w' => ∃ v, e = .returned v /\ R v w' := by
 obtain ⟨v, w', hr, hR⟩ := h
 refine Calls.mono hr ?_
 rintro e w'' ⟨rfl, rfl⟩
 exact ⟨v, rfl, hR⟩
end
def sA : Code -> Code | .seq a _ => a | c => c
def cT : Code -> Code | .cond _ a _ => a | c => c
def cE : Code -> Code | .cond _ _ b => b | c => c
def bI : Code -> Code | .block _ c => c | .loop c => c | .scope c => c | c => c
def iL (f : Func) : Code := match f.body with | some c => c | none => .skip
def fO : Nat -> Code -> Code
 | 0, c => c
 | 1, c => sA c
 | n + 1, .seq a b => .seq a (fO n b)
 | _, c => c
def fC : Nat -> Code -> Code
 | 0, c => c
 | n + 1, .seq _ b => fC n b
 | _, c => c
def F8 : Nat -> Code -> Bool
 | 1, .seq _ _ => true
 | n + 1, .seq _ b => F8 n b
 | _, _ => false
def dr (w : MA) : MA := { w with drawn := w.drawn + 1 }
def D9 (P : Program) (t : TypeId) (a : MB) (w : MA) (K : MB -> Prop) : Prop := ∃ v, (do loadVar t (<- asAddr a) : Sem MB).run P w = .ok v w /\ K v
def KG : List (Nat × (Env -> MA -> Prop)) -> Nat -> Env -> MA -> Prop
 | [], _, _, _ => False
 | (j, k) :: r, i, g, w => match Nat.beq i j with | true => k g w | false => KG r i g w
def KV (kn kr : Env -> MA -> Prop) (l : List (Nat × (Env -> MA -> Prop))) : Exit -> Env -> MA -> Prop
 | .normal, g, w => kn g w
 | .ret, g, w => kr g w
 | .exit i, g, w => KG l i g w
 | _, _, _ => False
def GJ (Q : Exit -> Env -> MA -> Prop) : List (Nat × (Env -> MA -> Prop)) -> Prop
 | [] => True
 | (i, k) :: r => (∀ g w, k g w -> Q (.exit i) g w) /\ GJ Q r
def lN (c a b : MB) : Sem Next := do pure (.value (if <- asBool c then a else b))
def oS (t : TypeId) : Sem Next := V (Instr.alloc t true (.tuple #[]))
def Gq (t : TypeId) (x : MB) : Sem Next := V (Instr.box t x)
def fM (t : TypeId) (a : MB) : Sem Next := V (Instr.loadAt t a)
def fZ (t : TypeId) (a x : MB) : Sem Next := U (Instr.storeAt t a x)
def iX (x : MB) : Sem Next := execOp (fun _ => x) ⟨none, .nilCheck (.tmp 0), 0, default, #[], none⟩
def H5 (op : UnOp) (x : MB) : Sem Next := V (Op.unary op x)
def jV (s d : TypeId) (x : MB) : Sem Next := V (convert s d x)
def H7 (t : TypeId) (x : MB) : Sem Next := V (Instr.makeInterface t x)
def AP (t : TypeId) (l c : MB) : Sem Next := V (Instr.makeSlice t l c)
def hJ (t : TypeId) (x : MB) (lo hi mx : Option MB) : Sem Next := V (Instr.sliceAt t x lo hi mx)
def fF (t : TypeId) (x : MB) (f : Nat) : Sem Next := V (Instr.fieldAt t x f)
def kP (t : TypeId) (x i : MB) : Sem Next := V (Instr.indexAt t x i)
def CH (t : TypeId) (x i : MB) : Sem Next := V (Instr.index t x i)
def hU (t : MB) (i : Nat) : Sem Next := V (Instr.extract t i)
section
variable {P : Program} {ann : FA}
theorem JG {Q : Exit -> Env -> MA -> Prop} : ∀ {l : List (Nat × (Env -> MA -> Prop))}, GJ Q l -> ∀ {i : Nat} {g : Env} {w : MA}, KG l i g w -> Q (.exit i) g w := by
 intro l
 induction l with
 | nil => intro _ i g w h; exact h.elim
 | cons p r ih =>
   obtain ⟨j, k⟩ := p
   rintro ⟨h1, h2⟩ i g w h
   simp only [KG] at h
   cases hb : Nat.beq i j with
   | true =>
     simp only [hb] at h
     obtain rfl := LC hb
     exact h1 _ _ h
   | false => simp only [hb] at h; exact ih h2 h
theorem I2 {c : Code} {kn kr : Env -> MA -> Prop} {l : List (Nat × (Env -> MA -> Prop))} {Q : Exit -> Env -> MA -> Prop} {g : Env} {w : MA} {A : Prop}
 (e : A = gK P ann c (KV kn kr l) g w) (h : A) (hn : ∀ g w, kn g w -> Q .normal g w) (hr : ∀ g w, kr g w -> Q .ret g w) (hl : GJ Q l) : gK P ann c Q g w := by
 rw [e] at h
 refine sV h (fun e g' w' _ hq => ?_)
 cases e with
 | normal => exact hn _ _ hq
 | ret => exact hr _ _ hq
 | exit i => exact JG hl hq
 | _ => exact hq.elim
theorem Ha {x y z : Code} {Q : Exit -> Env -> MA -> Prop} {g : Env} {w : MA} (h : gK P ann (.seq (.seq x y) z) Q g w) : gK P ann (.seq x (.seq y z)) Q g w := by
 show gK P ann x (qE (fun g w => gK P ann y (qE (fun g w => gK P ann z Q g w) Q) g w) Q) g w
 have h : gK P ann x (qE (fun g w => gK P ann y (qE (fun g w => gK P ann z Q g w) Q) g w) (qE (fun g w => gK P ann z Q g w) Q)) g w := h
 refine sV h (fun e g' w' _ hq => ?_)
 cases e <;> exact hq
theorem fR {K : Env -> MA -> Prop} {Q : Exit -> Env -> MA -> Prop} {g : Env} {w : MA} (h : K g w) : qE K Q .normal g w := h
theorem Hy {Q : Exit -> Env -> MA -> Prop} : ∀ (n : Nat) (c : Code) (g : Env) (w : MA), F8 n c = true -> gK P ann (.seq (fO n c) (fC n c)) Q g w -> gK P ann c Q g w := by
 intro n
 induction n with
 | zero => intro c g w h; simp [F8] at h
 | succ n ih =>
   intro c g w h hd
   cases c with
   | seq a b =>
     cases n with
     | zero => exact hd
     | succ n =>
       have hb : F8 (n + 1) b = true := by simpa [F8] using h
       have hd' : gK P ann (.seq (.seq a (fO (n + 1) b)) (fC (n + 1) b)) Q g w := hd
       have := Ha hd'
       show gK P ann a (qE (fun g w => gK P ann b Q g w) Q) g w
       have h2 : gK P ann a (qE (fun g w => gK P ann (.seq (fO (n + 1) b) (fC (n + 1) b)) Q g w) Q) g w := this
       refine sV h2 (fun e g' w' _ hq => ?_)
       cases e with
       | normal => exact ih b g' w' hb hq
       | _ => exact hq
   | _ => cases n <;> simp [F8] at h
def Js (id : Nat) : Code -> Bool | .block i _ => Nat.beq i id | _ => false
def IB : Code -> Bool | .loop _ => true | _ => false
def Ip : Code -> Option Operand | .cond o _ _ => some o | _ => none
theorem Je {Q : Exit -> Env -> MA -> Prop} (id : Nat) (c : Code) (g : Env) (w : MA) (h : Js id c = true) (hd : gK P ann (bI c) (Jc id Q) g w) : gK P ann c Q g w := by
 cases c with
 | block i c =>
   obtain rfl := LC (show Nat.beq i id = true from h)
   exact hd
 | _ => cases h
def Jn : Code -> Bool | .scope _ => true | _ => false
theorem IP {Q : Exit -> Env -> MA -> Prop} (c : Code) (g : Env) (w : MA) (h : Jn c = true) (hd : gK P ann (bI c) Q g w) : gK P ann c Q g w := by
 cases c with
 | scope c => exact hd
 | _ => cases h
theorem Jl {Q : Exit -> Env -> MA -> Prop} (o : Operand) (c : Code) (g : Env) (w : MA) (h : Ip c = some o)
 (hd : lC (ev g o) (gK P ann (cT c) Q g w) (gK P ann (cE c) Q g w)) : gK P ann c Q g w := by
 cases c with
 | cond o' a b => obtain rfl := LP h; exact hd
 | _ => cases h
theorem IK {v : MB} {A B A' B' : Prop} (ha : A -> A') (hb : B -> B') (h : lC v A B) : lC v A' B' := by
 unfold lC at *
 cases v with
 | bool b => cases b <;> first | exact ha h | exact hb h
 | _ => exact h
theorem IF {T : Type} (proj : Env -> T) (F : (T -> MA -> Prop) -> T -> MA -> Prop) {c : Code} {Q : Exit -> Env -> MA -> Prop} {g : Env} {w : MA}
 (hF : ∀ (X : T -> MA -> Prop) g' w', jC (Bf c) g g' -> F X (proj g') w' -> gK P ann c (qE (fun g'' w'' => X (proj g'') w'') Q) g' w')
 (h : iW F (proj g) w) : gK P ann (.loop c) Q g w := by
 obtain ⟨I, ⟨n, h0⟩, hI⟩ := h
 refine ⟨fun n g' w' => jC (Bf c) g g' /\ I n (proj g') w', ⟨n, jC.refl _ _, h0⟩, ?_⟩
 rintro n g' w' ⟨ha, hi⟩
 have := hF _ g' w' ha (hI n _ _ hi)
 refine sV this (fun e g2 w2 ha2 hq => ?_)
 cases e with
 | normal =>
   obtain ⟨m, hm, hh⟩ := hq
   exact ⟨m, hm, ha.trans ha2 (fun _ h => h) (fun _ h => h), hh⟩
 | _ => exact hq
theorem Hh {T : Type} (proj : Env -> T) (F : (T -> MA -> Prop) -> T -> MA -> Prop) (c : Code) {Q : Exit -> Env -> MA -> Prop} {g : Env} {w : MA} (hl : IB c = true)
 (h : iW F (proj g) w)
 (hF : ∀ (X : T -> MA -> Prop) g' w', jC (Bf (bI c)) g g' -> F X (proj g') w' -> gK P ann (bI c) (qE (fun g'' w'' => X (proj g'') w'') Q) g' w') : gK P ann c Q g w := by
 cases c with
 | loop c => exact IF proj F hF h
 | _ => cases hl
theorem Gu {l : List Nat} {s : Nat} (hs : kO s l = false) : s ∉ l := by
 induction l with
 | nil => simp
 | cons a r ih =>
   unfold kO at hs
   cases hb : Nat.beq a s with
   | true => simp only [hb] at hs; cases hs
   | false =>
     simp only [hb] at hs
     intro hm
     rcases L5.1 hm with e | hm
     .subst e; simp at hb
     .exact ih hs hm
theorem Iq {l : List Nat} {g g' : Env} (h : jC l g g') {s : Nat} (hs : kO s l = false) : g' s = g s := h s (Gu hs)
theorem iW.rule {α : Type} {F : (α -> MA -> Prop) -> α -> MA -> Prop} (I : Nat -> α -> MA -> Prop) {g : α} {w : MA} (n : Nat) (h0 : I n g w)
 (hr : ∀ n g w, I n g w -> F (fun g' w' => ∃ m, m < n /\ I m g' w') g w) : iW F g w := ⟨I, ⟨n, h0⟩, hr⟩
theorem dI (A B : Prop) : lC (.bool true) A B = A := Eq.trans rfl rfl
theorem cY (A B : Prop) : lC (.bool false) A B = B := Eq.trans rfl rfl
theorem dN (s : (MB -> MA -> Prop) -> Prop) (w : MA) (K : MB -> MA -> Prop) : Gd true s w K = s K := Eq.trans rfl rfl
theorem dL (s : (MB -> MA -> Prop) -> Prop) (w : MA) (K : MB -> MA -> Prop) : Gd false s w K = K undef w := Eq.trans rfl rfl
theorem dO (p : Prop) : Gs true p = p := Eq.trans rfl rfl
theorem dM (p : Prop) : Gs false p = True := Eq.trans rfl rfl
theorem dS : jU (.bool true) true = true := Eq.trans rfl rfl
theorem dT : jU (.bool true) false = false := Eq.trans rfl rfl
theorem dV : jU (.bool false) true = false := Eq.trans rfl rfl
theorem dW : jU (.bool false) false = true := Eq.trans rfl rfl
def fK : Operand := .tmp 0
theorem lX {c : Code} {kn kr : Env -> MA -> Prop} {l : List (Nat × (Env -> MA -> Prop))} {Q : Exit -> Env -> MA -> Prop} {g : Env} {w : MA} {A : Prop}
 (h : A) (hn : ∀ g w, kn g w -> Q .normal g w) (hr : ∀ g w, kr g w -> Q .ret g w) (hl : GJ Q l) (e : A = gK P ann c (KV kn kr l) g w := by kernel_rfl) : gK P ann c Q g w := I2 e h hn hr hl
theorem uM {Q : Exit -> Env -> MA -> Prop} (n : Nat) {c : Code} {g : Env} {w : MA}
 (hd : gK P ann (fO n c) (qE (fun g w => gK P ann (fC n c) Q g w) Q) g w) (h : F8 n c = true := by kernel_rfl) : gK P ann c Q g w := Hy n c g w h hd
theorem GB {Q : Exit -> Env -> MA -> Prop} (id : Nat) {c : Code} {g : Env} {w : MA} (hd : gK P ann (bI c) (Jc id Q) g w) (h : Js id c = true := by kernel_rfl) : gK P ann c Q g w := Je id c g w h hd
theorem Lc {Q : Exit -> Env -> MA -> Prop} {c : Code} {g : Env} {w : MA} (hd : gK P ann (bI c) Q g w) (h : Jn c = true := by kernel_rfl) : gK P ann c Q g w := IP c g w h hd
theorem Lb {Q : Exit -> Env -> MA -> Prop} (o : Operand) {c : Code} {g : Env} {w : MA} {A B : Prop} (ha : A -> gK P ann (cT c) Q g w) (hb : B -> gK P ann (cE c) Q g w) (hd : lC (ev g o) A B) (h : Ip c = some o := by kernel_rfl) : gK P ann c Q g w :=
 Jl o c g w h (IK ha hb hd)
theorem Ho {T : Type} (proj : Env -> T) (F : (T -> MA -> Prop) -> T -> MA -> Prop) {c : Code} {Q : Exit -> Env -> MA -> Prop} {g : Env} {w : MA}
 (h : iW F (proj g) w)
 (hF : ∀ (X : T -> MA -> Prop) g' w', jC (Bf (bI c)) g g' -> F X (proj g') w' -> gK P ann (bI c) (qE (fun g'' w'' => X (proj g'') w'') Q) g' w') (hl : IB c = true := by kernel_rfl) : gK P ann c Q g w := Hh proj F c hl h hF
theorem B1 {l : List Nat} {g g' : Env} (s : Nat) (h : jC l g g') (hs : kO s l = false := by kernel_rfl) : g' s = g s := Iq h hs
theorem Bk {ann : FA} (fn : Func) (c : Code) (args : List MB) (rs : List ResultVar) (N : Nat) {f : FuncId} {w : MA} {R : MB -> MA -> Prop} (hm : P.follows .mixedOrders = true)
 (hf : P.funcs[f]? = some fn) (h : gK P ann c (Kt P rs R) (Dv args) w) (hAf : ann.f = f := by kernel_rfl) (hb : fn.body = some c := by kernel_rfl) (hrs : fn.results = rs.toArray := by kernel_rfl) (hN : fn.ntmps = N := by kernel_rfl) (hle : Nat.ble args.length N = true := by kernel_rfl)
 (hok : codeOk P N ann c = true := by kernel_rfl) (hro : rs.all Ff = true := by kernel_rfl) (hND : Nat.ble N DS = true := by kernel_rfl) (hfl : oF c = true := by kernel_rfl) : fI P f args.toArray w R :=
 Fg hm hAf hf hb hrs hN (Mi hle) hok hro hND hfl h
end
end Go.En
namespace Go.Proofs.YthohephggmkeeaaDoor
open Go Go.En
noncomputable abbrev pg : Program := Tryd.prog
theorem TrydM.mixed : pg.follows .mixedOrders = true := Tryd.checked.mixed
abbrev K0 := MA -> Prop
abbrev K1 := MB -> K0
abbrev K2 := MB -> K1
abbrev K3 := MB -> K2
abbrev K4 := MB -> K3
abbrev K5 := MB -> K4
abbrev K6 := MB -> K5
abbrev K7 := MB -> K6
abbrev K8 := MB -> K7
abbrev K9 := MB -> K8
abbrev KM := MB -> K9
abbrev KF := MB -> KM
abbrev HR (rs : List ResultVar) (R : K1) (Q : Exit -> Env -> MA -> Prop) : Prop := ∀ g w, (lD pg rs g w fun vs => R (D6 vs) w) -> Q .ret g w
abbrev no : Env -> MA -> Prop := fun _ _ => False
theorem pA {Q : Env -> MA -> Prop} : ∀ g w, no g w -> Q g w := fun _ _ h => h.elim
abbrev oY : FuncId := 6
abbrev sL : FuncId := 7
abbrev iO : FuncId := 9
abbrev mL : FuncId := 10
abbrev oJ : FuncId := 13
abbrev iF : FuncId := 18
abbrev hP : FuncId := 19
abbrev fP : FuncId := 20
abbrev fX : FuncId := 21
abbrev kU : FuncId := 22
abbrev lE : FuncId := 23
abbrev lF : FuncId := 25
abbrev jO : FuncId := 26
abbrev iJ : FuncId := 27
abbrev tX : FuncId := 28
abbrev mK : FuncId := 29
abbrev kZ : FuncId := 30
abbrev jH : FuncId := 31
abbrev qT : FuncId := 33
abbrev iT : FuncId := 34
abbrev nM : FuncId := 35
abbrev kX : FuncId := 36
abbrev Df : FuncId := 37
abbrev AI : FuncId := 38
abbrev pO : FuncId := 39
abbrev A3 : FuncId := 43
abbrev oL : FuncId := 44
abbrev rC : FuncId := 45
abbrev Ci : FuncId := 46
abbrev nO : FuncId := 47
abbrev qL : FuncId := 60
abbrev oI : FuncId := 61
abbrev nP : FuncId := 62
abbrev gH : FuncId := 63
abbrev N0 (Q : Exit -> Env -> MA -> Prop) (k : K0) : Prop := ∀ g w, k w -> Q .normal g w
abbrev E0 (Q : Exit -> Env -> MA -> Prop) (k : K0) (x0 : Nat) : Prop := ∀ g w, k w -> Q (.exit x0) g w
abbrev N1 (Q : Exit -> Env -> MA -> Prop) (k : K1) (a_ : Nat) : Prop := ∀ g w, k (g a_) w -> Q .normal g w
abbrev E1 (Q : Exit -> Env -> MA -> Prop) (k : K1) (x0 : Nat) (a_ : Nat) : Prop := ∀ g w, k (g a_) w -> Q (.exit x0) g w
abbrev N2 (Q : Exit -> Env -> MA -> Prop) (k : K2) (a_ b_ : Nat) : Prop := ∀ g w, k (g a_) (g b_) w -> Q .normal g w
abbrev E2 (Q : Exit -> Env -> MA -> Prop) (k : K2) (x0 : Nat) (a_ b_ : Nat) : Prop := ∀ g w, k (g a_) (g b_) w -> Q (.exit x0) g w
abbrev N3 (Q : Exit -> Env -> MA -> Prop) (k : K3) (a_ b_ c_ : Nat) : Prop := ∀ g w, k (g a_) (g b_) (g c_) w -> Q .normal g w
abbrev E3 (Q : Exit -> Env -> MA -> Prop) (k : K3) (x0 : Nat) (a_ b_ c_ : Nat) : Prop := ∀ g w, k (g a_) (g b_) (g c_) w -> Q (.exit x0) g w
abbrev N4 (Q : Exit -> Env -> MA -> Prop) (k : K4) (a_ b_ c_ d_ : Nat) : Prop := ∀ g w, k (g a_) (g b_) (g c_) (g d_) w -> Q .normal g w
abbrev E4 (Q : Exit -> Env -> MA -> Prop) (k : K4) (x0 : Nat) (a_ b_ c_ d_ : Nat) : Prop := ∀ g w, k (g a_) (g b_) (g c_) (g d_) w -> Q (.exit x0) g w
abbrev N5 (Q : Exit -> Env -> MA -> Prop) (k : K5) (a_ b_ c_ d_ e_ : Nat) : Prop := ∀ g w, k (g a_) (g b_) (g c_) (g d_) (g e_) w -> Q .normal g w
abbrev N6 (Q : Exit -> Env -> MA -> Prop) (k : K6) (a_ b_ c_ d_ e_ f_ : Nat) : Prop := ∀ g w, k (g a_) (g b_) (g c_) (g d_) (g e_) (g f_) w -> Q .normal g w
abbrev N7 (Q : Exit -> Env -> MA -> Prop) (k : K7) (a_ b_ c_ d_ e_ f_ g_ : Nat) : Prop := ∀ g w, k (g a_) (g b_) (g c_) (g d_) (g e_) (g f_) (g g_) w -> Q .normal g w
abbrev N8 (Q : Exit -> Env -> MA -> Prop) (k : K8) (a_ b_ c_ d_ e_ f_ g_ h_ : Nat) : Prop := ∀ g w, k (g a_) (g b_) (g c_) (g d_) (g e_) (g f_) (g g_) (g h_) w -> Q .normal g w
abbrev N9 (Q : Exit -> Env -> MA -> Prop) (k : K9) (a_ b_ c_ d_ e_ f_ g_ h_ i_ : Nat) : Prop := ∀ g w, k (g a_) (g b_) (g c_) (g d_) (g e_) (g f_) (g g_) (g h_) (g i_) w -> Q .normal g w
abbrev E9 (Q : Exit -> Env -> MA -> Prop) (k : K9) (x0 : Nat) (a_ b_ c_ d_ e_ f_ g_ h_ i_ : Nat) : Prop := ∀ g w, k (g a_) (g b_) (g c_) (g d_) (g e_) (g f_) (g g_) (g h_) (g i_) w -> Q (.exit x0) g w
abbrev N10 (Q : Exit -> Env -> MA -> Prop) (k : KM) (a_ b_ c_ d_ e_ f_ g_ h_ i_ j_ : Nat) : Prop := ∀ g w, k (g a_) (g b_) (g c_) (g d_) (g e_) (g f_) (g g_) (g h_) (g i_) (g j_) w -> Q .normal g w
abbrev N11 (Q : Exit -> Env -> MA -> Prop) (k : KF) (a_ b_ c_ d_ e_ f_ g_ h_ i_ j_ k_ : Nat) : Prop := ∀ g w, k (g a_) (g b_) (g c_) (g d_) (g e_) (g f_) (g g_) (g h_) (g i_) (g j_) (g k_) w -> Q .normal g w
abbrev MC (n_ : Int) : MB := .int .i64 n_
end Go.Proofs.YthohephggmkeeaaDoor
namespace Go.Proofs.YthohephggmkeeaaDoor
open Go Go.En
set_option maxRecDepth 20000
attribute [local irreducible] Go.En.gK
variable (Q : Exit -> Env -> MA -> Prop) (g : Env) (w : MA)
def fN : FA := ⟨oY, fun i => .leaf ([], []) []⟩
def iE : List ResultVar := [.tmp 6]
noncomputable def fL : Code := iL Tryd.f6
def kW (R : K1) (pN fJ sZ sS sQ tA tD rT fQ : MB) (w : MA) : Prop :=
 dQ pg (hJ 22 fJ none (some rT) none) w fun o7 w =>
 fI pg iO #[o7, (MC 10), (MC 0)] w fun o8 w =>
 dQ pg (hU o8 0) w fun o9 w =>
 dQ pg (hU o8 1) w fun p0 w =>
 dQ pg (fD .eql 26 (.tmp 111) (.const (MC 0)) sS (MC 0)) w fun p2 w =>
 Gd (jU p2 true) (fun K => K sZ w) w fun p4 w =>
 Gd (jU p2 true) (fun K => dQ pg (nR .len #[22] 3 [p4]) w K) w fun p5 w =>
 Gd (jU p2 true) (fun K => dQ pg (fD .eql 3 (.tmp 115) (.const (MC 0)) p5 (MC 0)) w K) w fun p6 w =>
 dQ pg (lN p2 p6 (.bool false)) w fun p7 w =>
 Gd (jU p7 true) (fun K => K tD w) w fun p9 w =>
 Gd (jU p7 true) (fun K => dQ pg (fD .eql 26 (.tmp 119) (.const (MC 0)) p9 (MC 0)) w K) w fun q0 w =>
 dQ pg (lN p7 q0 (.bool false)) w fun q1 w =>
 Gd (jU q1 true) (fun K => K sQ w) w fun q3 w =>
 Gd (jU q1 true) (fun K => dQ pg (fD .eql 3 (.tmp 123) (.const (MC 0)) q3 (MC 0)) w K) w fun q4 w =>
 dQ pg (lN q1 q4 (.bool false)) w fun q5 w =>
 Gd (jU q5 true) (fun K => K tA w) w fun q7 w =>
 Gd (jU q5 true) (fun K => K pN w) w fun q8 w =>
 Gd (jU q5 true) (fun K => dQ pg (nR .len #[30] 3 [q8]) w K) w fun q9 w =>
 Gd (jU q5 true) (fun K => dQ pg (fD .eql 3 (.tmp 127) (.tmp 129) q7 q9) w K) w fun s0 w =>
 dQ pg (lN q5 s0 (.bool false)) w fun s1 w =>
 Gd (jU s1 true) (fun K => K p0 w) w fun s3 w =>
 Gd (jU s1 true) (fun K => dQ pg (fD .eql 26 (.tmp 133) (.const (MC 0)) s3 (MC 0)) w K) w fun s4 w =>
 Gd (jU s1 true) (fun K => K fQ w) w fun s5 w =>
 Gd (jU s1 true) (fun K => dQ pg (fD .eql 4 (.tmp 134) (.tmp 135) s4 s5) w K) w fun s6 w =>
 dQ pg (lN s1 s6 (.bool false)) w fun s7 w =>
 Gd (jU s7 true) (fun K => K p0 w) w fun s9 w =>
 Gd (jU s7 true) (fun K => dQ pg (fD .eql 26 (.tmp 139) (.const (MC 10)) s9 (MC 10)) w K) w fun u0 w =>
 Gd (jU s7 true) (fun K => K fQ w) w fun u1 w =>
 Gd (jU s7 true) (fun K => dQ pg (H5 .not u1) w K) w fun u2 w =>
 Gd (jU s7 true) (fun K => dQ pg (fD .eql 4 (.tmp 140) (.tmp 142) u0 u2) w K) w fun u3 w =>
 dQ pg (lN s7 u3 (.bool false)) w fun u4 w =>
 R u4 w
theorem zB (R : K1) (hr : HR iE R Q) (h : kW R (g 0) (g 8) (g 12) (g 13) (g 14) (g 15) (g 16) (g 17) (g 18) w) : gK pg fN (fC 1 (fC 4 (fC 1 (fC 6 fL)))) Q g w :=
 lX (kn := no) (l := []) h pA hr trivial
def jP (kn : KF) (k2 : K9) (pN fJ fV sZ sS sQ tA tD rT fQ AE : MB) (w : MA) : Prop :=
 dQ pg (nR .len #[37] 3 [fV]) w fun n1 w =>
 dQ pg (fD .lss 3 fK fK AE n1) w fun n2 w =>
 lC n2
  (Gd (jU fQ false) (fun K => K fV w) w fun n7 w =>
  Gd (jU fQ false) (fun K => K AE w) w fun n8 w =>
  Gd (jU fQ false) (fun K => dQ pg (kP 37 n7 n8) w K) w fun n9 w =>
  Gd (jU fQ false) (fun K => dQ pg (fM 3 n9) w K) w fun o0 w =>
  Gd (jU fQ false) (fun K => K rT w) w fun o1 w =>
  Gd (jU fQ false) (fun K => dQ pg (fD .eql 3 (.tmp 100) (.tmp 101) o0 o1) w K) w fun o2 w =>
  dQ pg (lN fQ (.bool true) o2) w fun o3 w =>
  dQ pg (fD .add 3 fK fK AE (MC 1)) w fun n4 w =>
  kn pN fJ fV sZ sS sQ tA tD rT o3 n4 w)
  (k2 pN fJ sZ sS sQ tA tD rT fQ w)
theorem yQ (kn : KF) (k2 : K9) (hn : N11 Q kn 0 8 9 12 13 14 15 16 17 18 19) (h2 : E9 Q k2 2 0 8 12 13 14 15 16 17 18) (h : jP kn k2 (g 0) (g 8) (g 9) (g 12) (g 13) (g 14) (g 15) (g 16) (g 17) (g 18) (g 19) w) : gK pg fN (bI (bI (fC 1 (fO 1 (fC 4 (fC 1 (fC 6 fL))))))) Q g w :=
 lX (kr := no) (l := [(2, fun g w => k2 (g 0) (g 8) (g 12) (g 13) (g 14) (g 15) (g 16) (g 17) (g 18) w)]) h hn pA ⟨h2, trivial⟩
def oC (k2 : K9) (pN fJ fV sZ sS sQ tA tD rT fQ AE : MB) (w : MA) : Prop :=
 iW (fun (X : (MB × MB) -> K0) (t : MB × MB) (w : MA) => jP (fun _ _ _ _ _ _ _ _ _ fQ AE w => X (fQ, AE) w) k2 pN fJ fV sZ sS sQ tA tD rT t.1 t.2 w) (fQ, AE) w
theorem zA (k2 : K9) (h2 : E9 Q k2 2 0 8 12 13 14 15 16 17 18) (h : oC k2 (g 0) (g 8) (g 9) (g 12) (g 13) (g 14) (g 15) (g 16) (g 17) (g 18) (g 19) w) : gK pg fN (bI (fC 1 (fO 1 (fC 4 (fC 1 (fC 6 fL)))))) Q g w := by
 refine Ho (fun g : Env => (g 18, g 19)) (fun X t w => jP (fun _ _ _ _ _ _ _ _ _ fQ AE w => X (fQ, AE) w) k2 (g 0) (g 8) (g 9) (g 12) (g 13) (g 14) (g 15) (g 16) (g 17) t.1 t.2 w) h (fun X g1 w1 ha hL => ?_)
 rw [<- B1 0 ha, <- B1 8 ha, <- B1 9 ha, <- B1 12 ha, <- B1 13 ha, <- B1 14 ha, <- B1 15 ha, <- B1 16 ha, <- B1 17 ha] at hL
 exact (yQ _ g1 w1 (fun _ _ _ _ _ _ _ _ _ fQ AE w => X (fQ, AE) w) k2 (fun _ _ h => h) h2 hL)
def nU (kn : K9) (pN fJ fV sZ sS sQ tA tD rT fQ AE : MB) (w : MA) : Prop :=
 oC kn pN fJ fV sZ sS sQ tA tD rT fQ AE w
def oE (kn : KF) (pN fJ fV sZ sS sQ tA tD rT fQ : MB) (w : MA) : Prop :=
 kn pN fJ fV sZ sS sQ tA tD rT fQ (MC 0) w
theorem yY (kn : KF) (hn : N11 Q kn 0 8 9 12 13 14 15 16 17 18 19) (h : oE kn (g 0) (g 8) (g 9) (g 12) (g 13) (g 14) (g 15) (g 16) (g 17) (g 18) w) : gK pg fN (fO 1 (fO 1 (fC 4 (fC 1 (fC 6 fL))))) Q g w :=
 lX (kr := no) (l := []) h hn pA trivial
def kS (kn : K9) (pN fJ fV sZ sS sQ tA tD rT fQ : MB) (w : MA) : Prop :=
 oE (fun pN fJ fV sZ sS sQ tA tD rT fQ AE w => nU kn pN fJ fV sZ sS sQ tA tD rT fQ AE w) pN fJ fV sZ sS sQ tA tD rT fQ w
def oD (R : K1) (pN fJ fV sZ sS sQ tA tD rT fQ : MB) (w : MA) : Prop :=
 kS (fun pN fJ sZ sS sQ tA tD rT fQ w => kW R pN fJ sZ sS sQ tA tD rT fQ w) pN fJ fV sZ sS sQ tA tD rT fQ w
theorem yE (kn : K9) (hn : N9 Q kn 0 8 12 13 14 15 16 17 18) (h : kS kn (g 0) (g 8) (g 9) (g 12) (g 13) (g 14) (g 15) (g 16) (g 17) (g 18) w) : gK pg fN (fO 1 (fC 4 (fC 1 (fC 6 fL)))) Q g w :=
 uM 1 (yY _ g w (nU kn) (fun g w h => fR (GB 2 (zA _ g w kn hn h))) h)
def nV (kn : KM) (pN pB fJ fV : MB) (w : MA) : Prop :=
 fI pg iO #[fJ, (MC 10), (MC 0)] w fun l2 w =>
 dQ pg (hU l2 0) w fun l3 w =>
 dQ pg (hU l2 1) w fun l4 w =>
 fI pg mL #[fJ, (MC 10), (MC 0)] w fun l7 w =>
 dQ pg (hU l7 0) w fun l8 w =>
 dQ pg (hU l7 1) w fun l9 w =>
 dQ pg (hU l7 2) w fun m0 w =>
 dQ pg (jV 23 3 pB) w fun m2 w =>
 dQ pg (nR .len #[22] 3 [fJ]) w fun m4 w =>
 dQ pg (fD .add 3 fK fK m4 (MC 1)) w fun m5 w =>
 dQ pg (fD .rem 3 fK fK m2 m5) w fun m6 w =>
 dQ pg (fD .eql 3 (.tmp 87) (.const (MC 0)) m6 (MC 0)) w fun m8 w =>
 kn pN fJ fV l3 l4 l8 l9 m0 m6 m8 w
theorem yI (kn : KM) (hn : N10 Q kn 0 8 9 12 13 14 15 16 17 18) (h : nV kn (g 0) (g 2) (g 8) (g 9) w) : gK pg fN (fO 4 (fC 1 (fC 6 fL))) Q g w :=
 lX (kr := no) (l := []) h hn pA trivial
def nS (R : K1) (pN pB fJ fV : MB) (w : MA) : Prop :=
 nV (fun pN fJ fV sZ sS sQ tA tD rT fQ w => oD R pN fJ fV sZ sS sQ tA tD rT fQ w) pN pB fJ fV w
def jJ (kn : K6) (k0 : K4) (R : K1) (pN iP pB fJ fV zS : MB) (w : MA) : Prop :=
 dQ pg (nR .len #[30] 3 [pN]) w fun e7 w =>
 dQ pg (fD .lss 3 fK fK zS e7) w fun e8 w =>
 lC e8
  (dQ pg (kP 30 pN zS) w fun f3 w =>
  dQ pg (fM 22 f3) w fun f4 w =>
  dQ pg (nR .len #[22] 3 [f4]) w fun f5 w =>
  dQ pg (fD .gtr 3 fK fK f5 (MC 200)) w fun f7 w =>
  lC f7
   (R (.bool true) w)
   (dQ pg (kP 22 iP zS) w fun i1 w =>
   dQ pg (fM 5 i1) w fun i2 w =>
   dQ pg (fD .and 5 fK fK i2 (.int .u8 15)) w fun i3 w =>
   dQ pg (fD .add 5 fK fK (.int .u8 80) i3) w fun i4 w =>
   dQ pg (jV 3 5 f5) w fun i6 w =>
   dQ pg (hZ 22 8 [(0, i4), (1, (.int .u8 42)), (2, (.int .u8 77)), (3, (.int .u8 24)), (4, i6), (5, (.int .u8 0)), (6, (.int .u8 0)), (7, (.int .u8 0))]) w fun i7 w =>
   dQ pg (nR .append #[22, 22] 22 [fJ, i7]) w fun i8 w =>
   dQ pg (kP 30 pN zS) w fun j2 w =>
   dQ pg (fM 22 j2) w fun j3 w =>
   dQ pg (nR .append #[22, 22] 22 [i8, j3]) w fun j4 w =>
   dQ pg (nR .len #[22] 3 [j4]) w fun j7 w =>
   dQ pg (hZ 37 1 [(0, j7)]) w fun j8 w =>
   dQ pg (nR .append #[37, 37] 37 [fV, j8]) w fun j9 w =>
   dQ pg (fD .add 3 fK fK zS (MC 1)) w fun f0 w =>
   kn pN iP pB j4 j9 f0 w))
  (k0 pN pB fJ fV w)
theorem xF (kn : K6) (k0 : K4) (R : K1) (hn : N6 Q kn 0 1 2 8 9 10) (h0 : E4 Q k0 0 0 2 8 9) (hr : HR iE R Q) (h : jJ kn k0 R (g 0) (g 1) (g 2) (g 8) (g 9) (g 10) w) : gK pg fN (bI (bI (fC 1 (fO 1 (fC 6 fL))))) Q g w :=
 lX (l := [(0, fun g w => k0 (g 0) (g 2) (g 8) (g 9) w)]) h hn hr ⟨h0, trivial⟩
def mR (k0 : K4) (R : K1) (pN iP pB fJ fV zS : MB) (w : MA) : Prop :=
 iW (fun (X : (MB × MB × MB) -> K0) (t : MB × MB × MB) (w : MA) => jJ (fun _ _ _ fJ fV zS w => X (fJ, fV, zS) w) k0 R pN iP pB t.1 t.2.1 t.2.2 w) (fJ, fV, zS) w
theorem xN (k0 : K4) (R : K1) (h0 : E4 Q k0 0 0 2 8 9) (hr : HR iE R Q) (h : mR k0 R (g 0) (g 1) (g 2) (g 8) (g 9) (g 10) w) : gK pg fN (bI (fC 1 (fO 1 (fC 6 fL)))) Q g w := by
 refine Ho (fun g : Env => (g 8, g 9, g 10)) (fun X t w => jJ (fun _ _ _ fJ fV zS w => X (fJ, fV, zS) w) k0 R (g 0) (g 1) (g 2) t.1 t.2.1 t.2.2 w) h (fun X g1 w1 ha hL => ?_)
 rw [<- B1 0 ha, <- B1 1 ha, <- B1 2 ha] at hL
 exact (xF _ g1 w1 (fun _ _ _ fJ fV zS w => X (fJ, fV, zS) w) k0 R (fun _ _ h => h) h0 hr hL)
def kH (kn : K4) (R : K1) (pN iP pB fJ fV zS : MB) (w : MA) : Prop :=
 mR kn R pN iP pB fJ fV zS w
def nC (kn : K6) (pN iP pB fJ fV : MB) (w : MA) : Prop :=
 kn pN iP pB fJ fV (MC 0) w
theorem wK (kn : K6) (hn : N6 Q kn 0 1 2 8 9 10) (h : nC kn (g 0) (g 1) (g 2) (g 8) (g 9) w) : gK pg fN (fO 1 (fO 1 (fC 6 fL))) Q g w :=
 lX (kr := no) (l := []) h hn pA trivial
def nE (kn : K4) (R : K1) (pN iP pB fJ fV : MB) (w : MA) : Prop :=
 nC (fun pN iP pB fJ fV zS w => kH kn R pN iP pB fJ fV zS w) pN iP pB fJ fV w
def kF (R : K1) (pN iP pB fJ fV : MB) (w : MA) : Prop :=
 nE (fun pN pB fJ fV w => nS R pN pB fJ fV w) R pN iP pB fJ fV w
theorem xO (kn : K4) (R : K1) (hn : N4 Q kn 0 2 8 9) (hr : HR iE R Q) (h : nE kn R (g 0) (g 1) (g 2) (g 8) (g 9) w) : gK pg fN (fO 1 (fC 6 fL)) Q g w :=
 uM 1 (wK _ g w (kH kn R) (fun g w h => fR (GB 0 (xN _ g w kn R hn hr h))) h)
def nH (kn : K5) (R : K1) (pN iP pB : MB) (w : MA) : Prop :=
 fI pg sL #[] w fun d2 w =>
 dQ pg (H5 .not d2) w fun d4 w =>
 lC d4
  (R (.bool false) w)
  (dQ pg (nR .len #[30] 3 [pN]) w fun d6 w =>
  dQ pg (fD .gtr 3 fK fK d6 (MC 10)) w fun d7 w =>
  Gd (jU d7 false) (fun K => K iP w) w fun d9 w =>
  Gd (jU d7 false) (fun K => dQ pg (nR .len #[22] 3 [d9]) w K) w fun e0 w =>
  Gd (jU d7 false) (fun K => K pN w) w fun e1 w =>
  Gd (jU d7 false) (fun K => dQ pg (nR .len #[30] 3 [e1]) w K) w fun e2 w =>
  Gd (jU d7 false) (fun K => dQ pg (fD .lss 3 fK fK e0 e2) w K) w fun e3 w =>
  dQ pg (lN d7 (.bool true) e3) w fun e4 w =>
  lC e4
   (R (.bool true) w)
   (kn pN iP pB (.slice none 0 0) (.slice none 0 0) w))
theorem xR (kn : K5) (R : K1) (hn : N5 Q kn 0 1 2 8 9) (hr : HR iE R Q) (h : nH kn R (g 0) (g 1) (g 2) w) : gK pg fN (fO 6 fL) Q g w :=
 lX (l := []) h hn hr trivial
def mU (R : K1) (pN iP pB : MB) (w : MA) : Prop :=
 nH (fun pN iP pB fJ fV w => kF R pN iP pB fJ fV w) R pN iP pB w
theorem wV (R : K1) (hr : HR iE R Q) (h : mU R (g 0) (g 1) (g 2) w) : gK pg fN fL Q g w :=
 uM 6 (xR _ g w (kF R) R (fun g w h => fR (uM 1 (xO _ g w (nS R) R (fun g w h => fR (uM 4 (yI _ g w (oD R) (fun g w h => fR (uM 1 (yE _ g w (kW R) (fun g w h => fR (zB _ g w R hr h)) h))) h))) hr h))) hr h)
def vM (a0 a1 a2 : MB) (w : MA) (R : K1) : Prop :=
 mU R a0 a1 a2 w
theorem zK {a0 a1 a2 : MB} {w : MA} {R : K1} (h : vM a0 a1 a2 w R) : fI pg oY #[a0, a1, a2] w R := by
 refine Bk (ann := fN) Tryd.f6 fL [a0, a1, a2] iE 145 TrydM.mixed Tryd.func6 ?_
 exact (wV _ _ _ R (fun _ _ h => h) h)
def zU : FA := ⟨sL, fun i => .leaf ([], []) []⟩
def Az : List ResultVar := [.tmp 0]
noncomputable def yU : Code := iL Tryd.f7
def uI (R : K1)  (w : MA) : Prop :=
 dQ pg (hZ 22 11 [(0, (.int .u8 40)), (1, (.int .u8 181)), (2, (.int .u8 47)), (3, (.int .u8 253)), (4, (.int .u8 32)), (5, (.int .u8 2)), (6, (.int .u8 17)), (7, (.int .u8 0)), (8, (.int .u8 0)), (9, (.int .u8 7)), (10, (.int .u8 8))]) w fun c1 w =>
 dQ pg (jV 22 22 c1) w fun c2 w =>
 fI pg iO #[c2, (MC 20), (MC 100)] w fun c3 w =>
 dQ pg (hU c3 0) w fun c4 w =>
 dQ pg (hU c3 1) w fun c5 w =>
 dQ pg (hZ 22 3 [(0, (.int .u8 1)), (1, (.int .u8 2)), (2, (.int .u8 3))]) w fun c7 w =>
 fI pg iO #[c7, (MC 20), (MC 100)] w fun c8 w =>
 dQ pg (hU c8 0) w fun c9 w =>
 dQ pg (hU c8 1) w fun d0 w =>
 fI pg iO #[(.slice none 0 0), (MC 9), (MC 100)] w fun d2 w =>
 dQ pg (hU d2 0) w fun d3 w =>
 dQ pg (hU d2 1) w fun d4 w =>
 dQ pg (hZ 22 9 [(0, (.int .u8 80)), (1, (.int .u8 42)), (2, (.int .u8 77)), (3, (.int .u8 24)), (4, (.int .u8 1)), (5, (.int .u8 0)), (6, (.int .u8 0)), (7, (.int .u8 0)), (8, (.int .u8 9))]) w fun d6 w =>
 dQ pg (jV 22 22 d6) w fun d7 w =>
 fI pg mL #[d7, (MC 20), (MC 100)] w fun d8 w =>
 dQ pg (hU d8 0) w fun d9 w =>
 dQ pg (hU d8 1) w fun e0 w =>
 dQ pg (hU d8 2) w fun e1 w =>
 dQ pg (jV 22 9 c4) w fun e3 w =>
 dQ pg (fD .eql 9 (.tmp 33) (.const (.string ⟨#[7, 8]⟩)) e3 (.string ⟨#[7, 8]⟩)) w fun e4 w =>
 Gd (jU e4 true) (fun K => K c5 w) w fun e6 w =>
 Gd (jU e4 true) (fun K => dQ pg (fD .eql 26 (.tmp 36) (.const (MC 0)) e6 (MC 0)) w K) w fun e7 w =>
 dQ pg (lN e4 e7 (.bool false)) w fun e8 w =>
 Gd (jU e8 true) (fun K => K d0 w) w fun f0 w =>
 Gd (jU e8 true) (fun K => dQ pg (fD .eql 26 (.tmp 40) (.const (MC 10)) f0 (MC 10)) w K) w fun f1 w =>
 dQ pg (lN e8 f1 (.bool false)) w fun f2 w =>
 Gd (jU f2 true) (fun K => K d4 w) w fun f4 w =>
 Gd (jU f2 true) (fun K => dQ pg (fD .eql 26 (.tmp 44) (.const (MC 1)) f4 (MC 1)) w K) w fun f5 w =>
 dQ pg (lN f2 f5 (.bool false)) w fun f6 w =>
 Gd (jU f6 true) (fun K => K d9 w) w fun f8 w =>
 Gd (jU f6 true) (fun K => dQ pg (fD .eql 3 (.tmp 48) (.const (MC 0)) f8 (MC 0)) w K) w fun f9 w =>
 dQ pg (lN f6 f9 (.bool false)) w fun i0 w =>
 Gd (jU i0 true) (fun K => K e0 w) w fun i2 w =>
 Gd (jU i0 true) (fun K => dQ pg (fD .eql 3 (.tmp 52) (.const (MC 1)) i2 (MC 1)) w K) w fun i3 w =>
 dQ pg (lN i0 i3 (.bool false)) w fun i4 w =>
 Gd (jU i4 true) (fun K => K e1 w) w fun i6 w =>
 Gd (jU i4 true) (fun K => dQ pg (fD .eql 26 (.tmp 56) (.const (MC 0)) i6 (MC 0)) w K) w fun i7 w =>
 dQ pg (lN i4 i7 (.bool false)) w fun i8 w =>
 R i8 w
theorem B6 (R : K1) (hr : HR Az R Q) (h : uI R w) : gK pg zU yU Q g w :=
 lX (kn := no) (l := []) h pA hr trivial
def CV (w : MA) (R : K1) : Prop :=
 uI R w
theorem CJ {w : MA} {R : K1} (h : CV w R) : fI pg sL #[] w R := by
 refine Bk (ann := zU) Tryd.f7 yU [] Az 59 TrydM.mixed Tryd.func7 ?_
 exact (B6 _ _ _ R (fun _ _ h => h) h)
def vL : FA := ⟨iO, fun i => .leaf ([], []) []⟩
def xZ : List ResultVar := [.tmp 6, .tmp 7]
noncomputable def uZ : Code := iL Tryd.f9
def oK (R : K1) (lA Bj Ay : MB) (w : MA) : Prop :=
 fI pg oJ #[lA, Bj, Ay] w fun c4 w =>
 dQ pg (hU c4 0) w fun c5 w =>
 dQ pg (hU c4 1) w fun c6 w =>
 dQ pg (fD .neq 26 (.tmp 17) (.const (MC 0)) c6 (MC 0)) w fun c8 w =>
 lC c8
  (R (.tuple #[(.slice none 0 0), c6]) w)
  (dQ pg (iX c5) w fun d1 w =>
  dQ pg (fF 47 d1 3) w fun d2 w =>
  dQ pg (fM 22 d2) w fun d3 w =>
  R (.tuple #[d3, (MC 0)]) w)
theorem A8 (R : K1) (hr : HR xZ R Q) (h : oK R (g 0) (g 1) (g 2) w) : gK pg vL uZ Q g w :=
 lX (kn := no) (l := []) h pA hr trivial
def xM (a0 a1 a2 : MB) (w : MA) (R : K1) : Prop :=
 oK R a0 a1 a2 w
theorem uF {a0 a1 a2 : MB} {w : MA} {R : K1} (h : xM a0 a1 a2 w R) : fI pg iO #[a0, a1, a2] w R := by
 refine Bk (ann := vL) Tryd.f9 uZ [a0, a1, a2] xZ 24 TrydM.mixed Tryd.func9 ?_
 exact (A8 _ _ _ R (fun _ _ h => h) h)
def vP : FA := ⟨mL, fun i => match Nat.beq i 4 with | true => .leaf ([], []) [(false, []), (false, []), (false, []), (false, []), (false, []), (false, []), (false, []), (false, []), (false, []), (false, []), (false, [])] | false => .leaf ([], []) []⟩
def yX : List ResultVar := [.tmp 6, .tmp 7, .tmp 8]
noncomputable def uU : Code := iL Tryd.f10
def sB (R : K1) (lA Bj Ay : MB) (w : MA) : Prop :=
 fI pg oJ #[lA, Bj, Ay] w fun c5 w =>
 dQ pg (hU c5 0) w fun c6 w =>
 dQ pg (hU c5 1) w fun c7 w =>
 dQ pg (fD .neq 26 (.tmp 18) (.const (MC 0)) c7 (MC 0)) w fun c9 w =>
 lC c9
  (R (.tuple #[(MC 0), (MC 0), c7]) w)
  ((dr w) = (dr w) /\
  dQ pg (iX c6) (dr w) fun d2 w_ => w_ = (dr w) /\
  dQ pg (fF 47 d2 4) (dr w) fun d3 w_ => w_ = (dr w) /\
  dQ pg (fM 3 d3) (dr w) fun d4 w_ => w_ = (dr w) /\
  (dr w) = (dr w) /\
  dQ pg (iX c6) (dr w) fun d6 w_ => w_ = (dr w) /\
  dQ pg (fF 47 d6 5) (dr w) fun d7 w_ => w_ = (dr w) /\
  dQ pg (fM 3 d7) (dr w) fun d8 w_ => w_ = (dr w) /\
  (dr w) = (dr w) /\
  (dr w) = (dr w) /\
  (dr w) = (dr w) /\
  R (.tuple #[d4, d8, (MC 0)]) (dr w))
theorem Bb (R : K1) (hr : HR yX R Q) (h : sB R (g 0) (g 1) (g 2) w) : gK pg vP uU Q g w :=
 lX (kn := no) (l := []) h pA hr trivial
def Br (a0 a1 a2 : MB) (w : MA) (R : K1) : Prop :=
 sB R a0 a1 a2 w
theorem By {a0 a1 a2 : MB} {w : MA} {R : K1} (h : Br a0 a1 a2 w R) : fI pg mL #[a0, a1, a2] w R := by
 refine Bk (ann := vP) Tryd.f10 uU [a0, a1, a2] yX 29 TrydM.mixed Tryd.func10 ?_
 exact (Bb _ _ _ R (fun _ _ h => h) h)
def iM : FA := ⟨oJ, fun i => match Nat.beq i 3 with | true => .leaf ([1, 6], [(1, 3)]) [(false, []), (true, []), (false, []), (false, [1]), (false, []), (false, []), (true, []), (false, [])] | false => .leaf ([], []) []⟩
def jL : List ResultVar := [.tmp 6, .tmp 7]
noncomputable def iG : Code := iL Tryd.f13
def sK (R : K1) (vY : MB) (w : MA) : Prop :=
 R (.tuple #[vY, (MC 0)]) w
theorem Cq (R : K1) (hr : HR jL R Q) (h : sK R (g 8) w) : gK pg iM (fC 1 (fC 3 iG)) Q g w :=
 lX (kn := no) (l := []) h pA hr trivial
def mN (kn : K1) (R : K1) (vY Hg : MB) (w : MA) : Prop :=
 dQ pg (fD .neq 26 (.tmp 64) (.const (MC 0)) Hg (MC 0)) w fun j5 w =>
 lC j5
  (R (.tuple #[(.pointer none), Hg]) w)
  (kn vY w)
theorem Cz (kn : K1) (R : K1) (hn : N1 Q kn 8) (hr : HR jL R Q) (h : mN kn R (g 8) (g 10) w) : gK pg iM (fC 4 (bI (fC 1 (bI (bI (fO 1 (fC 3 iG))))))) Q g w :=
 lX (l := []) h hn hr trivial
def wI (kn : K2) (R : K1) (vY : MB) (w : MA) : Prop :=
 dQ pg (iX vY) w fun e5 w =>
 dQ pg (fF 47 e5 0) w fun e6 w =>
 dQ pg (fM 45 e6) w fun e7 w =>
 fI pg fP #[e7, (MC 4)] w fun e8 w =>
 dQ pg (iX vY) w fun f0 w =>
 dQ pg (fF 47 f0 0) w fun f1 w =>
 dQ pg (fM 45 f1) w fun f2 w =>
 fI pg fX #[f2] w fun f3 w =>
 dQ pg (fD .neq 26 (.tmp 43) (.const (MC 0)) f3 (MC 0)) w fun f4 w =>
 lC f4
  (dQ pg (iX vY) w fun f6 w =>
  dQ pg (fF 47 f6 0) w fun f7 w =>
  dQ pg (fM 45 f7) w fun f8 w =>
  fI pg fX #[f8] w fun f9 w =>
  R (.tuple #[(.pointer none), f9]) w)
  (dQ pg (fD .eql 40 (.tmp 51) (.const (.int .u64 4247762216)) e8 (.int .u64 4247762216)) w fun i2 w =>
  lC i2
   (fI pg kU #[vY] w fun i4 w =>
   kn vY i4 w)
   (dQ pg (fD .geq 40 fK fK e8 (.int .u64 407710288)) w fun i7 w =>
   Gd (jU i7 true) (fun K => K e8 w) w fun i9 w =>
   Gd (jU i7 true) (fun K => dQ pg (fD .lss 40 fK fK i9 (.int .u64 407710304)) w K) w fun j0 w =>
   dQ pg (lN i7 j0 (.bool false)) w fun j1 w =>
   lC j1
    (fI pg lE #[vY] w fun j3 w =>
    kn vY j3 w)
    (kn vY (MC 11) w)))
theorem CS (kn : K2) (R : K1) (hn : N2 Q kn 8 10) (hr : HR jL R Q) (h : wI kn R (g 8) w) : gK pg iM (fO 4 (bI (fC 1 (bI (bI (fO 1 (fC 3 iG))))))) Q g w :=
 lX (l := []) h hn hr trivial
def Bg (kn : K1) (R : K1) (vY : MB) (w : MA) : Prop :=
 wI (fun vY Hg w => mN kn R vY Hg w) R vY w
def xB (kn : K1) (R : K1) (vY : MB) (w : MA) : Prop :=
 Bg kn R vY w
def wD (kn : K1) (k0 : K1) (vY : MB) (w : MA) : Prop :=
 dQ pg (iX vY) w fun d9 w =>
 dQ pg (fF 47 d9 0) w fun e0 w =>
 dQ pg (fM 45 e0) w fun e1 w =>
 fI pg hP #[e1] w fun e2 w =>
 dQ pg (fD .gtr 3 fK fK e2 (MC 0)) w fun e3 w =>
 lC e3
  (kn vY w)
  (k0 vY w)
theorem CG (kn : K1) (k0 : K1) (hn : N1 Q kn 8) (h0 : E1 Q k0 0 8) (h : wD kn k0 (g 8) w) : gK pg iM (fO 1 (bI (bI (fO 1 (fC 3 iG))))) Q g w :=
 lX (kr := no) (l := [(0, fun g w => k0 (g 8) w)]) h hn pA ⟨h0, trivial⟩
def sN (kn : K1) (k0 : K1) (R : K1) (vY : MB) (w : MA) : Prop :=
 wD (fun vY w => xB kn R vY w) k0 vY w
def xI (k0 : K1) (R : K1) (vY : MB) (w : MA) : Prop :=
 iW (fun (X : Unit -> K0) (t : Unit) (w : MA) => sN (fun _ w => X () w) k0 R vY w) () w
theorem CU (kn : K1) (k0 : K1) (R : K1) (hn : N1 Q kn 8) (h0 : E1 Q k0 0 8) (hr : HR jL R Q) (h : sN kn k0 R (g 8) w) : gK pg iM (bI (bI (fO 1 (fC 3 iG)))) Q g w :=
 uM 1 (CG _ g w (xB kn R) k0 (fun g w h => fR (GB 1 (uM 4 (CS _ g w (mN kn R) R (fun g w h => fR (Cz _ g w kn R hn hr h)) hr h)))) h0 h)
theorem CN (k0 : K1) (R : K1) (h0 : E1 Q k0 0 8) (hr : HR jL R Q) (h : xI k0 R (g 8) w) : gK pg iM (bI (fO 1 (fC 3 iG))) Q g w := by
 refine Ho (fun _ : Env => ()) (fun X t w => sN (fun _ w => X () w) k0 R (g 8) w) h (fun X g1 w1 ha hL => ?_)
 rw [<- B1 8 ha] at hL
 exact (CU _ g1 w1 (fun _ w => X () w) k0 R (fun _ _ h => h) h0 hr hL)
def xS (kn : K1) (R : K1) (vY : MB) (w : MA) : Prop :=
 xI kn R vY w
def qS (R : K1) (vY : MB) (w : MA) : Prop :=
 xS (fun vY w => sK R vY w) R vY w
theorem CF (kn : K1) (R : K1) (hn : N1 Q kn 8) (hr : HR jL R Q) (h : xS kn R (g 8) w) : gK pg iM (fO 1 (fC 3 iG)) Q g w :=
 GB 0 (CN _ g w kn R hn hr h)
def qV (kn : K1) (R : K1) (lA Bj Ay : MB) (w : MA) : Prop :=
 dQ pg (fD .lss 3 fK fK Bj (MC 10)) w fun c2 w =>
 Gd (jU c2 false) (fun K => K Bj w) w fun c4 w =>
 Gd (jU c2 false) (fun K => dQ pg (fD .gtr 3 fK fK c4 (MC 22)) w K) w fun c5 w =>
 dQ pg (lN c2 (.bool true) c5) w fun c6 w =>
 Gd (jU c6 false) (fun K => K Ay w) w fun c8 w =>
 Gd (jU c6 false) (fun K => dQ pg (fD .lss 3 fK fK c8 (MC 0)) w K) w fun c9 w =>
 dQ pg (lN c6 (.bool true) c9) w fun d0 w =>
 lC d0
  (R (.tuple #[(.pointer none), (MC 1)]) w)
  ((dr w) = (dr w) /\
  fI pg iF #[lA] (dr w) fun d2 lS =>
  lS = lS /\
  dQ pg (fD .shl 40 fK fK (.int .u64 1) Bj) lS fun d4 w_ => w_ = lS /\
  (fE pg (fD .shl 40 fK fK (.int .u64 1) Bj) d4 (dr w) /\ True) /\
  lS = lS /\
  dQ pg (hX 47 [(0, d2), (1, d4), (2, Ay)]) lS fun d6 w_ => w_ = lS /\
  dQ pg (Gq 47 d6) lS fun d7 J3 =>
  J3 = J3 /\
  kn d7 J3)
theorem BW (kn : K1) (R : K1) (hn : N1 Q kn 8) (hr : HR jL R Q) (h : qV kn R (g 0) (g 1) (g 2) w) : gK pg iM (fO 3 iG) Q g w :=
 lX (l := []) h hn hr trivial
def rF (R : K1) (lA Bj Ay : MB) (w : MA) : Prop :=
 qV (fun vY w => qS R vY w) R lA Bj Ay w
theorem B0 (R : K1) (hr : HR jL R Q) (h : rF R (g 0) (g 1) (g 2) w) : gK pg iM iG Q g w :=
 uM 3 (BW _ g w (qS R) R (fun g w h => fR (uM 1 (CF _ g w (sK R) R (fun g w h => fR (Cq _ g w R hr h)) hr h))) hr h)
def BC (a0 a1 a2 : MB) (w : MA) (R : K1) : Prop :=
 rF R a0 a1 a2 w
theorem zX {a0 a1 a2 : MB} {w : MA} {R : K1} (h : BC a0 a1 a2 w R) : fI pg oJ #[a0, a1, a2] w R := by
 refine Bk (ann := iM) Tryd.f13 iG [a0, a1, a2] jL 68 TrydM.mixed Tryd.func13 ?_
 exact (B0 _ _ _ R (fun _ _ h => h) h)
def tB : FA := ⟨iF, fun i => .leaf ([], []) []⟩
def tT : List ResultVar := [.tmp 2]
noncomputable def rI : Code := iL Tryd.f18
def oU (R : K1) (lA : MB) (w : MA) : Prop :=
 fI pg lF #[lA] w fun b4 w =>
 dQ pg (hX 63 [(0, b4)]) w fun b5 w =>
 dQ pg (Gq 63 b5) w fun b6 w =>
 R b6 w
theorem zR (R : K1) (hr : HR tT R Q) (h : oU R (g 0) w) : gK pg tB rI Q g w :=
 lX (kn := no) (l := []) h pA hr trivial
def yP (a0 : MB) (w : MA) (R : K1) : Prop :=
 oU R a0 w
theorem Ao {a0 : MB} {w : MA} {R : K1} (h : yP a0 w R) : fI pg iF #[a0] w R := by
 refine Bk (ann := tB) Tryd.f18 rI [a0] tT 7 TrydM.mixed Tryd.func18 ?_
 exact (zR _ _ _ R (fun _ _ h => h) h)
def qN : FA := ⟨hP, fun i => .leaf ([], []) []⟩
def rQ : List ResultVar := [.tmp 2]
noncomputable def qJ : Code := iL Tryd.f19
def mZ (R : K1) (BA : MB) (w : MA) : Prop :=
 dQ pg (fD .eql 45 (.tmp 3) (.const (.pointer none)) BA (.pointer none)) w fun b4 w =>
 lC b4
  (R (MC 0) w)
  (dQ pg (iX BA) w fun b6 w =>
  dQ pg (fF 63 b6 0) w fun b7 w =>
  dQ pg (fM 22 b7) w fun b8 w =>
  dQ pg (nR .len #[22] 3 [b8]) w fun b9 w =>
  R b9 w)
theorem xE (R : K1) (hr : HR rQ R Q) (h : mZ R (g 0) w) : gK pg qN qJ Q g w :=
 lX (kn := no) (l := []) h pA hr trivial
def uO (a0 : MB) (w : MA) (R : K1) : Prop :=
 mZ R a0 w
theorem yT {a0 : MB} {w : MA} {R : K1} (h : uO a0 w R) : fI pg hP #[a0] w R := by
 refine Bk (ann := qN) Tryd.f19 qJ [a0] rQ 10 TrydM.mixed Tryd.func19 ?_
 exact (xE _ _ _ R (fun _ _ h => h) h)
def gI : FA := ⟨fP, fun i => .leaf ([], []) []⟩
def jT : List ResultVar := [.tmp 4]
noncomputable def gE : Code := iL Tryd.f20
def jR (R : K1) (Bm : MB) (w : MA) : Prop :=
 R Bm w
theorem uJ (R : K1) (hr : HR jT R Q) (h : jR R (g 5) w) : gK pg gI (fC 1 (fC 3 gE)) Q g w :=
 lX (kn := no) (l := []) h pA hr trivial
def jS (kn : K4) (k0 : K1) (Bm c8 c9 d0 : MB) (w : MA) : Prop :=
 dQ pg (fD .lss 3 fK fK d0 c9) w fun d1 w =>
 lC d1
  (dQ pg (kP 22 c8 d0) w fun d3 w =>
  dQ pg (fM 5 d3) w fun d4 w =>
  dQ pg (jV 5 40 d4) w fun d7 w =>
  dQ pg (fD .mul 3 fK fK (MC 8) d0) w fun d9 w =>
  dQ pg (jV 3 35 d9) w fun e0 w =>
  dQ pg (fD .shl 40 fK fK d7 e0) w fun e1 w =>
  dQ pg (fD .or 40 fK fK Bm e1) w fun e2 w =>
  dQ pg (fD .add 3 fK fK d0 (MC 1)) w fun e3 w =>
  kn e2 c8 c9 e3 w)
  (k0 Bm w)
theorem uS (kn : K4) (k0 : K1) (hn : N4 Q kn 5 18 19 20) (h0 : E1 Q k0 0 5) (h : jS kn k0 (g 5) (g 18) (g 19) (g 20) w) : gK pg gI (bI (bI (fC 1 (fO 1 (fC 3 gE))))) Q g w :=
 lX (kr := no) (l := [(0, fun g w => k0 (g 5) w)]) h hn pA ⟨h0, trivial⟩
def lV (k0 : K1) (Bm c8 c9 d0 : MB) (w : MA) : Prop :=
 iW (fun (X : (MB × MB) -> K0) (t : MB × MB) (w : MA) => jS (fun Bm _ _ d0 w => X (Bm, d0) w) k0 t.1 c8 c9 t.2 w) (Bm, d0) w
theorem uB (k0 : K1) (h0 : E1 Q k0 0 5) (h : lV k0 (g 5) (g 18) (g 19) (g 20) w) : gK pg gI (bI (fC 1 (fO 1 (fC 3 gE)))) Q g w := by
 refine Ho (fun g : Env => (g 5, g 20)) (fun X t w => jS (fun Bm _ _ d0 w => X (Bm, d0) w) k0 t.1 (g 18) (g 19) t.2 w) h (fun X g1 w1 ha hL => ?_)
 rw [<- B1 18 ha, <- B1 19 ha] at hL
 exact (uS _ g1 w1 (fun Bm _ _ d0 w => X (Bm, d0) w) k0 (fun _ _ h => h) h0 hL)
def lK (kn : K1) (Bm c8 c9 d0 : MB) (w : MA) : Prop :=
 lV kn Bm c8 c9 d0 w
def lM (kn : K4) (BA C0 Bm : MB) (w : MA) : Prop :=
 dQ pg (fD .geq 3 fK fK C0 (MC 1)) w fun c3 w =>
 Gd (jU c3 true) (fun K => K C0 w) w fun c5 w =>
 Gd (jU c3 true) (fun K => dQ pg (fD .leq 3 fK fK c5 (MC 8)) w K) w fun c6 w =>
 dQ pg (lN c3 c6 (.bool false)) w fun c7 w =>
 fI pg jO #[BA, C0, c7] w fun c8 w =>
 dQ pg (nR .len #[22] 3 [c8]) w fun c9 w =>
 kn Bm c8 c9 (MC 0) w
theorem uX (kn : K4) (hn : N4 Q kn 5 18 19 20) (h : lM kn (g 0) (g 1) (g 5) w) : gK pg gI (fO 1 (fO 1 (fC 3 gE))) Q g w :=
 lX (kr := no) (l := []) h hn pA trivial
def lP (kn : K1) (BA C0 Bm : MB) (w : MA) : Prop :=
 lM (fun Bm c8 c9 d0 w => lK kn Bm c8 c9 d0 w) BA C0 Bm w
def lL (R : K1) (BA C0 Bm : MB) (w : MA) : Prop :=
 lP (fun Bm w => jR R Bm w) BA C0 Bm w
theorem uW (kn : K1) (hn : N1 Q kn 5) (h : lP kn (g 0) (g 1) (g 5) w) : gK pg gI (fO 1 (fC 3 gE)) Q g w :=
 uM 1 (uX _ g w (lK kn) (fun g w h => fR (GB 0 (uB _ g w kn hn h))) h)
def lJ (kn : K3) (R : K1) (BA C0 : MB) (w : MA) : Prop :=
 dQ pg (fD .eql 45 (.tmp 8) (.const (.pointer none)) BA (.pointer none)) w fun b9 w =>
 lC b9
  (R (.int .u64 0) w)
  (kn BA C0 (.int .u64 0) w)
theorem uV (kn : K3) (R : K1) (hn : N3 Q kn 0 1 5) (hr : HR jT R Q) (h : lJ kn R (g 0) (g 1) w) : gK pg gI (fO 3 gE) Q g w :=
 lX (l := []) h hn hr trivial
def lO (R : K1) (BA C0 : MB) (w : MA) : Prop :=
 lJ (fun BA C0 Bm w => lL R BA C0 Bm w) R BA C0 w
theorem uL (R : K1) (hr : HR jT R Q) (h : lO R (g 0) (g 1) w) : gK pg gI gE Q g w :=
 uM 3 (uV _ g w (lL R) R (fun g w h => fR (uM 1 (uW _ g w (jR R) (fun g w h => fR (uJ _ g w R hr h)) h))) hr h)
def sW (a0 a1 : MB) (w : MA) (R : K1) : Prop :=
 lO R a0 a1 w
theorem vF {a0 a1 : MB} {w : MA} {R : K1} (h : sW a0 a1 w R) : fI pg fP #[a0, a1] w R := by
 refine Bk (ann := gI) Tryd.f20 gE [a0, a1] jT 35 TrydM.mixed Tryd.func20 ?_
 exact (uL _ _ _ R (fun _ _ h => h) h)
def rN : FA := ⟨fX, fun i => .leaf ([], []) []⟩
def sR : List ResultVar := [.tmp 2]
noncomputable def qZ : Code := iL Tryd.f21
def oB (R : K1) (BA : MB) (w : MA) : Prop :=
 dQ pg (fD .eql 45 (.tmp 3) (.const (.pointer none)) BA (.pointer none)) w fun b4 w =>
 lC b4
  (R (MC 1) w)
  (dQ pg (iX BA) w fun b6 w =>
  dQ pg (fF 63 b6 1) w fun b7 w =>
  dQ pg (fM 26 b7) w fun b8 w =>
  R b8 w)
theorem yB (R : K1) (hr : HR sR R Q) (h : oB R (g 0) w) : gK pg rN qZ Q g w :=
 lX (kn := no) (l := []) h pA hr trivial
def wA (a0 : MB) (w : MA) (R : K1) : Prop :=
 oB R a0 w
theorem zF {a0 : MB} {w : MA} {R : K1} (h : wA a0 w R) : fI pg fX #[a0] w R := by
 refine Bk (ann := rN) Tryd.f21 qZ [a0] sR 9 TrydM.mixed Tryd.func21 ?_
 exact (yB _ _ _ R (fun _ _ h => h) h)
def gG : FA := ⟨kU, fun i => match Nat.beq i 1 with | true => .leaf ([8, 9], [(1, 8), (2, 8), (3, 8)]) [(false, []), (false, []), (false, []), (false, []), (false, []), (false, []), (false, []), (false, []), (true, [4, 5, 6]), (true, []), (false, [])] | false => match Nat.beq i 6 with | true => .leaf ([], []) [(false, []), (false, []), (false, []), (false, []), (false, []), (false, []), (false, []), (false, []), (false, []), (false, []), (false, []), (false, []), (false, []), (false, []), (false, []), (false, []), (false, []), (false, []), (false, []), (false, []), (false, []), (false, []), (false, []), (false, []), (false, []), (false, []), (false, [])] | false => .leaf ([], []) []⟩
def gX : List ResultVar := [.tmp 2]
noncomputable def gC : Code := iL Tryd.f22
def iB (R : K1) (kN fJ : MB) (w : MA) : Prop :=
 dQ pg (iX kN) w fun p1 w =>
 dQ pg (fF 47 p1 3) w fun p2 w =>
 dQ pg (fM 22 p2) w fun p3 w =>
 dQ pg (nR .append #[22, 22] 22 [p3, fJ]) w fun p5 w =>
 dQ pg (iX kN) w fun p6 w =>
 dQ pg (fF 47 p6 3) w fun p7 w =>
 dQ pg (fZ 22 p7 p5) w fun _u w =>
 dQ pg (iX kN) w fun p9 w =>
 dQ pg (fF 47 p9 4) w fun q0 w =>
 dQ pg (fM 3 q0) w fun q1 w =>
 dQ pg (fD .add 3 fK fK q1 (MC 1)) w fun q2 w =>
 dQ pg (iX kN) w fun q3 w =>
 dQ pg (fF 47 q3 4) w fun q4 w =>
 dQ pg (fZ 3 q4 q2) w fun _u w =>
 R (MC 0) w
theorem wS (R : K1) (hr : HR gX R Q) (h : iB R (g 0) (g 8) w) : gK pg gG (fC 2 (fC 1 (fC 8 (bI (fC 1 gC))))) Q g w :=
 lX (kn := no) (l := []) h pA hr trivial
def mS (kn : K2) (R : K1) (kN BM fJ : MB) (w : MA) : Prop :=
 dQ pg (fF 67 BM 2) w fun n1 w =>
 dQ pg (fM 4 n1) w fun n2 w =>
 Gd (jU n2 true) (fun K => K fJ w) w fun n4 w =>
 Gd (jU n2 true) (fun K => dQ pg (nR .len #[22] 3 [n4]) w K) w fun n5 w =>
 Gd (jU n2 true) (fun K => dQ pg (jV 3 40 n5) w K) w fun n6 w =>
 Gd (jU n2 true) (fun K => dQ pg (fF 67 BM 1) w K) w fun n7 w =>
 Gd (jU n2 true) (fun K => dQ pg (fM 40 n7) w K) w fun n8 w =>
 Gd (jU n2 true) (fun K => dQ pg (fD .neq 40 (.tmp 96) (.tmp 98) n6 n8) w K) w fun n9 w =>
 dQ pg (lN n2 n9 (.bool false)) w fun o0 w =>
 lC o0
  (R (MC 11) w)
  (dQ pg (fF 67 BM 3) w fun o1 w =>
  dQ pg (fM 4 o1) w fun o2 w =>
  lC o2
   (fI pg jH #[kN, fJ] w fun o5 w =>
   dQ pg (fD .neq 26 (.tmp 106) (.const (MC 0)) o5 (MC 0)) w fun o7 w =>
   lC o7
    (R o5 w)
    (kn kN fJ w))
   (kn kN fJ w))
theorem wO (kn : K2) (R : K1) (hn : N2 Q kn 0 8) (hr : HR gX R Q) (h : mS kn R (g 0) (g 4) (g 8) w) : gK pg gG (fO 2 (fC 1 (fC 8 (bI (fC 1 gC))))) Q g w :=
 lX (l := []) h hn hr trivial
def jI (R : K1) (kN BM fJ : MB) (w : MA) : Prop :=
 mS (fun kN fJ w => iB R kN fJ w) R kN BM fJ w
def kK (kn : K4) (k0 : K3) (R : K1) (kN BM EI fJ : MB) (w : MA) : Prop :=
 dQ pg (fM 80 EI) w fun j9 w =>
 dQ pg (fF 67 BM 0) w fun l0 w =>
 dQ pg (fM 40 l0) w fun l1 w =>
 fI pg kZ #[kN, fJ, j9, l1] w fun l2 w =>
 dQ pg (hU l2 0) w fun l3 w =>
 dQ pg (hU l2 1) w fun l4 w =>
 dQ pg (hU l2 2) w fun l5 w =>
 dQ pg (hU l2 3) w fun l6 w =>
 dQ pg (fZ 80 EI l4) w fun _u w =>
 dQ pg (fD .neq 26 (.tmp 77) (.const (MC 0)) l6 (MC 0)) w fun l8 w =>
 lC l8
  (R l6 w)
  (dQ pg (fF 67 BM 2) w fun m0 w =>
  dQ pg (fM 4 m0) w fun m1 w =>
  Gd (jU m1 true) (fun K => K l3 w) w fun m3 w =>
  Gd (jU m1 true) (fun K => dQ pg (nR .len #[22] 3 [m3]) w K) w fun m4 w =>
  Gd (jU m1 true) (fun K => dQ pg (jV 3 40 m4) w K) w fun m5 w =>
  Gd (jU m1 true) (fun K => dQ pg (fF 67 BM 1) w K) w fun m6 w =>
  Gd (jU m1 true) (fun K => dQ pg (fM 40 m6) w K) w fun m7 w =>
  Gd (jU m1 true) (fun K => dQ pg (fD .gtr 40 fK fK m5 m7) w K) w fun m8 w =>
  dQ pg (lN m1 m8 (.bool false)) w fun m9 w =>
  lC m9
   (R (MC 11) w)
   (lC l5
    (k0 kN BM l3 w)
    (kn kN BM EI l3 w)))
theorem wL (kn : K4) (k0 : K3) (R : K1) (hn : N4 Q kn 0 4 7 8) (h0 : E3 Q k0 0 0 4 8) (hr : HR gX R Q) (h : kK kn k0 R (g 0) (g 4) (g 7) (g 8) w) : gK pg gG (bI (bI (fO 1 (fC 8 (bI (fC 1 gC)))))) Q g w :=
 lX (l := [(0, fun g w => k0 (g 0) (g 4) (g 8) w)]) h hn hr ⟨h0, trivial⟩
def mV (k0 : K3) (R : K1) (kN BM EI fJ : MB) (w : MA) : Prop :=
 iW (fun (X : MB -> K0) (t : MB) (w : MA) => kK (fun _ _ _ fJ w => X fJ w) k0 R kN BM EI t w) fJ w
theorem xK (k0 : K3) (R : K1) (h0 : E3 Q k0 0 0 4 8) (hr : HR gX R Q) (h : mV k0 R (g 0) (g 4) (g 7) (g 8) w) : gK pg gG (bI (fO 1 (fC 8 (bI (fC 1 gC))))) Q g w := by
 refine Ho (fun g : Env => g 8) (fun X t w => kK (fun _ _ _ fJ w => X fJ w) k0 R (g 0) (g 4) (g 7) t w) h (fun X g1 w1 ha hL => ?_)
 rw [<- B1 0 ha, <- B1 4 ha, <- B1 7 ha] at hL
 exact (wL _ g1 w1 (fun _ _ _ fJ w => X fJ w) k0 R (fun _ _ h => h) h0 hr hL)
def nJ (kn : K3) (R : K1) (kN BM EI fJ : MB) (w : MA) : Prop :=
 mV kn R kN BM EI fJ w
def jG (R : K1) (kN BM EI fJ : MB) (w : MA) : Prop :=
 nJ (fun kN BM fJ w => jI R kN BM fJ w) R kN BM EI fJ w
theorem wH (kn : K3) (R : K1) (hn : N3 Q kn 0 4 8) (hr : HR gX R Q) (h : nJ kn R (g 0) (g 4) (g 7) (g 8) w) : gK pg gG (fO 1 (fC 8 (bI (fC 1 gC)))) Q g w :=
 GB 0 (xK _ g w kn R hn hr h)
def mY (kn : K4) (R : K1) (kN : MB) (w : MA) : Prop :=
 (dr w) = (dr w) /\
 dQ pg (iX kN) (dr w) fun c2 w_ => w_ = (dr w) /\
 dQ pg (fF 47 c2 0) (dr w) fun c3 w_ => w_ = (dr w) /\
 dQ pg (fM 45 c3) (dr w) fun c4 w_ => w_ = (dr w) /\
 (dr w) = (dr w) /\
 dQ pg (iX kN) (dr w) fun c6 w_ => w_ = (dr w) /\
 dQ pg (fF 47 c6 0) (dr w) fun c7 w_ => w_ = (dr w) /\
 dQ pg (fM 45 c7) (dr w) fun c8 w_ => w_ = (dr w) /\
 fI pg hP #[c8] (dr w) fun c9 Jb =>
 (fE pg (fM 45 c3) c4 Jb /\ fE pg (fF 47 c2 0) c3 Jb /\ fE pg (iX kN) c2 Jb /\ True) /\
 fI pg iJ #[c4, c9] Jb fun d0 JB =>
 JB = JB /\
 fI pg tX #[d0] JB fun d3 w =>
 dQ pg (hU d3 0) w fun d4 w =>
 dQ pg (hU d3 1) w fun d5 w =>
 dQ pg (hU d3 2) w fun d6 w =>
 dQ pg (oS 67) w fun BM w =>
 dQ pg (fZ 67 BM d4) w fun _u w =>
 dQ pg (fD .neq 26 (.tmp 27) (.const (MC 0)) d6 (MC 0)) w fun d8 w =>
 lC d8
  (R d6 w)
  (dQ pg (hJ 22 d0 (some d5) none none) w fun e3 w =>
  fI pg iF #[e3] w fun e4 w =>
  dQ pg (iX kN) w fun e5 w =>
  dQ pg (fF 47 e5 0) w fun e6 w =>
  dQ pg (fZ 45 e6 e4) w fun _u w =>
  dQ pg (fF 67 BM 0) (dr w) fun e7 w_ => w_ = (dr w) /\
  dQ pg (fM 40 e7) (dr w) fun e8 w_ => w_ = (dr w) /\
  (dr w) = (dr w) /\
  dQ pg (iX kN) (dr w) fun f0 w_ => w_ = (dr w) /\
  dQ pg (fF 47 f0 1) (dr w) fun f1 w_ => w_ = (dr w) /\
  dQ pg (fM 40 f1) (dr w) fun f2 w_ => w_ = (dr w) /\
  dQ pg (fD .gtr 40 fK fK e8 f2) (dr w) fun f3 w_ => w_ = (dr w) /\
  (dr w) = (dr w) /\
  Gd (jU f3 false) (fun K => dQ pg (fF 67 BM 2) (dr w) K) (dr w) fun f5 w_ => w_ = (dr w) /\
  Gd (jU f3 false) (fun K => dQ pg (fM 4 f5) (dr w) K) (dr w) fun f6 w_ => w_ = (dr w) /\
  Gd (jU f3 false) (fun K => K f6 (dr w)) (dr w) fun f7 w_ => w_ = (dr w) /\
  Gd (jU f7 true) (fun K => dQ pg (fF 67 BM 1) (dr w) K) (dr w) fun f8 w_ => w_ = (dr w) /\
  Gd (jU f7 true) (fun K => dQ pg (fM 40 f8) (dr w) K) (dr w) fun f9 w_ => w_ = (dr w) /\
  Gd (jU f7 true) (fun K => K kN (dr w)) (dr w) fun i0 w_ => w_ = (dr w) /\
  Gd (jU f7 true) (fun K => dQ pg (iX i0) (dr w) K) (dr w) fun i1 w_ => w_ = (dr w) /\
  Gd (jU f7 true) (fun K => dQ pg (fF 47 i1 2) (dr w) K) (dr w) fun i2 w_ => w_ = (dr w) /\
  Gd (jU f7 true) (fun K => dQ pg (fM 3 i2) (dr w) K) (dr w) fun i3 w_ => w_ = (dr w) /\
  Gd (jU f7 true) (fun K => K kN (dr w)) (dr w) fun i4 w_ => w_ = (dr w) /\
  Gd (jU f7 true) (fun K => dQ pg (iX i4) (dr w) K) (dr w) fun i5 w_ => w_ = (dr w) /\
  Gd (jU f7 true) (fun K => dQ pg (fF 47 i5 3) (dr w) K) (dr w) fun i6 w_ => w_ = (dr w) /\
  Gd (jU f7 true) (fun K => dQ pg (fM 22 i6) (dr w) K) (dr w) fun i7 w_ => w_ = (dr w) /\
  Gd (jU f7 true) (fun K => dQ pg (nR .len #[22] 3 [i7]) (dr w) K) (dr w) fun i8 w_ => w_ = (dr w) /\
  Gd (jU f7 true) (fun K => dQ pg (fD .sub 3 fK fK i3 i8) (dr w) K) (dr w) fun i9 w_ => w_ = (dr w) /\
  Gd (jU f7 true) (fun K => dQ pg (jV 3 40 i9) (dr w) K) (dr w) fun j0 w_ => w_ = (dr w) /\
  Gd (jU f7 true) (fun K => dQ pg (fD .gtr 40 fK fK f9 j0) (dr w) K) (dr w) fun j1 w_ => w_ = (dr w) /\
  Gd (jU f3 false) (fun K => dQ pg (lN f7 j1 (.bool false)) (dr w) K) (dr w) fun j2 w_ => w_ = (dr w) /\
  dQ pg (lN f3 (.bool true) j2) (dr w) fun j3 w_ => w_ = (dr w) /\
  lC j3
   (R (MC 12) (dr w))
   (fI pg mK #[] (dr w) fun j4 w =>
   dQ pg (hX 80 [(2, j4)]) w fun j5 w =>
   dQ pg (oS 80) w fun EI w =>
   dQ pg (fZ 80 EI j5) w fun _u w =>
   kn kN BM EI (.slice none 0 0) w))
theorem wF (kn : K4) (R : K1) (hn : N4 Q kn 0 4 7 8) (hr : HR gX R Q) (h : mY kn R (g 0) w) : gK pg gG (fO 8 (bI (fC 1 gC))) Q g w :=
 lX (l := []) h hn hr trivial
def rJ (R : K1) (kN : MB) (w : MA) : Prop :=
 mY (fun kN BM EI fJ w => jG R kN BM EI fJ w) R kN w
def lY (R : K1) (kN : MB) (w : MA) : Prop :=
 rJ R kN w
def mF (kn : K1) (kN : MB) (w : MA) : Prop :=
 kn kN w
theorem vG (kn : K1) (hn : N1 Q kn 0) (h : mF kn (g 0) w) : gK pg gG (fO 1 gC) Q g w :=
 lX (kr := no) (l := []) h hn pA trivial
def mE (R : K1) (kN : MB) (w : MA) : Prop :=
 mF (fun kN w => lY R kN w) kN w
theorem vJ (R : K1) (hr : HR gX R Q) (h : mE R (g 0) w) : gK pg gG gC Q g w :=
 uM 1 (vG _ g w (lY R) (fun g w h => fR (Lc (uM 8 (wF _ g w (jG R) R (fun g w h => fR (uM 1 (wH _ g w (jI R) R (fun g w h => fR (uM 2 (wO _ g w (iB R) R (fun g w h => fR (wS _ g w R hr h)) hr h))) hr h))) hr h)))) h)
def vB (a0 : MB) (w : MA) (R : K1) : Prop :=
 mE R a0 w
theorem yH {a0 : MB} {w : MA} {R : K1} (h : vB a0 w R) : fI pg kU #[a0] w R := by
 refine Bk (ann := gG) Tryd.f22 gC [a0] gX 125 TrydM.mixed Tryd.func22 ?_
 exact (vJ _ _ _ R (fun _ _ h => h) h)
def rO : FA := ⟨lE, fun i => .leaf ([], []) []⟩
def sU : List ResultVar := [.tmp 2]
noncomputable def rA : Code := iL Tryd.f23
def oH (R : K1) (kN : MB) (w : MA) : Prop :=
 dQ pg (iX kN) w fun b5 w =>
 dQ pg (fF 47 b5 0) w fun b6 w =>
 dQ pg (fM 45 b6) w fun b7 w =>
 fI pg fP #[b7, (MC 4)] w fun b8 w =>
 dQ pg (iX kN) w fun c0 w =>
 dQ pg (fF 47 c0 0) w fun c1 w =>
 dQ pg (fM 45 c1) w fun c2 w =>
 fI pg fX #[c2] w fun c3 w =>
 dQ pg (fD .neq 26 (.tmp 13) (.const (MC 0)) c3 (MC 0)) w fun c4 w =>
 Gd (jU c4 false) (fun K => K b8 w) w fun c6 w =>
 Gd (jU c4 false) (fun K => K kN w) w fun c7 w =>
 Gd (jU c4 false) (fun K => dQ pg (iX c7) w K) w fun c8 w =>
 Gd (jU c4 false) (fun K => dQ pg (fF 47 c8 0) w K) w fun c9 w =>
 Gd (jU c4 false) (fun K => dQ pg (fM 45 c9) w K) w fun d0 w =>
 Gd (jU c4 false) (fun K => fI pg hP #[d0] w K) w fun d1 w =>
 Gd (jU c4 false) (fun K => dQ pg (jV 3 40 d1) w K) w fun d2 w =>
 Gd (jU c4 false) (fun K => dQ pg (fD .gtr 40 fK fK c6 d2) w K) w fun d3 w =>
 dQ pg (lN c4 (.bool true) d3) w fun d4 w =>
 lC d4
  (R (MC 10) w)
  (dQ pg (iX kN) w fun d6 w =>
  dQ pg (fF 47 d6 0) w fun d7 w =>
  dQ pg (fM 45 d7) w fun d8 w =>
  dQ pg (jV 40 3 b8) w fun e0 w =>
  fI pg iJ #[d8, e0] w fun e1 w =>
  dQ pg (iX kN) w fun e3 w =>
  dQ pg (fF 47 e3 5) w fun e4 w =>
  dQ pg (fM 3 e4) w fun e5 w =>
  dQ pg (fD .add 3 fK fK e5 (MC 1)) w fun e6 w =>
  dQ pg (iX kN) w fun e7 w =>
  dQ pg (fF 47 e7 5) w fun e8 w =>
  dQ pg (fZ 3 e8 e6) w fun _u w =>
  R (MC 0) w)
theorem yC (R : K1) (hr : HR sU R Q) (h : oH R (g 0) w) : gK pg rO rA Q g w :=
 lX (kn := no) (l := []) h pA hr trivial
def wB (a0 : MB) (w : MA) (R : K1) : Prop :=
 oH R a0 w
theorem zG {a0 : MB} {w : MA} {R : K1} (h : wB a0 w R) : fI pg lE #[a0] w R := by
 refine Bk (ann := rO) Tryd.f23 rA [a0] sU 39 TrydM.mixed Tryd.func23 ?_
 exact (yC _ _ _ R (fun _ _ h => h) h)
def rK : FA := ⟨lF, fun i => .leaf ([], []) []⟩
def sT : List ResultVar := [.tmp 2]
noncomputable def qR : Code := iL Tryd.f25
def nW (R : K1) (kN : MB) (w : MA) : Prop :=
 dQ pg (fD .eql 22 (.tmp 3) (.const (.slice none 0 0)) kN (.slice none 0 0)) w fun b4 w =>
 lC b4
  (R (.slice none 0 0) w)
  (dQ pg (hZ 22 0 []) w fun b5 w =>
  dQ pg (nR .append #[22, 22] 22 [b5, kN]) w fun b7 w =>
  R b7 w)
theorem yV (R : K1) (hr : HR sT R Q) (h : nW R (g 0) w) : gK pg rK qR Q g w :=
 lX (kn := no) (l := []) h pA hr trivial
def vS (a0 : MB) (w : MA) (R : K1) : Prop :=
 nW R a0 w
theorem zL {a0 : MB} {w : MA} {R : K1} (h : vS a0 w R) : fI pg lF #[a0] w R := by
 refine Bk (ann := rK) Tryd.f25 qR [a0] sT 8 TrydM.mixed Tryd.func25 ?_
 exact (yV _ _ _ R (fun _ _ h => h) h)
def qP : FA := ⟨jO, fun i => .leaf ([], []) []⟩
def rL : List ResultVar := [.tmp 6]
noncomputable def qM : Code := iL Tryd.f26
def mQ (R : K1) (BA C0 Ky : MB) (w : MA) : Prop :=
 dQ pg (iX BA) w fun c0 w =>
 dQ pg (fF 63 c0 1) w fun c1 w =>
 dQ pg (fM 26 c1) w fun c2 w =>
 dQ pg (fD .neq 26 (.tmp 12) (.const (MC 0)) c2 (MC 0)) w fun c3 w =>
 lC c3
  (R (.slice none 0 0) w)
  (dQ pg (H5 .not Ky) w fun c6 w =>
  lC c6
   (dQ pg (iX BA) w fun c8 w =>
   dQ pg (fF 63 c8 1) w fun c9 w =>
   dQ pg (fZ 26 c9 (MC 1)) w fun _u w =>
   R (.slice none 0 0) w)
   (dQ pg (iX BA) w fun d3 w =>
   dQ pg (fF 63 d3 0) w fun d4 w =>
   dQ pg (fM 22 d4) w fun d5 w =>
   dQ pg (nR .len #[22] 3 [d5]) w fun d6 w =>
   dQ pg (fD .gtr 3 fK fK C0 d6) w fun d7 w =>
   lC d7
    (dQ pg (iX BA) w fun d9 w =>
    dQ pg (fF 63 d9 1) w fun e0 w =>
    dQ pg (fZ 26 e0 (MC 10)) w fun _u w =>
    R (.slice none 0 0) w)
    (dQ pg (iX BA) w fun e2 w =>
    dQ pg (fF 63 e2 0) w fun e3 w =>
    dQ pg (fM 22 e3) w fun e4 w =>
    dQ pg (hJ 22 e4 none (some C0) (some C0)) w fun e7 w =>
    dQ pg (iX BA) w fun f0 w =>
    dQ pg (fF 63 f0 0) w fun f1 w =>
    dQ pg (fM 22 f1) w fun f2 w =>
    dQ pg (hJ 22 f2 (some C0) none none) w fun f4 w =>
    dQ pg (iX BA) w fun f5 w =>
    dQ pg (fF 63 f5 0) w fun f6 w =>
    dQ pg (fZ 22 f6 f4) w fun _u w =>
    R e7 w)))
theorem wZ (R : K1) (hr : HR rL R Q) (h : mQ R (g 0) (g 1) (g 2) w) : gK pg qP qM Q g w :=
 lX (kn := no) (l := []) h pA hr trivial
def uG (a0 a1 a2 : MB) (w : MA) (R : K1) : Prop :=
 mQ R a0 a1 a2 w
theorem yL {a0 a1 a2 : MB} {w : MA} {R : K1} (h : uG a0 a1 a2 w R) : fI pg jO #[a0, a1, a2] w R := by
 refine Bk (ann := qP) Tryd.f26 qM [a0, a1, a2] rL 48 TrydM.mixed Tryd.func26 ?_
 exact (wZ _ _ _ R (fun _ _ h => h) h)
def qK : FA := ⟨iJ, fun i => .leaf ([], []) []⟩
def qU : List ResultVar := [.tmp 4]
noncomputable def pC : Code := iL Tryd.f27
def lZ (R : K1) (BA C0 : MB) (w : MA) : Prop :=
 dQ pg (fD .eql 45 (.tmp 5) (.const (.pointer none)) BA (.pointer none)) w fun b6 w =>
 lC b6
  (R (.slice none 0 0) w)
  (dQ pg (fD .geq 3 fK fK C0 (MC 0)) w fun c0 w =>
  fI pg jO #[BA, C0, c0] w fun c1 w =>
  R c1 w)
theorem vE (R : K1) (hr : HR qU R Q) (h : lZ R (g 0) (g 1) w) : gK pg qK pC Q g w :=
 lX (kn := no) (l := []) h pA hr trivial
def tU (a0 a1 : MB) (w : MA) (R : K1) : Prop :=
 lZ R a0 a1 w
theorem xD {a0 a1 : MB} {w : MA} {R : K1} (h : tU a0 a1 w R) : fI pg iJ #[a0, a1] w R := by
 refine Bk (ann := qK) Tryd.f27 pC [a0, a1] qU 12 TrydM.mixed Tryd.func27 ?_
 exact (vE _ _ _ R (fun _ _ h => h) h)
def iV : FA := ⟨tX, fun i => match Nat.beq i 28 with | true => .leaf ([4, 6], [(0, 4), (2, 4), (2, 6), (5, 6)]) [(false, []), (false, []), (false, []), (false, []), (true, [1, 3]), (false, []), (true, [0, 3]), (false, []), (false, [])] | false => .leaf ([], []) []⟩
def sG : List ResultVar := [.cell 2 67, .tmp 3, .tmp 4]
noncomputable def iN : Code := iL Tryd.f28
def pF (R : K1) (lA b2 sM qF hG : MB) (w : MA) : Prop :=
 fI pg fX #[sM] w fun l9 w =>
 dQ pg (fD .neq 26 (.tmp 79) (.const (MC 0)) l9 (MC 0)) w fun m0 w =>
 lC m0
  (dQ pg (hX 67 []) w fun m1 w =>
  fI pg fX #[sM] w fun m3 w =>
  dQ pg (fZ 67 b2 m1) w fun _u w =>
  D9 pg 67 b2 w fun r0 => R (.tuple #[r0, (MC 0), m3]) w)
  (dQ pg (fD .neq 40 (.tmp 85) (.const (.int .u64 0)) hG (.int .u64 0)) w fun m6 w =>
  lC m6
   (dQ pg (hX 67 []) w fun m7 w =>
   dQ pg (fZ 67 b2 m7) w fun _u w =>
   D9 pg 67 b2 w fun r0 => R (.tuple #[r0, (MC 0), (MC 14)]) w)
   (dQ pg (fM 67 qF) (dr w) fun m8 w_ => w_ = (dr w) /\
   (dr w) = (dr w) /\
   dQ pg (nR .len #[22] 3 [lA]) (dr w) fun n0 w_ => w_ = (dr w) /\
   (dr w) = (dr w) /\
   fI pg hP #[sM] (dr w) fun n2 FU =>
   (fE pg (nR .len #[22] 3 [lA]) n0 FU /\ fE pg (fM 67 qF) m8 FU /\ True) /\
   dQ pg (fD .sub 3 fK fK n0 n2) FU fun n3 w_ => w_ = FU /\
   dQ pg (fZ 67 b2 m8) FU fun _u6 C4 =>
   (fE pg (fD .sub 3 fK fK n0 n2) n3 C4 /\ fE pg (nR .len #[22] 3 [lA]) n0 C4 /\ True) /\
   C4 = C4 /\
   C4 = C4 /\
   D9 pg 67 b2 C4 fun r0 => R (.tuple #[r0, n3, (MC 0)]) C4))
theorem Cp (R : K1) (hr : HR sG R Q) (h : pF R (g 0) (g 2) (g 5) (g 7) (g 9) w) : gK pg iV (fC 1 (fC 1 (fC 1 (fC 2 (fC 2 (fC 7 iN)))))) Q g w :=
 lX (kn := no) (l := []) h pA hr trivial
def wP (kn : K5) (lA b2 sM qF iH hG : MB) (w : MA) : Prop :=
 lC iH
  (dQ pg (fF 67 qF 1) w fun l4 w =>
  dQ pg (fM 40 l4) w fun l5 w =>
  dQ pg (fF 67 qF 0) w fun l6 w =>
  dQ pg (fZ 40 l6 l5) w fun _u w =>
  kn lA b2 sM qF hG w)
  (kn lA b2 sM qF hG w)
theorem Cu (kn : K5) (hn : N5 Q kn 0 2 5 7 9) (h : wP kn (g 0) (g 2) (g 5) (g 7) (g 8) (g 9) w) : gK pg iV (fO 1 (fC 1 (fC 1 (fC 2 (fC 2 (fC 7 iN)))))) Q g w :=
 lX (kr := no) (l := []) h hn pA trivial
def sO (R : K1) (lA b2 sM qF iH hG : MB) (w : MA) : Prop :=
 wP (fun lA b2 sM qF hG w => pF R lA b2 sM qF hG w) lA b2 sM qF iH hG w
def xT (kn : K6) (lA b2 sM qF iH hG Ar : MB) (w : MA) : Prop :=
 dQ pg (fD .eql 3 (.tmp 67) (.const (MC 2)) Ar (MC 2)) w fun j8 w =>
 lC j8
  (dQ pg (fF 67 qF 1) w fun j9 w =>
  dQ pg (fM 40 j9) w fun l0 w =>
  dQ pg (fD .add 40 fK fK l0 (.int .u64 256)) w fun l1 w =>
  dQ pg (fF 67 qF 1) w fun l2 w =>
  dQ pg (fZ 40 l2 l1) w fun _u w =>
  kn lA b2 sM qF iH hG w)
  (kn lA b2 sM qF iH hG w)
theorem Cx (kn : K6) (hn : N6 Q kn 0 2 5 7 8 9) (h : xT kn (g 0) (g 2) (g 5) (g 7) (g 8) (g 9) (g 11) w) : gK pg iV (fO 1 (fC 1 (fC 2 (fC 2 (fC 7 iN))))) Q g w :=
 lX (kr := no) (l := []) h hn pA trivial
def sI (R : K1) (lA b2 sM qF iH hG Ar : MB) (w : MA) : Prop :=
 xT (fun lA b2 sM qF iH hG w => sO R lA b2 sM qF iH hG w) lA b2 sM qF iH hG Ar w
def xC (kn : K7) (lA b2 sM qF iH hG Ar : MB) (w : MA) : Prop :=
 dQ pg (fD .gtr 3 fK fK Ar (MC 0)) w fun j1 w =>
 lC j1
  (fI pg fP #[sM, Ar] w fun j4 w =>
  dQ pg (fF 67 qF 1) w fun j5 w =>
  dQ pg (fZ 40 j5 j4) w fun _u w =>
  dQ pg (fF 67 qF 2) w fun j6 w =>
  dQ pg (fZ 4 j6 (.bool true)) w fun _u w =>
  kn lA b2 sM qF iH hG Ar w)
  (kn lA b2 sM qF iH hG Ar w)
theorem CA (kn : K7) (hn : N7 Q kn 0 2 5 7 8 9 11) (h : xC kn (g 0) (g 2) (g 5) (g 7) (g 8) (g 9) (g 11) w) : gK pg iV (fO 1 (fC 2 (fC 2 (fC 7 iN)))) Q g w :=
 lX (kr := no) (l := []) h hn pA trivial
def pH (R : K1) (lA b2 sM qF iH hG Ar : MB) (w : MA) : Prop :=
 xC (fun lA b2 sM qF iH hG Ar w => sI R lA b2 sM qF iH hG Ar w) lA b2 sM qF iH hG Ar w
def xQ (kn : K7) (lA b2 sM Fu qF iH hG : MB) (w : MA) : Prop :=
 dQ pg (hX 87 [(0, (MC 0)), (1, (MC 2)), (2, (MC 4)), (3, (MC 8))]) w fun i1 w =>
 dQ pg (fD .shr 3 fK fK Fu (.int .u64 6)) w fun i3 w =>
 dQ pg (CH 87 i1 i3) w fun i4 w =>
 Gd (jU iH true) (fun K => K i4 w) w fun i7 w =>
 Gd (jU iH true) (fun K => dQ pg (fD .eql 3 (.tmp 57) (.const (MC 0)) i7 (MC 0)) w K) w fun i8 w =>
 dQ pg (lN iH i8 (.bool false)) w fun i9 w =>
 lC i9
  (kn lA b2 sM qF iH hG (MC 1) w)
  (kn lA b2 sM qF iH hG i4 w)
theorem CC (kn : K7) (hn : N7 Q kn 0 2 5 7 8 9 11) (h : xQ kn (g 0) (g 2) (g 5) (g 6) (g 7) (g 8) (g 9) w) : gK pg iV (fO 2 (fC 2 (fC 7 iN))) Q g w :=
 lX (kr := no) (l := []) h hn pA trivial
def pG (R : K1) (lA b2 sM Fu qF iH hG : MB) (w : MA) : Prop :=
 xQ (fun lA b2 sM qF iH hG Ar w => pH R lA b2 sM qF iH hG Ar w) lA b2 sM Fu qF iH hG w
def uC (kn : K7) (lA b2 sM Fu qF iH : MB) (w : MA) : Prop :=
 dQ pg (hX 87 [(0, (MC 0)), (1, (MC 1)), (2, (MC 2)), (3, (MC 4))]) w fun f2 w =>
 dQ pg (fD .and 3 fK fK Fu (MC 3)) w fun f4 w =>
 dQ pg (CH 87 f2 f4) w fun f5 w =>
 dQ pg (fD .gtr 3 fK fK f5 (MC 0)) w fun f7 w =>
 lC f7
  (fI pg fP #[sM, f5] w fun i0 w =>
  kn lA b2 sM Fu qF iH i0 w)
  (kn lA b2 sM Fu qF iH (.int .u64 0) w)
theorem Cg (kn : K7) (hn : N7 Q kn 0 2 5 6 7 8 9) (h : uC kn (g 0) (g 2) (g 5) (g 6) (g 7) (g 8) w) : gK pg iV (fO 2 (fC 7 iN)) Q g w :=
 lX (kr := no) (l := []) h hn pA trivial
def qY (R : K1) (lA b2 sM Fu qF iH : MB) (w : MA) : Prop :=
 uC (fun lA b2 sM Fu qF iH hG w => pG R lA b2 sM Fu qF iH hG w) lA b2 sM Fu qF iH w
def uP (kn : K6) (R : K1) (lA : MB) (w : MA) : Prop :=
 dQ pg (oS 67) w fun b2 w =>
 fI pg iF #[lA] w fun c3 w =>
 fI pg fP #[c3, (MC 1)] w fun c5 w =>
 dQ pg (jV 40 3 c5) w fun c6 w =>
 fI pg fX #[c3] w fun c9 w =>
 dQ pg (fD .neq 26 (.tmp 19) (.const (MC 0)) c9 (MC 0)) w fun d0 w =>
 lC d0
  (dQ pg (hX 67 []) w fun d1 w =>
  fI pg fX #[c3] w fun d3 w =>
  dQ pg (fZ 67 b2 d1) w fun _u w =>
  D9 pg 67 b2 w fun r0 => R (.tuple #[r0, (MC 0), d3]) w)
  (dQ pg (fD .and 3 fK fK c6 (MC 8)) w fun d6 w =>
  dQ pg (fD .neq 3 (.tmp 26) (.const (MC 0)) d6 (MC 0)) w fun d7 w =>
  lC d7
   (dQ pg (hX 67 []) w fun d8 w =>
   dQ pg (fZ 67 b2 d8) w fun _u w =>
   D9 pg 67 b2 w fun r0 => R (.tuple #[r0, (MC 0), (MC 11)]) w)
   (dQ pg (fD .and 3 fK fK c6 (MC 4)) w fun e0 w =>
   dQ pg (fD .neq 3 (.tmp 30) (.const (MC 0)) e0 (MC 0)) w fun e1 w =>
   dQ pg (hX 67 [(3, e1)]) w fun e2 w =>
   dQ pg (oS 67) w fun qF w =>
   dQ pg (fZ 67 qF e2) w fun _u w =>
   dQ pg (fD .and 3 fK fK c6 (MC 32)) w fun e4 w =>
   dQ pg (fD .neq 3 (.tmp 34) (.const (MC 0)) e4 (MC 0)) w fun e5 w =>
   dQ pg (H5 .not e5) w fun e7 w =>
   lC e7
    (fI pg fP #[c3, (MC 1)] w fun e9 w =>
    fI pg qT #[e9] w fun f0 w =>
    dQ pg (fF 67 qF 0) w fun f1 w =>
    dQ pg (fZ 40 f1 f0) w fun _u w =>
    kn lA b2 c3 c6 qF e5 w)
    (kn lA b2 c3 c6 qF e5 w)))
theorem B9 (kn : K6) (R : K1) (hn : N6 Q kn 0 2 5 6 7 8) (hr : HR sG R Q) (h : uP kn R (g 0) w) : gK pg iV (fO 7 iN) Q g w :=
 lX (l := []) h hn hr trivial
def uQ (R : K1) (lA : MB) (w : MA) : Prop :=
 uP (fun lA b2 sM Fu qF iH w => qY R lA b2 sM Fu qF iH w) R lA w
theorem BX (R : K1) (hr : HR sG R Q) (h : uQ R (g 0) w) : gK pg iV iN Q g w :=
 uM 7 (B9 _ g w (qY R) R (fun g w h => fR (uM 2 (Cg _ g w (pG R) (fun g w h => fR (uM 2 (CC _ g w (pH R) (fun g w h => fR (uM 1 (CA _ g w (sI R) (fun g w h => fR (uM 1 (Cx _ g w (sO R) (fun g w h => fR (uM 1 (Cu _ g w (pF R) (fun g w h => fR (Cp _ g w R hr h)) h))) h))) h))) h))) h))) hr h)
def DJ (a0 : MB) (w : MA) (R : K1) : Prop :=
 uQ R a0 w
theorem Dh {a0 : MB} {w : MA} {R : K1} (h : DJ a0 w R) : fI pg tX #[a0] w R := by
 refine Bk (ann := iV) Tryd.f28 iN [a0] sG 94 TrydM.mixed Tryd.func28 ?_
 exact (BX _ _ _ R (fun _ _ h => h) h)
def vQ : FA := ⟨mK, fun i => .leaf ([], []) []⟩
def yG : List ResultVar := [.cell 0 72]
noncomputable def uR : Code := iL Tryd.f29
def rS (R : K1)  (w : MA) : Prop :=
 dQ pg (oS 72) w fun b0 w =>
 dQ pg (hX 72 [(0, (.int .u32 1)), (1, (.int .u32 4)), (2, (.int .u32 8))]) w fun b1 w =>
 dQ pg (fZ 72 b0 b1) w fun _u w =>
 D9 pg 72 b0 w fun r0 => R r0 w
theorem A5 (R : K1) (hr : HR yG R Q) (h : rS R w) : gK pg vQ uR Q g w :=
 lX (kn := no) (l := []) h pA hr trivial
def Bh (w : MA) (R : K1) : Prop :=
 rS R w
theorem BN {w : MA} {R : K1} (h : Bh w R) : fI pg mK #[] w R := by
 refine Bk (ann := vQ) Tryd.f29 uR [] yG 2 TrydM.mixed Tryd.func29 ?_
 exact (A5 _ _ _ R (fun _ _ h => h) h)
def iU : FA := ⟨kZ, fun i => match Nat.beq i 24 with | true => .leaf ([], []) [(false, []), (false, []), (false, []), (false, []), (false, []), (false, []), (false, []), (false, []), (false, []), (false, []), (false, []), (false, []), (false, [])] | false => match Nat.beq i 26 with | true => .leaf ([5], [(2, 5), (3, 5)]) [(false, []), (false, []), (false, []), (false, []), (false, []), (true, [1, 2]), (false, []), (false, [])] | false => .leaf ([], []) []⟩
def jF : List ResultVar := [.tmp 8, .cell 9 80, .tmp 10, .tmp 11]
noncomputable def iS : Code := iL Tryd.f30
def iK (R : K1) (kN nT Er b9 tI : MB) (w : MA) : Prop :=
 (dr w) = (dr w) /\
 dQ pg (iX kN) (dr w) fun m8 w_ => w_ = (dr w) /\
 dQ pg (fF 47 m8 3) (dr w) fun m9 w_ => w_ = (dr w) /\
 dQ pg (fM 22 m9) (dr w) fun n0 w_ => w_ = (dr w) /\
 dQ pg (nR .len #[22] 3 [n0]) (dr w) fun n1 w_ => w_ = (dr w) /\
 (dr w) = (dr w) /\
 dQ pg (nR .len #[22] 3 [nT]) (dr w) fun n3 w_ => w_ = (dr w) /\
 dQ pg (fD .add 3 fK fK n1 n3) (dr w) fun n4 w_ => w_ = (dr w) /\
 (dr w) = (dr w) /\
 dQ pg (iX kN) (dr w) fun n6 w_ => w_ = (dr w) /\
 dQ pg (fF 47 n6 2) (dr w) fun n7 w_ => w_ = (dr w) /\
 dQ pg (fM 3 n7) (dr w) fun n8 w_ => w_ = (dr w) /\
 dQ pg (fD .gtr 3 fK fK n4 n8) (dr w) fun n9 w_ => w_ = (dr w) /\
 lC n9
  (dQ pg (hX 80 []) (dr w) fun o0 w =>
  dQ pg (fZ 80 b9 o0) w fun _u w =>
  D9 pg 80 b9 w fun r1 => R (.tuple #[(.slice none 0 0), r1, (.bool false), (MC 12)]) w)
  ((dr (dr w)) = (dr (dr w)) /\
  dQ pg (fM 80 Er) (dr (dr w)) fun o2 w_ => w_ = (dr (dr w)) /\
  dQ pg (fF 90 tI 0) (dr (dr w)) fun o3 w_ => w_ = (dr (dr w)) /\
  dQ pg (fM 4 o3) (dr (dr w)) fun o4 w_ => w_ = (dr (dr w)) /\
  (dr (dr w)) = (dr (dr w)) /\
  dQ pg (fZ 80 b9 o2) (dr (dr w)) fun _u5 C1 =>
  (fE pg (fM 4 o3) o4 C1 /\ fE pg (fF 90 tI 0) o3 C1 /\ True) /\
  C1 = C1 /\
  C1 = C1 /\
  D9 pg 80 b9 C1 fun r1 => R (.tuple #[nT, r1, o4, (MC 0)]) C1)
theorem wW (R : K1) (hr : HR jF R Q) (h : iK R (g 0) (g 1) (g 6) (g 9) (g 15) w) : gK pg iU (fC 2 (fC 9 iS)) Q g w :=
 lX (kn := no) (l := []) h pA hr trivial
def mW (kn : K5) (R : K1) (kN nT lT Er b9 uK tI Gg : MB) (w : MA) : Prop :=
 fI pg iT #[kN, Gg] w fun i1 w =>
 dQ pg (hU i1 0) w fun i2 w =>
 dQ pg (hU i1 1) w fun i3 w =>
 dQ pg (fD .neq 26 (.tmp 54) (.const (MC 0)) i3 (MC 0)) w fun i5 w =>
 lC i5
  (dQ pg (hX 80 []) w fun i6 w =>
  dQ pg (fZ 80 b9 i6) w fun _u w =>
  D9 pg 80 b9 w fun r1 => R (.tuple #[(.slice none 0 0), r1, (.bool false), i3]) w)
  (dQ pg (fF 90 tI 1) w fun i8 w =>
  dQ pg (fM 3 i8) w fun i9 w =>
  dQ pg (fD .eql 3 (.tmp 59) (.const (MC 0)) i9 (MC 0)) w fun l5 w =>
  lC l5
   (dQ pg (nR .append #[22, 22] 22 [nT, i2]) w fun l8 w =>
   kn kN l8 Er b9 tI w)
   (dQ pg (fD .eql 3 (.tmp 59) (.const (MC 1)) i9 (MC 1)) w fun m0 w =>
   lC m0
    (dQ pg (fF 90 tI 2) w fun m3 w =>
    dQ pg (fM 3 m3) w fun m4 w =>
    fI pg kX #[i2, m4] w fun m5 w =>
    dQ pg (nR .append #[22, 22] 22 [nT, m5]) w fun m6 w =>
    kn kN m6 Er b9 tI w)
    (dQ pg (fM 80 Er) w fun j3 w =>
    fI pg Df #[i2, nT, j3, lT, uK] w fun j6 w =>
    dQ pg (hU j6 0) w fun j7 w =>
    dQ pg (hU j6 1) w fun j8 w =>
    dQ pg (hU j6 2) w fun j9 w =>
    dQ pg (fZ 80 Er j8) w fun _u w =>
    dQ pg (fD .neq 26 (.tmp 70) (.const (MC 0)) j9 (MC 0)) w fun l1 w =>
    lC l1
     (dQ pg (hX 80 []) w fun l2 w =>
     dQ pg (fZ 80 b9 l2) w fun _u w =>
     D9 pg 80 b9 w fun r1 => R (.tuple #[(.slice none 0 0), r1, (.bool false), j9]) w)
     (kn kN j7 Er b9 tI w))))
theorem wN (kn : K5) (R : K1) (hn : N5 Q kn 0 1 6 9 15) (hr : HR jF R Q) (h : mW kn R (g 0) (g 1) (g 3) (g 6) (g 9) (g 12) (g 15) (g 16) w) : gK pg iU (fO 2 (fC 9 iS)) Q g w :=
 lX (l := []) h hn hr trivial
def jE (R : K1) (kN nT lT Er b9 uK tI Gg : MB) (w : MA) : Prop :=
 mW (fun kN nT Er b9 tI w => iK R kN nT Er b9 tI w) R kN nT lT Er b9 uK tI Gg w
def mP (kn : K8) (R : K1) (kN nT KJ lT : MB) (w : MA) : Prop :=
 dQ pg (Gq 80 KJ) w fun Er w =>
 dQ pg (oS 80) w fun b9 w =>
 dQ pg (nR .min #[40, 40] 40 [lT, (.int .u64 131072)]) w fun c8 w =>
 dQ pg (jV 40 3 c8) w fun c9 w =>
 fI pg iT #[kN, (MC 3)] w fun d2 w =>
 dQ pg (hU d2 0) w fun d3 w =>
 dQ pg (hU d2 1) w fun d4 w =>
 dQ pg (fD .neq 26 (.tmp 25) (.const (MC 0)) d4 (MC 0)) w fun d6 w =>
 lC d6
  (dQ pg (hX 80 []) w fun d7 w =>
  dQ pg (fZ 80 b9 d7) w fun _u w =>
  D9 pg 80 b9 w fun r1 => R (.tuple #[(.slice none 0 0), r1, (.bool false), d4]) w)
  (fI pg nM #[d3] w fun e1 w =>
  dQ pg (hU e1 0) w fun e2 w =>
  dQ pg (hU e1 1) w fun e3 w =>
  dQ pg (oS 90) w fun tI w =>
  dQ pg (fZ 90 tI e2) w fun _u w =>
  dQ pg (fD .neq 26 (.tmp 34) (.const (MC 0)) e3 (MC 0)) w fun e5 w =>
  lC e5
   (dQ pg (hX 80 []) w fun e6 w =>
   dQ pg (fZ 80 b9 e6) w fun _u w =>
   D9 pg 80 b9 w fun r1 => R (.tuple #[(.slice none 0 0), r1, (.bool false), e3]) w)
   (dQ pg (fF 90 tI 2) w fun e8 w =>
   dQ pg (fM 3 e8) w fun e9 w =>
   dQ pg (fD .gtr 3 fK fK e9 c9) w fun f1 w =>
   lC f1
    (dQ pg (hX 80 []) w fun f2 w =>
    dQ pg (fZ 80 b9 f2) w fun _u w =>
    D9 pg 80 b9 w fun r1 => R (.tuple #[(.slice none 0 0), r1, (.bool false), (MC 12)]) w)
    (dQ pg (fF 90 tI 2) w fun f3 w =>
    dQ pg (fM 3 f3) w fun f4 w =>
    dQ pg (fF 90 tI 1) w fun f5 w =>
    dQ pg (fM 3 f5) w fun f6 w =>
    dQ pg (fD .eql 3 (.tmp 46) (.const (MC 1)) f6 (MC 1)) w fun f7 w =>
    lC f7
     (kn kN nT lT Er b9 c9 tI (MC 1) w)
     (kn kN nT lT Er b9 c9 tI f4 w))))
theorem xG (kn : K8) (R : K1) (hn : N8 Q kn 0 1 3 6 9 12 15 16) (hr : HR jF R Q) (h : mP kn R (g 0) (g 1) (g 2) (g 3) w) : gK pg iU (fO 9 iS) Q g w :=
 lX (l := []) h hn hr trivial
def mX (R : K1) (kN nT KJ lT : MB) (w : MA) : Prop :=
 mP (fun kN nT lT Er b9 uK tI Gg w => jE R kN nT lT Er b9 uK tI Gg w) R kN nT KJ lT w
theorem xW (R : K1) (hr : HR jF R Q) (h : mX R (g 0) (g 1) (g 2) (g 3) w) : gK pg iU iS Q g w :=
 uM 9 (xG _ g w (jE R) R (fun g w h => fR (uM 2 (wN _ g w (iK R) R (fun g w h => fR (wW _ g w R hr h)) hr h))) hr h)
def uH (a0 a1 a2 a3 : MB) (w : MA) (R : K1) : Prop :=
 mX R a0 a1 a2 a3 w
theorem yF {a0 a1 a2 a3 : MB} {w : MA} {R : K1} (h : uH a0 a1 a2 a3 w R) : fI pg kZ #[a0, a1, a2, a3] w R := by
 refine Bk (ann := iU) Tryd.f30 iS [a0, a1, a2, a3] jF 105 TrydM.mixed Tryd.func30 ?_
 exact (xW _ _ _ R (fun _ _ h => h) h)
def qI : FA := ⟨jH, fun i => .leaf ([], []) []⟩
def qQ : List ResultVar := [.tmp 4]
noncomputable def pD : Code := iL Tryd.f31
def mA (R : K1) (kN nT : MB) (w : MA) : Prop :=
 fI pg iT #[kN, (MC 4)] w fun c0 w =>
 dQ pg (hU c0 0) w fun c1 w =>
 dQ pg (hU c0 1) w fun c2 w =>
 dQ pg (fD .neq 26 (.tmp 13) (.const (MC 0)) c2 (MC 0)) w fun c4 w =>
 lC c4
  (R c2 w)
  (fI pg iF #[c1] w fun c7 w =>
  fI pg fP #[c7, (MC 4)] w fun c8 w =>
  fI pg AI #[nT] w fun d1 w =>
  dQ pg (fD .and 40 fK fK d1 (.int .u64 4294967295)) w fun d2 w =>
  dQ pg (fD .neq 40 (.tmp 19) (.tmp 22) c8 d2) w fun d3 w =>
  lC d3
   (R (MC 13) w)
   (R (MC 0) w))
theorem vI (R : K1) (hr : HR qQ R Q) (h : mA R (g 0) (g 1) w) : gK pg qI pD Q g w :=
 lX (kn := no) (l := []) h pA hr trivial
def tQ (a0 a1 : MB) (w : MA) (R : K1) : Prop :=
 mA R a0 a1 w
theorem wC {a0 a1 : MB} {w : MA} {R : K1} (h : tQ a0 a1 w R) : fI pg jH #[a0, a1] w R := by
 refine Bk (ann := qI) Tryd.f31 pD [a0, a1] qQ 24 TrydM.mixed Tryd.func31 ?_
 exact (vI _ _ _ R (fun _ _ h => h) h)
def yM : FA := ⟨qT, fun i => .leaf ([], []) []⟩
def zT : List ResultVar := [.tmp 2]
noncomputable def vU : Code := iL Tryd.f33
def tM (R : K1) (KX : MB) (w : MA) : Prop :=
 dQ pg (fD .shr 40 fK fK KX (.int .u64 3)) w fun b5 w =>
 dQ pg (fD .add 40 fK fK (.int .u64 10) b5) w fun b6 w =>
 dQ pg (fD .shl 40 fK fK (.int .u64 1) b6) w fun b7 w =>
 dQ pg (fD .quo 40 fK fK b7 (.int .u64 8)) w fun c0 w =>
 dQ pg (fD .and 40 fK fK KX (.int .u64 7)) w fun c2 w =>
 dQ pg (fD .mul 40 fK fK c0 c2) w fun c3 w =>
 dQ pg (fD .add 40 fK fK b7 c3) w fun c4 w =>
 R c4 w
theorem Bw (R : K1) (hr : HR zT R Q) (h : tM R (g 0) w) : gK pg yM vU Q g w :=
 lX (kn := no) (l := []) h pA hr trivial
def BV (a0 : MB) (w : MA) (R : K1) : Prop :=
 tM R a0 w
theorem B7 {a0 : MB} {w : MA} {R : K1} (h : BV a0 w R) : fI pg qT #[a0] w R := by
 refine Bk (ann := yM) Tryd.f33 vU [a0] zT 15 TrydM.mixed Tryd.func33 ?_
 exact (Bw _ _ _ R (fun _ _ h => h) h)
def rD : FA := ⟨iT, fun i => .leaf ([], []) []⟩
def rM : List ResultVar := [.tmp 4, .tmp 5]
noncomputable def qG : Code := iL Tryd.f34
def nB (R : K1) (kN C0 : MB) (w : MA) : Prop :=
 dQ pg (iX kN) w fun b8 w =>
 dQ pg (fF 47 b8 0) w fun b9 w =>
 dQ pg (fM 45 b9) w fun c0 w =>
 fI pg hP #[c0] w fun c1 w =>
 dQ pg (fD .gtr 3 fK fK C0 c1) w fun c2 w =>
 lC c2
  (R (.tuple #[(.slice none 0 0), (MC 10)]) w)
  (dQ pg (iX kN) w fun c4 w =>
  dQ pg (fF 47 c4 0) w fun c5 w =>
  dQ pg (fM 45 c5) w fun c6 w =>
  fI pg iJ #[c6, C0] w fun c8 w =>
  R (.tuple #[c8, (MC 0)]) w)
theorem xV (R : K1) (hr : HR rM R Q) (h : nB R (g 0) (g 1) w) : gK pg rD qG Q g w :=
 lX (kn := no) (l := []) h pA hr trivial
def vA (a0 a1 : MB) (w : MA) (R : K1) : Prop :=
 nB R a0 a1 w
theorem yD {a0 a1 : MB} {w : MA} {R : K1} (h : vA a0 a1 w R) : fI pg iT #[a0, a1] w R := by
 refine Bk (ann := rD) Tryd.f34 qG [a0, a1] rM 19 TrydM.mixed Tryd.func34 ?_
 exact (xV _ _ _ R (fun _ _ h => h) h)
def tS : FA := ⟨nM, fun i => .leaf ([], []) []⟩
def uY : List ResultVar := [.cell 2 90, .tmp 3]
noncomputable def tG : Code := iL Tryd.f35
def qB (R : K1) (lA : MB) (w : MA) : Prop :=
 dQ pg (oS 90) w fun b2 w =>
 fI pg iF #[lA] w fun b7 w =>
 fI pg fP #[b7, (MC 3)] w fun b9 w =>
 dQ pg (jV 40 3 b9) w fun c0 w =>
 fI pg fX #[b7] w fun c3 w =>
 dQ pg (fD .neq 26 (.tmp 13) (.const (MC 0)) c3 (MC 0)) w fun c4 w =>
 lC c4
  (dQ pg (hX 90 []) w fun c5 w =>
  fI pg fX #[b7] w fun c7 w =>
  dQ pg (fZ 90 b2 c5) w fun _u w =>
  D9 pg 90 b2 w fun r0 => R (.tuple #[r0, c7]) w)
  (dQ pg (fD .shr 3 fK fK c0 (.int .u64 1)) w fun d0 w =>
  dQ pg (fD .and 3 fK fK d0 (MC 3)) w fun d1 w =>
  dQ pg (fD .gtr 3 fK fK d1 (MC 2)) w fun d2 w =>
  lC d2
   (dQ pg (hX 90 []) w fun d3 w =>
   dQ pg (fZ 90 b2 d3) w fun _u w =>
   D9 pg 90 b2 w fun r0 => R (.tuple #[r0, (MC 11)]) w)
   (dQ pg (fD .and 3 fK fK c0 (MC 1)) w fun d5 w =>
   dQ pg (fD .eql 3 (.tmp 25) (.const (MC 1)) d5 (MC 1)) w fun d6 w =>
   dQ pg (fD .shr 3 fK fK c0 (.int .u64 1)) w fun d8 w =>
   dQ pg (fD .and 3 fK fK d8 (MC 3)) w fun d9 w =>
   dQ pg (fD .shr 3 fK fK c0 (.int .u64 3)) w fun e1 w =>
   dQ pg (hX 90 [(0, d6), (1, d9), (2, e1)]) w fun e2 w =>
   dQ pg (fZ 90 b2 e2) w fun _u w =>
   D9 pg 90 b2 w fun r0 => R (.tuple #[r0, (MC 0)]) w))
theorem Am (R : K1) (hr : HR uY R Q) (h : qB R (g 0) w) : gK pg tS tG Q g w :=
 lX (kn := no) (l := []) h pA hr trivial
def Ac (a0 : MB) (w : MA) (R : K1) : Prop :=
 qB R a0 w
theorem AD {a0 : MB} {w : MA} {R : K1} (h : Ac a0 w R) : fI pg nM #[a0] w R := by
 refine Bk (ann := tS) Tryd.f35 tG [a0] uY 33 TrydM.mixed Tryd.func35 ?_
 exact (Am _ _ _ R (fun _ _ h => h) h)
def gF : FA := ⟨kX, fun i => match Nat.beq i 9 with | true => .leaf ([7], []) [(false, []), (false, []), (false, []), (false, []), (false, []), (false, []), (false, []), (true, []), (false, []), (false, [])] | false => .leaf ([], []) []⟩
def mT : List ResultVar := [.tmp 4]
noncomputable def gB : Code := iL Tryd.f36
def kI (R : K1) (gW : MB) (w : MA) : Prop :=
 R gW w
theorem wE (R : K1) (hr : HR mT R Q) (h : kI R (g 7) w) : gK pg gF (fC 1 (fC 2 (fC 2 (fC 2 gB)))) Q g w :=
 lX (kn := no) (l := []) h pA hr trivial
def kJ (kn : K2) (k0 : K1) (gW Eg : MB) (w : MA) : Prop :=
 dQ pg (nR .len #[22] 3 [gW]) w fun e6 w =>
 dQ pg (fD .lss 3 fK fK Eg e6) w fun e7 w =>
 lC e7
  ((dr w) = (dr w) /\
  (dr w) = (dr w) /\
  (dr w) = (dr w) /\
  dQ pg (hJ 22 gW (some Eg) none none) (dr w) fun f1 w_ => w_ = (dr w) /\
  (dr w) = (dr w) /\
  (dr w) = (dr w) /\
  dQ pg (hJ 22 gW none (some Eg) none) (dr w) fun f4 w_ => w_ = (dr w) /\
  dQ pg (nR .copy #[22, 22] 3 [f1, f4]) (dr w) fun f5 Ik =>
  dQ pg (fD .add 3 fK fK Eg f5) Ik fun f6 w_ => w_ = Ik /\
  Ik = Ik /\
  kn gW f6 Ik)
  (k0 gW w)
theorem wM (kn : K2) (k0 : K1) (hn : N2 Q kn 7 8) (h0 : E1 Q k0 0 7) (h : kJ kn k0 (g 7) (g 8) w) : gK pg gF (bI (bI (fO 1 (fC 2 (fC 2 (fC 2 gB)))))) Q g w :=
 lX (kr := no) (l := [(0, fun g w => k0 (g 7) w)]) h hn pA ⟨h0, trivial⟩
def nI (k0 : K1) (gW Eg : MB) (w : MA) : Prop :=
 iW (fun (X : MB -> K0) (t : MB) (w : MA) => kJ (fun _ Eg w => X Eg w) k0 gW t w) Eg w
theorem wX (k0 : K1) (h0 : E1 Q k0 0 7) (h : nI k0 (g 7) (g 8) w) : gK pg gF (bI (fO 1 (fC 2 (fC 2 (fC 2 gB))))) Q g w := by
 refine Ho (fun g : Env => g 8) (fun X t w => kJ (fun _ Eg w => X Eg w) k0 (g 7) t w) h (fun X g1 w1 ha hL => ?_)
 rw [<- B1 7 ha] at hL
 exact (wM _ g1 w1 (fun _ Eg w => X Eg w) k0 (fun _ _ h => h) h0 hL)
def nF (kn : K1) (gW Eg : MB) (w : MA) : Prop :=
 nI kn gW Eg w
def kL (R : K1) (gW Eg : MB) (w : MA) : Prop :=
 nF (fun gW w => kI R gW w) gW Eg w
theorem xA (kn : K1) (hn : N1 Q kn 7) (h : nF kn (g 7) (g 8) w) : gK pg gF (fO 1 (fC 2 (fC 2 (fC 2 gB)))) Q g w :=
 GB 0 (wX _ g w kn hn h)
def nA (kn : K2) (Bq GC : MB) (w : MA) : Prop :=
 dQ pg (jV 35 3 GC) w fun d9 w =>
 dQ pg (AP 22 d9 d9) w fun e0 w =>
 dQ pg (nR .copy #[22, 22] 3 [e0, Bq]) w fun e3 w =>
 kn e0 e3 w
theorem wQ (kn : K2) (hn : N2 Q kn 7 8) (h : nA kn (g 0) (g 6) w) : gK pg gF (fO 2 (fC 2 (fC 2 gB))) Q g w :=
 lX (kr := no) (l := []) h hn pA trivial
def mO (R : K1) (Bq GC : MB) (w : MA) : Prop :=
 nA (fun gW Eg w => kL R gW Eg w) Bq GC w
def nG (kn : K2) (Bq oM : MB) (w : MA) : Prop :=
 dQ pg (nR .len #[22] 3 [Bq]) w fun c4 w =>
 dQ pg (jV 3 35 c4) w fun c5 w =>
 dQ pg (jV 3 35 oM) w fun c7 w =>
 fI pg pO #[c5, c7] w fun c8 w =>
 dQ pg (hU c8 0) w fun c9 w =>
 dQ pg (hU c8 1) w fun d0 w =>
 dQ pg (fD .gtr 35 fK fK c9 (.int .u64 0)) w fun d2 w =>
 Gd (jU d2 false) (fun K => K d0 w) w fun d4 w =>
 Gd (jU d2 false) (fun K => dQ pg (fD .gtr 35 fK fK d4 (.int .u64 9223372036854775807)) w K) w fun d5 w =>
 dQ pg (lN d2 (.bool true) d5) w fun d6 w =>
 lC d6
  (dQ pg (H7 9 (.string ⟨#[116, 104, 101, 32, 114, 101, 115, 117, 108, 116, 32, 111, 102, 32, 40, 108, 101, 110, 40, 120, 41, 32, 42, 32, 99, 111, 117, 110, 116, 41, 32, 111, 118, 101, 114, 102, 108, 111, 119, 115]⟩)) w fun d7 w =>
  dQ pg (V (Instr.panic d7)) w fun _u w =>
  kn Bq d0 w)
  (kn Bq d0 w)
theorem xX (kn : K2) (hn : N2 Q kn 0 6) (h : nG kn (g 0) (g 1) w) : gK pg gF (fO 2 (fC 2 gB)) Q g w :=
 lX (kr := no) (l := []) h hn pA trivial
def nD (R : K1) (Bq oM : MB) (w : MA) : Prop :=
 nG (fun Bq GC w => mO R Bq GC w) Bq oM w
def mJ (kn : K2) (Bq oM : MB) (w : MA) : Prop :=
 dQ pg (fD .lss 3 fK fK oM (MC 0)) w fun c0 w =>
 lC c0
  (dQ pg (H7 9 (.string ⟨#[99, 97, 110, 110, 111, 116, 32, 98, 101, 32, 110, 101, 103, 97, 116, 105, 118, 101]⟩)) w fun c1 w =>
  dQ pg (V (Instr.panic c1)) w fun _u w =>
  kn Bq oM w)
  (kn Bq oM w)
theorem vK (kn : K2) (hn : N2 Q kn 0 1) (h : mJ kn (g 0) (g 1) w) : gK pg gF (fO 2 gB) Q g w :=
 lX (kr := no) (l := []) h hn pA trivial
def mH (R : K1) (Bq oM : MB) (w : MA) : Prop :=
 mJ (fun Bq oM w => nD R Bq oM w) Bq oM w
theorem vH (R : K1) (hr : HR mT R Q) (h : mH R (g 0) (g 1) w) : gK pg gF gB Q g w :=
 uM 2 (vK _ g w (nD R) (fun g w h => fR (uM 2 (xX _ g w (mO R) (fun g w h => fR (uM 2 (wQ _ g w (kL R) (fun g w h => fR (uM 1 (xA _ g w (kI R) (fun g w h => fR (wE _ g w R hr h)) h))) h))) h))) h)
def uD (a0 a1 : MB) (w : MA) (R : K1) : Prop :=
 mH R a0 a1 w
theorem yS {a0 a1 : MB} {w : MA} {R : K1} (h : uD a0 a1 w R) : fI pg kX #[a0, a1] w R := by
 refine Bk (ann := gF) Tryd.f36 gB [a0, a1] mT 48 TrydM.mixed Tryd.func36 ?_
 exact (vH _ _ _ R (fun _ _ h => h) h)
def DC : FA := ⟨AI, fun i => .leaf ([], []) []⟩
def Eh : List ResultVar := [.tmp 2]
noncomputable def CZ : Code := iL Tryd.f38
def CP (R : K1) (lA : MB) (w : MA) : Prop :=
 fI pg A3 #[] w fun b4 w =>
 fI pg oL #[b4, lA] w fun b7 w =>
 fI pg rC #[b4] w fun b9 w =>
 R b9 w
theorem EK (R : K1) (hr : HR Eh R Q) (h : CP R (g 0) w) : gK pg DC CZ Q g w :=
 lX (kn := no) (l := []) h pA hr trivial
def HV (a0 : MB) (w : MA) (R : K1) : Prop :=
 CP R a0 w
theorem EZ {a0 : MB} {w : MA} {R : K1} (h : HV a0 w R) : fI pg AI #[a0] w R := by
 refine Bk (ann := DC) Tryd.f38 CZ [a0] Eh 10 TrydM.mixed Tryd.func38 ?_
 exact (EK _ _ _ R (fun _ _ h => h) h)
def vR : FA := ⟨pO, fun i => .leaf ([], []) []⟩
def yW : List ResultVar := [.tmp 4, .tmp 5]
noncomputable def uN : Code := iL Tryd.f39
def rW (R : K1) (Bq J6 : MB) (w : MA) : Prop :=
 lC (.bool false)
  (dQ pg (jV 35 70 Bq) w fun c2 w =>
  dQ pg (jV 35 70 J6) w fun c4 w =>
  fI pg Ci #[c2, c4] w fun c5 w =>
  dQ pg (hU c5 0) w fun c6 w =>
  dQ pg (hU c5 1) w fun c7 w =>
  dQ pg (jV 70 35 c6) w fun c9 w =>
  dQ pg (jV 70 35 c7) w fun d1 w =>
  R (.tuple #[c9, d1]) w)
  (fI pg nO #[Bq, J6] w fun d5 w =>
  dQ pg (hU d5 0) w fun d6 w =>
  dQ pg (hU d5 1) w fun d7 w =>
  R (.tuple #[d6, d7]) w)
theorem A4 (R : K1) (hr : HR yW R Q) (h : rW R (g 0) (g 1) w) : gK pg vR uN Q g w :=
 lX (kn := no) (l := []) h pA hr trivial
def Bl (a0 a1 : MB) (w : MA) (R : K1) : Prop :=
 rW R a0 a1 w
theorem BB {a0 a1 : MB} {w : MA} {R : K1} (h : Bl a0 a1 w R) : fI pg pO #[a0, a1] w R := by
 refine Bk (ann := vR) Tryd.f39 uN [a0, a1] yW 30 TrydM.mixed Tryd.func39 ?_
 exact (A4 _ _ _ R (fun _ _ h => h) h)
def C7 : FA := ⟨A3, fun i => .leaf ([], []) []⟩
def DD : List ResultVar := [.tmp 0]
noncomputable def B3 : Code := iL Tryd.f43
def BF (R : K1)  (w : MA) : Prop :=
 dQ pg (fD .add 40 fK fK (.int .u64 11400714785074694791) (.int .u64 14029467366897019727)) w fun b3 w =>
 dQ pg (H5 .neg (.int .u64 11400714785074694791)) w fun b5 w =>
 dQ pg (hX 49 [(0, b3), (1, (.int .u64 14029467366897019727)), (2, (.int .u64 0)), (3, b5)]) w fun b6 w =>
 dQ pg (hX 138 [(0, b6)]) w fun b7 w =>
 dQ pg (Gq 138 b7) w fun b8 w =>
 R b8 w
theorem D2 (R : K1) (hr : HR DD R Q) (h : BF R w) : gK pg C7 B3 Q g w :=
 lX (kn := no) (l := []) h pA hr trivial
def GP (w : MA) (R : K1) : Prop :=
 BF R w
theorem ET {w : MA} {R : K1} (h : GP w R) : fI pg A3 #[] w R := by
 refine Bk (ann := C7) Tryd.f43 B3 [] DD 9 TrydM.mixed Tryd.func43 ?_
 exact (D2 _ _ _ R (fun _ _ h => h) h)
def fW : FA := ⟨oL, fun i => match Nat.beq i 3 with | true => .leaf ([9], []) [(false, []), (false, []), (false, []), (false, []), (false, []), (false, []), (false, []), (false, []), (false, []), (true, []), (false, [])] | false => match Nat.beq i 10 with | true => .leaf ([17, 18, 22], [(4, 17), (5, 17), (6, 17), (7, 17), (17, 19), (17, 20), (18, 19), (18, 20)]) [(false, []), (false, []), (false, []), (false, []), (false, []), (false, []), (false, []), (false, []), (false, []), (false, []), (false, []), (false, []), (false, []), (false, []), (false, []), (false, []), (false, []), (true, [9, 10, 11, 12]), (true, []), (false, [0, 1]), (false, [1, 2]), (false, []), (true, [])] | false => .leaf ([], []) []⟩
def rG : List ResultVar := []
noncomputable def fS : Code := iL Tryd.f44
def jQ (kn : K2) (iY oZ : MB) (w : MA) : Prop :=
 dQ pg (iX iY) w fun l4 w =>
 dQ pg (fF 138 l4 2) w fun l5 w =>
 dQ pg (fZ 3 l5 (MC 0)) w fun _u w =>
 kn iY oZ w
theorem AK (kn : K2) (hn : N2 Q kn 0 1) (h : jQ kn (g 0) (g 1) w) : gK pg fW (fC 1 (cT (fC 4 (bI (fC 1 (bI (bI (fC 2 fS)))))))) Q g w :=
 lX (kr := no) (l := []) h hn pA trivial
def kT (kn : K3) (k2 : K2) (iY oZ f7 : MB) (w : MA) : Prop :=
 dQ pg (fD .lss 3 fK fK f7 (MC 4)) w fun f8 w =>
 lC f8
  ((dr w) = (dr w) /\
  (dr w) = (dr w) /\
  (dr w) = (dr w) /\
  (dr w) = (dr w) /\
  dQ pg (iX iY) (dr w) fun i4 w_ => w_ = (dr w) /\
  dQ pg (fF 138 i4 0) (dr w) fun i5 w_ => w_ = (dr w) /\
  dQ pg (kP 49 i5 f7) (dr w) fun i6 w_ => w_ = (dr w) /\
  dQ pg (fM 40 i6) (dr w) fun i7 w_ => w_ = (dr w) /\
  (dr w) = (dr w) /\
  dQ pg (iX iY) (dr w) fun i9 w_ => w_ = (dr w) /\
  dQ pg (fF 138 i9 1) (dr w) fun j0 w_ => w_ = (dr w) /\
  (dr w) = (dr w) /\
  dQ pg (fD .mul 3 fK fK (MC 8) f7) (dr w) fun j2 w_ => w_ = (dr w) /\
  (dr w) = (dr w) /\
  dQ pg (fD .mul 3 fK fK (MC 8) f7) (dr w) fun j4 w_ => w_ = (dr w) /\
  dQ pg (fD .add 3 fK fK j4 (MC 8)) (dr w) fun j5 w_ => w_ = (dr w) /\
  dQ pg (hJ 136 j0 (some j2) (some j5) none) (dr w) fun j6 w_ => w_ = (dr w) /\
  fI pg oI #[j6] (dr w) fun j7 BQ =>
  (fE pg (fM 40 i6) i7 BQ /\ fE pg (kP 49 i5 f7) i6 BQ /\ fE pg (fF 138 i4 0) i5 BQ /\ fE pg (iX iY) i4 BQ /\ True) /\
  fI pg qL #[i7, j7] BQ fun j8 BO =>
  dQ pg (iX iY) BO fun j9 w_ => w_ = BO /\
  (fE pg (iX iY) j9 BQ /\ fE pg (iX iY) j9 (dr w) /\ True) /\
  dQ pg (fF 138 j9 0) BO fun l0 w_ => w_ = BO /\
  (fE pg (fF 138 j9 0) l0 BQ /\ fE pg (fF 138 j9 0) l0 (dr w) /\ True) /\
  dQ pg (kP 49 l0 f7) BO fun l1 w_ => w_ = BO /\
  dQ pg (fZ 40 l1 j8) BO fun _u22 JU =>
  dQ pg (fD .add 3 fK fK f7 (MC 1)) JU fun l2 w =>
  kn iY oZ l2 w)
  (k2 iY oZ w)
theorem AX (kn : K3) (k2 : K2) (hn : N3 Q kn 0 1 47) (h2 : E2 Q k2 2 0 1) (h : kT kn k2 (g 0) (g 1) (g 47) w) : gK pg fW (bI (bI (fC 1 (fO 1 (cT (fC 4 (bI (fC 1 (bI (bI (fC 2 fS))))))))))) Q g w :=
 lX (kr := no) (l := [(2, fun g w => k2 (g 0) (g 1) w)]) h hn pA ⟨h2, trivial⟩
def qO (k2 : K2) (iY oZ f7 : MB) (w : MA) : Prop :=
 iW (fun (X : MB -> K0) (t : MB) (w : MA) => kT (fun _ _ f7 w => X f7 w) k2 iY oZ t w) f7 w
theorem Aw (k2 : K2) (h2 : E2 Q k2 2 0 1) (h : qO k2 (g 0) (g 1) (g 47) w) : gK pg fW (bI (fC 1 (fO 1 (cT (fC 4 (bI (fC 1 (bI (bI (fC 2 fS)))))))))) Q g w := by
 refine Ho (fun g : Env => g 47) (fun X t w => kT (fun _ _ f7 w => X f7 w) k2 (g 0) (g 1) t w) h (fun X g1 w1 ha hL => ?_)
 rw [<- B1 0 ha, <- B1 1 ha] at hL
 exact (AX _ g1 w1 (fun _ _ f7 w => X f7 w) k2 (fun _ _ h => h) h2 hL)
def rH (kn : K2) (iY oZ f7 : MB) (w : MA) : Prop :=
 qO kn iY oZ f7 w
def qW (kn : K3) (iY oZ : MB) (w : MA) : Prop :=
 kn iY oZ (MC 0) w
theorem AA (kn : K3) (hn : N3 Q kn 0 1 47) (h : qW kn (g 0) (g 1) w) : gK pg fW (fO 1 (fO 1 (cT (fC 4 (bI (fC 1 (bI (bI (fC 2 fS))))))))) Q g w :=
 lX (kr := no) (l := []) h hn pA trivial
def nK (kn : K2) (iY oZ : MB) (w : MA) : Prop :=
 qW (fun iY oZ f7 w => rH kn iY oZ f7 w) iY oZ w
def nN (kn : K2) (iY oZ : MB) (w : MA) : Prop :=
 nK (fun iY oZ w => jQ kn iY oZ w) iY oZ w
theorem AF (kn : K2) (hn : N2 Q kn 0 1) (h : nK kn (g 0) (g 1) w) : gK pg fW (fO 1 (cT (fC 4 (bI (fC 1 (bI (bI (fC 2 fS)))))))) Q g w :=
 uM 1 (AA _ g w (rH kn) (fun g w h => fR (GB 2 (Aw _ g w kn hn h))) h)
def kY (kn : K2) (iY oZ : MB) (w : MA) : Prop :=
 kn iY oZ w
theorem AN (kn : K2) (hn : N2 Q kn 0 1) (h : kY kn (g 0) (g 1) w) : gK pg fW (cE (fC 4 (bI (fC 1 (bI (bI (fC 2 fS))))))) Q g w :=
 lX (kr := no) (l := []) h hn pA trivial
def kV (kn : K2) (iY oZ f6 : MB) (w : MA) : Prop :=
 lC f6 (nN kn iY oZ w) (kY kn iY oZ w)
def kA (kn : K3) (iY oZ : MB) (w : MA) : Prop :=
 (dr w) = (dr w) /\
 dQ pg (iX iY) (dr w) fun d2 w_ => w_ = (dr w) /\
 dQ pg (fF 138 d2 1) (dr w) fun d3 w_ => w_ = (dr w) /\
 (dr w) = (dr w) /\
 dQ pg (iX iY) (dr w) fun d5 w_ => w_ = (dr w) /\
 dQ pg (fF 138 d5 2) (dr w) fun d6 w_ => w_ = (dr w) /\
 dQ pg (fM 3 d6) (dr w) fun d7 w_ => w_ = (dr w) /\
 dQ pg (hJ 136 d3 (some d7) none none) (dr w) fun d8 w_ => w_ = (dr w) /\
 (dr w) = (dr w) /\
 dQ pg (nR .copy #[22, 22] 3 [d8, oZ]) (dr w) fun e0 JK =>
 JK = JK /\
 dQ pg (iX iY) JK fun e2 w =>
 dQ pg (fF 138 e2 2) w fun e3 w =>
 dQ pg (fM 3 e3) w fun e4 w =>
 dQ pg (fD .add 3 fK fK e4 e0) w fun e6 w =>
 dQ pg (iX iY) w fun e7 w =>
 dQ pg (fF 138 e7 2) w fun e8 w =>
 dQ pg (fZ 3 e8 e6) w fun _u w =>
 dQ pg (hJ 22 oZ (some e0) none none) w fun f1 w =>
 dQ pg (iX iY) w fun f3 w =>
 dQ pg (fF 138 f3 2) w fun f4 w =>
 dQ pg (fM 3 f4) w fun f5 w =>
 dQ pg (fD .eql 3 (.tmp 45) (.const (MC 32)) f5 (MC 32)) w fun f6 w =>
 kn iY f1 f6 w
theorem Ad (kn : K3) (hn : N3 Q kn 0 1 46) (h : kA kn (g 0) (g 1) w) : gK pg fW (fO 4 (bI (fC 1 (bI (bI (fC 2 fS)))))) Q g w :=
 lX (kr := no) (l := []) h hn pA trivial
def mI (kn : K2) (iY oZ : MB) (w : MA) : Prop :=
 kA (fun iY oZ f6 w => kV kn iY oZ f6 w) iY oZ w
def kD (kn : K2) (iY oZ : MB) (w : MA) : Prop :=
 mI kn iY oZ w
def kE (kn : K2) (k0 : K0) (iY oZ : MB) (w : MA) : Prop :=
 dQ pg (nR .len #[22] 3 [oZ]) w fun c9 w =>
 dQ pg (fD .gtr 3 fK fK c9 (MC 0)) w fun d0 w =>
 lC d0
  (kn iY oZ w)
  (k0 w)
theorem Ag (kn : K2) (k0 : K0) (hn : N2 Q kn 0 1) (h0 : E0 Q k0 0) (h : kE kn k0 (g 0) (g 1) w) : gK pg fW (fO 1 (bI (bI (fC 2 fS)))) Q g w :=
 lX (kr := no) (l := [(0, fun g w => k0 w)]) h hn pA ⟨h0, trivial⟩
def jK (kn : K2) (k0 : K0) (iY oZ : MB) (w : MA) : Prop :=
 kE (fun iY oZ w => kD kn iY oZ w) k0 iY oZ w
def mB (k0 : K0) (iY oZ : MB) (w : MA) : Prop :=
 iW (fun (X : MB -> K0) (t : MB) (w : MA) => jK (fun _ oZ w => X oZ w) k0 iY t w) oZ w
theorem As (kn : K2) (k0 : K0) (hn : N2 Q kn 0 1) (h0 : E0 Q k0 0) (h : jK kn k0 (g 0) (g 1) w) : gK pg fW (bI (bI (fC 2 fS))) Q g w :=
 uM 1 (Ag _ g w (kD kn) k0 (fun g w h => fR (GB 1 (uM 4 (Ad _ g w (kV kn) (fun g w h => fR (Lb (.tmp 46) (fun h => (uM 1 (AF _ g w (jQ kn) (fun g w h => fR (AK _ g w kn hn h)) h))) (fun h => (AN _ g w kn hn h)) h)) h)))) h0 h)
theorem Ae (k0 : K0) (h0 : E0 Q k0 0) (h : mB k0 (g 0) (g 1) w) : gK pg fW (bI (fC 2 fS)) Q g w := by
 refine Ho (fun g : Env => g 1) (fun X t w => jK (fun _ oZ w => X oZ w) k0 (g 0) t w) h (fun X g1 w1 ha hL => ?_)
 rw [<- B1 0 ha] at hL
 exact (As _ g1 w1 (fun _ oZ w => X oZ w) k0 (fun _ _ h => h) h0 hL)
def pV (kn : K0) (iY oZ : MB) (w : MA) : Prop :=
 mB kn iY oZ w
def pU (kn : K2) (R : K1) (iY oZ : MB) (w : MA) : Prop :=
 dQ pg (fD .eql 106 (.tmp 6) (.const (.pointer none)) iY (.pointer none)) w fun b7 w =>
 lC b7
  (R (.tuple #[]) w)
  (dQ pg (iX iY) w fun b9 w =>
  dQ pg (fF 138 b9 3) w fun c0 w =>
  dQ pg (fM 40 c0) w fun c1 w =>
  dQ pg (nR .len #[22] 3 [oZ]) w fun c3 w =>
  dQ pg (jV 3 40 c3) w fun c4 w =>
  dQ pg (fD .add 40 fK fK c1 c4) w fun c5 w =>
  dQ pg (iX iY) w fun c6 w =>
  dQ pg (fF 138 c6 3) w fun c7 w =>
  dQ pg (fZ 40 c7 c5) w fun _u w =>
  kn iY oZ w)
theorem Ai (kn : K2) (R : K1) (hn : N2 Q kn 0 1) (hr : HR rG R Q) (h : pU kn R (g 0) (g 1) w) : gK pg fW (fO 2 fS) Q g w :=
 lX (l := []) h hn hr trivial
def qC (kn : K0) (R : K1) (iY oZ : MB) (w : MA) : Prop :=
 pU (fun iY oZ w => pV kn iY oZ w) R iY oZ w
theorem Aq (kn : K0) (R : K1) (hn : N0 Q kn) (hr : HR rG R Q) (h : qC kn R (g 0) (g 1) w) : gK pg fW fS Q g w :=
 uM 2 (Ai _ g w (pV kn) R (fun g w h => fR (GB 0 (Ae _ g w kn hn h))) hr h)
def AU (a0 a1 : MB) (w : MA) (R : K1) : Prop :=
 qC (fun  w => R (.tuple #[]) w) R a0 a1 w
theorem Be {a0 a1 : MB} {w : MA} {R : K1} (h : AU a0 a1 w R) : fI pg oL #[a0, a1] w R := by
 refine Bk (ann := fW) Tryd.f44 fS [a0, a1] rG 76 TrydM.mixed Tryd.func44 ?_
 exact (Aq _ _ _ (fun  w => R (.tuple #[]) w) R (fun _ _ h => h) (fun _ _ h => h) h)
def gV : FA := ⟨rC, fun i => match Nat.beq i 3 with | true => .leaf ([1], [(1, 3), (1, 4), (1, 5)]) [(false, []), (true, []), (false, []), (false, [1]), (false, [2]), (false, [3]), (false, []), (false, [])] | false => match Nat.beq i 4 with | true => .leaf ([], []) [(false, []), (false, []), (false, []), (false, []), (false, []), (false, []), (false, []), (false, []), (false, [])] | false => .leaf ([], []) []⟩
def pK : List ResultVar := [.tmp 2]
noncomputable def gJ : Code := iL Tryd.f45
def pR (R : K1) (hY : MB) (w : MA) : Prop :=
 dQ pg (fD .shr 40 fK fK hY (.int .u64 33)) w fun j9 w =>
 dQ pg (fD .xor 40 fK fK hY j9) w fun l0 w =>
 dQ pg (fD .mul 40 fK fK l0 (.int .u64 14029467366897019727)) w fun l1 w =>
 dQ pg (fD .shr 40 fK fK l1 (.int .u64 29)) w fun l4 w =>
 dQ pg (fD .xor 40 fK fK l1 l4) w fun l5 w =>
 dQ pg (fD .mul 40 fK fK l5 (.int .u64 1609587929392839161)) w fun l6 w =>
 dQ pg (fD .shr 40 fK fK l6 (.int .u64 32)) w fun l9 w =>
 dQ pg (fD .xor 40 fK fK l6 l9) w fun m0 w =>
 R m0 w
theorem BH (R : K1) (hr : HR pK R Q) (h : pR R (g 3) w) : gK pg gV (fC 1 (fC 1 (fC 1 (fC 4 gJ)))) Q g w :=
 lX (kn := no) (l := []) h pA hr trivial
def mM (kn : K4) (k2 : K1) (hY i3 i4 i5 : MB) (w : MA) : Prop :=
 dQ pg (fD .lss 3 fK fK i5 i4) w fun i6 w =>
 lC i6
  (dQ pg (kP 22 i3 i5) w fun i7 w =>
  dQ pg (fM 5 i7) w fun i8 w =>
  dQ pg (jV 5 40 i8) w fun j1 w =>
  dQ pg (fD .mul 40 fK fK j1 (.int .u64 2870177450012600261)) w fun j2 w =>
  dQ pg (fD .xor 40 fK fK hY j2) w fun j3 w =>
  fI pg gH #[j3, (MC 11)] w fun j4 w =>
  dQ pg (fD .mul 40 fK fK j4 (.int .u64 11400714785074694791)) w fun j5 w =>
  dQ pg (fD .add 3 fK fK i5 (MC 1)) w fun j6 w =>
  kn j5 i3 i4 j6 w)
  (k2 hY w)
theorem BG (kn : K4) (k2 : K1) (hn : N4 Q kn 3 53 54 55) (h2 : E1 Q k2 2 3) (h : mM kn k2 (g 3) (g 53) (g 54) (g 55) w) : gK pg gV (bI (bI (fC 1 (fO 1 (fC 1 (fC 1 (fC 4 gJ))))))) Q g w :=
 lX (kr := no) (l := [(2, fun g w => k2 (g 3) w)]) h hn pA ⟨h2, trivial⟩
def tO (k2 : K1) (hY i3 i4 i5 : MB) (w : MA) : Prop :=
 iW (fun (X : (MB × MB) -> K0) (t : MB × MB) (w : MA) => mM (fun hY _ _ i5 w => X (hY, i5) w) k2 t.1 i3 i4 t.2 w) (hY, i5) w
theorem BK (k2 : K1) (h2 : E1 Q k2 2 3) (h : tO k2 (g 3) (g 53) (g 54) (g 55) w) : gK pg gV (bI (fC 1 (fO 1 (fC 1 (fC 1 (fC 4 gJ)))))) Q g w := by
 refine Ho (fun g : Env => (g 3, g 55)) (fun X t w => mM (fun hY _ _ i5 w => X (hY, i5) w) k2 t.1 (g 53) (g 54) t.2 w) h (fun X g1 w1 ha hL => ?_)
 rw [<- B1 53 ha, <- B1 54 ha] at hL
 exact (BG _ g1 w1 (fun hY _ _ i5 w => X (hY, i5) w) k2 (fun _ _ h => h) h2 hL)
def tN (kn : K1) (hY i3 i4 i5 : MB) (w : MA) : Prop :=
 tO kn hY i3 i4 i5 w
def tP (kn : K4) (hY xY : MB) (w : MA) : Prop :=
 dQ pg (nR .len #[22] 3 [xY]) w fun i4 w =>
 kn hY xY i4 (MC 0) w
theorem Bz (kn : K4) (hn : N4 Q kn 3 53 54 55) (h : tP kn (g 3) (g 4) w) : gK pg gV (fO 1 (fO 1 (fC 1 (fC 1 (fC 4 gJ))))) Q g w :=
 lX (kr := no) (l := []) h hn pA trivial
def tL (kn : K1) (hY xY : MB) (w : MA) : Prop :=
 tP (fun hY i3 i4 i5 w => tN kn hY i3 i4 i5 w) hY xY w
def pP (R : K1) (hY xY : MB) (w : MA) : Prop :=
 tL (fun hY w => pR R hY w) hY xY w
theorem BI (kn : K1) (hn : N1 Q kn 3) (h : tL kn (g 3) (g 4) w) : gK pg gV (fO 1 (fC 1 (fC 1 (fC 4 gJ)))) Q g w :=
 uM 1 (Bz _ g w (tN kn) (fun g w h => fR (GB 2 (BK _ g w kn hn h))) h)
def pM (kn : K2) (hY xY : MB) (w : MA) : Prop :=
 dQ pg (nR .len #[22] 3 [xY]) w fun f0 w =>
 dQ pg (fD .geq 3 fK fK f0 (MC 4)) w fun f1 w =>
 lC f1
  (dQ pg (hJ 22 xY none (some (MC 4)) none) w fun f4 w =>
  fI pg oI #[f4] w fun f5 w =>
  dQ pg (fD .mul 40 fK fK f5 (.int .u64 11400714785074694791)) w fun f6 w =>
  dQ pg (fD .xor 40 fK fK hY f6) w fun f7 w =>
  fI pg gH #[f7, (MC 23)] w fun f8 w =>
  dQ pg (fD .mul 40 fK fK f8 (.int .u64 14029467366897019727)) w fun f9 w =>
  dQ pg (fD .add 40 fK fK f9 (.int .u64 1609587929392839161)) w fun i0 w =>
  dQ pg (hJ 22 xY (some (MC 4)) none none) w fun i2 w =>
  kn i0 i2 w)
  (kn hY xY w)
theorem BT (kn : K2) (hn : N2 Q kn 3 4) (h : pM kn (g 3) (g 4) w) : gK pg gV (fO 1 (fC 1 (fC 4 gJ))) Q g w :=
 lX (kr := no) (l := []) h hn pA trivial
def pL (R : K1) (hY xY : MB) (w : MA) : Prop :=
 pM (fun hY xY w => pP R hY xY w) hY xY w
def lR (kn : K2) (k0 : K2) (hY xY : MB) (w : MA) : Prop :=
 dQ pg (nR .len #[22] 3 [xY]) w fun d6 w =>
 dQ pg (fD .geq 3 fK fK d6 (MC 8)) w fun d7 w =>
 lC d7
  (dQ pg (hJ 22 xY none (some (MC 8)) none) w fun e0 w =>
  fI pg oI #[e0] w fun e1 w =>
  fI pg qL #[(.int .u64 0), e1] w fun e2 w =>
  dQ pg (fD .xor 40 fK fK hY e2) w fun e3 w =>
  fI pg gH #[e3, (MC 27)] w fun e4 w =>
  dQ pg (fD .mul 40 fK fK e4 (.int .u64 11400714785074694791)) w fun e5 w =>
  dQ pg (fD .add 40 fK fK e5 (.int .u64 9650029242287828579)) w fun e6 w =>
  dQ pg (hJ 22 xY (some (MC 8)) none none) w fun e8 w =>
  kn e6 e8 w)
  (k0 hY xY w)
theorem A6 (kn : K2) (k0 : K2) (hn : N2 Q kn 3 4) (h0 : E2 Q k0 0 3 4) (h : lR kn k0 (g 3) (g 4) w) : gK pg gV (bI (bI (fO 1 (fC 4 gJ)))) Q g w :=
 lX (kr := no) (l := [(0, fun g w => k0 (g 3) (g 4) w)]) h hn pA ⟨h0, trivial⟩
def rU (k0 : K2) (hY xY : MB) (w : MA) : Prop :=
 iW (fun (X : (MB × MB) -> K0) (t : MB × MB) (w : MA) => lR (fun hY xY w => X (hY, xY) w) k0 t.1 t.2 w) (hY, xY) w
theorem A7 (k0 : K2) (h0 : E2 Q k0 0 3 4) (h : rU k0 (g 3) (g 4) w) : gK pg gV (bI (fO 1 (fC 4 gJ))) Q g w := by
 refine Ho (fun g : Env => (g 3, g 4)) (fun X t w => lR (fun hY xY w => X (hY, xY) w) k0 t.1 t.2 w) h (fun X g1 w1 ha hL => ?_)
 exact (A6 _ g1 w1 (fun hY xY w => X (hY, xY) w) k0 (fun _ _ h => h) h0 hL)
def sF (kn : K2) (hY xY : MB) (w : MA) : Prop :=
 rU kn hY xY w
def oN (R : K1) (hY xY : MB) (w : MA) : Prop :=
 sF (fun hY xY w => pL R hY xY w) hY xY w
theorem Bd (kn : K2) (hn : N2 Q kn 3 4) (h : sF kn (g 3) (g 4) w) : gK pg gV (fO 1 (fC 4 gJ)) Q g w :=
 GB 0 (A7 _ g w kn hn h)
def rR (kn : K2) (R : K1) (iY : MB) (w : MA) : Prop :=
 dQ pg (fD .eql 106 (.tmp 7) (.const (.pointer none)) iY (.pointer none)) w fun b8 w =>
 lC b8
  (fI pg AI #[(.slice none 0 0)] w fun b9 w =>
  R b9 w)
  ((dr w) = (dr w) /\
  fI pg nP #[iY] (dr w) fun c1 lS =>
  lS = lS /\
  dQ pg (iX iY) lS fun c3 w_ => w_ = lS /\
  (fE pg (iX iY) c3 (dr w) /\ True) /\
  dQ pg (fF 138 c3 3) lS fun c4 w_ => w_ = lS /\
  (fE pg (fF 138 c3 3) c4 (dr w) /\ True) /\
  dQ pg (fM 40 c4) lS fun c5 w_ => w_ = lS /\
  (fE pg (fM 40 c4) c5 (dr w) /\ True) /\
  dQ pg (fD .add 40 fK fK c1 c5) lS fun c6 w_ => w_ = lS /\
  lS = lS /\
  (dr lS) = (dr lS) /\
  dQ pg (iX iY) (dr lS) fun c8 w_ => w_ = (dr lS) /\
  dQ pg (fF 138 c8 1) (dr lS) fun c9 w_ => w_ = (dr lS) /\
  (dr lS) = (dr lS) /\
  dQ pg (iX iY) (dr lS) fun d1 w_ => w_ = (dr lS) /\
  dQ pg (fF 138 d1 2) (dr lS) fun d2 w_ => w_ = (dr lS) /\
  dQ pg (fM 3 d2) (dr lS) fun d3 w_ => w_ = (dr lS) /\
  dQ pg (hJ 136 c9 none (some d3) none) (dr lS) fun d4 w_ => w_ = (dr lS) /\
  (dr lS) = (dr lS) /\
  kn c6 d4 (dr lS))
theorem Ba (kn : K2) (R : K1) (hn : N2 Q kn 3 4) (hr : HR pK R Q) (h : rR kn R (g 0) w) : gK pg gV (fO 4 gJ) Q g w :=
 lX (l := []) h hn hr trivial
def rY (R : K1) (iY : MB) (w : MA) : Prop :=
 rR (fun hY xY w => oN R hY xY w) R iY w
theorem A9 (R : K1) (hr : HR pK R Q) (h : rY R (g 0) w) : gK pg gV gJ Q g w :=
 uM 4 (Ba _ g w (oN R) R (fun g w h => fR (uM 1 (Bd _ g w (pL R) (fun g w h => fR (uM 1 (BT _ g w (pP R) (fun g w h => fR (uM 1 (BI _ g w (pR R) (fun g w h => fR (BH _ g w R hr h)) h))) h))) h))) hr h)
def Ck (a0 : MB) (w : MA) (R : K1) : Prop :=
 rY R a0 w
theorem B5 {a0 : MB} {w : MA} {R : K1} (h : Ck a0 w R) : fI pg rC #[a0] w R := by
 refine Bk (ann := gV) Tryd.f45 gJ [a0] pK 81 TrydM.mixed Tryd.func45 ?_
 exact (A9 _ _ _ R (fun _ _ h => h) h)
def tR : FA := ⟨nO, fun i => .leaf ([], []) []⟩
def vC : List ResultVar := [.tmp 4, .tmp 5]
noncomputable def tF : Code := iL Tryd.f47
def pY (R : K1) (Bq J6 : MB) (w : MA) : Prop :=
 dQ pg (fD .and 40 fK fK Bq (.int .u64 4294967295)) w fun c5 w =>
 dQ pg (fD .shr 40 fK fK Bq (.int .u64 32)) w fun c7 w =>
 dQ pg (fD .and 40 fK fK J6 (.int .u64 4294967295)) w fun c9 w =>
 dQ pg (fD .shr 40 fK fK J6 (.int .u64 32)) w fun d1 w =>
 dQ pg (fD .mul 40 fK fK c5 c9) w fun d4 w =>
 dQ pg (fD .mul 40 fK fK c7 c9) w fun d7 w =>
 dQ pg (fD .shr 40 fK fK d4 (.int .u64 32)) w fun d9 w =>
 dQ pg (fD .add 40 fK fK d7 d9) w fun e0 w =>
 dQ pg (fD .and 40 fK fK e0 (.int .u64 4294967295)) w fun e2 w =>
 dQ pg (fD .shr 40 fK fK e0 (.int .u64 32)) w fun e4 w =>
 dQ pg (fD .mul 40 fK fK c5 d1) w fun e8 w =>
 dQ pg (fD .add 40 fK fK e2 e8) w fun e9 w =>
 dQ pg (fD .mul 40 fK fK c7 d1) w fun f2 w =>
 dQ pg (fD .add 40 fK fK f2 e4) w fun f4 w =>
 dQ pg (fD .shr 40 fK fK e9 (.int .u64 32)) w fun f6 w =>
 dQ pg (fD .add 40 fK fK f4 f6) w fun f7 w =>
 dQ pg (fD .mul 40 fK fK Bq J6) w fun i0 w =>
 R (.tuple #[f7, i0]) w
theorem Ak (R : K1) (hr : HR vC R Q) (h : pY R (g 0) (g 1) w) : gK pg tR tF Q g w :=
 lX (kn := no) (l := []) h pA hr trivial
def zY (a0 a1 : MB) (w : MA) (R : K1) : Prop :=
 pY R a0 a1 w
theorem AO {a0 a1 : MB} {w : MA} {R : K1} (h : zY a0 a1 w R) : fI pg nO #[a0, a1] w R := by
 refine Bk (ann := tR) Tryd.f47 tF [a0, a1] vC 51 TrydM.mixed Tryd.func47 ?_
 exact (Ak _ _ _ R (fun _ _ h => h) h)
def Bo : FA := ⟨qL, fun i => .leaf ([], []) []⟩
def Ch : List ResultVar := [.tmp 4]
noncomputable def AQ : Code := iL Tryd.f60
def zM (R : K1) (KY KZ : MB) (w : MA) : Prop :=
 dQ pg (fD .mul 40 fK fK KZ (.int .u64 14029467366897019727)) w fun b7 w =>
 dQ pg (fD .add 40 fK fK KY b7) w fun b8 w =>
 fI pg gH #[b8, (MC 31)] w fun b9 w =>
 dQ pg (fD .mul 40 fK fK b9 (.int .u64 11400714785074694791)) w fun c0 w =>
 R c0 w
theorem Dd (R : K1) (hr : HR Ch R Q) (h : zM R (g 0) (g 1) w) : gK pg Bo AQ Q g w :=
 lX (kn := no) (l := []) h pA hr trivial
def Ee (a0 a1 : MB) (w : MA) (R : K1) : Prop :=
 zM R a0 a1 w
theorem DG {a0 a1 : MB} {w : MA} {R : K1} (h : Ee a0 a1 w R) : fI pg qL #[a0, a1] w R := by
 refine Bk (ann := Bo) Tryd.f60 AQ [a0, a1] Ch 11 TrydM.mixed Tryd.func60 ?_
 exact (Dd _ _ _ R (fun _ _ h => h) h)
def jN : FA := ⟨oI, fun i => .leaf ([], []) []⟩
def wU : List ResultVar := [.tmp 2]
noncomputable def iZ : Code := iL Tryd.f61
def sH (R : K1) (hY : MB) (w : MA) : Prop :=
 R hY w
theorem Cr (R : K1) (hr : HR wU R Q) (h : sH R (g 3) w) : gK pg jN (fC 1 (fC 2 iZ)) Q g w :=
 lX (kn := no) (l := []) h pA hr trivial
def pE (kn : K4) (k0 : K1) (hY b6 b7 b8 : MB) (w : MA) : Prop :=
 dQ pg (fD .lss 3 fK fK b8 b7) w fun b9 w =>
 lC b9
  (dQ pg (kP 22 b6 b8) w fun c1 w =>
  dQ pg (fM 5 c1) w fun c2 w =>
  dQ pg (jV 5 40 c2) w fun c5 w =>
  dQ pg (fD .mul 3 fK fK (MC 8) b8) w fun c7 w =>
  dQ pg (jV 3 35 c7) w fun c8 w =>
  dQ pg (fD .shl 40 fK fK c5 c8) w fun c9 w =>
  dQ pg (fD .or 40 fK fK hY c9) w fun d0 w =>
  dQ pg (fD .add 3 fK fK b8 (MC 1)) w fun d1 w =>
  kn d0 b6 b7 d1 w)
  (k0 hY w)
theorem Cs (kn : K4) (k0 : K1) (hn : N4 Q kn 3 6 7 8) (h0 : E1 Q k0 0 3) (h : pE kn k0 (g 3) (g 6) (g 7) (g 8) w) : gK pg jN (bI (bI (fC 1 (fO 1 (fC 2 iZ))))) Q g w :=
 lX (kr := no) (l := [(0, fun g w => k0 (g 3) w)]) h hn pA ⟨h0, trivial⟩
def xL (k0 : K1) (hY b6 b7 b8 : MB) (w : MA) : Prop :=
 iW (fun (X : (MB × MB) -> K0) (t : MB × MB) (w : MA) => pE (fun hY _ _ b8 w => X (hY, b8) w) k0 t.1 b6 b7 t.2 w) (hY, b8) w
theorem CM (k0 : K1) (h0 : E1 Q k0 0 3) (h : xL k0 (g 3) (g 6) (g 7) (g 8) w) : gK pg jN (bI (fC 1 (fO 1 (fC 2 iZ)))) Q g w := by
 refine Ho (fun g : Env => (g 3, g 8)) (fun X t w => pE (fun hY _ _ b8 w => X (hY, b8) w) k0 t.1 (g 6) (g 7) t.2 w) h (fun X g1 w1 ha hL => ?_)
 rw [<- B1 6 ha, <- B1 7 ha] at hL
 exact (Cs _ g1 w1 (fun hY _ _ b8 w => X (hY, b8) w) k0 (fun _ _ h => h) h0 hL)
def xP (kn : K1) (hY b6 b7 b8 : MB) (w : MA) : Prop :=
 xL kn hY b6 b7 b8 w
def wR (kn : K4) (lA hY : MB) (w : MA) : Prop :=
 dQ pg (nR .len #[22] 3 [lA]) w fun b7 w =>
 kn hY lA b7 (MC 0) w
theorem Cn (kn : K4) (hn : N4 Q kn 3 6 7 8) (h : wR kn (g 0) (g 3) w) : gK pg jN (fO 1 (fO 1 (fC 2 iZ))) Q g w :=
 lX (kr := no) (l := []) h hn pA trivial
def xJ (kn : K1) (lA hY : MB) (w : MA) : Prop :=
 wR (fun hY b6 b7 b8 w => xP kn hY b6 b7 b8 w) lA hY w
def wJ (R : K1) (lA hY : MB) (w : MA) : Prop :=
 xJ (fun hY w => sH R hY w) lA hY w
theorem CK (kn : K1) (hn : N1 Q kn 3) (h : xJ kn (g 0) (g 3) w) : gK pg jN (fO 1 (fC 2 iZ)) Q g w :=
 uM 1 (Cn _ g w (xP kn) (fun g w h => fR (GB 0 (CM _ g w kn hn h))) h)
def xH (kn : K2) (lA : MB) (w : MA) : Prop :=
 kn lA (.int .u64 0) w
theorem CI (kn : K2) (hn : N2 Q kn 0 3) (h : xH kn (g 0) w) : gK pg jN (fO 2 iZ) Q g w :=
 lX (kr := no) (l := []) h hn pA trivial
def wT (R : K1) (lA : MB) (w : MA) : Prop :=
 xH (fun lA hY w => wJ R lA hY w) lA w
theorem CL (R : K1) (hr : HR wU R Q) (h : wT R (g 0) w) : gK pg jN iZ Q g w :=
 uM 2 (CI _ g w (wJ R) (fun g w h => fR (uM 1 (CK _ g w (sH R) (fun g w h => fR (Cr _ g w R hr h)) h))) h)
def DR (a0 : MB) (w : MA) (R : K1) : Prop :=
 wT R a0 w
theorem Dg {a0 : MB} {w : MA} {R : K1} (h : DR a0 w R) : fI pg oI #[a0] w R := by
 refine Bk (ann := jN) Tryd.f61 iZ [a0] wU 23 TrydM.mixed Tryd.func61 ?_
 exact (CL _ _ _ R (fun _ _ h => h) h)
def fY : FA := ⟨nP, fun i => .leaf ([], []) []⟩
def mG : List ResultVar := [.tmp 2]
noncomputable def fT : Code := iL Tryd.f62
def mD (R : K1) (hY : MB) (w : MA) : Prop :=
 R hY w
theorem Au (R : K1) (hr : HR mG R Q) (h : mD R (g 3) w) : gK pg fY (fC 1 (fC 1 (fC 3 fT))) Q g w :=
 lX (kn := no) (l := []) h pA hr trivial
def kB (kn : K3) (k2 : K1) (hY e2 e3 : MB) (w : MA) : Prop :=
 dQ pg (fD .lss 3 fK fK e3 (MC 4)) w fun e4 w =>
 lC e4
  (dQ pg (CH 49 e2 e3) w fun e5 w =>
  fI pg qL #[(.int .u64 0), e5] w fun e8 w =>
  dQ pg (fD .xor 40 fK fK hY e8) w fun e9 w =>
  dQ pg (fD .mul 40 fK fK e9 (.int .u64 11400714785074694791)) w fun f0 w =>
  dQ pg (fD .add 40 fK fK f0 (.int .u64 9650029242287828579)) w fun f1 w =>
  dQ pg (fD .add 3 fK fK e3 (MC 1)) w fun f2 w =>
  kn f1 e2 f2 w)
  (k2 hY w)
theorem Ah (kn : K3) (k2 : K1) (hn : N3 Q kn 3 32 33) (h2 : E1 Q k2 2 3) (h : kB kn k2 (g 3) (g 32) (g 33) w) : gK pg fY (bI (bI (fC 1 (fO 1 (fC 1 (fC 3 fT)))))) Q g w :=
 lX (kr := no) (l := [(2, fun g w => k2 (g 3) w)]) h hn pA ⟨h2, trivial⟩
def pZ (k2 : K1) (hY e2 e3 : MB) (w : MA) : Prop :=
 iW (fun (X : (MB × MB) -> K0) (t : MB × MB) (w : MA) => kB (fun hY _ e3 w => X (hY, e3) w) k2 t.1 e2 t.2 w) (hY, e3) w
theorem An (k2 : K1) (h2 : E1 Q k2 2 3) (h : pZ k2 (g 3) (g 32) (g 33) w) : gK pg fY (bI (fC 1 (fO 1 (fC 1 (fC 3 fT))))) Q g w := by
 refine Ho (fun g : Env => (g 3, g 33)) (fun X t w => kB (fun hY _ e3 w => X (hY, e3) w) k2 t.1 (g 32) t.2 w) h (fun X g1 w1 ha hL => ?_)
 rw [<- B1 32 ha] at hL
 exact (Ah _ g1 w1 (fun hY _ e3 w => X (hY, e3) w) k2 (fun _ _ h => h) h2 hL)
def pW (kn : K1) (hY e2 e3 : MB) (w : MA) : Prop :=
 pZ kn hY e2 e3 w
def qA (kn : K3) (iY hY : MB) (w : MA) : Prop :=
 dQ pg (iX iY) w fun e0 w =>
 dQ pg (fF 138 e0 0) w fun e1 w =>
 dQ pg (fM 49 e1) w fun e2 w =>
 kn hY e2 (MC 0) w
theorem Ap (kn : K3) (hn : N3 Q kn 3 32 33) (h : qA kn (g 0) (g 3) w) : gK pg fY (fO 1 (fO 1 (fC 1 (fC 3 fT)))) Q g w :=
 lX (kr := no) (l := []) h hn pA trivial
def pS (kn : K1) (iY hY : MB) (w : MA) : Prop :=
 qA (fun hY e2 e3 w => pW kn hY e2 e3 w) iY hY w
def pX (R : K1) (iY hY : MB) (w : MA) : Prop :=
 pS (fun hY w => mD R hY w) iY hY w
theorem Af (kn : K1) (hn : N1 Q kn 3) (h : pS kn (g 0) (g 3) w) : gK pg fY (fO 1 (fC 1 (fC 3 fT))) Q g w :=
 uM 1 (Ap _ g w (pW kn) (fun g w h => fR (GB 2 (An _ g w kn hn h))) h)
def kC (kn : K4) (k0 : K2) (iY hY c3 c4 : MB) (w : MA) : Prop :=
 dQ pg (fD .lss 3 fK fK c4 (MC 4)) w fun c5 w =>
 lC c5
  (dQ pg (CH 87 c3 c4) w fun c7 w =>
  dQ pg (iX iY) w fun d1 w =>
  dQ pg (fF 138 d1 0) w fun d2 w =>
  dQ pg (kP 49 d2 c4) w fun d3 w =>
  dQ pg (fM 40 d3) w fun d4 w =>
  fI pg gH #[d4, c7] w fun d6 w =>
  dQ pg (fD .add 40 fK fK hY d6) w fun d7 w =>
  dQ pg (fD .add 3 fK fK c4 (MC 1)) w fun d8 w =>
  kn iY d7 c3 d8 w)
  (k0 iY hY w)
theorem Al (kn : K4) (k0 : K2) (hn : N4 Q kn 0 3 13 14) (h0 : E2 Q k0 0 0 3) (h : kC kn k0 (g 0) (g 3) (g 13) (g 14) w) : gK pg fY (bI (bI (fC 1 (fO 1 (fC 3 fT))))) Q g w :=
 lX (kr := no) (l := [(0, fun g w => k0 (g 0) (g 3) w)]) h hn pA ⟨h0, trivial⟩
def qD (k0 : K2) (iY hY c3 c4 : MB) (w : MA) : Prop :=
 iW (fun (X : (MB × MB) -> K0) (t : MB × MB) (w : MA) => kC (fun _ hY _ c4 w => X (hY, c4) w) k0 iY t.1 c3 t.2 w) (hY, c4) w
theorem Aj (k0 : K2) (h0 : E2 Q k0 0 0 3) (h : qD k0 (g 0) (g 3) (g 13) (g 14) w) : gK pg fY (bI (fC 1 (fO 1 (fC 3 fT)))) Q g w := by
 refine Ho (fun g : Env => (g 3, g 14)) (fun X t w => kC (fun _ hY _ c4 w => X (hY, c4) w) k0 (g 0) t.1 (g 13) t.2 w) h (fun X g1 w1 ha hL => ?_)
 rw [<- B1 0 ha, <- B1 13 ha] at hL
 exact (Al _ g1 w1 (fun _ hY _ c4 w => X (hY, c4) w) k0 (fun _ _ h => h) h0 hL)
def oQ (kn : K2) (iY hY c3 c4 : MB) (w : MA) : Prop :=
 qD kn iY hY c3 c4 w
def oX (kn : K4) (iY hY : MB) (w : MA) : Prop :=
 dQ pg (hX 87 [(0, (MC 1)), (1, (MC 7)), (2, (MC 12)), (3, (MC 18))]) w fun c3 w =>
 kn iY hY c3 (MC 0) w
theorem zH (kn : K4) (hn : N4 Q kn 0 3 13 14) (h : oX kn (g 0) (g 3) w) : gK pg fY (fO 1 (fO 1 (fC 3 fT))) Q g w :=
 lX (kr := no) (l := []) h hn pA trivial
def oT (kn : K2) (iY hY : MB) (w : MA) : Prop :=
 oX (fun iY hY c3 c4 w => oQ kn iY hY c3 c4 w) iY hY w
def oR (R : K1) (iY hY : MB) (w : MA) : Prop :=
 oT (fun iY hY w => pX R iY hY w) iY hY w
theorem zC (kn : K2) (hn : N2 Q kn 0 3) (h : oT kn (g 0) (g 3) w) : gK pg fY (fO 1 (fC 3 fT)) Q g w :=
 uM 1 (zH _ g w (oQ kn) (fun g w h => fR (GB 0 (Aj _ g w kn hn h))) h)
def lH (kn : K2) (R : K1) (iY : MB) (w : MA) : Prop :=
 dQ pg (iX iY) w fun b9 w =>
 dQ pg (fF 138 b9 3) w fun c0 w =>
 dQ pg (fM 40 c0) w fun c1 w =>
 dQ pg (fD .lss 40 fK fK c1 (.int .u64 32)) w fun c2 w =>
 lC c2
  (R (.int .u64 2870177450012600261) w)
  (kn iY (.int .u64 0) w)
theorem zQ (kn : K2) (R : K1) (hn : N2 Q kn 0 3) (hr : HR mG R Q) (h : lH kn R (g 0) w) : gK pg fY (fO 3 fT) Q g w :=
 lX (l := []) h hn hr trivial
def lI (R : K1) (iY : MB) (w : MA) : Prop :=
 lH (fun iY hY w => oR R iY hY w) R iY w
theorem zN (R : K1) (hr : HR mG R Q) (h : lI R (g 0) w) : gK pg fY fT Q g w :=
 uM 3 (zQ _ g w (oR R) R (fun g w h => fR (uM 1 (zC _ g w (pX R) (fun g w h => fR (uM 1 (Af _ g w (mD R) (fun g w h => fR (Au _ g w R hr h)) h))) h))) hr h)
def tK (a0 : MB) (w : MA) (R : K1) : Prop :=
 lI R a0 w
theorem AG {a0 : MB} {w : MA} {R : K1} (h : tK a0 w R) : fI pg nP #[a0] w R := by
 refine Bk (ann := fY) Tryd.f62 fT [a0] mG 44 TrydM.mixed Tryd.func62 ?_
 exact (zN _ _ _ R (fun _ _ h => h) h)
def oA : FA := ⟨gH, fun i => .leaf ([], []) []⟩
def oP : List ResultVar := [.tmp 4]
noncomputable def nL : Code := iL Tryd.f63
def kQ (R : K1) (Bq La : MB) (w : MA) : Prop :=
 dQ pg (jV 3 35 La) w fun b7 w =>
 dQ pg (fD .and 35 fK fK b7 (.int .u64 63)) w fun b8 w =>
 dQ pg (fD .shl 40 fK fK Bq b8) w fun c1 w =>
 dQ pg (fD .sub 35 fK fK (.int .u64 64) b8) w fun c4 w =>
 dQ pg (fD .shr 40 fK fK Bq c4) w fun c5 w =>
 dQ pg (fD .or 40 fK fK c1 c5) w fun c6 w =>
 R c6 w
theorem tH (R : K1) (hr : HR oP R Q) (h : kQ R (g 0) (g 1) w) : gK pg oA nL Q g w :=
 lX (kn := no) (l := []) h pA hr trivial
def rB (a0 a1 : MB) (w : MA) (R : K1) : Prop :=
 kQ R a0 a1 w
theorem tW {a0 a1 : MB} {w : MA} {R : K1} (h : rB a0 a1 w R) : fI pg gH #[a0, a1] w R := by
 refine Bk (ann := oA) Tryd.f63 nL [a0, a1] oP 17 TrydM.mixed Tryd.func63 ?_
 exact (tH _ _ _ R (fun _ _ h => h) h)
end Go.Proofs.YthohephggmkeeaaDoor
namespace Go.En
open Go
section
variable {P : Program} {w : MA} {t : TypeId} {ox oy : Operand} {k : IntKind} {a b : Int}
theorem kM (s : Sem MB) : (V s).run P w = (s.run P w).andThen fun v w => .ok (.value v) w := by
 unfold V; rw [Sem.run_bind] <;> rfl
theorem KK (s : Sem Unit) : (U s).run P w = (s.run P w).andThen fun _ w => .ok .skip w := by
 unfold U; rw [Sem.run_bind] <;> rfl
theorem eD : (fD .add t ox oy (.int k a) (.int k b)).run P w = .ok (.value (.int k (k.wrap (a + b)))) w := by
 simp [fD, xU, kM, binOp, Op.intArith]
theorem eQ : (fD .sub t ox oy (.int k a) (.int k b)).run P w = .ok (.value (.int k (k.wrap (a - b)))) w := by
 simp [fD, xU, kM, binOp, Op.intArith]
theorem eF : (fD .mul t ox oy (.int k a) (.int k b)).run P w = .ok (.value (.int k (k.wrap (a * b)))) w := by
 simp [fD, xU, kM, binOp, Op.intArith]
theorem eX (h : b ≠ 0) : (fD .quo t ox oy (.int k a) (.int k b)).run P w = .ok (.value (.int k (k.wrap (a.tdiv b)))) w := by
 simp [fD, xU, kM, binOp, Op.intDiv, h]
theorem eY (h : b ≠ 0) : (fD .rem t ox oy (.int k a) (.int k b)).run P w = .ok (.value (.int k (a.tmod b))) w := by
 simp [fD, xU, kM, binOp, Op.intDiv, h]
def tC (k : IntKind) (a b : Int) : Int := k.wrap (BitVec.ofInt k.bits a &&& BitVec.ofInt k.bits b).toNat
def J4 (k : IntKind) (a b : Int) : Int := k.wrap (BitVec.ofInt k.bits a ||| BitVec.ofInt k.bits b).toNat
def BS (k : IntKind) (a b : Int) : Int := k.wrap (BitVec.ofInt k.bits a ^^^ BitVec.ofInt k.bits b).toNat
def GU (k : IntKind) (a b : Int) : Int := k.wrap (BitVec.ofInt k.bits a &&& ~~~BitVec.ofInt k.bits b).toNat
theorem eP : (fD .and t ox oy (.int k a) (.int k b)).run P w = .ok (.value (.int k (tC k a b))) w := by
 simp [fD, xU, kM, binOp, Op.intBits, tC]
theorem fH : (fD .or t ox oy (.int k a) (.int k b)).run P w = .ok (.value (.int k (J4 k a b))) w := by
 simp [fD, xU, kM, binOp, Op.intBits, J4]
theorem eK : (fD .xor t ox oy (.int k a) (.int k b)).run P w = .ok (.value (.int k (BS k a b))) w := by
 simp [fD, xU, kM, binOp, Op.intBits, BS]
theorem dK : (fD .andNot t ox oy (.int k a) (.int k b)).run P w = .ok (.value (.int k (GU k a b))) w := by
 simp [fD, xU, kM, binOp, Op.intBits, GU]
theorem eJ {k' : IntKind} (h : 0 <= b) : (fD .shl t ox oy (.int k a) (.int k' b)).run P w = .ok (.value (.int k (k.wrap (a * 2 ^ (min b.toNat k.bits))))) w := by
 simp [fD, xU, kM, binOp, Op.shift, Int.not_lt.2 h]
theorem eT {k' : IntKind} (h : 0 <= b) : (fD .shr t ox oy (.int k a) (.int k' b)).run P w = .ok (.value (.int k (a.fdiv (2 ^ (min b.toNat k.bits))))) w := by
 simp [fD, xU, kM, binOp, Op.shift, Int.not_lt.2 h]
theorem fB : (fD .eql t ox oy (.int k a) (.int k b)).run P w = .ok (.value (.bool (a == b))) w := by
 simp [fD, xU, kM, binOp, Op.intCmp, eqGuard]
theorem eA : (fD .neq t ox oy (.int k a) (.int k b)).run P w = .ok (.value (.bool (a != b))) w := by
 simp [fD, xU, kM, binOp, Op.intCmp, eqGuard]
theorem eE : (fD .lss t ox oy (.int k a) (.int k b)).run P w = .ok (.value (.bool (decide (a < b)))) w := by
 simp [fD, xU, kM, binOp, Op.intCmp]
theorem eI : (fD .leq t ox oy (.int k a) (.int k b)).run P w = .ok (.value (.bool (decide (a <= b)))) w := by
 simp [fD, xU, kM, binOp, Op.intCmp]
theorem eH : (fD .gtr t ox oy (.int k a) (.int k b)).run P w = .ok (.value (.bool (decide (b < a)))) w := by
 simp [fD, xU, kM, binOp, Op.intCmp]
theorem eC : (fD .geq t ox oy (.int k a) (.int k b)).run P w = .ok (.value (.bool (decide (b <= a)))) w := by
 simp [fD, xU, kM, binOp, Op.intCmp]
theorem fA : (H5 .neg (.int k a)).run P w = .ok (.value (.int k (k.wrap (0 - a)))) w := by
 simp [H5, kM, Op.unary, Op.intArith]
theorem eU : (H5 .xor (.int k a)).run P w = .ok (.value (.int k (BS k (if k.signed then -1 else k.max) a))) w := by
 simp [H5, kM, Op.unary, Op.intBits, BS]
theorem eB (c : Bool) : (H5 .not (.bool c)).run P w = .ok (.value (.bool !c)) w := by
 simp [H5, kM, Op.unary]
theorem dR (c : Bool) (x y : MB) : (lN (.bool c) x y).run P w = .ok (.value (if c then x else y)) w := by
 simp [lN, asBool]
theorem DH {x y : MB} {r : Bool} (hg : eqGuard .eql t ox oy x y = pure ()) (hb : binOp .eql t x y = (do pure (.bool (<- Op.equal t x y)))) (he : (Op.equal t x y).run P w = .ok r w) :
 (fD .eql t ox oy x y).run P w = .ok (.value (.bool r)) w := by
 unfold fD
 simp only [xU, kM, hg, hb, pure_bind]
 rw [Sem.run_bind, he] <;> rfl
theorem HA (n : Nat) (c d : Bool) (hu : P.underlying t = some .bool) : (Op.equalIn (n + 1) t (.bool c) (.bool d)).run P w = .ok (c == d) w := by
 simp only [Op.equalIn, underlying]
 simp [hu]
theorem Ji (c d : Bool) (hu : P.underlying t = some .bool) : (Op.equal t (.bool c) (.bool d)).run P w = .ok (c == d) w := HA 9999 c d hu
theorem JF (c d : Bool) (hu : P.underlying t = some .bool) : (fD .eql t ox oy (.bool c) (.bool d)).run P w = .ok (.value (.bool (c == d))) w :=
 DH rfl rfl (Ji c d hu)
theorem dY {n : Int} (h0 : -9223372036854775808 <= n) (h1 : n <= 9223372036854775807) : IntKind.i64.wrap n = n := by
 unfold IntKind.wrap; simp [IntKind.bits, IntKind.signed]; split <;> omega
theorem dX {n : Int} (h0 : 0 <= n) (h1 : n <= 18446744073709551615) : IntKind.u64.wrap n = n := by
 unfold IntKind.wrap; simp [IntKind.bits, IntKind.signed]; omega
theorem eN {n : Int} (h0 : -2147483648 <= n) (h1 : n <= 2147483647) : IntKind.i32.wrap n = n := by
 unfold IntKind.wrap; simp [IntKind.bits, IntKind.signed]; split <;> omega
theorem eZ {n : Int} (h0 : 0 <= n) (h1 : n <= 4294967295) : IntKind.u32.wrap n = n := by
 unfold IntKind.wrap; simp [IntKind.bits, IntKind.signed]; omega
theorem eM {n : Int} (h0 : 0 <= n) (h1 : n <= 65535) : IntKind.u16.wrap n = n := by
 unfold IntKind.wrap; simp [IntKind.bits, IntKind.signed]; omega
theorem fG {n : Int} (h0 : 0 <= n) (h1 : n <= 255) : IntKind.u8.wrap n = n := by
 unfold IntKind.wrap; simp [IntKind.bits, IntKind.signed]; omega
theorem JM (x y : ByteArray) : (fD .eql t ox oy (.string x) (.string y)).run P w = .ok (.value (.bool (x.toList == y.toList))) w := by
 simp [fD, xU, kM, binOp, Op.stringOp, eqGuard]
theorem Iv (n : Nat) {e : TypeId} (hu : P.underlying t = some (.pointer e)) (x : Option Addr) : (Op.equalIn (n + 1) t (.pointer x) (.pointer none)).run P w = .ok x.isNone w := by
 simp only [Op.equalIn, underlying]
 cases x <;> simp [hu]
theorem JT {e : TypeId} (hu : P.underlying t = some (.pointer e)) (x : Option Addr) : (Op.equal t (.pointer x) (.pointer none)).run P w = .ok x.isNone w := Iv 9999 hu x
theorem I7 (m : Nat) {e : TypeId} (hu : P.underlying t = some (.slice e)) (x : Option Addr) (n c : Nat) : (Op.equalIn (m + 1) t (.slice x n c) (.slice none 0 0)).run P w = .ok x.isNone w := by
 simp only [Op.equalIn, underlying]
 cases x <;> simp [hu]
theorem Ki {e : TypeId} (hu : P.underlying t = some (.slice e)) (x : Option Addr) (n c : Nat) : (Op.equal t (.slice x n c) (.slice none 0 0)).run P w = .ok x.isNone w := I7 9999 hu x n c
theorem HF {e : TypeId} (hu : P.underlying t = some (.pointer e)) (x : Option Addr) : (fD .eql t ox oy (.pointer x) (.pointer none)).run P w = .ok (.value (.bool x.isNone)) w :=
 DH rfl rfl (JT hu x)
theorem IZ {e : TypeId} (hu : P.underlying t = some (.slice e)) (x : Option Addr) (n c : Nat) : (fD .eql t ox oy (.slice x n c) (.slice none 0 0)).run P w = .ok (.value (.bool x.isNone)) w :=
 DH rfl rfl (Ki hu x n c)
theorem rX {s : TypeId} {d : TypeDesc} {kd : IntKind} (hs : P.underlying s = some d) (hu : P.underlying t = some (.int kd)) : (jV s t (.int k a)).run P w = .ok (.value (.int kd (kd.wrap a))) w := by
 cases d <;> simp [jV, kM, convert, underlying, hs, hu, Conv.intToInt]
theorem EL {ty : TypeId} {e : TypeId} (hu : P.underlying t = some (.slice e)) (x : Option Addr) (n c : Nat) : (nR .len #[t] ty [.slice x n c]).run P w = .ok (.value (.int .i64 n)) w := by
 simp [nR, builtin, Builtin.len_, underlying, hu, goInt]
theorem JO {ty : TypeId} (hu : P.underlying t = some .string) (x : ByteArray) : (nR .len #[t] ty [.string x]).run P w = .ok (.value (.int .i64 x.size)) w := by
 simp [nR, builtin, Builtin.len_, underlying, hu, goInt]
theorem eS {ats : Array TypeId} {ty : TypeId} : (nR .min ats ty [.int k a, .int k b]).run P w = .ok (.value (.int k (if b < a then b else a))) w := by
 simp [nR, builtin, Builtin.min_, Builtin.min2]
theorem eL {ats : Array TypeId} {ty : TypeId} : (nR .max ats ty [.int k a, .int k b]).run P w = .ok (.value (.int k (if b > a then b else a))) w := by
 simp [nR, builtin, Builtin.max_, Builtin.max2]
theorem gT (a b : MB) : (hU (.tuple #[a, b]) 0).run P w = .ok (.value a) w := Eq.trans rfl rfl
theorem gQ (a b : MB) : (hU (.tuple #[a, b]) 1).run P w = .ok (.value b) w := Eq.trans rfl rfl
theorem gM (a b c : MB) : (hU (.tuple #[a, b, c]) 0).run P w = .ok (.value a) w := Eq.trans rfl rfl
theorem gS (a b c : MB) : (hU (.tuple #[a, b, c]) 1).run P w = .ok (.value b) w := Eq.trans rfl rfl
theorem gO (a b c : MB) : (hU (.tuple #[a, b, c]) 2).run P w = .ok (.value c) w := Eq.trans rfl rfl
theorem gN (a b c d : MB) : (hU (.tuple #[a, b, c, d]) 0).run P w = .ok (.value a) w := Eq.trans rfl rfl
theorem gU (a b c d : MB) : (hU (.tuple #[a, b, c, d]) 1).run P w = .ok (.value b) w := Eq.trans rfl rfl
theorem gP (a b c d : MB) : (hU (.tuple #[a, b, c, d]) 2).run P w = .ok (.value c) w := Eq.trans rfl rfl
theorem gR (a b c d : MB) : (hU (.tuple #[a, b, c, d]) 3).run P w = .ok (.value d) w := Eq.trans rfl rfl
theorem dZ (x : Addr) : (iX (.pointer (some x))).run P w = .ok (.value (.pointer (some x))) w := Eq.trans rfl rfl
theorem jM {fs : Array Field} {f : Field} {i : Nat} {inf : TypeInfo} (hu : P.underlying t = some (.struct fs)) (hf : fs[i]? = some f)
 (hi : P.info? f.type = some inf) (hz : inf.size ≠ 0) (x : Addr) : (fF t (.pointer (some x)) i).run P w = .ok (.value (.pointer (some (x.add f.offset)))) w := by
 simp [fF, kM, Instr.fieldAt, underlying, hu, hf, Instr.sureAddr, fieldPlace, sizeOf, typeInfo, hi, hz]
theorem Ir {e : TypeId} {inf : TypeInfo} (hu : P.underlying t = some (.slice e)) (hi : P.info? e = some inf) (x : Addr) (n c : Nat) (h0 : 0 <= a) (h1 : a < n) :
 (kP t (.slice (some x) n c) (.int k a)).run P w = .ok (.value (.pointer (some (x.add (a.toNat * inf.size))))) w := by
 simp [kP, kM, Instr.indexAt, asIntOf, underlying, hu, h0, h1, sizeOf, typeInfo, hi]
theorem Ij {e : TypeId} {len : Nat} {inf : TypeInfo} (hu : P.underlying t = some (.array len e)) (hi : P.info? e = some inf) (x : Addr) (h0 : 0 <= a) (h1 : a < len) :
 (kP t (.pointer (some x)) (.int k a)).run P w = .ok (.value (.pointer (some (x.add (a.toNat * inf.size))))) w := by
 simp [kP, kM, Instr.indexAt, asIntOf, underlying, hu, h0, h1, sizeOf, typeInfo, hi, Instr.sureAddr]
theorem JH (hu : P.underlying t = some .string) (x : ByteArray) (h0 : 0 <= a) (h1 : a.toNat < x.size) :
 (CH t (.string x) (.int k a)).run P w = .ok (.value (.int .u8 (x[a.toNat]'h1).toNat)) w := by
 simp [CH, kM, Instr.index, asIntOf, underlying, hu, h0, h1]
end
def iD (w : MA) (b : Nat) (cs : List MB) : Prop :=
 ∃ T lo hi, w.heap[b]? = some (.cells cs.toArray T (lo, hi)) /\ (cs.length <= lo ∨ hi = lo)
structure gA (w w' : MA) (M : Nat -> Prop) : Prop where
 os : w'.os = w.os
 tape : w'.tape = w.tape
 output : w'.output = w.output
 size : w.heap.size <= w'.heap.size
 keep : ∀ b, b < w.heap.size -> ¬ M b -> w'.heap[b]? = w.heap[b]?
def nQ : Nat -> Prop := fun _ => False
theorem gA.refl (w : MA) (M : Nat -> Prop) : gA w w M := ⟨rfl, rfl, rfl, LB _, fun _ _ _ => rfl⟩
theorem gA.mono {w w' : MA} {M N : Nat -> Prop} (h : gA w w' M) (hm : ∀ b, b < w.heap.size -> M b -> N b) : gA w w' N :=
 ⟨h.os, h.tape, h.output, h.size, fun b hb hn => h.keep b hb fun hM => hn (hm b hb hM)⟩
theorem gA.trans {a b c : MA} {M N : Nat -> Prop} (h : gA a b M) (k : gA b c N) (hn : ∀ x, x < a.heap.size -> N x -> M x) : gA a c M :=
 ⟨k.os.trans h.os, k.tape.trans h.tape, k.output.trans h.output, Nat.le_trans h.size k.size,
   fun x hx hM => (k.keep x (Mt hx h.size) fun h => hM (hn x hx h)).trans (h.keep x hx hM)⟩
theorem gA.seq {a b c : MA} {M : Nat -> Prop} (h : gA a b M) (k : gA b c M) : gA a c M := h.trans k fun _ _ h => h
theorem gA.new {a b c : MA} {M : Nat -> Prop} {x : Nat} (h : gA a b M) (k : gA b c (fun y => y = x)) (hx : a.heap.size <= x) : gA a c M :=
 h.trans k fun y hy e => absurd hy (by subst e; omega)
theorem gA.below {w w' : MA} (h : gA w w' nQ) : Go.RowKit.Below w.heap.size w w' :=
 ⟨h.os, h.tape, h.output, h.size, fun k hk => h.keep k hk fun h => h⟩
theorem gA.dr (w : MA) (M : Nat -> Prop) : gA w (dr w) M := ⟨rfl, rfl, rfl, LB _, fun _ _ _ => rfl⟩
theorem gA.alloc (w : MA) (o : Obj) (M : Nat -> Prop) : gA w (w.alloc o) M :=
 ⟨rfl, rfl, rfl, by simp, fun b hb _ => by show (w.heap.push o)[b]? = _; rw [Array.getElem?_push, if_neg (by omega)]⟩
theorem De (w : MA) (a : Addr) (v : MB) (b : Nat) (h : b ≠ a.block) : (w.setCell a v).heap[b]? = w.heap[b]? := Go.RowKit.Below.heap_setCell w a v b h
theorem gA.setCell (w : MA) (a : Addr) (v : MB) {M : Nat -> Prop} (h : a.block < w.heap.size -> M a.block) : gA w (w.setCell a v) M :=
 ⟨rfl, rfl, rfl, by simp, fun b hb hM => De w a v b fun e => hM (e ▸ h (e ▸ hb))⟩
theorem iD.lt {w : MA} {b : Nat} {cs : List MB} (h : iD w b cs) : b < w.heap.size := by
 obtain ⟨T, lo, hi, h, _⟩ := h
 rcases Mf b w.heap.size with h' | h'
 .exact h'
 .rw [Mu h'] at h; cases h
theorem iD.ext {w w' : MA} {b : Nat} {cs : List MB} {M : Nat -> Prop} (h : iD w b cs) (hx : gA w w' M) (hM : ¬ M b) : iD w' b cs := by
 have := h.lt
 obtain ⟨T, lo, hi, h, k⟩ := h
 exact ⟨T, lo, hi, by rw [hx.keep b this hM]; exact h, k⟩
theorem iD.cell {w : MA} {b off : Nat} {cs : List MB} (h : iD w b cs) : w.cell? ⟨b, off, none⟩ = cs[off]? := by
 obtain ⟨T, lo, hi, h, _⟩ := h
 simp [World.cell?, h]
theorem iD.free {w : MA} {b off : Nat} {cs : List MB} {s : Option Nat} (h : iD w b cs) (ho : off < cs.length) : w.frozen? ⟨b, off, s⟩ = false := by
 obtain ⟨T, lo, hi, h, k⟩ := h
 simp only [World.frozen?, h]
 rcases k with k | k <;> (simp; omega)
theorem iD.setCell {w : MA} {b off : Nat} {cs : List MB} (h : iD w b cs) (v : MB) : iD (w.setCell ⟨b, off, none⟩ v) b (cs.set off v) := by
 have hb := h.lt
 obtain ⟨T, lo, hi, h, k⟩ := h
 refine ⟨T, lo, hi, ?_, by simpa using k⟩
 simp only [World.setCell, Mj, h]
 simp
theorem iD.alloc (w : MA) (cs : List MB) (T : TypeId) : iD (w.alloc (.cells cs.toArray T)) w.heap.size cs :=
 ⟨T, 0, 0, by show (w.heap.push _)[w.heap.size]? = _; simp, .inr rfl⟩
theorem IJ {w w' : MA} {M : Nat -> Prop} {a : Addr} {v : MB} (h : w.cell? a = some v) (hx : gA w w' M) (hM : ¬ M a.block) : w'.cell? a = some v := by
 have hb := World.block_lt_of_cell? w a h
 have e := hx.keep _ hb hM
 unfold World.cell? at h ⊢
 rw [e]; exact h
section
variable {P : Program} {w : MA} {t : TypeId}
def Gw (d : TypeDesc) : Bool := match d with | .struct _ | .array _ _ => true | _ => false
theorem AY {d : TypeDesc} (hu : P.underlying t = some d) : (isAgg t).run P w = .ok (Gw d) w := by
 cases d <;> simp [isAgg, underlying, hu, Gw]
theorem gY {i : TypeInfo} (hi : P.info? t = some i) : (sizeOf t).run P w = .ok i.size w := by simp [sizeOf, typeInfo, hi]
theorem Ce {b off : Nat} {cs : List MB} (ho : iD w b cs) : ∀ (n i : Nat) (acc : Array MB), off + i + n <= cs.length →
 (loadCellsFrom ⟨b, off, none⟩ i n acc).run P w = .ok (acc ++ ((cs.drop (off + i)).take n).toArray) w := by
 intro n
 induction n with
 | zero => intro i acc _; simp [loadCellsFrom]
 | succ n ih =>
   intro i acc h
   have hc : w.cell? ((⟨b, off, none⟩ : Addr).add i) = some cs[off + i] := by
    unfold Addr.add
    split
    .rename_i hi; subst hi; rw [ho.cell]; simp
    .show w.cell? ⟨b, off + i, none⟩ = _; rw [ho.cell]; simp
   simp only [loadCellsFrom, Sem.run_bind, run_load, hc, Result.andThen_ok]
   rw [ih (i + 1) _ (by omega)]
   congr 1
   rw [Mq (by omega : off + i < cs.length)]
   simp [Mn]
theorem Bn {b off n : Nat} {cs : List MB} (ho : iD w b cs) (h : off + n <= cs.length) :
 (loadCells ⟨b, off, none⟩ n).run P w = .ok ((cs.drop off).take n).toArray w := by
 unfold loadCells
 rw [Ce ho n 0 #[] (by omega)]
 simp
theorem EF {d : TypeDesc} {i : TypeInfo} (hu : P.underlying t = some d) (hd : Gw d = true) (hi : P.info? t = some i) {b off : Nat} {cs : List MB} (ho : iD w b cs) (h : off + i.size <= cs.length) :
 (fM t (.pointer (some ⟨b, off, none⟩))).run P w = .ok (.value (.agg ((cs.drop off).take i.size).toArray)) w := by
 unfold fM
 rw [kM]
 simp only [Instr.loadAt, Instr.sureAddr, loadVar, pure_bind, Sem.run_bind, AY hu, hd, Result.andThen_ok, if_true, gY hi, Bn ho h, Sem.run_pure]
def one (v : MB) : Bool := match v with | .agg _ | .tuple _ => false | _ => true
theorem Gh {a : Addr} {v x : MB} (hv : one v = true) (hc : w.cell? a = some x) (hf : w.frozen? a = false) : (store a v).run P w = .ok () (w.setCell a v) := by
 unfold store
 cases v <;> simp [one] at hv <;> simp [Sem.run, hc, hf]
def gD (cs : List MB) (off : Nat) : List MB -> List MB
 | [] => cs
 | v :: vs => gD (cs.set off v) (off + 1) vs
theorem uT {b : Nat} {M : Nat -> Prop} (hM : M b) : ∀ (vs : List MB) (w : MA) (off i : Nat) (cs : List MB), iD w b cs -> off + i + vs.length <= cs.length -> (∀ v ∈ vs, one v = true) →
 ∃ w', (storeCells ⟨b, off, none⟩ vs i).run P w = .ok () w' /\ iD w' b (gD cs (off + i) vs) /\ gA w w' M /\ w'.heap.size = w.heap.size /\ w'.drawn = w.drawn := by
 intro vs
 induction vs with
 | nil => intro w off i cs ho _ _; exact ⟨w, by simp [storeCells], ho, gA.refl _ _, rfl, rfl⟩
 | cons v vs ih =>
   intro w off i cs ho h hv
   simp only [LA] at h
   have ha : (⟨b, off, none⟩ : Addr).add i = ⟨b, off + i, none⟩ := by
    unfold Addr.add; split
    .rename_i hi; subst hi; rfl
    .rfl
   have hlt : off + i < cs.length := by omega
   have hc : w.cell? ⟨b, off + i, none⟩ = some cs[off + i] := by rw [ho.cell]; simp
   have hs := Gh (P := P) (hv v (by simp)) hc (ho.free hlt)
   obtain ⟨w', h1, h2, h3, h4, h5⟩ := ih (w.setCell ⟨b, off + i, none⟩ v) off (i + 1) (cs.set (off + i) v) (ho.setCell v) (by simp; omega) (fun x hx => hv x (Lx _ hx))
   refine ⟨w', ?_, h2, (gA.setCell w _ v fun _ => hM).trans h3 (fun _ _ h => h), by rw [h4]; simp, by rw [h5] <;> rfl⟩
   simp only [storeCells, Sem.run_bind, ha, hs, Result.andThen_ok]
   exact h1
theorem yO {i : TypeInfo} (hi : P.info? t = some i) {b off : Nat} {cs : List MB} (ho : iD w b cs) {v : MB} (hs : v.cells.size = i.size)
 (hv : ∀ x ∈ v.cells.toList, one x = true) (h : off + i.size <= cs.length) {K : MB -> MA -> Prop}
 (hk : ∀ w', iD w' b (gD cs off v.cells.toList) -> gA w w' (fun x => x = b) -> w'.heap.size = w.heap.size -> K undef w') : dQ P (fZ t (.pointer (some ⟨b, off, none⟩)) v) w K := by
 obtain ⟨w', h1, h2, h3, h4, _⟩ := uT (P := P) (M := fun x => x = b) rfl v.cells.toList w off 0 cs ho (by simp [hs]; omega) hv
 have : (fZ t (.pointer (some ⟨b, off, none⟩)) v).run P w = .ok .skip w' := by
  unfold fZ
  rw [KK]
  simp only [Instr.storeAt, Instr.sureAddr, storeVar, pure_bind, Sem.run_bind, gY hi, Result.andThen_ok, hs]
  simp [h1]
 unfold dQ
 rw [this]
 exact hk w' h2 h3 h4
theorem Ex {v : MB} (hv : one v = true) : v.cells = #[v] := by cases v <;> simp [one] at hv <;> rfl
theorem sD {i : TypeInfo} (hi : P.info? t = some i) (h1 : i.size = 1) {b off : Nat} {cs : List MB} (ho : iD w b cs) {v : MB} (hv : one v = true) (h : off < cs.length) {K : MB -> MA -> Prop}
 (hk : ∀ w', iD w' b (cs.set off v) -> gA w w' (fun x => x = b) -> w'.heap.size = w.heap.size -> K undef w') : dQ P (fZ t (.pointer (some ⟨b, off, none⟩)) v) w K := by
 have e := Ex hv
 refine yO hi ho (by rw [e, h1] <;> rfl) (by rw [e]; simpa using hv) (by omega) fun w' a b c => hk w' ?_ b c
 rw [e] at a; exact a
def Gn (c : Option MB) (w : MA) (HE : Result Next) : Result Next := match c with | some v => .ok (.value v) w | none => HE
def HE (P : Program) (t : TypeId) (x : Addr) (w : MA) : Result Next := (fM t (.pointer (some x))).run P w
theorem dH (v : MB) (w : MA) (f : Result Next) : Gn (some v) w f = .ok (.value v) w := rfl
theorem EN {d : TypeDesc} (hu : P.underlying t = some d) (hd : Gw d = false) (x : Addr) (w : MA) :
 (fM t (.pointer (some x))).run P w = Gn (w.cell? x) w (HE P t x w) := by
 cases h : w.cell? x with
 | none => rfl
 | some v =>
   unfold fM
   rw [kM]
   simp only [Instr.loadAt, Instr.sureAddr, loadVar, pure_bind, Sem.run_bind, AY hu, hd, Result.andThen_ok, Lh, if_false, run_load, h, Gn]
theorem Dp {d : TypeDesc} {i : TypeInfo} (hu : P.underlying t = some d) (hd : Gw d = true) (hi : P.info? t = some i) {b off : Nat} {cs : List MB} (ho : iD w b cs) (h : off + i.size <= cs.length) {K : MB -> Prop}
 (hk : K (.agg ((cs.drop off).take i.size).toArray)) : D9 P t (.pointer (some ⟨b, off, none⟩)) w K := by
 refine ⟨_, ?_, hk⟩
 simp only [asAddr, loadVar, pure_bind, Sem.run_bind, AY hu, hd, Result.andThen_ok, if_true, gY hi, Bn ho h, Sem.run_pure]
theorem Dn {v : MB} {K : MB -> MA -> Prop} (hk : ∀ w', iD w' w.heap.size v.cells.toList -> gA w w' nQ -> w'.heap.size = w.heap.size + 1 -> K (.pointer (some ⟨w.heap.size, 0, none⟩)) w') :
 dQ P (Gq t v) w K := by
 have : (Gq t v).run P w = .ok (.value (.pointer (some ⟨w.heap.size, 0, none⟩))) (w.alloc (.cells v.cells.toList.toArray t)) := by
  unfold Gq; rw [kM]
  simp [Instr.box, newVar, newRow]
 unfold dQ
 rw [this]
 exact hk _ (iD.alloc _ _ _) (gA.alloc _ _ _) (by simp)
theorem A2 {i : TypeInfo} {z : MB} (hi : P.info? t = some i) (hz : i.zero = some z) {K : MB -> MA -> Prop}
 (hk : ∀ w', iD w' w.heap.size z.cells.toList -> gA w w' nQ -> w'.heap.size = w.heap.size + 1 -> K (.pointer (some ⟨w.heap.size, 0, none⟩)) w') :
 dQ P (oS t) w K := by
 have : (oS t).run P w = .ok (.value (.pointer (some ⟨w.heap.size, 0, none⟩))) (w.alloc (.cells z.cells.toList.toArray t)) := by
  unfold oS; rw [kM]
  simp [Instr.alloc, zeroValue, typeInfo, hi, hz, newVar, newRow]
 unfold dQ
 rw [this]
 exact hk _ (iD.alloc _ _ _) (gA.alloc _ _ _) (by simp)
end
theorem kR {P : Program} {w : MA} {k : IntKind} {a : Int} {y : Nat} {code : BoundsCode} (h0 : 0 <= a) (h1 : a <= y) : (Instr.sliceBound (.int k a) y code).run P w = .ok a.toNat w := by
 simp [Instr.sliceBound, asIntOf, h0, h1]
section
variable {P : Program} {w : MA} {t e : TypeId} {k k' : IntKind} {lo hi : Int} {i : TypeInfo}
def iC (x : Option Addr) (m l sz : Nat) : Option Addr := if m = l then x else x.map (·.add (l * sz))
theorem Gv (hu : P.underlying t = some (.slice e)) (hi' : P.info? e = some i) (x : Option Addr) (n c : Nat) (h0 : 0 <= lo) (h1 : lo <= n) :
 (hJ t (.slice x n c) (some (.int k lo)) none none).run P w = .ok (.value (.slice (iC x c lo.toNat i.size) (n - lo.toNat) (c - lo.toNat))) w := by
 simp only [hJ, kM, Instr.sliceAt, underlying, hu, Sem.run_bind, run_program, Result.andThen_ok, Sem.run_pure, Instr.slice, Instr.sliceBounds, pure_bind, kR h0 h1, gY hi', iC]
theorem Gp (hu : P.underlying t = some (.slice e)) (hi' : P.info? e = some i) (x : Option Addr) (n c : Nat) (h0 : 0 <= hi) (h1 : hi <= c) :
 (hJ t (.slice x n c) none (some (.int k hi)) none).run P w = .ok (.value (.slice (iC x c 0 i.size) (hi.toNat - 0) (c - 0))) w := by
 simp only [hJ, kM, Instr.sliceAt, underlying, hu, Sem.run_bind, run_program, Result.andThen_ok, Sem.run_pure, Instr.slice, Instr.sliceBounds, pure_bind, kR h0 h1, gY hi', iC]
theorem EH (hu : P.underlying t = some (.slice e)) (hi' : P.info? e = some i) (x : Option Addr) (n c : Nat) (h0 : 0 <= lo) (h1 : lo <= hi) (h2 : hi <= c) :
 (hJ t (.slice x n c) (some (.int k lo)) (some (.int k' hi)) none).run P w = .ok (.value (.slice (iC x c lo.toNat i.size) (hi.toNat - lo.toNat) (c - lo.toNat))) w := by
 have h3 : (0 : Int) <= hi := by omega
 have h4 : lo <= (hi.toNat : Int) := by omega
 simp only [hJ, kM, Instr.sliceAt, underlying, hu, Sem.run_bind, run_program, Result.andThen_ok, Sem.run_pure, Instr.slice, Instr.sliceBounds, pure_bind, kR h3 h2, kR h0 h4, gY hi', iC]
theorem FO (hu : P.underlying t = some .string) (x : ByteArray) (h0 : 0 <= lo) (h1 : lo <= x.size) :
 (hJ t (.string x) (some (.int k lo)) none none).run P w = .ok (.value (.string (x.extract lo.toNat x.size))) w := by
 simp only [hJ, kM, Instr.sliceAt, underlying, hu, Sem.run_bind, run_program, Result.andThen_ok, Sem.run_pure, Instr.slice, Instr.sliceBounds, pure_bind, Option.isSome_none, Lh, if_false, kR h0 h1]
theorem FQ (hu : P.underlying t = some .string) (x : ByteArray) (h0 : 0 <= hi) (h1 : hi <= x.size) :
 (hJ t (.string x) none (some (.int k hi)) none).run P w = .ok (.value (.string (x.extract 0 hi.toNat))) w := by
 simp only [hJ, kM, Instr.sliceAt, underlying, hu, Sem.run_bind, run_program, Result.andThen_ok, Sem.run_pure, Instr.slice, Instr.sliceBounds, pure_bind, Option.isSome_none, Lh, if_false, kR h0 h1]
def rZ (a : Addr) (m l sz : Nat) : Addr := if m = l then a else a.add (l * sz)
theorem Fc {n : Nat} (hu : P.underlying t = some (.array n e)) (hi' : P.info? e = some i) (x : Addr) (h0 : 0 <= lo) (h1 : lo <= n) :
 (hJ t (.pointer (some x)) (some (.int k lo)) none none).run P w = .ok (.value (.slice (some (rZ x n lo.toNat i.size)) (n - lo.toNat) (n - lo.toNat))) w := by
 simp only [hJ, kM, Instr.sliceAt, Instr.sureAddr, underlying, hu, Sem.run_bind, run_program, Result.andThen_ok, Sem.run_pure, Instr.sliceBounds, pure_bind, kR h0 h1, gY hi', rZ]
theorem Fw {n : Nat} (hu : P.underlying t = some (.array n e)) (hi' : P.info? e = some i) (x : Addr) (h0 : 0 <= hi) (h1 : hi <= n) :
 (hJ t (.pointer (some x)) none (some (.int k hi)) none).run P w = .ok (.value (.slice (some (rZ x n 0 i.size)) (hi.toNat - 0) (n - 0))) w := by
 simp only [hJ, kM, Instr.sliceAt, Instr.sureAddr, underlying, hu, Sem.run_bind, run_program, Result.andThen_ok, Sem.run_pure, Instr.sliceBounds, pure_bind, kR h0 h1, gY hi', rZ]
theorem DZ {n : Nat} (hu : P.underlying t = some (.array n e)) (hi' : P.info? e = some i) (x : Addr) (h0 : 0 <= lo) (h1 : lo <= hi) (h2 : hi <= n) :
 (hJ t (.pointer (some x)) (some (.int k lo)) (some (.int k' hi)) none).run P w = .ok (.value (.slice (some (rZ x n lo.toNat i.size)) (hi.toNat - lo.toNat) (n - lo.toNat))) w := by
 have h3 : (0 : Int) <= hi := by omega
 have h4 : lo <= (hi.toNat : Int) := by omega
 simp only [hJ, kM, Instr.sliceAt, Instr.sureAddr, underlying, hu, Sem.run_bind, run_program, Result.andThen_ok, Sem.run_pure, Instr.sliceBounds, pure_bind, kR h3 h2, kR h0 h4, gY hi', rZ]
end
def Sl (w : MA) (v : MB) (l : List MB) : Prop :=
 ∃ a n c, v = .slice a n c /\ n = l.length /\ n <= c /\ (0 < n -> ∃ b off, a = some ⟨b, off, none⟩ /\ ∀ i, i < n -> w.cell? ⟨b, off + i, none⟩ = l[i]?)
def C9 (v : MB) (M : Nat -> Prop) : Prop := match v with | .slice (some a) (_ + 1) _ => M a.block | _ => False
theorem Sl.ext {w w' : MA} {v : MB} {l : List MB} {M : Nat -> Prop} (h : Sl w v l) (hx : gA w w' M) (hM : ¬ C9 v M) : Sl w' v l := by
 obtain ⟨a, n, c, rfl, hn, hc, h⟩ := h
 refine ⟨a, n, c, rfl, hn, hc, fun h0 => ?_⟩
 obtain ⟨b, off, rfl, h2⟩ := h h0
 refine ⟨b, off, rfl, fun i hi => ?_⟩
 have h1 := h2 i hi
 obtain ⟨v, hv⟩ : ∃ v, l[i]? = some v := ⟨l[i], by simp⟩
 rw [hv] at h1 ⊢
 refine IJ h1 hx ?_
 obtain ⟨m, rfl⟩ : ∃ m, n = m + 1 := ⟨n - 1, by omega⟩
 exact hM
theorem Sl.old {w : MA} {v : MB} {l : List MB} (h : Sl w v l) : ¬ C9 v (fun b => w.heap.size <= b) := by
 obtain ⟨a, n, c, rfl, hn, hc, h⟩ := h
 unfold C9
 split
 .rename_i x m _ e
  obtain ⟨rfl, rfl, rfl⟩ : a = some x /\ n = m + 1 /\ c = _ := by simpa using e
  obtain ⟨b, off, e, h2⟩ := h (by omega)
  have e := LP e; subst e
  have h1 := h2 0 (by omega)
  obtain ⟨v, hv⟩ : ∃ v, l[0]? = some v := ⟨l[0], by simp⟩
  rw [hv] at h1
  have := World.block_lt_of_cell? _ _ h1
  simp at this ⊢; omega
 .simp
def rE (x : UInt8) : MB := .int .u8 x.toNat
abbrev Bs (w : MA) (v : MB) (l : List UInt8) : Prop := Sl w v (l.map rE)
theorem tJ (b o n : Nat) : (⟨b, o, none⟩ : Addr).add n = ⟨b, o + n, none⟩ := by
 unfold Addr.add; split
 .rename_i h; subst h; rfl
 .rfl
section
variable {P : Program} {w : MA} {t e : TypeId} {k : IntKind} {a : Int}
theorem AZ {inf : TypeInfo} (hz : inf.size = 1) (hu : P.underlying t = some (.slice e)) (hi : P.info? e = some inf) (b o n c : Nat) (h0 : 0 <= a) (h1 : a < n) :
 (kP t (.slice (some ⟨b, o, none⟩) n c) (.int k a)).run P w = .ok (.value (.pointer (some ⟨b, o + a.toNat, none⟩))) w := by
 rw [Ir hu hi _ n c h0 h1, tJ, hz, L9]
theorem Hv {inf : TypeInfo} {len : Nat} (hz : inf.size = 1) (hu : P.underlying t = some (.array len e)) (hi : P.info? e = some inf) (b o : Nat) (h0 : 0 <= a) (h1 : a < (len : Int)) :
 (kP t (.pointer (some ⟨b, o, none⟩)) (.int k a)).run P w = .ok (.value (.pointer (some ⟨b, o + a.toNat, none⟩))) w := by
 rw [Ij hu hi _ h0 h1, tJ, hz, L9]
end
section
variable {P : Program} {w : MA} {s d e : TypeId}
theorem HL (hs : P.underlying s = some (.slice e)) (hd : P.underlying d = some .string) (he : P.underlying e = some (.int .u8)) {l : List UInt8} {v : MB} (h : Bs w v l) :
 (jV s d v).run P w = .ok (.value (.string ⟨l.toArray⟩)) w := by
 obtain ⟨a, n, c, rfl, hn, hc, h⟩ := h
 simp only [Lq] at hn
 unfold jV
 rw [kM]
 have key : (convert s d (.slice a n c)).run P w = .ok (.string ⟨l.toArray⟩) w := by
  cases a with
  | none =>
    have hl : l = [] := by
     cases l with
     | nil => rfl
     | cons x l => obtain ⟨b, off, e, _⟩ := h (by rw [hn]; simp); cases e
    subst hl
    rw [run_convert_bytes_string w s d e none n c hs he hd]
    rfl
  | some x =>
    subst hn
    refine run_convert_bytes_back w s d e x c l hs he hd fun j hj => ?_
    obtain ⟨b, off, hx, h2⟩ := h (by omega)
    have hx := LP hx
    subst hx
    rw [tJ, h2 j hj]
    simp [rE, hj]
 rw [key] <;> rfl
end
theorem Gb (l : List UInt8) : ∀ x ∈ l.map rE, one x = true := by
 intro x hx
 obtain ⟨c, _, rfl⟩ := List.mem_map.1 hx
 rfl
theorem Hc {b o m l sz : Nat} (h : l ≠ m) : rZ ⟨b, o, none⟩ m l sz = ⟨b, o + l * sz, none⟩ := by
 unfold rZ; rw [if_neg (fun e => h e.symm), tJ]
theorem Bu {b o m l : Nat} (h : l ≠ m) : rZ ⟨b, o, none⟩ m l 1 = ⟨b, o + l, none⟩ := by rw [Hc h, L9]
theorem Sl.drop {w : MA} {b o n c : Nat} {l : List MB} (h : Sl w (.slice (some ⟨b, o, none⟩) n c) l) {k : Nat} (hk : k <= n) :
 Sl w (.slice (iC (some ⟨b, o, none⟩) c k 1) (n - k) (c - k)) (l.drop k) := by
 obtain ⟨x, m, c', e, hm, hc, hh⟩ := h
 cases e
 refine ⟨_, _, _, rfl, by rw [Lv]; omega, by omega, fun h0 => ?_⟩
 obtain ⟨b', o', e, h2⟩ := hh (by omega)
 cases e
 have hne : ¬ c = k := by omega
 refine ⟨b, o + k, by unfold iC; rw [if_neg hne, LH, tJ, L9], fun i hi => ?_⟩
 rw [Mn, h2 (k + i) (by omega), List.getElem?_drop]
theorem Sl.take {w : MA} {b o n c : Nat} {l : List MB} (h : Sl w (.slice (some ⟨b, o, none⟩) n c) l) {k : Nat} (hk : k <= n) :
 Sl w (.slice (iC (some ⟨b, o, none⟩) c 0 1) (k - 0) (c - 0)) (l.take k) := by
 obtain ⟨x, m, c', e, hm, hc, hh⟩ := h
 cases e
 refine ⟨_, _, _, rfl, by rw [Lt]; omega, by omega, fun h0 => ?_⟩
 obtain ⟨b', o', e, h2⟩ := hh (by omega)
 cases e
 have hne : ¬ c = 0 := by omega
 refine ⟨b, o, by unfold iC; rw [if_neg hne, LH, tJ] <;> rfl, fun i hi => ?_⟩
 rw [h2 i (by omega), Mc (by omega)]
theorem Hx {b o n c k : Nat} {M : Nat -> Prop} (h : ¬ C9 (.slice (some ⟨b, o, none⟩) n c) M) (hn : 0 < n) (m : Nat) : ¬ C9 (.slice (iC (some ⟨b, o, none⟩) c k 1) m (c - k)) M := by
 have hb : ¬ M b := by
  obtain ⟨n', rfl⟩ : ∃ n', n = n' + 1 := ⟨n - 1, by omega⟩
  exact h
 unfold C9 iC
 split
 .rename_i x q _ e
  simp only [Value.slice.injEq] at e
  obtain ⟨e, _, _⟩ := e
  split at e
  .cases e; exact hb
  .rw [LH, tJ] at e; cases e; exact hb
 .simp
theorem iD.bs {w : MA} {b off c : Nat} {cs : List MB} {l : List UInt8} (h : iD w b cs) (hc : l.length <= c) (hl : ∀ i (hi : i < l.length), cs[off + i]? = some (rE l[i])) : Bs w (.slice (some ⟨b, off, none⟩) l.length c) l :=
 ⟨_, _, _, rfl, by simp, hc, fun _ => ⟨b, off, rfl, fun i hi => by rw [h.cell, hl i hi]; simp [hi]⟩⟩
section
variable {P : Program} {w : MA} {t e : TypeId} {k : IntKind} {a : Int}
theorem JP {len : Nat} {d : TypeDesc} {i : TypeInfo} (hu : P.underlying t = some (.array len e)) (hd : P.underlying e = some d) (ha : Gw d = false) (hi : P.info? e = some i) (h1 : i.size = 1)
 (cs : Array MB) (h0 : 0 <= a) (hl : a < (len : Int)) {v : MB} (hv : cs[a.toNat]? = some v) : (CH t (.agg cs) (.int k a)).run P w = .ok (.value v) w := by
 unfold CH
 rw [kM]
 simp only [Instr.index, asIntOf, pure_bind, underlying, hu, Sem.run_bind, run_program, Result.andThen_ok, Sem.run_pure, h0, hl, and_self, if_true, gY hi, h1, L9, part, AY hd, ha, Lh, if_false, hv]
def J0 (P : Program) (t : TypeId) (cs : Array MB) (k : IntKind) (a : Int) (w : MA) : Result Next := (CH t (.agg cs) (.int k a)).run P w
theorem II {len : Nat} {d : TypeDesc} {i : TypeInfo} (hu : P.underlying t = some (.array len e)) (hd : P.underlying e = some d) (ha : Gw d = false) (hi : P.info? e = some i) (h1 : i.size = 1)
 (cs : Array MB) (h0 : 0 <= a) (hl : a < (len : Int)) : (CH t (.agg cs) (.int k a)).run P w = Gn cs[a.toNat]? w (J0 P t cs k a w) := by
 cases hv : cs[a.toNat]? with
 | none => rfl
 | some v => exact JP hu hd ha hi h1 cs h0 hl hv
theorem BZ {b off : Nat} {l : List MB} (h : ∀ i, i < l.length -> w.cell? ⟨b, off + i, none⟩ = l[i]?) (n : Nat) (hn : n <= l.length) :
 (loadCells ⟨b, off, none⟩ n).run P w = .ok (l.take n).toArray w := by
 have key : ∀ (m i : Nat) (acc : Array MB), i + m <= l.length -> (loadCellsFrom ⟨b, off, none⟩ i m acc).run P w = .ok (acc ++ ((l.drop i).take m).toArray) w := by
  intro m
  induction m with
  | zero => intro i acc _; simp [loadCellsFrom]
  | succ m ih =>
    intro i acc hm
    have hc := h i (by omega)
    rw [Lr (by omega)] at hc
    simp only [loadCellsFrom, Sem.run_bind, run_load, tJ, hc, Result.andThen_ok]
    rw [ih (i + 1) _ (by omega), Mq (by omega : i < l.length), Lz]
    simp
 unfold loadCells
 rw [key n 0 #[] (by omega)]
 simp
theorem D0 {sz n : Nat} {v : MB} {l : List MB} (h1 : sz = 1) (h : Sl w v l) (hn : n <= l.length) : (Builtin.firstCells sz n v).run P w = .ok (l.take n).toArray w := by
 subst h1
 obtain ⟨x, m, c, rfl, hm, hc, hh⟩ := h
 cases x with
 | none =>
   have : l = [] := by
    cases l with
    | nil => rfl
    | cons y l => obtain ⟨b, off, e, _⟩ := hh (by rw [hm]; simp); cases e
   subst this
   simp [Builtin.firstCells]
 | some x =>
   simp only [Builtin.firstCells, L9]
   by_cases h0 : 0 < m
   .obtain ⟨b, off, e, h2⟩ := hh h0
    have e := LP e; subst e
    exact BZ (fun i hi => h2 i (by omega)) n hn
   .have h00 : n = 0 := by omega
    subst h00
    simp [loadCells, loadCellsFrom]
theorem J1 {v : MB} {l : List MB} (h : Sl w v l) : (Builtin.lenOf v).run P w = .ok l.length w := by
 obtain ⟨x, m, c, rfl, hm, hc, hh⟩ := h
 simp [Builtin.lenOf, hm]
theorem HQ {ty t2 : TypeId} {i : TypeInfo} (hu : P.underlying t = some (.slice e)) (hi : P.info? e = some i) (h1 : i.size = 1) {b off dl c : Nat} {cs : List MB} (ho : iD w b cs) (hl : off + dl <= cs.length)
 {v : MB} {l : List MB} (h : Sl w v l) (hv : ∀ x ∈ l, one x = true) {K : MB -> MA -> Prop}
 (hk : ∀ w', iD w' b (gD cs off (l.take (min l.length dl))) -> gA w w' (fun x => x = b) -> w'.heap.size = w.heap.size -> K (.int .i64 (min l.length dl : Nat)) w') :
 dQ P (nR .copy #[t, t2] ty [.slice (some ⟨b, off, none⟩) dl c, v]) w K := by
 have hlen : (l.take (min l.length dl)).length = min l.length dl := by rw [Lt]; omega
 obtain ⟨w', s1, s2, s3, s4, _⟩ := uT (P := P) (M := fun x => x = b) rfl (l.take (min l.length dl)) w off 0 cs ho (by rw [hlen]; omega) (fun x hx => hv x (List.mem_of_mem_take hx))
 have : (nR .copy #[t, t2] ty [.slice (some ⟨b, off, none⟩) dl c, v]).run P w = .ok (.value (.int .i64 (min l.length dl : Nat))) w' := by
  unfold nR builtin
  simp only [Builtin.copy_, Mb, Lf, Lg]
  simp only [underlying, Sem.run_bind, run_program, Result.andThen_ok, hu, Sem.run_pure, J1 h, gY hi, h1]
  have := D0 (P := P) (n := min l.length dl) rfl h (Nat.min_le_left _ _)
  rw [show (Nat.min l.length dl) = min l.length dl from rfl, this]
  simp only [Result.andThen_ok, s1, goInt]
 unfold dQ
 rw [this]
 exact hk w' (by simpa using s2) s3 s4
theorem Iz {i : TypeInfo} {z : MB} (hu : P.underlying t = some (.slice e)) (hi : P.info? e = some i) (h1 : i.size = 1) (hz : i.zero = some z) (hz1 : one z = true) {n : Int} (h0 : 0 <= n) (hn : i.bytes * n <= 2 ^ 48) (hn2 : n <= 9223372036854775807)
 {K : MB -> MA -> Prop}
 (hk : ∀ w', iD w' w.heap.size (List.replicate n.toNat z) -> gA w w' nQ -> w'.heap.size = w.heap.size + 1 -> K (.slice (some ⟨w.heap.size, 0, none⟩) n.toNat n.toNat) w') :
 dQ P (AP t (.int k n) (.int k n)) w K := by
 have hw : IntKind.i64.wrap n = n := dY (by omega) hn2
 have hcells : z.cells = #[z] := Ex hz1
 have harr : (Array.range n.toNat).map (fun j => (#[z] : Array MB)[j % (#[z] : Array MB).size]!) = (List.replicate n.toNat z).toArray := by
  apply Array.ext
  .simp
  .intro j h1 h2; simp [Nat.mod_one]
 have hz' : (zeroValue e).run P w = .ok z w := by simp [zeroValue, typeInfo, hi, hz]
 have : (AP t (.int k n) (.int k n)).run P w = .ok (.value (.slice (some ⟨w.heap.size, 0, none⟩) n.toNat n.toNat)) (w.alloc (.cells (List.replicate n.toNat z).toArray e)) := by
  unfold AP
  rw [kM]
  have t1 : (decide (n < 0) || decide ((i.bytes : Int) * n > 2 ^ 48) || decide (n < 0) || decide (n > n)) = false := by
   simp only [Mk, decide_eq_false_iff_not]; omega
  by_cases hn0 : n.toNat = 0
  .simp only [Instr.makeSlice, underlying, typeInfo, asInt, asIntOf, pure_bind, Sem.run_bind, run_program, Result.andThen_ok, hu, hi, Sem.run_pure, hw, t1, Lh, if_false, run_askRoom, gY hi, h1, L9, hn0, if_true, newRow, run_newObj]
   have : (Array.range 0).map (fun x => (#[] : Array MB)[x % (#[] : Array MB).size]!) = (List.replicate 0 z).toArray := by simp
   rw [this]
   rfl
  .simp only [Instr.makeSlice, underlying, typeInfo, asInt, asIntOf, pure_bind, Sem.run_bind, run_program, Result.andThen_ok, hu, hi, Sem.run_pure, hw, t1, Lh, if_false, run_askRoom, gY hi, h1, L9, hn0, hz', hcells, newRow, run_newObj, harr]
   rfl
 unfold dQ
 rw [this]
 exact hk _ (iD.alloc _ _ _) (gA.alloc _ _ _) (by simp)
end
def Cl (w : MA) (sz : Nat) (v : MB) (n : Nat) (l : List MB) : Prop :=
 ∃ a c, v = .slice a n c /\ l.length = n * sz /\ (0 < n -> ∃ b off, a = some ⟨b, off, none⟩ /\ ∀ i, i < l.length -> w.cell? ⟨b, off + i, none⟩ = l[i]?)
def CW (w : MA) (base sz : Nat) (v : MB) (n : Nat) (l : List MB) : Prop :=
 l.length = n * sz /\ ((v = .slice none 0 0 /\ n = 0) ∨
   ∃ b c rest, v = .slice (some ⟨b, 0, none⟩) n c /\ base <= b /\ iD w b (l ++ rest) /\ (l ++ rest).length = c * sz /\ n <= c)
def vV (w : MA) (S : Nat -> Prop) (sz : Nat) (v : MB) (n : Nat) (l : List MB) : Prop :=
 l.length = n * sz /\ ((v = .slice none 0 0 /\ n = 0) ∨
   ∃ b c rest, v = .slice (some ⟨b, 0, none⟩) n c /\ S b /\ iD w b (l ++ rest) /\ (l ++ rest).length = c * sz /\ n <= c)
theorem Sl.cl {w : MA} {v : MB} {l : List MB} (h : Sl w v l) : Cl w 1 v l.length l := by
 obtain ⟨a, n, c, rfl, rfl, hc, h⟩ := h
 exact ⟨a, c, rfl, by omega, fun h0 => h h0⟩
theorem iD.cl {w : MA} {b sz n c off : Nat} {cs l : List MB} (h : iD w b cs) (hl : l.length = n * sz) (hcs : ∀ i, i < l.length -> cs[off + i]? = l[i]?) : Cl w sz (.slice (some ⟨b, off, none⟩) n c) n l :=
 ⟨_, _, rfl, hl, fun _ => ⟨b, off, rfl, fun i hi => by rw [h.cell, hcs i hi]⟩⟩
theorem CW.nil (w : MA) (base sz : Nat) : CW w base sz (.slice none 0 0) 0 [] := ⟨by simp, .inl ⟨rfl, rfl⟩⟩
theorem CW.ext {w w' : MA} {base sz n : Nat} {v : MB} {l : List MB} {M : Nat -> Prop} (h : CW w base sz v n l) (hx : gA w w' M) (hM : ∀ b, base <= b -> ¬ M b) : CW w' base sz v n l := by
 refine ⟨h.1, ?_⟩
 rcases h.2 with h2 | ⟨b, c, rest, h1, h2, h3, h4, h5⟩
 .exact .inl h2
 .exact .inr ⟨b, c, rest, h1, h2, h3.ext hx (hM b h2), h4, h5⟩
theorem CW.cl {w : MA} {base sz n : Nat} {v : MB} {l : List MB} (h : CW w base sz v n l) : Cl w sz v n l := by
 rcases h.2 with ⟨rfl, rfl⟩ | ⟨b, c, rest, rfl, h2, h3, h4, h5⟩
 .exact ⟨_, _, rfl, h.1, fun h => by omega⟩
 .refine ⟨_, _, rfl, h.1, fun _ => ⟨b, 0, rfl, fun i hi => ?_⟩⟩
  rw [h3.cell, Ln, LJ hi]
theorem CW.sl {w : MA} {base n : Nat} {v : MB} {l : List MB} (h : CW w base 1 v n l) : Sl w v l := by
 have hl := h.1
 rcases h.2 with ⟨rfl, rfl⟩ | ⟨b, c, rest, rfl, h2, h3, h4, h5⟩
 .exact ⟨_, _, _, rfl, by omega, by omega, fun h => by omega⟩
 .refine ⟨_, _, _, rfl, by omega, h5, fun _ => ⟨b, 0, rfl, fun i hi => ?_⟩⟩
  rw [h3.cell, Ln, LJ (by omega)]
section
variable {P : Program} {w : MA} {t e : TypeId}
theorem EE {b off : Nat} {l : List MB} (h : ∀ i, i < l.length -> w.cell? ⟨b, off + i, none⟩ = l[i]?) : (loadCells ⟨b, off, none⟩ l.length).run P w = .ok l.toArray w := by
 have := BZ (P := P) h l.length (LB _)
 rwa [List.take_length] at this
theorem sJ {sz n : Nat} {v : MB} {l : List MB} (h : Cl w sz v n l) : (Builtin.firstCells sz n v).run P w = .ok l.toArray w := by
 obtain ⟨x, c, rfl, hl, hh⟩ := h
 cases x with
 | none =>
   have : n = 0 := by
    rcases Nat.eq_zero_or_pos n with h | h
    .exact h
    .obtain ⟨b, off, e, _⟩ := hh h; cases e
   subst this
   have : l = [] := L7.1 (by omega)
   subst this
   simp [Builtin.firstCells]
 | some x =>
   simp only [Builtin.firstCells]
   rw [<- hl]
   by_cases h0 : 0 < n
   .obtain ⟨b, off, e, h2⟩ := hh h0
    have e := LP e; subst e
    exact EE h2
   .have : n = 0 := by omega
    subst this
    have : l = [] := L7.1 (by omega)
    subst this
    simp [loadCells, loadCellsFrom]
theorem yN (zs : Array MB) (n : Nat) : (Builtin.zeroCells zs n).size = n * zs.size := by simp [Builtin.zeroCells]
theorem DY (vs : List MB) : ∀ (Le rest : List MB), vs.length <= rest.length -> gD (Le ++ rest) Le.length vs = Le ++ vs ++ rest.drop vs.length := by
 induction vs with
 | nil => intro Le rest _; simp [gD]
 | cons v vs ih =>
   intro Le rest h
   cases rest with
   | nil => simp at h
   | cons r rest =>
     have := ih (Le ++ [v]) rest (by simpa using h)
     simp only [gD, Lw, LA, List.length_nil, L3, Md, Ms] at this ⊢
     rw [List.drop_succ_cons, <- this, LO _ _ (LB _), Nat.sub_self, Ls, Ln]
theorem Fp {S : Nat -> Prop} {sz n m : Nat} {i : TypeInfo} {z : MB} {ty t2 e2 : TypeId} (hu : P.underlying t = some (.slice e)) (hu2 : P.underlying t2 = some (.slice e2)) (hi : P.info? e = some i) (hsz : i.size = sz) (hz : i.zero = some z) (hzs : z.cells.size = sz)
 {v x : MB} {l news : List MB} (h : vV w S sz v n l) (hx : Cl w sz x m news) (hone : ∀ y ∈ news, one y = true) (hb : ∀ b, w.heap.size <= b -> S b)
 (hn : n + m <= 9223372036854775807) (hbytes : (n + m) * i.bytes <= 140737488355328) (_hpos : i.bytes ≠ 0)
 {K : MB -> MA -> Prop} (hk : ∀ v' w', vV w' S sz v' (n + m) (l ++ news) -> gA w w' S -> Cl w' sz v n l -> K v' w') : dQ P (nR .append #[t, t2] ty [v, x]) w K := by
 have hlx : (Builtin.lenOf x).run P w = .ok m w := by
  obtain ⟨a, c, rfl, _⟩ := hx; simp [Builtin.lenOf]
 have hnl := hx.choose_spec.choose_spec.2.1
 have hfx := sJ (P := P) hx
 have hmax : IntKind.i64.max = 9223372036854775807 := by decide
 have hnot : ¬ (((n + m : Nat) : Int) > IntKind.i64.max /\ (False ∨ i.bytes = 0)) := by rw [hmax]; omega
 have hz' : ∀ w, (zeroValue e).run P w = .ok z w := fun w => by simp [zeroValue, typeInfo, hi, hz]
 have hlen := h.1
 rcases h.2 with ⟨rfl, rfl⟩ | ⟨b, c, rest, rfl, h2, h3, h4, h5⟩
 .
  have hl0 : l = [] := L7.1 (by omega)
  subst hl0
  by_cases hm : m = 0
  .subst hm
   have hn0 : news = [] := L7.1 (by omega)
   subst hn0
   have : (nR .append #[t, t2] ty [.slice none 0 0, x]).run P w = .ok (.value (.slice none 0 0)) w := by
    unfold nR builtin
    simp only [Builtin.append_, Mb, Lf, Lg]
    simp only [underlying, Sem.run_bind, run_program, Result.andThen_ok, hu, hu2, Sem.run_pure, gY hi, hsz, Lh, if_false, hlx, LB, Nat.add_zero, if_true, Ll, hfx]
   unfold dQ
   rw [this]
   exact hk _ _ ⟨by simp, .inl ⟨rfl, by omega⟩⟩ (gA.refl _ _) ⟨none, 0, rfl, hlen, fun h => absurd h (by omega)⟩
  .have hfit := growslice_fits (need := 0 + m) (old := 0) (bytes := i.bytes) (by omega) (by omega)
   have hfit' : ¬ (Builtin.nextslicecap (0 + m) 0 * i.bytes > 2 ^ 48) := by omega
   have hle : ¬ (0 + m <= 0) := by omega
   have hq : (Question.appendCap (0 + m) 0 e).forced = false := rfl
   obtain ⟨r, hr⟩ : ∃ r, (Question.appendCap (0 + m) 0 e).cut (w.tape w.drawn (.appendCap (0 + m) 0 e)) = m + r :=
    ⟨(w.tape w.drawn (.appendCap (0 + m) 0 e)) % (2 ^ 63 - (0 + m)), by simp only [Question.cut]; omega⟩
   have : (nR .append #[t, t2] ty [.slice none 0 0, x]).run P w = .ok (.value (.slice (some ⟨w.heap.size, 0, none⟩) (0 + m) (m + r))) ((dr w).alloc (.cells (news ++ (Builtin.zeroCells z.cells (m + r - (0 + m))).toList).toArray e)) := by
    have hfx' := sJ (P := P) (w := dr w) hx
    unfold nR builtin
    simp only [Builtin.append_, Mb, Lf, Lg]
    simp only [underlying, typeInfo, Sem.run_bind, run_program, Result.andThen_ok, hu, hu2, hi, Sem.run_pure, gY hi, hsz, Lh, if_false, hlx, hle, Ll, if_true, hnot, hfit', run_choose, hq, hr, run_askRoom]
    change ((Sem.run P _ (dr w)).andThen _).andThen _ = _
    simp only [Sem.run_bind, hfx', run_firstCells_none, Result.andThen_ok, hz', Sem.run_pure, newRow, run_newObj]
    have e1 : (#[] ++ news.toArray ++ Builtin.zeroCells z.cells (m + r - (0 + m)) : Array MB) = (news ++ (Builtin.zeroCells z.cells (m + r - (0 + m))).toList).toArray := by
     apply Array.ext'; simp
    rw [e1]
    rfl
   unfold dQ
   rw [this]
   refine hk _ _ ⟨by simp only [Ms]; rw [hnl, Ln], .inr ⟨w.heap.size, m + r, (Builtin.zeroCells z.cells (m + r - (0 + m))).toList, by rw [Ln], hb _ (LB _), iD.alloc (dr w) _ _, ?_, by omega⟩⟩ ((gA.dr w _).seq (gA.alloc _ _ _)) ⟨none, 0, rfl, hlen, fun h => absurd h (by omega)⟩
   simp only [Ms, Lw, Array.length_toList, yN, hzs, hnl]
   rw [show m + r - (0 + m) = r from by omega, Mo]
 .by_cases hc : n + m <= c
  .
   have hroom : news.length <= rest.length := by
    rw [Lw, hlen] at h4
    have : (n + m) * sz <= c * sz := Nat.mul_le_mul_right _ hc
    rw [Mo] at this; omega
   obtain ⟨w', s1, s2, s3, s4, _⟩ := uT (P := P) (M := S) h2 news w (n * sz) 0 (l ++ rest) h3 (by rw [Lw, hlen]; omega) hone
   have : (nR .append #[t, t2] ty [.slice (some ⟨b, 0, none⟩) n c, x]).run P w = .ok (.value (.slice (some ⟨b, 0, none⟩) (n + m) c)) w' := by
    unfold nR builtin
    simp only [Builtin.append_, Mb, Lf, Lg]
    simp only [underlying, Sem.run_bind, run_program, Result.andThen_ok, hu, hu2, Sem.run_pure, gY hi, hsz, Lh, if_false, hlx, hc, if_true, Ll, hfx, tJ, Ln, s1]
   unfold dQ
   rw [this]
   rw [Nat.add_zero, <- hlen, DY _ _ _ hroom] at s2
   refine hk _ _ ⟨by rw [Lw, hlen, hnl, Mo], .inr ⟨b, c, rest.drop news.length, rfl, h2, s2, ?_, hc⟩⟩ s3 ⟨_, _, rfl, hlen, fun _ => ⟨b, 0, rfl, fun i hi => by
    rw [s2.cell, Ln, L3, LJ hi]⟩⟩
   rw [<- h4]; simp; omega
  .
   have hfit := growslice_fits (need := n + m) (old := c) (bytes := i.bytes) (by omega) hbytes
   have hfit' : ¬ (Builtin.nextslicecap (n + m) c * i.bytes > 2 ^ 48) := by omega
   have hq : (Question.appendCap (n + m) c e).forced = false := rfl
   obtain ⟨r, hr⟩ : ∃ r, (Question.appendCap (n + m) c e).cut (w.tape w.drawn (.appendCap (n + m) c e)) = n + m + r :=
    ⟨(w.tape w.drawn (.appendCap (n + m) c e)) % (2 ^ 63 - (n + m)), by simp only [Question.cut]⟩
   have hold : Cl (dr w) sz (.slice (some ⟨b, 0, none⟩) n c) n l := ⟨_, _, rfl, hlen, fun _ => ⟨b, 0, rfl, fun i hi => by
    show w.cell? _ = _
    rw [h3.cell, Ln, LJ hi]⟩⟩
   have : (nR .append #[t, t2] ty [.slice (some ⟨b, 0, none⟩) n c, x]).run P w = .ok (.value (.slice (some ⟨w.heap.size, 0, none⟩) (n + m) (n + m + r))) ((dr w).alloc (.cells (l ++ news ++ (Builtin.zeroCells z.cells (n + m + r - (n + m))).toList).toArray e)) := by
    have hfx' := sJ (P := P) (w := dr w) hx
    have hfo := sJ (P := P) hold
    unfold nR builtin
    simp only [Builtin.append_, Mb, Lf, Lg]
    simp only [underlying, typeInfo, Sem.run_bind, run_program, Result.andThen_ok, hu, hu2, hi, Sem.run_pure, gY hi, hsz, Lh, if_false, hlx, hc, Ll, if_true, hnot, hfit', run_choose, hq, hr, run_askRoom]
    change ((Sem.run P _ (dr w)).andThen _).andThen _ = _
    simp only [Sem.run_bind, hfx', hfo, Result.andThen_ok, hz', Sem.run_pure, newRow, run_newObj]
    have e1 : (l.toArray ++ news.toArray ++ Builtin.zeroCells z.cells (n + m + r - (n + m)) : Array MB) = (l ++ news ++ (Builtin.zeroCells z.cells (n + m + r - (n + m))).toList).toArray := by
     apply Array.ext'; simp
    rw [e1]
    rfl
   unfold dQ
   rw [this]
   refine hk _ _ ⟨by rw [Lw, hlen, hnl, Mo], .inr ⟨w.heap.size, n + m + r, _, rfl, hb _ (LB _), iD.alloc (dr w) _ _, ?_, by omega⟩⟩ ((gA.dr w _).seq (gA.alloc _ _ _)) ⟨_, _, rfl, hlen, fun _ => ⟨b, 0, rfl, fun i hi => by
    have o9 := h3.ext ((gA.dr w nQ).seq (gA.alloc (dr w) (.cells (l ++ news ++ (Builtin.zeroCells z.cells (n + m + r - (n + m))).toList).toArray e) nQ)) (fun h => h)
    rw [o9.cell, Ln, LJ hi]⟩⟩
   simp only [Lw, Array.length_toList, yN, hzs, hnl, hlen]
   rw [show n + m + r - (n + m) = r from by omega, Mo, Mo]
theorem AR {S : Nat -> Prop} {sz n m : Nat} {i : TypeInfo} {z : MB} {ty t2 e2 : TypeId} (hu : P.underlying t = some (.slice e)) (hu2 : P.underlying t2 = some (.slice e2)) (hi : P.info? e = some i) (hsz : i.size = sz) (hz : i.zero = some z) (hzs : z.cells.size = sz)
 {v x : MB} {l news : List MB} (h : vV w S sz v n l) (hx : Cl w sz x m news) (hone : ∀ y ∈ news, one y = true) (hb : ∀ b, w.heap.size <= b -> S b)
 (hn : n + m <= 9223372036854775807) (hbytes : (n + m) * i.bytes <= 140737488355328) (_hpos : i.bytes ≠ 0)
 {K : MB -> MA -> Prop} (hk : ∀ v' w', vV w' S sz v' (n + m) (l ++ news) -> gA w w' S -> K v' w') : dQ P (nR .append #[t, t2] ty [v, x]) w K :=
 Fp hu hu2 hi hsz hz hzs h hx hone hb hn hbytes _hpos fun v' w' a b _ => hk v' w' a b
theorem Gm {base sz n m : Nat} {i : TypeInfo} {z : MB} {ty t2 e2 : TypeId} (hu : P.underlying t = some (.slice e)) (hu2 : P.underlying t2 = some (.slice e2)) (hi : P.info? e = some i) (hsz : i.size = sz) (hz : i.zero = some z) (hzs : z.cells.size = sz)
 {v x : MB} {l news : List MB} (h : CW w base sz v n l) (hx : Cl w sz x m news) (hone : ∀ y ∈ news, one y = true) (hb : base <= w.heap.size)
 (hn : n + m <= 9223372036854775807) (hbytes : (n + m) * i.bytes <= 140737488355328) (_hpos : i.bytes ≠ 0)
 {K : MB -> MA -> Prop} (hk : ∀ v' w', CW w' base sz v' (n + m) (l ++ news) -> gA w w' (fun y => base <= y) -> K v' w') : dQ P (nR .append #[t, t2] ty [v, x]) w K :=
 AR (S := fun y => base <= y) hu hu2 hi hsz hz hzs h hx hone (fun _ h => Nat.le_trans hb h) hn hbytes _hpos hk
end
section
variable {P : Program} {w : MA} {t e : TypeId}
theorem DE {i : TypeInfo} {z : MB} {n : Nat} {ps : List (Nat × MB)} {cells : Array MB} (hu : P.underlying t = some (.slice e)) (hi : P.info? e = some i) (hz : i.zero = some z)
 (h1 : ¬ n * i.size > 2 ^ 24) (h0 : ¬ n * i.size = 0) (hf : Instr.fill (fun j => some (j * i.size, i.size)) ((Array.range (n * i.size)).map (z.cells[· % z.cells.size]!)) ps = some cells)
 {K : MB -> MA -> Prop} (hk : ∀ w', iD w' w.heap.size cells.toList -> gA w w' nQ -> w'.heap.size = w.heap.size + 1 -> K (.slice (some ⟨w.heap.size, 0, none⟩) n n) w') :
 dQ P (hZ t n ps) w K := by
 have hz' : (zeroValue e).run P w = .ok z w := by simp [zeroValue, typeInfo, hi, hz]
 have : (hZ t n ps).run P w = .ok (.value (.slice (some ⟨w.heap.size, 0, none⟩) n n)) (w.alloc (.cells cells.toList.toArray e)) := by
  unfold hZ; rw [kM]
  simp only [Instr.buildSlice, underlying, pure_bind, Sem.run_bind, run_program, Result.andThen_ok, hu, Sem.run_pure, gY hi, h1, h0, if_false, hz', hf, newRow, run_newObj]
  rfl
 unfold dQ
 rw [this]
 exact hk _ (iD.alloc _ _ _) (gA.alloc _ _ _) (by simp)
theorem iD.mark {b : Nat} {cs : List MB} (h : iD w b cs) : iD (w.freeze ⟨b, cs.length, none⟩ 1) b cs := by
 have hb := h.lt
 obtain ⟨T, lo, hi, h, k⟩ := h
 by_cases hlh : (lo == hi) = true
 .refine ⟨T, cs.length, cs.length + 1, ?_, .inl (LB _)⟩
  show (w.heap.modify b _)[b]? = _
  rw [Mj, if_pos rfl, h]
  have hlh : lo = hi := by simpa using hlh
  simp [hlh]
 .refine ⟨T, min lo cs.length, max hi (cs.length + 1), ?_, .inl ?_⟩
  .show (w.heap.modify b _)[b]? = _
   rw [Mj, if_pos rfl, h]
   have hlh : ¬ lo = hi := by simpa using hlh
   simp [hlh]
  .rcases k with k | k
   .omega
   .exfalso; apply hlh; rw [k]; simp
theorem gA.mark (w : MA) (a : Addr) : gA w (w.freeze a 1) (fun y => y = a.block) :=
 ⟨rfl, rfl, rfl, by show _ <= (w.heap.modify _ _).size; simp, fun b hb hn => by
  show (w.heap.modify a.block _)[b]? = _
  rw [Mj]
  rw [if_neg (fun h => hn h.symm)]⟩
theorem I6 (hu : P.underlying t = some (.slice e)) (he : P.underlying e = some (.int .u8)) {b off n c : Nat} {cs : List MB} (ho : iD w b cs)
 {K : MB -> MA -> Prop} (hk : ∀ w', iD w' b cs -> gA w w' (fun y => y = b) -> w'.heap.size = w.heap.size -> K (.slice (some ⟨b, off, none⟩) n c) w') :
 dQ P (jV t t (.slice (some ⟨b, off, none⟩) n c)) w K := by
 obtain ⟨T, hs⟩ : ∃ T, w.shape? b = some (T, cs.length) := by
  obtain ⟨T, lo, hi, h, _⟩ := ho
  exact ⟨T, by unfold World.shape?; rw [h]; simp⟩
 have : (jV t t (.slice (some ⟨b, off, none⟩) n c)).run P w = .ok (.value (.slice (some ⟨b, off, none⟩) n c)) (w.freeze ⟨b, cs.length, none⟩ 1) := by
  unfold jV; rw [kM]
  simp [convert, underlying, hu, he, markStringish, shape, freeze, Sem.run, hs]
 unfold dQ
 rw [this]
 exact hk _ ho.mark (gA.mark w _) (by show (w.heap.modify _ _).size = _; simp)
end
section
variable {P : Program} {w : MA} {t e : TypeId}
def Grown (es : Array MapEntry) (clock : Nat) : Prop := (es.toList.map (·.born)).Pairwise (· < ·) /\ ∀ e ∈ es.toList, e.born < clock
def Mp {κ : Type} (w : MA) (m : Nat) (enc : κ -> MB) (l : List (κ × MB)) : Prop :=
 ∃ es clock, w.heap[m]? = some (.map es clock) /\ es.toList.map (fun e => (e.key, e.val)) = l.map (fun p => (enc p.1, p.2)) /\ Grown es clock /\ (l.map (·.1)).Nodup
theorem Mp.lt {κ : Type} {m : Nat} {enc : κ -> MB} {l : List (κ × MB)} (h : Mp w m enc l) : m < w.heap.size := by
 obtain ⟨es, c, h, _⟩ := h
 rcases Mf m w.heap.size with h' | h'
 .exact h'
 .rw [Mu h'] at h; cases h
theorem Mp.ext {κ : Type} {w w' : MA} {m : Nat} {enc : κ -> MB} {l : List (κ × MB)} {M : Nat -> Prop} (h : Mp w m enc l) (hx : gA w w' M) (hM : ¬ M m) : Mp w' m enc l := by
 have := h.lt
 obtain ⟨es, c, h, k⟩ := h
 exact ⟨es, c, by rw [hx.keep m this hM]; exact h, k⟩
theorem Mp.dr {κ : Type} {w : MA} {m : Nat} {enc : κ -> MB} {l : List (κ × MB)} (h : Mp w m enc l) : Mp (dr w) m enc l := h
variable {κ : Type} [DecidableEq κ] {enc : κ -> MB}
end
theorem iQ {w : MA} {b : Nat} {cs : List MB} (h : iD w b cs) : iD (dr w) b cs := h.ext (gA.dr w nQ) (fun h => h)
theorem Sl.dr {w : MA} {v : MB} {l : List MB} (h : Sl w v l) : Sl (dr w) v l := h
theorem Sl.open {w : MA} {v : MB} {l : List UInt8} (h : Bs w v l) (h0 : 0 < l.length) : ∃ b off c, v = .slice (some ⟨b, off, none⟩) l.length c /\ l.length <= c /\ ∀ i, (h : i < l.length) -> w.cell? ⟨b, off + i, none⟩ = some (rE l[i]) := by
 obtain ⟨a, n, c, rfl, hn, hc, h⟩ := h
 simp only [Lq] at hn
 subst hn
 obtain ⟨b, off, rfl, hh⟩ := h h0
 exact ⟨b, off, c, rfl, hc, fun i hi => by rw [hh i hi]; simp [hi]⟩
theorem Sl.len {w : MA} {v : MB} {l : List MB} (h : Sl w v l) : ∃ a c, v = .slice a l.length c /\ l.length <= c := by
 obtain ⟨a, n, c, rfl, rfl, hc, _⟩ := h
 exact ⟨a, c, rfl, hc⟩
theorem jX (v : MB) : ¬ C9 v nQ := by unfold C9 nQ; split <;> simp
theorem DU {b o m l : Nat} (h : l ≠ m) : iC (some ⟨b, o, none⟩) m l 1 = some ⟨b, o + l, none⟩ := by
 unfold iC; rw [if_neg (fun e => h e.symm)]; simp [tJ]
theorem CW.len {w : MA} {b sz n : Nat} {v : MB} {l : List MB} (h : CW w b sz v n l) : ∃ a c, v = .slice a n c := by
 rcases h.2 with ⟨rfl, rfl⟩ | ⟨x, c, r, rfl, _⟩
 .exact ⟨_, _, rfl⟩
 .exact ⟨_, _, rfl⟩
theorem Sl.nil (w : MA) : Sl w (.slice none 0 0) [] := ⟨none, 0, 0, rfl, rfl, LB _, fun h => absurd h (by simp)⟩
theorem Sl.take' {w : MA} {a : Option Addr} {n c : Nat} {l : List MB} (h : Sl w (.slice a n c) l) {k : Nat} (hk : k <= n) : Sl w (.slice (iC a c 0 1) (k - 0) (c - 0)) (l.take k) := by
 have h' := h
 obtain ⟨a', n', c', e, hn, hc, hh⟩ := h'
 cases e
 by_cases h0 : k = 0
 .subst h0
  exact ⟨_, _, _, rfl, by simp, by omega, fun h => by simp at h⟩
 .obtain ⟨b, off, rfl, _⟩ := hh (by omega)
  exact h.take hk
theorem Sl.drop' {w : MA} {a : Option Addr} {n c : Nat} {l : List MB} (h : Sl w (.slice a n c) l) {k : Nat} (hk : k <= n) : Sl w (.slice (iC a c k 1) (n - k) (c - k)) (l.drop k) := by
 have h' := h
 obtain ⟨a', n', c', e, hn, hc, hh⟩ := h'
 cases e
 by_cases h0 : n = 0
 .exact ⟨_, _, _, rfl, by rw [Lv]; omega, by omega, fun h => by omega⟩
 .obtain ⟨b, off, rfl, _⟩ := hh (by omega)
  exact h.drop hk
theorem Sl.openV {w : MA} {v : MB} {l : List MB} (h : Sl w v l) (h0 : 0 < l.length) : ∃ b off c, v = .slice (some ⟨b, off, none⟩) l.length c /\ l.length <= c /\ ∀ i, (h : i < l.length) -> w.cell? ⟨b, off + i, none⟩ = some l[i] := by
 obtain ⟨a, n, c, rfl, hn, hc, h⟩ := h
 subst hn
 obtain ⟨b, off, rfl, hh⟩ := h h0
 exact ⟨b, off, c, rfl, hc, fun i hi => by rw [hh i hi]; simp [hi]⟩
theorem F9 {P : Program} {w : MA} {t e : TypeId} {k k' : IntKind} {hi mx : Int} {i : TypeInfo} (hu : P.underlying t = some (.slice e)) (hi' : P.info? e = some i) (x : Option Addr) (n c : Nat) (h0 : 0 <= hi) (h1 : hi <= mx) (h2 : mx <= c) :
 (hJ t (.slice x n c) none (some (.int k hi)) (some (.int k' mx))).run P w = .ok (.value (.slice (iC x mx.toNat 0 i.size) (hi.toNat - 0) (mx.toNat - 0))) w := by
 have h3 : (0 : Int) <= mx := by omega
 have h4 : hi <= (mx.toNat : Int) := by omega
 simp only [hJ, kM, Instr.sliceAt, underlying, hu, Sem.run_bind, run_program, Result.andThen_ok, Sem.run_pure, Instr.slice, Instr.sliceBounds, pure_bind, kR h3 h2, kR h0 h4, gY hi', iC]
end Go.En

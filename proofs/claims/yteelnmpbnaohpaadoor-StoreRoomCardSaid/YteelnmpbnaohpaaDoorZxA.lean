/- Parts of the proof of StoreRoom: merged and given short names by a program of ours. -/
import Derived.Orders
import Derived.Below
import Derived.KernelRfl
import Derived.Eval
import Derived.RangeFuncRecord
import Derived.Laws.Sem
import Derived.Scope
import Derived.Test.YteelnmpbnaohpaaDoorRows
set_option linter.unusedVariables false
set_option linter.unusedSimpArgs false
open Array renaming getElem?_setIfInBounds_ne → Z1, getElem?_eq_none → Z8, getD_eq_getD_getElem? → ZP, getElem?_eq_getElem → ZX, getElem?_setIfInBounds_self_of_lt → ZZ, all_eq_true' → aaV, getElem?_toList → abT, mem_of_getElem? → acY
open Bool renaming false_eq_true → ZF, not_true → ZK, and_eq_true → ZR, or_eq_true → aaO, not_eq_true' → abG, or_eq_false_iff → acG, false_or → acV
open List renaming length_eq_zero_iff → Z3, length_cons → Z7, getElem?_cons_succ → ZE, getElem?_eq_getElem → ZO, getD_eq_getElem?_getD → ZS, map_cons → ZT, mem_cons_of_mem → ZV, mem_cons → aaE, mem_range → aaF, toList_toArray → aaG, all_eq_true → aaH, mem_map → aaK, getElem?_eq_none → aaL, map_congr_left → aaR, mem_cons_self → aaU, mem_append → abA, mem_append_left → abM, size_toArray → abP, mem_append_right → acE, getElem_of_mem → acN, drop_eq_getElem_cons → acO, mem_of_getElem? → adB
open Nat renaming eq_of_beq_eq_true → Z5, zero_add → ZL, le_refl → ZU, lt_or_ge → aaN, le_trans → abH, le_of_ble_eq_true → abJ, lt_of_lt_of_le → abS, add_assoc → abY, blt_eq → abZ, ne_of_lt → acD, mod_lt → acQ
open Option renaming map_some → aaJ, getD_some → aaY
open Option.some renaming injEq → aaA, inj → aaT
namespace Go.En
open Go
abbrev adH := World
abbrev adI := Value
abbrev Env := Nat -> adI
def put (g : Env) (d : Option Tmp) (v : adI) : Env :=
 match d with
 | some d => fun i => match Nat.beq i d with | true => v | false => g i
 | none => g
def ev (g : Env) : Operand -> adI
 | .tmp t => g t
 | .const v => v
 | .global b => .pointer (some ⟨b, 0, none⟩)
 | .func f => .func (.func f) #[] #[]
def Ze (P : Program) (f : FuncId) (args : Array adI) (w : adH) (v : adI) (w' : adH) : Prop :=
 Calls P f args w fun e w'' => e = .returned v /\ w'' = w'
def gS (P : Program) (f : FuncId) (args : Array adI) (w : adH) (R : adI -> adH -> Prop) : Prop :=
 ∃ v w', Ze P f args w v w' /\ R v w'
theorem gS.mono {P : Program} {f : FuncId} {args : Array adI} {w : adH} {R R' : adI -> adH -> Prop} (h : gS P f args w R)
 (hr : ∀ v w', R v w' -> R' v w') : gS P f args w R' :=
 let ⟨v, w', a, b⟩ := h; ⟨v, w', a, hr _ _ b⟩
def YF (P : Program) (l : Nat) (f : FuncId) (tmps : Array adI) (ZC bd : Code) (w : adH) (v : adI) (w' : adH) : Prop :=
 RoundIn Fence.wide 0 P l f tmps ZC bd w fun e w'' => e = .returned v /\ w'' = w'
def Pa (P : Program) (l : Nat) (f : FuncId) (tmps : Array adI) (ZC bd : Code) (w : adH) (R : adI -> adH -> Prop) : Prop :=
 ∃ v w', YF P l f tmps ZC bd w v w' /\ R v w'
def MO (P : Program) (r : Result Next) (K : adI -> adH -> Prop) : Prop :=
 match r with
 | .ok (.value v) w => K v w
 | .ok .skip w => K undef w
 | .ok (.enter f args) w => gS P f args w K
 | .ok (.round l f tmps ZC bd) w => Pa P l f tmps ZC bd w K
 | _ => False
theorem dX (P : Program) (v : adI) (w : adH) (K : adI -> adH -> Prop) : MO P (.ok (.value v) w) K = K v w := Eq.trans rfl rfl
theorem stepR_skip (P : Program) (w : adH) (K : adI -> adH -> Prop) : MO P (.ok .skip w) K = K undef w := Eq.trans rfl rfl
theorem Qx (P : Program) (l : Nat) (f : FuncId) (tmps : Array adI) (ZC bd : Code) (w : adH) (K : adI -> adH -> Prop) :
 MO P (.ok (.round l f tmps ZC bd) w) K = Pa P l f tmps ZC bd w K := Eq.trans rfl rfl
def eY (P : Program) (s : Sem Next) (w : adH) (K : adI -> adH -> Prop) : Prop := MO P (s.run P w) K
def gM (P : Program) (s : Sem Next) (v : adI) (w : adH) : Prop := s.run P w = .ok (.value v) w
def Gd (b : Bool) (s : (adI -> adH -> Prop) -> Prop) (w : adH) (K : adI -> adH -> Prop) : Prop :=
 match b with
 | true => s K
 | false => K undef w
def Zn (v : adI) : Option Bool := match v with | .bool b => some b | _ => none
def jQ (v : adI) (want : Bool) : Bool := Zn v == some want
def lO (v : adI) (A B : Prop) : Prop :=
 match v with
 | .bool b => (match b with | true => A | false => B)
 | _ => False
def AW (ops : Array Oper) (j : Nat) : Option Tmp := (ops[j]?).bind (·.dst)
def wD (g : Env) (t : Option Tmp) (want : Bool) : Bool := match t with | some t => jQ (g t) want | none => false
def V (s : Sem adI) : Sem Next := do pure (.value (<- s))
def U (s : Sem Unit) : Sem Next := do s; pure .skip
def BN (op : BinOp) : Bool := match op with | .eql | .neq => true | _ => false
def gO (op : BinOp) (t : TypeId) (ox oy : Operand) (x y : adI) : Sem Next :=
 match BN op with
 | true => V (do eqGuard op t ox oy x y; binOp op t x y)
 | false => V (binOp op t x y)
def mS (b : Builtin) (ats : Array TypeId) (ty : TypeId) (args : List adI) : Sem Next := builtin b ats ty #[] args.toArray
def xQ (f : adI) (args : List adI) : Sem Next := do let d <- Deferred.ofValue f args.toArray; invoke d.target d.args
def Iu (fn : Fn) (first captured : List adI) : Sem Next := V (Instr.makeFunc fn first.toArray captured.toArray)
def lK (t : TypeId) (ps : List (Nat × adI)) : Sem Next := V (Instr.build t ps.toArray)
def iC (t : TypeId) (n : Nat) (ps : List (Nat × adI)) : Sem Next := V (Instr.buildSlice t n ps.toArray)
def F2 (g : Env) (o : Oper) : Sem Next :=
 match o.op with
 | .binOp op t x y _ => gO op t x y (ev g x) (ev g y)
 | .makeFunc fn first captured => Iu fn (first.toList.map (ev g)) (captured.toList.map (ev g))
 | .build t ps => lK t (ps.toList.map fun p => (p.1, ev g p.2))
 | .buildSlice t n ps => iC t n (ps.toList.map fun p => (p.1, ev g p.2))
 | .call c => (match c.callee with
   | .builtin b => mS b c.argTypes o.type (c.args.toList.map (ev g))
   | .value f => xQ (ev g f) (c.args.toList.map (ev g))
   | _ => execOp (ev g) o)
 | _ => execOp (ev g) o
def D8 (P : Program) (g : Env) (o : Oper) (w : adH) (K : adI -> adH -> Prop) : Prop :=
 match o.op with
 | .move x => K (ev g x) w
 | .assign x => K (ev g x) w
 | .call c => (match c.callee with
   | .value (.func f) => gS P f (c.args.toList.map (ev g)).toArray w K
   | _ => eY P (F2 g o) w K)
 | _ => eY P (F2 g o) w K
def CB (P : Program) (ops : Array Oper) (g : Env) (o : Oper) (w : adH) (K : adI -> adH -> Prop) : Prop :=
 match o.guard with
 | none => D8 P g o w K
 | some (j, want) => Gd (wD g (AW ops j) want) (D8 P g o w) w K
def ND (P : Program) (ops : Array Oper) : List Oper -> Env -> adH -> (Env -> adH -> Prop) -> Prop
 | [], g, w, K => K g w
 | o :: rest, g, w, K => CB P ops g o w fun v w' => ND P ops rest (put g o.dst v) w' K
structure Rec where
 heavy : Bool
 o : Oper
 g : Env
 w : adH
 v : adI
def YZ (ops : Array Oper) (o : Oper) (g : Env) : Bool := match o.guard with | none => true | some (j, want) => wD g (AW ops j) want
def Gs (b : Bool) (p : Prop) : Prop := match b with | true => p | false => True
def J0 (P : Program) (ops : Array Oper) (q : Rec) (o : Oper) (g : Env) (w' : adH) (v : adI) : Prop :=
 match q.heavy with
 | true => Gs (YZ ops o g) (gM P (F2 g o) v q.w)
 | false => Gs (YZ ops q.o q.g) (gM P (F2 q.g q.o) q.v w')
def On (i j : Nat) : List (Nat × Nat) -> Bool
 | [] => false
 | (a, b) :: r => match Nat.beq a i with
   | true => (match Nat.beq b j with | true => true | false => On i j r)
   | false => On i j r
def pD (i : Nat) : List Nat -> Bool
 | [] => false
 | a :: r => match Nat.beq a i with | true => true | false => pD i r
def QO : List Rec -> Nat -> Option Rec
 | [], _ => none
 | q :: _, 0 => some q
 | _ :: r, n + 1 => QO r n
def Xd (P : Program) (ops : Array Oper) (o : Oper) (g : Env) (w' : adH) (v : adI) (hist : List Rec) : List Nat -> Prop
 | [] => True
 | k :: ks => (match QO hist k with
   | some q => J0 P ops q o g w' v
   | none => False) /\ Xd P ops o g w' v hist ks
abbrev Tn := List Nat × List (Nat × Nat)
abbrev Rx := List (Bool × List Nat)
def qA (P : Program) (ops : Array Oper) : List Oper -> Rx -> List Rec -> Env -> adH -> (Env -> adH -> Prop) -> Prop
 | [], _, _, g, w, K => K g w
 | _ :: _, [], _, _, _, _ => False
 | o :: rest, (hv, ks) :: pl, hist, g, w, K =>
   CB P ops g o w fun v w' =>
    match hv, ks with
    | true, [] => qA P ops rest pl (⟨true, o, g, w, v⟩ :: hist) (put g o.dst v) w' K
    | true, k :: ks => Xd P ops o g w' v hist (k :: ks) /\ qA P ops rest pl (⟨true, o, g, w, v⟩ :: hist) (put g o.dst v) w' K
    | false, [] => w' = w /\ qA P ops rest pl (⟨false, o, g, w, v⟩ :: hist) (put g o.dst v) w K
    | false, k :: ks => w' = w /\ Xd P ops o g w v hist (k :: ks) /\ qA P ops rest pl (⟨false, o, g, w, v⟩ :: hist) (put g o.dst v) w K
def kF {α : Type} (F : (α -> adH -> Prop) -> α -> adH -> Prop) (g : α) (w : adH) : Prop :=
 ∃ I : Nat -> α -> adH -> Prop, (∃ n, I n g w) /\ ∀ n g w, I n g w -> F (fun g' w' => ∃ m, m < n /\ I m g' w') g w
def xY (K : Env -> adH -> Prop) (Q : Exit -> Env -> adH -> Prop) : Exit -> Env -> adH -> Prop :=
 fun e g w => (fun (_ : Program -> Sem Next -> adH -> (adI -> adH -> Prop) -> Prop) => match e with | .normal => K g w | e => Q e g w) eY
def WO (id : Nat) (Q : Exit -> Env -> adH -> Prop) : Exit -> Env -> adH -> Prop :=
 fun e g w => (fun (_ : Program -> Sem Next -> adH -> (adI -> adH -> Prop) -> Prop) => match e with | .exit i => (match Nat.beq i id with | true => Q .normal g w | false => Q (.exit i) g w) | e => Q e g w) eY
inductive HT where
 | leaf (an : Tn) (pl : Rx)
 | perm (π : List Nat) (es : List (Nat × Nat)) (an : Tn) (pl : Rx)
 | split (a b : Nat) (x y : HT)
structure FA where
 f : FuncId
 t : Nat -> HT
def tS : List Nat -> Nat -> Nat
 | [], _ => 0
 | a :: r, i => match Nat.beq a i with | true => 0 | false => tS r i + 1
def Cx (π : List Nat) (i : Nat) : List (Nat × Nat) -> List Edge
 | [] => []
 | (a, b) :: r => match Nat.beq b i with | true => ⟨tS π a, .data⟩ :: Cx π i r | false => Cx π i r
def EF (π : List Nat) (es : List (Nat × Nat)) (i : Nat) (o : Oper) : Oper :=
 { dst := o.dst, op := o.op, type := o.type, pos := o.pos, after := (o.after.toList.map (fun e => (⟨tS π e.on, e.ground⟩ : Edge)) ++ Cx π i es).toArray,
   guard := match o.guard with | none => none | some (j, b) => some (tS π j, b) }
def Kz (π : List Nat) (es : List (Nat × Nat)) (l : List Oper) : List Nat -> List Oper
 | [] => []
 | i :: r => match l[i]? with | some o => EF π es i o :: Kz π es l r | none => Kz π es l r
def oR (π : List Nat) (es : List (Nat × Nat)) (ops : Array Oper) : Array Oper := (Kz π es ops.toList π).toArray
def WW (f : FuncId) (id : Nat) (ops : Array Oper) (a b : Nat) (w : adH) : Bool :=
 Nat.ble ((Region.schedule true ops (w.tape w.drawn (.order f id))).idxOf a) ((Region.schedule true ops (w.tape w.drawn (.order f id))).idxOf b)
def Ord (b : Bool) (A B : Prop) : Prop := match b with | true => A | false => B
def QX (P : Program) (f : FuncId) (id : Nat) (ops : Array Oper) : HT -> Env -> adH -> adH -> (Env -> adH -> Prop) -> Prop
 | .leaf _ pl, g, _, w, K => qA P ops ops.toList pl [] g w K
 | .perm π es _ pl, g, _, w, K => qA P (oR π es ops) (oR π es ops).toList pl [] g w K
 | .split a b x y, g, w0, w, K => Ord (WW f id ops a b w0) (QX P f id ops x g w0 w K) (QX P f id ops y g w0 w K)
def DS : Nat := 1000003
def Rq : adI -> List Deferred
 | .pointer (some a) => [{ target := .collected a.block, args := #[] }]
 | _ => []
def noMark : adI -> Bool
 | .pointer _ => false
 | _ => true
def tmpsOf (N : Nat) (g : Env) : Array adI := Array.ofFn (n := N) fun i => g i.val
def L7 (P : Program) (f : FuncId) : Nat := match P.funcs[f]? with | some fn => fn.ntmps | none => 0
def Yc (Q : Exit -> Env -> adH -> Prop) (g : Env) : Option Code -> adH -> Prop
 | none, w => Q .normal g w
 | some .ret, w => Q .ret g w
 | some (.exit i), w => Q (.exit i) g w
 | _, _ => False
def Vz (l : Nat) (Q : Exit -> Env -> adH -> Prop) (g : Env) (w : adH) : Prop :=
 ∃ r : Loop, w.heap[l]? = some (.loop r) /\ r.state ≠ .busy /\ Yc Q g r.pending (w.putObj l (.loop { r with state := .exhausted }))
def UB (f : FuncId) (N : Nat) (ps : Array Tmp) (ZC bd : Code) (g : Env) (w : adH) : adH :=
 (w.alloc (.deferred (some []))).alloc (.loop { state := .ready, pending := none, fn := f, tmps := tmpsOf N g, params := ps, assign := ZC, body := bd, defers := w.heap.size })
def Yx (P : Program) (r : Result Next) (K : adI -> adH -> Prop) : Prop :=
 match r with
 | .ok (.enter f args) w => gS P f args w K
 | _ => False
def DC (l : Nat) : adI := .func (.yield l) #[] #[]
def RF (P : Program) (f : FuncId) (gf : Operand) (ps : Array Tmp) (ZC bd : Code) (Q : Exit -> Env -> adH -> Prop) (g : Env) (w : adH) : Prop :=
 match noMark (g DS) with
 | true => Yx P ((xQ (ev g gf) [DC (w.heap.size + 1)]).run P (UB f (L7 P f) ps ZC bd g w)) fun _ w3 =>
  Vz (w.heap.size + 1) Q (put g (some DS) (.pointer (some ⟨w.heap.size, 0, none⟩))) w3
 | false => False
def iR (P : Program) (ann : FA) : Code -> (Exit -> Env -> adH -> Prop) -> Env -> adH -> Prop
 | .skip, Q, g, w => Q .normal g w
 | .region id ops draw, Q, g, w => match draw with
   | false => ND P ops ops.toList g w (Q .normal)
   | true => QX P ann.f id ops (ann.t id) g w { w with drawn := w.drawn + 1 } (Q .normal)
 | .seq x y, Q, g, w => iR P ann x (xY (fun g w => iR P ann y Q g w) Q) g w
 | .cond c x y, Q, g, w => lO (ev g c) (iR P ann x Q g w) (iR P ann y Q g w)
 | .block id c, Q, g, w => iR P ann c (WO id Q) g w
 | .loop c, Q, g, w => kF (fun X g w => iR P ann c (xY X Q) g w) g w
 | .scope c, Q, g, w => iR P ann c Q g w
 | .label _, Q, g, w => Q .normal g w
 | .exit id, Q, g, w => Q (.exit id) g w
 | .ret, Q, g, w => Q .ret g w
 | .rangeFunc gf ps ZC bd, Q, g, w => RF P ann.f gf ps ZC bd Q g w
 | _, _, _, _ => False
def Ti (N : Nat) (o : Oper) : Bool := match o.dst with | some d => Nat.blt d N | none => true
def UA (b : Array Nat) (i j : Nat) : Bool := (b.getD j 0).testBit i
def looks (ops : Array Oper) (o : Oper) : List Tmp :=
 (o.op.operands.toList.filterMap fun | .tmp t => some t | _ => none) ++ (match o.guard with | some (j, _) => (AW ops j).toList | none => [])
def U4 (ops : Array Oper) (x y : Oper) : Bool :=
 (match x.dst with | some d => (looks ops y).contains d || y.dst == some d | none => false) ||
 (match y.dst with | some d => (looks ops x).contains d | none => false)
def Mo (o : Oper) : Bool := match o.op with | .select .. => true | _ => false
def VY (o : Oper) : Bool := match o.op with | .call { callee := .value (.func _), .. } => true | _ => false
def PI (o : Oper) : Bool := match o.op with | .defer .. => true | _ => false
def PF : Operand -> Bool | .tmp t => Nat.blt t DS | _ => true
def Nd (P : Program) (o : Oper) : Bool :=
 match o.op with
 | .call c => (match c.callee with
   | .value (.func f) => (match P.funcs[f]? with | some fn => fn.body.isSome && !(fn.name == "runtime.NumGoroutine") | none => false)
   | .builtin b => (match b with | .print | .println => false | _ => true)
   | _ => true)
 | _ => true
def zN (P : Program) (o : Oper) : Bool := Nd P o && (o.op.operands.toList.all PF && (!Mo o && !PI o))
def GF (o : Oper) : Bool := match o.op with | .move _ | .assign _ => true | _ => false
def H6 (ops : Array Oper) (b : Array Nat) (an : Tn) (i j : Nat) (x y : Oper) : Bool :=
 UA b i j ||
 (!U4 ops x y &&
   match pD i an.1, pD j an.1 with
   | true, true => false
   | false, false => true
   | true, false => GF y || On i j an.2
   | false, true => GF x || On i j an.2)
def QR (ops : Array Oper) (b : Array Nat) (an : Tn) : Bool :=
 (List.range ops.size).all fun j => (List.range j).all fun i =>
  match ops[i]?, ops[j]? with
  | some x, some y => H6 ops b an i j x y
  | _, _ => false
def Pj (ops : Array Oper) : Bool :=
 (List.range ops.size).all fun i => match ops[i]? with
  | some o => o.after.all fun e => !Region.binds .any e || Nat.blt e.on i
  | none => false
def Pk (ops : Array Oper) (b : Array Nat) : Bool :=
 (List.range ops.size).all fun j => (List.range ops.size).all fun i =>
  !UA b i j || (match ops[j]? with
   | some o => o.after.any fun e => Region.binds .any e && (Nat.beq e.on i || UA b i e.on)
   | none => false)
def NU (ops : Array Oper) (an : Tn) : Bool :=
 Pj ops && Pk ops (Region.before ops) && QR ops (Region.before ops) an && (ops.all fun o => !Mo o) &&
  (List.range ops.size).all fun i => match ops[i]? with | some o => !VY o || pD i an.1 | none => false
def NO (n : Nat) (an : Tn) (pl : Rx) : Bool :=
 (List.range n).all fun i => match pl[i]? with
  | some (h, ks) => h == pD i an.1 && an.2.all fun p => !Nat.beq p.2 i || (Nat.blt p.1 i && ks.contains (i - 1 - p.1))
  | none => false
def St (π : List Nat) (ops : Array Oper) : Bool :=
 Nat.beq π.length ops.size && ((List.range ops.size).all fun k => match π[k]? with | some i => Nat.beq (tS π i) k && Nat.blt i ops.size | none => false) &&
  ((List.range ops.size).all fun i => match π[tS π i]? with | some j => Nat.beq j i | none => false) &&
  ((List.range ops.size).all fun i => match ops[i]? with
    | some o => (o.after.all fun e => Nat.blt e.on ops.size) && (match o.guard with | some (j, _) => Nat.blt j ops.size | none => true)
    | none => false)
def Kd (P : Program) (N : Nat) (ops : Array Oper) : List (Nat × Nat) -> HT -> Bool
 | _, .leaf an pl => NU ops an && NO ops.size an pl
 | path, .perm π es an pl => (es.all fun p => On p.1 p.2 path && Nat.blt p.1 ops.size) && St π ops && (oR π es ops).all (Ti N) && (oR π es ops).all (zN P) &&
  NU (oR π es ops) an && NO (oR π es ops).size an pl
 | path, .split a b x y => !Nat.beq a b && Kd P N ops ((a, b) :: path) x && Kd P N ops ((b, a) :: path) y
def codeOk (P : Program) (N : Nat) (ann : FA) : Code -> Bool
 | .skip | .exit _ | .ret | .label _ => true
 | .scope c => codeOk P N ann c
 | .region id ops draw => ops.all (Ti N) && ops.all (zN P) && (!draw || Kd P N ops [] (ann.t id))
 | .seq x y => codeOk P N ann x && codeOk P N ann y
 | .cond c x y => PF c && (codeOk P N ann x && codeOk P N ann y)
 | .block _ c => codeOk P N ann c
 | .loop c => codeOk P N ann c
 | .rangeFunc gf _ _ _ => PF gf
 | _ => false
def qR : Code -> Bool
 | .seq x y => qR x && qR y
 | .cond _ x y => qR x && qR y
 | .block _ c => qR c
 | .loop c => qR c
 | .scope c => qR c
 | .rangeFunc .. => false
 | _ => true
def Pp : ResultVar -> Bool
 | .tmp t => Nat.blt t DS
 | .cell a _ => Nat.blt a DS
theorem F3 (g : Env) (d i : Nat) (v : adI) : put g (some d) v i = if i = d then v else g i := by
 unfold put
 by_cases h : i = d
 .subst h; simp
 .have : Nat.beq i d = false := by
   cases hb : Nat.beq i d
   .rfl
   .exact absurd (Z5 hb) h
  simp [this, h]
theorem QL {P : Program} {o : Oper} (h : zN P o = true) : Nd P o = true := by
 unfold zN at h; simp only [ZR] at h; exact h.1
theorem SJ {P : Program} {o : Oper} (h : zN P o = true) : ∀ x ∈ o.op.operands, PF x = true := by
 unfold zN at h; simp only [ZR] at h
 intro x hx
 exact aaH.1 h.2.1 x (by simpa using hx)
theorem RX {P : Program} {o : Oper} (h : zN P o = true) : Mo o = false := by
 unfold zN at h; simp only [ZR, abG] at h; exact h.2.2.1
theorem Sq {P : Program} {o : Oper} (h : zN P o = true) : PI o = false := by
 unfold zN at h; simp only [ZR, abG] at h; exact h.2.2.2
def JV (N : Nat) (ops : Array Oper) : Prop := ∀ (i : Nat) (o : Oper), ops[i]? = some o -> ∀ t, o.dst = some t -> t < N
structure Ib (N : Nat) (g : Env) (a : Act) : Prop where
 le : N <= DS
 defers : a.defers = Rq (g DS)
 size : a.tmps.size = N
 at_ : ∀ i, i ≠ DS -> a.tmps.getD i undef = g i
theorem Ib.ev {N : Nat} {g : Env} {a : Act} (h : Ib N g a) (x : Operand) (hx : PF x = true) : a.eval x = ev g x := by
 cases x with
 | tmp t =>
   have : t < DS := (abZ (x := t) (y := DS)) ▸ hx
   have e := h.at_ t (acD this)
   simp [Act.eval, En.ev, <- e]
 | _ => simp [Act.eval, En.ev]
theorem Ib.put {N : Nat} {g : Env} {a : Act} (h : Ib N g a) (d : Option Tmp) (v : adI) (hd : ∀ t, d = some t -> t < N) :
 Ib N (put g d v) (a.put d v) := by
 cases d with
 | none => exact h
 | some t =>
   obtain ⟨h0, h1, h2, h3⟩ := h
   have ht := hd t rfl
   refine ⟨h0, ?_, by simp [Act.put, h2], fun i hne => ?_⟩
   .rw [F3, if_neg (Nat.ne_of_gt (abS ht h0))]; exact h1
   .rw [F3, <- h3 i hne]
    by_cases hi : i = t
    .subst hi; simp [Act.put, h2, ht]
    .have hi' : t ≠ i := fun e => hi e.symm
     simp [Act.put, hi, Z1 hi']
theorem Ib.wanted {N : Nat} {g : Env} {a : Act} (h : Ib N g a) (ops : Array Oper) (hd : JV N ops) (o : Oper) :
 Region.wanted o (yielded ops a.tmps) = match o.guard with | none => true | some (j, want) => wD g (AW ops j) want := by
 unfold Region.wanted
 cases o.guard with
 | none => rfl
 | some p =>
   obtain ⟨j, want⟩ := p
   simp only [yielded, wD, AW]
   cases ho : ops[j]? with
   | none => simp
   | some o' =>
     cases hdd : o'.dst with
     | none => simp [hdd]
     | some t =>
       have hlt := hd j o' ho t hdd
       have hle := h.le
       have h3 := h.at_ t (acD (abS hlt hle))
       simp only [hdd, Option.bind_some, jQ, Zn, <- h3]
       simp only [ZP]
       cases ht : a.tmps[t]? with
       | none => simp [undef]
       | some v => cases v <;> simp
def Y0 (P : Program) (o : Oper) (a : Act) (next : Act -> adH -> Prop) : Result Next -> Prop
 | .ok (.value v) w' => next (a.put o.dst v) w'
 | .ok .skip w' => next (a.put o.dst undef) w'
 | .ok (.enter f args) w' => ∃ v w'', Ze P f args w' v w'' /\ next (a.put o.dst v) w''
 | .ok (.round l f tmps ZC bd) w' => ∃ v w'', YF P l f tmps ZC bd w' v w'' /\ next (a.put o.dst v) w''
 | _ => False
def R8 (P : Program) (o : Oper) (a : Act) (w : adH) (next : Act -> adH -> Prop) : Prop := PI o = false /\ Y0 P o a next ((execOp a.eval o).run P w)
def HX (P : Program) (ops : Array Oper) (i : Nat) (K : Act -> adH -> Prop) (a : Act) (w : adH) : Prop :=
 match ops[i]? with
 | none => K a w
 | some o => if Region.wanted o (yielded ops a.tmps) then R8 P o a w K else K (a.put o.dst undef) w
def AU (P : Program) (ops : Array Oper) (Q : Act -> adH -> Prop) : List Nat -> Act -> adH -> Prop
 | [], a, w => Q a w
 | i :: rest, a, w => HX P ops i (AU P ops Q rest) a w
def Oo (P : Program) (ops : Array Oper) (Q : Act -> adH -> Prop) : Nat -> Array Bool -> Act -> adH -> Prop
 | 0, listed, a, w => Region.ready .any ops listed = [] /\ Q a w
 | fuel + 1, listed, a, w =>
   (Region.ready .any ops listed = [] -> Q a w) /\ ∀ i ∈ Region.ready .any ops listed, HX P ops i (Oo P ops Q fuel (listed.setIfInBounds i true)) a w
theorem Ph {P : Program} {o : Oper} {a : Act} {w : adH} {K K' : Act -> adH -> Prop} (h : ∀ a w, K a w -> K' a w) (hh : R8 P o a w K) : R8 P o a w K' := by
 refine ⟨hh.1, ?_⟩
 have hh := hh.2
 generalize (execOp a.eval o).run P w = r at *
 cases r with
 | ok x w' =>
   cases x <;> simp only [Y0] at hh ⊢ <;> first | exact h _ _ hh | (obtain ⟨v, w'', h1, h2⟩ := hh; exact ⟨v, w'', h1, h _ _ h2⟩) | exact hh
 | halt x w' => exact hh.elim
theorem Sw {P : Program} {ops : Array Oper} {i : Nat} {a : Act} {w : adH} {K K' : Act -> adH -> Prop} (h : ∀ a w, K a w -> K' a w) (hh : HX P ops i K a w) : HX P ops i K' a w := by
 unfold HX at *
 split
 .exact h _ _ (by simpa [*] using hh)
 .rename_i o ho
  simp only [ho] at hh
  split
  .rename_i hw; simp only [hw, if_true] at hh; exact Ph h hh
  .rename_i hw; simp only [hw] at hh; exact h _ _ hh
def Ox (ro : Option Nat) : Fence := { Fence.wide with round := ro }
theorem TV {P : Program} {ops : Array Oper} {Q : Act -> adH -> Prop} (ro : Option Nat) : ∀ (L : List Nat) (a : Act) (w : adH), AU P ops Q L a w →
 wpOpsIn (Ox ro) 0 P ops (fun e a w => e = .normal /\ Q a w) L a w := by
 intro L
 induction L with
 | nil => intro a w h; exact ⟨rfl, h⟩
 | cons i L ih =>
   intro a w h
   simp only [AU, HX] at h
   simp only [wpOpsIn]
   cases ho : ops[i]? with
   | none => rw [ho] at h; exact ih _ _ h
   | some o =>
     rw [ho] at h
     simp only at h ⊢
     by_cases hw : Region.wanted o (yielded ops a.tmps) = true
     .rw [if_pos hw] at h ⊢
      obtain ⟨hd, h⟩ := h
      refine ⟨fun _ _ => trivial, ?_⟩
      rw [Oper.semAt_eq _ _ _ (fun c hc => by simp [PI, hc] at hd)]
      generalize (execOp a.eval o).run P w = r at *
      cases r with
      | halt x w' => exact h.elim
      | ok x w' =>
        cases x <;> simp only [Y0] at h <;> simp only [Oper.uponIn] <;> try (exact h.elim)
        .exact ih _ _ h
        .exact ih _ _ h
        .obtain ⟨v, w'', h1, h2⟩ := h
         refine ⟨fun hn => by simp [Ox, Fence.wide] at hn, ?_⟩
         have := callsIn_wide (n := 0).2 h1
         refine CallsIn.mono (F := Ox ro) (n := 0) this ?_
         rintro e w3 ⟨rfl, rfl⟩
         exact ih _ _ h2
        .obtain ⟨v, w'', h1, h2⟩ := h
         refine ⟨fun hn => by simp [Ox, Fence.wide] at hn, ?_⟩
         refine RoundIn.mono (F := Ox ro) (n := 0) h1 ?_
         rintro e w3 ⟨rfl, rfl⟩
         exact ih _ _ h2
     .rw [if_neg hw] at h ⊢
      exact ⟨fun _ _ => trivial, ih _ _ h⟩
section
variable {P : Program} {ops : Array Oper}
def Mu (P : Program) (ops : Array Oper) (g : Env) (o : Oper) (w : adH) (v : adI) (w' : adH) : Prop :=
 ∀ K : adI -> adH -> Prop, K v w' -> CB P ops g o w K
theorem S7 {s : Sem Next} {w : adH} {K : adI -> adH -> Prop} (h : eY P s w K) :
 ∃ v w', (∀ K' : adI -> adH -> Prop, K' v w' -> eY P s w K') /\ K v w' := by
 unfold eY at *
 generalize s.run P w = r at *
 match r, h with
 | .ok (.value v) w1, h => exact ⟨v, w1, fun _ h' => h', h⟩
 | .ok .skip w1, h => exact ⟨undef, w1, fun _ h' => h', h⟩
 | .ok (.enter f args) w1, h =>
   obtain ⟨v, w', hr, hk⟩ := h
   exact ⟨v, w', fun _ h' => ⟨v, w', hr, h'⟩, hk⟩
 | .ok (.round l f tmps ZC bd) w1, h =>
   obtain ⟨v, w', hr, hk⟩ := h
   exact ⟨v, w', fun _ h' => ⟨v, w', hr, h'⟩, hk⟩
theorem Py {g : Env} {o : Oper} {w : adH} {K : adI -> adH -> Prop} (h : D8 P g o w K) :
 ∃ v w', (∀ K' : adI -> adH -> Prop, K' v w' -> D8 P g o w K') /\ K v w' := by
 unfold D8 at *
 split at h
 .exact ⟨_, _, fun _ h' => h', h⟩
 .exact ⟨_, _, fun _ h' => h', h⟩
 .split at h
  .obtain ⟨v, w', a, b⟩ := h
   exact ⟨v, w', fun _ h' => ⟨v, w', a, h'⟩, b⟩
  .exact S7 h
 .exact S7 h
theorem WT (op : BinOp) (t : TypeId) (ox oy : Operand) (x y : adI) : gO op t ox oy x y = V (do eqGuard op t ox oy x y; binOp op t x y) := by
 cases op <;> simp [gO, BN, eqGuard]
theorem Vl {g : Env} {o : Oper} (ho : zN P o = true) : F2 g o = execOp (ev g) o := by
 have ho := QL ho
 unfold F2
 split
 .rename_i op t x y yt hx
  simp only [execOp, hx, WT, V]
 .rename_i fn first captured hx
  have e1 : (List.map (ev g) first.toList).toArray = first.map (ev g) := by obtain ⟨l⟩ := first; simp
  have e2 : (List.map (ev g) captured.toList).toArray = captured.map (ev g) := by obtain ⟨l⟩ := captured; simp
  simp only [execOp, hx, Iu, V, e1, e2]
 .rename_i t ps hx
  have e : (List.map (fun p : Nat × Operand => (p.1, ev g p.2)) ps.toList).toArray = ps.map (fun p => (p.1, ev g p.2)) := by obtain ⟨l⟩ := ps; simp
  simp only [execOp, hx, lK, V, e]
 .rename_i t n ps hx
  have e : (List.map (fun p : Nat × Operand => (p.1, ev g p.2)) ps.toList).toArray = ps.map (fun p => (p.1, ev g p.2)) := by obtain ⟨l⟩ := ps; simp
  simp only [execOp, hx, iC, V, e]
 .rename_i c hx
  split
  .rename_i b hb
   simp only [execOp, hx, resolve, hb, pure_bind, invoke, mS]
   unfold Nd at ho
   simp only [hx, hb] at ho
   have e : (List.map (ev g) c.args.toList).toArray = c.args.map (ev g) := by obtain ⟨l⟩ := c.args; simp
   rw [e]
   cases b <;> first | rfl | (cases ho)
  .rename_i f hb
   have e : (List.map (ev g) c.args.toList).toArray = c.args.map (ev g) := by obtain ⟨l⟩ := c.args; simp
   simp only [execOp, hx, resolve, hb, xQ, e]
  .rfl
 .rfl
theorem F7 {f : FuncId} {fn : Func} (hf : P.funcs[f]? = some fn) (hb : fn.body.isSome = true) (hn : (fn.name == "runtime.NumGoroutine") = false)
 (args : Array adI) (w : adH) : (callFunc f args).run P w = .ok (.enter f args) w := by
 unfold callFunc
 have hb' : fn.body.isNone = false := by cases h : fn.body <;> simp_all
 show Sem.run P (Sem.program fun p => _) w = _
 simp only [Sem.run]
 simp only [bind, Sem.bind, hf, hn, hb', ZF, if_false]
 rfl
theorem GL {g : Env} {o : Oper} {w : adH} {K : adI -> adH -> Prop} (h : CB P ops g o w K) :
 ∃ v w', Mu P ops g o w v w' /\ K v w' := by
 unfold Mu
 unfold CB at *
 split at h
 .obtain ⟨v, w', h1, h2⟩ := Py h
  exact ⟨v, w', h1, h2⟩
 .rename_i j want hg
  unfold Gd at *
  cases hb : wD g (AW ops j) want with
  | true =>
    simp only [hb] at h
    obtain ⟨v, w', h1, h2⟩ := Py h
    exact ⟨v, w', fun K hk => h1 K hk, h2⟩
  | false =>
    simp only [hb] at h
    exact ⟨_, _, fun K hk => hk, h⟩
theorem Mq {N i : Nat} {g : Env} {a : Act} {o : Oper} {w w' : adH} {v : adI} {next : Act -> adH -> Prop}
 (hi : ops[i]? = some o) (hc : zN P o = true) (hd : JV N ops) (hr : Ib N g a) (hy : Mu P ops g o w v w') (hn : next (a.put o.dst v) w') : HX P ops i next a w := by
 have h := hy (fun v2 w2 => v2 = v /\ w2 = w') ⟨rfl, rfl⟩
 unfold HX
 rw [hi]
 simp only [hr.wanted ops hd]
 have run : D8 P g o w (fun v2 w2 => v2 = v /\ w2 = w') -> R8 P o a w next := by
  intro h
  refine ⟨Sq hc, ?_⟩
  have hevs : execOp a.eval o = execOp (ev g) o := execOp_congr o (fun cs b he => by have := RX hc; simp [Mo, he] at this) (fun x hx => hr.ev x (SJ hc x hx))
  have stp : eY P (F2 g o) w (fun v2 w2 => v2 = v /\ w2 = w') -> Y0 P o a next ((execOp (ev g) o).run P w) := by
   intro h
   rw [Vl hc] at h
   unfold eY at h
   generalize (execOp (ev g) o).run P w = r at *
   match r, h with
   | .ok (.value v) w1, h => obtain ⟨rfl, rfl⟩ := h; exact hn
   | .ok .skip w1, h => obtain ⟨rfl, rfl⟩ := h; exact hn
   | .ok (.enter f args) w1, h =>
     obtain ⟨v2, w2, hret, rfl, rfl⟩ := h
     exact ⟨_, _, hret, hn⟩
   | .ok (.round l f tmps ZC bd) w1, h =>
     obtain ⟨v2, w2, hret, rfl, rfl⟩ := h
     exact ⟨_, _, hret, hn⟩
  rw [hevs]
  unfold D8 at h
  split at h
  .rename_i x hx
   obtain ⟨rfl, rfl⟩ := h
   simp only [execOp, hx]; exact hn
  .rename_i x hx
   obtain ⟨rfl, rfl⟩ := h
   simp only [execOp, hx]; exact hn
  .rename_i c hx
   split at h
   .rename_i f hcal
    obtain ⟨v2, w2, hret, rfl, rfl⟩ := h
    have e : (execOp (ev g) o).run P w = .ok (.enter f (List.map (ev g) c.args.toList).toArray) w := by
     have hc := QL hc
     unfold Nd at hc
     simp only [hx, hcal] at hc
     cases hfn : P.funcs[f]? with
     | none => rw [hfn] at hc; cases hc
     | some fn =>
       rw [hfn] at hc
       simp only [ZR, abG] at hc
       have ea : (List.map (ev g) c.args.toList).toArray = c.args.map (ev g) := by obtain ⟨l⟩ := c.args; simp
       rw [ea]
       simp only [execOp, hx, resolve, hcal, ev, Deferred.ofValue, pure_bind, invoke]
       simp only [Array.empty_append, Array.append_empty]
       exact F7 hfn hc.1 hc.2 _ w
    rw [e]
    exact ⟨_, _, hret, hn⟩
   .exact stp h
  .exact stp h
 unfold CB at h
 cases hg : o.guard with
 | none =>
   rw [hg] at h
   simp only [if_true]
   exact run h
 | some p =>
   obtain ⟨j, want⟩ := p
   simp only [hg] at h
   simp only
   by_cases hb : wD g (AW ops j) want = true
   .rw [if_pos hb]
    simp only [hb, Gd] at h
    exact run h
   .rw [if_neg hb]
    have hb' : wD g (AW ops j) want = false := by simpa using hb
    simp only [hb', Gd] at h
    obtain ⟨rfl, rfl⟩ := h
    exact hn
def KO (P : Program) (ops : Array Oper) : Prop := ∀ (i : Nat) (o : Oper), ops[i]? = some o -> zN P o = true
theorem Uv {N : Nat} (hd : JV N ops) (hca : KO P ops) {Q : Act -> adH -> Prop} {K : Env -> adH -> Prop}
 (hQ : ∀ g a w, Ib N g a -> K g w -> Q a w) :
 ∀ (l : List Oper) (k : Nat) (g : Env) (a : Act) (w : adH), (∀ j, l[j]? = ops[k + j]?) -> Ib N g a -> ND P ops l g w K →
   AU P ops Q (List.range' k l.length) a w := by
 intro l
 induction l with
 | nil => intro k g a w _ hr h; exact hQ _ _ _ hr h
 | cons o l ih =>
   intro k g a w hl hr h
   have h0 : ops[k]? = some o := by have := hl 0; simpa using this.symm
   obtain ⟨v, w', hy, hk⟩ := GL h
   rw [Z7, List.range'_succ]
   show HX P ops k (AU P ops Q _) a w
   refine Mq h0 (hca k o h0) hd hr hy ?_
   refine ih (k + 1) _ _ _ (fun j => ?_) (hr.put _ _ (hd k o h0)) hk
   have := hl (j + 1)
   simp only [ZE] at this
   rw [this]; congr 1; omega
def MK (an : Tn) (O : Nat -> Oper) (G : Nat -> Env) (W : Nat -> adH) (V : Nat -> adI) (i : Nat) : Rec :=
 ⟨pD i an.1, O i, G i, W i, V i⟩
def Tm (P : Program) (ops : Array Oper) (an : Tn) (O : Nat -> Oper) (G : Nat -> Env) (W : Nat -> adH) (V : Nat -> adI) (i j : Nat) : Prop :=
 J0 P ops (MK an O G W V i) (O j) (G j) (W (j + 1)) (V j)
structure Ux (P : Program) (ops : Array Oper) (an : Tn) (g0 : Env) (w0 : adH) (n : Nat) (O : Nat -> Oper) (G : Nat -> Env) (W : Nat -> adH) (V : Nat -> adI) : Prop where
 g0 : G 0 = g0
 w0 : W 0 = w0
 op : ∀ i, i < n -> ops[i]? = some (O i)
 yld : ∀ i, i < n -> Mu P ops (G i) (O i) (W i) (V i) (W (i + 1))
 light : ∀ i, i < n -> pD i an.1 = false -> W (i + 1) = W i
 env : ∀ i, i < n -> G (i + 1) = put (G i) (O i).dst (V i)
 chk : ∀ i j, i < j -> j < n -> On i j an.2 = true -> Tm P ops an O G W V i j
theorem Qv {o : Oper} {g : Env} {w' : adH} {v : adI} {hist : List Rec} : ∀ {ks : List Nat}, Xd P ops o g w' v hist ks -> ∀ k ∈ ks, ∃ q, QO hist k = some q /\ J0 P ops q o g w' v := by
 intro ks
 induction ks with
 | nil => intro _ k hk; cases hk
 | cons a ks ih =>
   rintro ⟨h1, h2⟩ k hk
   rcases aaE.1 hk with rfl | hk
   .cases hn : QO hist k with
    | none => rw [hn] at h1; exact h1.elim
    | some q => rw [hn] at h1; exact ⟨q, rfl, h1⟩
   .exact ih h2 k hk
theorem TR {n : Nat} {an : Tn} {pl : Rx} (h : NO n an pl = true) {i : Nat} (hi : i < n) :
 ∃ ks, pl[i]? = some (pD i an.1, ks) /\ ∀ j, On j i an.2 = true -> j < i /\ (i - 1 - j) ∈ ks := by
 have := aaH.1 h i (aaF.2 hi)
 cases hp : pl[i]? with
 | none => rw [hp] at this; cases this
 | some p =>
   obtain ⟨hv, ks⟩ := p
   rw [hp] at this
   simp only [ZR] at this
   obtain ⟨h1, h2⟩ := this
   have h1 : hv = pD i an.1 := by simpa using h1
   refine ⟨ks, by rw [h1], fun j hj => ?_⟩
   have mm : ∀ (l : List (Nat × Nat)), On j i l = true -> (j, i) ∈ l := by
    intro l
    induction l with
    | nil => intro h; cases h
    | cons q r ih =>
      obtain ⟨a, b⟩ := q
      intro h
      unfold On at h
      cases ha : Nat.beq a j with
      | true =>
        simp only [ha] at h
        cases hb : Nat.beq b i with
        | true =>
          obtain rfl := Z5 ha
          obtain rfl := Z5 hb
          exact aaU
        | false => simp only [hb] at h; exact ZV _ (ih h)
      | false => simp only [ha] at h; exact ZV _ (ih h)
   have := aaH.1 h2 (j, i) (mm _ hj)
   simp only [Nat.beq_refl, ZK, acV, ZR] at this
   refine ⟨?_, by simpa using this.2⟩
   have hlt := this.1
   exact (abZ (x := j) (y := i)) ▸ hlt
theorem QU {an : Tn} {pl : Rx} {g0 : Env} {w0 : adH} {K : Env -> adH -> Prop} (hpl : NO ops.size an pl = true) :
 ∀ (l : List Oper) (m : Nat) (hist : List Rec) (O : Nat -> Oper) (G : Nat -> Env) (W : Nat -> adH) (V : Nat -> adI),
   (∀ j, l[j]? = ops[m + j]?) -> m + l.length = ops.size -> Ux P ops an g0 w0 m O G W V -> (∀ i, i < m -> QO hist (m - 1 - i) = some (MK an O G W V i)) →
   qA P ops l (pl.drop m) hist (G m) (W m) K →
   ∃ (O : Nat -> Oper) (G : Nat -> Env) (W : Nat -> adH) (V : Nat -> adI), Ux P ops an g0 w0 (m + l.length) O G W V /\ K (G (m + l.length)) (W (m + l.length)) := by
 intro l
 induction l with
 | nil => intro m hist O G W V _ _ hr _ h; exact ⟨O, G, W, V, hr, by unfold qA at h; exact h⟩
 | cons o l ih =>
   intro m hist O G W V hl hlen hr hh h
   have h0 : ops[m]? = some o := by have := hl 0; simpa using this.symm
   have hmn : m < ops.size := by rw [Z7] at hlen; omega
   obtain ⟨ks, hk1, hk2⟩ := TR hpl hmn
   have hdrop : pl.drop m = (pD m an.1, ks) :: pl.drop (m + 1) := by
    have hlt : m < pl.length := by
     rcases aaN m pl.length with h | h
     .exact h
     .rw [aaL h] at hk1; cases hk1
    rw [acO hlt]
    rw [ZO hlt] at hk1
    rw [aaT hk1]
   rw [hdrop] at h
   obtain ⟨v, w', hy, hk⟩ := GL h
   have key : (pD m an.1 = false -> w' = W m) /\ (∀ k ∈ ks, ∃ q, QO hist k = some q /\ J0 P ops q o (G m) w' v) /\
       (qA P ops l (pl.drop (m + 1)) (⟨pD m an.1, o, G m, W m, v⟩ :: hist) (put (G m) o.dst v) w' K) := by
    have nil : ∀ w', ∀ k ∈ ([] : List Nat), ∃ q, QO hist k = some q /\ J0 P ops q o (G m) w' v := fun _ k hk => (by cases hk)
    cases hm : pD m an.1 with
    | true =>
      rw [hm] at hk
      cases ks with
      | nil => exact ⟨fun e => (by cases e), nil _, hk⟩
      | cons k ks => exact ⟨fun e => (by cases e), Qv hk.1, hk.2⟩
    | false =>
      rw [hm] at hk
      cases ks with
      | nil => obtain ⟨rfl, hk⟩ := hk; exact ⟨fun _ => rfl, nil _, hk⟩
      | cons k ks => obtain ⟨rfl, hc, hk⟩ := hk; exact ⟨fun _ => rfl, Qv hc, hk⟩
   obtain ⟨kl, c1, c2⟩ := key
   let O' : Nat -> Oper := fun i => if i = m then o else O i
   let V' : Nat -> adI := fun i => if i = m then v else V i
   let G' : Nat -> Env := fun i => if i = m + 1 then put (G m) o.dst v else G i
   let W' : Nat -> adH := fun i => if i = m + 1 then w' else W i
   have eO : ∀ i, i < m -> O' i = O i := fun i hi => if_neg (by omega)
   have eV : ∀ i, i < m -> V' i = V i := fun i hi => if_neg (by omega)
   have eG : ∀ i, i <= m -> G' i = G i := fun i hi => if_neg (by omega)
   have eW : ∀ i, i <= m -> W' i = W i := fun i hi => if_neg (by omega)
   have oO : O' m = o := if_pos rfl
   have oV : V' m = v := if_pos rfl
   have oG : G' (m + 1) = put (G m) o.dst v := if_pos rfl
   have oW : W' (m + 1) = w' := if_pos rfl
   have eR : ∀ i, i < m -> MK an O' G' W' V' i = MK an O G W V i := fun i hi => by
    simp only [MK, eO i hi, eV i hi, eG i (by omega), eW i (by omega)]
   have hr' : Ux P ops an g0 w0 (m + 1) O' G' W' V' := by
    refine ⟨by rw [eG 0 (by omega)]; exact hr.g0, by rw [eW 0 (by omega)]; exact hr.w0, fun i hi => ?_, fun i hi => ?_, fun i hi hm => ?_, fun i hi => ?_, fun i j hij hj hm => ?_⟩
    .by_cases hi' : i = m
     .subst hi'; rw [oO]; exact h0
     .rw [eO i (by omega)]; exact hr.op i (by omega)
    .by_cases hi' : i = m
     .subst hi'; rw [oO, oV, oW, eG i (by omega), eW i (by omega)]; exact hy
     .rw [eO i (by omega), eV i (by omega), eG i (by omega), eW i (by omega), eW (i + 1) (by omega)]; exact hr.yld i (by omega)
    .by_cases hi' : i = m
     .subst hi'; rw [oW, eW i (by omega)]; exact kl hm
     .rw [eW i (by omega), eW (i + 1) (by omega)]; exact hr.light i (by omega) hm
    .by_cases hi' : i = m
     .subst hi'; rw [oO, oV, oG, eG i (by omega)]
     .rw [eO i (by omega), eV i (by omega), eG i (by omega), eG (i + 1) (by omega)]; exact hr.env i (by omega)
    .unfold Tm
     by_cases hj' : j = m
     .subst hj'
      rw [eR i (by omega), oO, oV, oW, eG j (by omega)]
      obtain ⟨q, hq, hc⟩ := c1 _ (hk2 i hm).2
      rw [hh i hij] at hq
      obtain rfl := aaT hq
      exact hc
     .rw [eR i (by omega), eO j (by omega), eV j (by omega), eG j (by omega), eW (j + 1) (by omega)]
      exact hr.chk i j hij (by omega) hm
   have := ih (m + 1) (⟨pD m an.1, o, G m, W m, v⟩ :: hist) O' G' W' V' (fun j => by
       have := hl (j + 1)
       simp only [ZE] at this
       rw [this]; congr 1; omega) (by rw [Z7] at hlen; omega) hr' (fun i hi => by
       by_cases hi' : i = m
       .subst hi'
        rw [show i + 1 - 1 - i = 0 from by omega]
        simp only [QO, MK, oO, oV, eG i (by omega), eW i (by omega)]
       .rw [eR i (by omega), show m + 1 - 1 - i = (m - 1 - i) + 1 from by omega]
        exact hh i (by omega)) (by rw [oG, oW]; exact c2)
   rw [Z7, show m + (l.length + 1) = m + 1 + l.length from by omega]
   exact this
end
section
variable {P : Program} {ops : Array Oper} {an : Tn} {g0 : Env} {w0 : adH} {O : Nat -> Oper} {G : Nat -> Env} {W : Nat -> adH} {V : Nat -> adI}
def Gh (n : Nat) (O : Nat -> Oper) (V : Nat -> adI) (g0 : Env) (S : Nat -> Prop) (g : Env) : Prop :=
 ∀ s, (∃ j, j < n /\ S j /\ (O j).dst = some s /\ (∀ k, k < n -> S k -> (O k).dst = some s -> k <= j) /\ g s = V j) ∨
   ((∀ j, j < n -> S j -> (O j).dst ≠ some s) /\ g s = g0 s)
theorem Gh.agree {n : Nat} {S T : Nat -> Prop} {g g' : Env} (h : Gh n O V g0 S g) (h' : Gh n O V g0 T g') (s : Nat)
 (hs : ∀ j, j < n -> (O j).dst = some s -> (S j ↔ T j)) : g s = g' s := by
 rcases h s with ⟨j, h1, h2, h3, h4, h5⟩ | ⟨h1, h2⟩ <;> rcases h' s with ⟨k, k1, k2, k3, k4, k5⟩ | ⟨k1, k2⟩
 .have a := h4 k k1 ((hs k k1 k3).2 k2) k3
  have b := k4 j h1 ((hs j h1 h3).1 h2) h3
  have : j = k := by omega
  subst this; rw [h5, k5]
 .exact absurd h3 (k1 j h1 ((hs j h1 h3).1 h2))
 .exact absurd k3 (h1 k k1 ((hs k k1 k3).2 k2))
 .rw [h2, k2]
theorem Gh.step {n : Nat} {S : Nat -> Prop} {g : Env} (h : Gh n O V g0 S g) (i : Nat) (hi : i < n)
 (hw : ∀ s, (O i).dst = some s -> ∀ j, j < n -> j ≠ i -> (O j).dst = some s -> S j -> j < i) :
 Gh n O V g0 (fun j => S j ∨ j = i) (put g (O i).dst (V i)) := by
 intro s
 cases hd : (O i).dst with
 | none =>
   rcases h s with ⟨j, h1, h2, h3, h4, h5⟩ | ⟨h1, h2⟩
   .refine .inl ⟨j, h1, .inl h2, h3, fun k k1 k2 k3 => ?_, h5⟩
    rcases k2 with k2 | rfl
    .exact h4 k k1 k2 k3
    .rw [hd] at k3; cases k3
   .refine .inr ⟨fun j h3 h4 h5 => ?_, h2⟩
    rcases h4 with h4 | rfl
    .exact h1 j h3 h4 h5
    .rw [hd] at h5; cases h5
 | some t =>
   rw [F3]
   by_cases hst : s = t
   .subst hst
    rw [if_pos rfl]
    refine .inl ⟨i, hi, .inr rfl, hd, fun k k1 k2 k3 => ?_, rfl⟩
    rcases k2 with k2 | rfl
    .by_cases hk : k = i
     .omega
     .have := hw s hd k k1 hk k3 k2; omega
    .omega
   .rw [if_neg hst]
    rcases h s with ⟨j, h1, h2, h3, h4, h5⟩ | ⟨h1, h2⟩
    .refine .inl ⟨j, h1, .inl h2, h3, fun k k1 k2 k3 => ?_, h5⟩
     rcases k2 with k2 | rfl
     .exact h4 k k1 k2 k3
     .rw [hd] at k3; exact absurd (aaT k3).symm hst
    .refine .inr ⟨fun j h3 h4 h5 => ?_, h2⟩
     rcases h4 with h4 | rfl
     .exact h1 j h3 h4 h5
     .rw [hd] at h5; exact absurd (aaT h5).symm hst
theorem Ux.envFor {n : Nat} (r : Ux P ops an g0 w0 n O G W V) : ∀ i, i <= n -> Gh n O V g0 (fun j => j < i) (G i) := by
 intro i
 induction i with
 | zero => intro _ s; exact .inr ⟨fun j _ h => absurd h (by omega), by rw [r.g0]⟩
 | succ i ih =>
   intro hi
   have h := ih (by omega)
   have := h.step (V := V) i (by omega) (fun s _ j _ _ _ hj => hj)
   rw [<- r.env i (by omega)] at this
   intro s
   rcases this s with ⟨j, h1, h2, h3, h4, h5⟩ | ⟨h1, h2⟩
   .exact .inl ⟨j, h1, by omega, h3, fun k k1 k2 k3 => h4 k k1 (by omega) k3, h5⟩
   .exact .inr ⟨fun j a b => h1 j a (by omega), h2⟩
theorem Ux.still {n : Nat} (r : Ux P ops an g0 w0 n O G W V) (i : Nat) : ∀ d, i + d <= n -> (∀ h, i <= h -> h < i + d -> pD h an.1 = false) -> W (i + d) = W i := by
 intro d
 induction d with
 | zero => intro _ _; rfl
 | succ d ih =>
   intro h1 h2
   rw [<- abY, r.light (i + d) (by omega) (h2 _ (by omega) (by omega))]
   exact ih (by omega) (fun h a b => h2 h a (by omega))
theorem Ux.still' {n : Nat} (r : Ux P ops an g0 w0 n O G W V) {i k : Nat} (hik : i <= k) (hk : k <= n) (hh : ∀ h, i <= h -> h < k -> pD h an.1 = false) : W k = W i := by
 have := r.still i (k - i) (by omega) (fun h a b => hh h a (by omega))
 rwa [show i + (k - i) = k from by omega] at this
theorem Rz {i k : Nat} : (∃ h, i <= h /\ h < k /\ pD h an.1 = true) -> ∃ h, i <= h /\ h < k /\ pD h an.1 = true /\ ∀ h', i <= h' -> h' < h -> pD h' an.1 = false := by
 rintro ⟨h, h1, h2, h3⟩
 induction h using Nat.strongRecOn with
 | _ h ih =>
   by_cases hx : ∃ h', i <= h' /\ h' < h /\ pD h' an.1 = true
   .obtain ⟨h', a, b, c⟩ := hx
    exact ih h' b a (by omega) c
   .refine ⟨h, h1, h2, h3, fun h' a b => ?_⟩
    cases hm : pD h' an.1
    .rfl
    .exact absurd ⟨h', a, b, hm⟩ hx
theorem Ol {i k : Nat} : (∃ h, i <= h /\ h < k /\ pD h an.1 = true) -> ∃ h, i <= h /\ h < k /\ pD h an.1 = true /\ ∀ h', h < h' -> h' < k -> pD h' an.1 = false := by
 rintro ⟨h, h1, h2, h3⟩
 induction hd : k - h using Nat.strongRecOn generalizing h with
 | _ d ih =>
   by_cases hx : ∃ h', h < h' /\ h' < k /\ pD h' an.1 = true
   .obtain ⟨h', a, b, c⟩ := hx
    exact ih (k - h') (by omega) h' (by omega) b c rfl
   .refine ⟨h, h1, h2, h3, fun h' a b => ?_⟩
    cases hm : pD h' an.1
    .rfl
    .exact absurd ⟨h', a, b, hm⟩ hx
structure Oy (ops : Array Oper) (an : Tn) (O : Nat -> Oper) (b : Array Nat) : Prop where
 back : ∀ i, i < ops.size -> ∀ e ∈ (O i).after, Region.binds .any e = true -> e.on < i
 closed : ∀ i j, i < ops.size -> j < ops.size -> UA b i j = true -> ∃ e ∈ (O j).after, Region.binds .any e = true /\ (e.on = i ∨ UA b i e.on = true)
 pair : ∀ i j, i < j -> j < ops.size -> H6 ops b an i j (O i) (O j) = true
 sel : ∀ i, i < ops.size -> Mo (O i) = false
 fn : ∀ i, i < ops.size -> VY (O i) = true -> pD i an.1 = true
theorem Um (h : NU ops an = true) (ho : ∀ i, i < ops.size -> ops[i]? = some (O i)) : Oy ops an O (Region.before ops) := by
 unfold NU at h
 simp only [ZR] at h
 obtain ⟨⟨⟨⟨h1, h2⟩, h3⟩, h5⟩, h6⟩ := h
 refine ⟨fun i hi e he hb => ?_, fun i j hi hj hb => ?_, fun i j hij hj => ?_, fun i hi => ?_, fun i hi hf => ?_⟩
 .unfold Pj at h1
  have := aaH.1 h1 i (aaF.2 hi)
  rw [ho i hi] at this
  have := aaV.1 this e he
  simp only [hb, ZK, acV] at this
  exact (abZ (x := e.on) (y := i)) ▸ this
 .unfold Pk at h2
  have := aaH.1 (aaH.1 h2 j (aaF.2 hj)) i (aaF.2 hi)
  rw [ho j hj] at this
  simp only [hb, ZK, acV] at this
  obtain ⟨e, he, h⟩ := Array.any_eq_true'.1 this
  simp only [ZR, aaO] at h
  refine ⟨e, he, h.1, h.2.imp (fun h => Z5 h) id⟩
 .unfold QR at h3
  have := aaH.1 (aaH.1 h3 j (aaF.2 hj)) i (aaF.2 hij)
  rw [ho i (by omega), ho j hj] at this
  exact this
 .have := aaV.1 h5 (O i) (acY (ho i hi))
  simpa using this
 .have := aaH.1 h6 i (aaF.2 hi)
  rw [ho i hi] at this
  simpa [hf] using this
theorem UG {i j : Nat} : ∀ {l : List (Nat × Nat)}, On i j l = true -> (i, j) ∈ l := by
 intro l
 induction l with
 | nil => intro h; cases h
 | cons p r ih =>
   obtain ⟨a, b⟩ := p
   intro h
   unfold On at h
   cases ha : Nat.beq a i with
   | true =>
     simp only [ha] at h
     cases hb : Nat.beq b j with
     | true =>
       obtain rfl := Z5 ha
       obtain rfl := Z5 hb
       exact aaU
     | false => simp only [hb] at h; exact ZV _ (ih h)
   | false => simp only [ha] at h; exact ZV _ (ih h)
theorem Oy.order {b : Array Nat} (st : Oy ops an O b) {S : Nat -> Prop} {i : Nat} (hi : i < ops.size)
 (hdown : ∀ j k, j < ops.size -> k < ops.size -> S k -> UA b j k = true -> S j) (hbi : ∀ j, j < ops.size -> UA b j i = true -> S j) (hni : ¬ S i)
 {s : Nat} (hs : s ∈ looks ops (O i) ∨ (O i).dst = some s) {j : Nat} (hj : j < ops.size) (hji : j ≠ i) (hd : (O j).dst = some s) : S j ↔ j < i := by
 rcases aaN j i with h | h
 .refine ⟨fun _ => h, fun _ => ?_⟩
  have p := st.pair j i h hi
  unfold H6 at p
  simp only [aaO, ZR, abG] at p
  rcases p with p | p
  .exact hbi j hj p
  .exfalso
   have p1 := p.1
   unfold U4 at p1
   simp only [hd, acG] at p1
   rcases hs with hs | hs
   .have := p1.1.1; simp [hs] at this
   .have := p1.1.2; simp [hs] at this
 .have h' : i < j := by omega
  refine ⟨fun hS => ?_, fun hh => by omega⟩
  exfalso
  have p := st.pair i j h' hj
  unfold H6 at p
  simp only [aaO, ZR, abG] at p
  rcases p with p | p
  .exact hni (hdown i j hi hj hS p)
  .have p1 := p.1
   unfold U4 at p1
   simp only [hd, acG] at p1
   rcases hs with hs | hs
   .have := p1.2; simp [hs] at this
   .have := p1.1; rw [hs] at this; simp at this
theorem Fa {g g' : Env} {o : Oper} (h : ∀ s ∈ looks ops o, g s = g' s) : ∀ x ∈ o.op.operands, ev g x = ev g' x := by
 intro x hx
 cases x with
 | tmp t => exact h t (abM _ (List.mem_filterMap.2 ⟨.tmp t, by simpa using hx, rfl⟩))
 | _ => rfl
theorem Q0 {g g' : Env} {o : Oper} (hs : Mo o = false) (h : ∀ s ∈ looks ops o, g s = g' s) : F2 g o = F2 g' o := by
 have e := execOp_congr o (fun cs b he => by simp [Mo, he] at hs) (Fa h)
 have k := Fa h
 unfold F2
 split
 .rename_i op t x y yt hx
  rw [k x (by simp [hx, Op.operands]), k y (by simp [hx, Op.operands])]
 .rename_i fn first captured hx
  have e1 : List.map (ev g) first.toList = List.map (ev g') first.toList := aaR fun p hp => k p (by simp [hx, Op.operands]; exact .inl (by simpa using hp))
  have e2 : List.map (ev g) captured.toList = List.map (ev g') captured.toList := aaR fun p hp => k p (by simp [hx, Op.operands]; exact .inr (by simpa using hp))
  rw [e1, e2]
 .rename_i t ps hx
  congr 1
  refine aaR fun p hp => ?_
  rw [k p.2 (by simp [hx, Op.operands]; exact ⟨p.1, by simpa using hp⟩)]
 .rename_i t n ps hx
  congr 1
  refine aaR fun p hp => ?_
  rw [k p.2 (by simp [hx, Op.operands]; exact ⟨p.1, by simpa using hp⟩)]
 .rename_i c hx
  split
  .rename_i b hb
   congr 1
   refine aaR fun p hp => ?_
   exact k p (by simp [hx, Op.operands, Call.operands, hb]; simpa using hp)
  .rename_i f hb
   have : List.map (ev g) c.args.toList = List.map (ev g') c.args.toList := aaR fun p hp => k p (by simp [hx, Op.operands, Call.operands, hb]; exact .inr (by simpa using hp))
   rw [this, k f (by simp [hx, Op.operands, Call.operands, hb])]
  .exact e
 .exact e
theorem OO {g g' : Env} {o : Oper} {j : Nat} {want : Bool} (hg : o.guard = some (j, want)) (h : ∀ s ∈ looks ops o, g s = g' s) :
 wD g (AW ops j) want = wD g' (AW ops j) want := by
 cases hs : AW ops j with
 | none => rfl
 | some t =>
   have := h t (acE _ (by simp [hg, hs]))
   simp [wD, this]
theorem KC {g g' : Env} {o : Oper} {w : adH} {K : adI -> adH -> Prop} (hs : Mo o = false) (h : ∀ s ∈ looks ops o, g s = g' s)
 (hk : CB P ops g o w K) : CB P ops g' o w K := by
 have e := Q0 (ops := ops) hs h
 have run : D8 P g o w = D8 P g' o w := by
  funext K
  unfold D8
  split
  .rename_i x hx
   have := Fa (ops := ops) h x (by simp [hx, Op.operands])
   rw [this]
  .rename_i x hx
   have := Fa (ops := ops) h x (by simp [hx, Op.operands])
   rw [this]
  .rename_i c hx
   have k := Fa h
   have : List.map (ev g) c.args.toList = List.map (ev g') c.args.toList := aaR fun p hp => k p (by simp [hx, Op.operands, Call.operands]; exact .inr (by simpa using hp))
   rw [this, e]
  .rw [e]
 unfold CB at *
 cases hg : o.guard with
 | none => rw [hg] at hk; simp only at hk ⊢; rwa [<- run]
 | some p =>
   obtain ⟨j, want⟩ := p
   simp only [hg] at hk ⊢
   rw [<- run, <- OO hg h]
   exact hk
theorem Q1 {n : Nat} (hn : n = ops.size) {b : Array Nat} (r : Ux P ops an g0 w0 n O G W V) (st : Oy ops an O b) {S : Nat -> Prop} {i k : Nat} (hi : i < n) (hk : k <= n)
 (hdown : ∀ j k, j < ops.size -> k < ops.size -> S k -> UA b j k = true -> S j) (hbi : ∀ j, j < ops.size -> UA b j i = true -> S j) (hni : ¬ S i)
 (hS : ∀ h, h < n -> pD h an.1 = true -> (S h ↔ h < k)) (hl : pD i an.1 = false) :
 Mu P ops (G i) (O i) (W k) (V i) (W k) := by
 subst hn
 have same : Gs (YZ ops (O i) (G i)) (gM P (F2 (G i) (O i)) (V i) (W k)) -> GF (O i) = false -> Mu P ops (G i) (O i) (W k) (V i) (W k) := by
  intro hs hm K hK
  have run : gM P (F2 (G i) (O i)) (V i) (W k) -> D8 P (G i) (O i) (W k) K := by
   intro hs
   unfold gM at hs
   have stp : eY P (F2 (G i) (O i)) (W k) K := by unfold eY; rw [hs]; exact hK
   unfold D8
   split
   .rename_i x hx; simp [GF, hx] at hm
   .rename_i x hx; simp [GF, hx] at hm
   .rename_i c hx
    have hf : VY (O i) = false := by
     cases hh : VY (O i)
     .rfl
     .rw [st.fn i hi hh] at hl; cases hl
    obtain ⟨cal, cargs, cats⟩ := c
    cases cal with
    | value f =>
      cases f with
      | func f => simp [VY, hx] at hf
      | _ => exact stp
    | _ => exact stp
   .exact stp
  have hy := r.yld i hi (fun v _ => v = V i) rfl
  unfold CB at hy ⊢
  unfold YZ at hs
  cases hg : (O i).guard with
  | none => rw [hg] at hs; exact run hs
  | some p =>
    obtain ⟨j, want⟩ := p
    rw [hg] at hs
    simp only [hg] at hs hy ⊢
    cases hb : wD (G i) (AW ops j) want with
    | true => rw [hb] at hs; exact run hs
    | false =>
      rw [hb] at hy
      have : undef = V i := hy
      show K undef (W k)
      rw [this]; exact hK
 have moved : GF (O i) = true -> Mu P ops (G i) (O i) (W k) (V i) (W k) := by
  intro hm K hK
  have hy := r.yld i hi (fun v _ => v = V i) rfl
  unfold CB at hy ⊢
  have mv : ∀ (K' : adI -> adH -> Prop) w, D8 P (G i) (O i) w K' ↔ ∃ x, ((O i).op = .move x ∨ (O i).op = .assign x) /\ K' (ev (G i) x) w := by
   intro K' w
   unfold D8
   unfold GF at hm
   split
   .rename_i x hx; constructor
    .intro h; exact ⟨x, .inl hx, h⟩
    .rintro ⟨y, h | h, h'⟩
     .rw [hx] at h; cases h; exact h'
     .rw [hx] at h; cases h
   .rename_i x hx; constructor
    .intro h; exact ⟨x, .inr hx, h⟩
    .rintro ⟨y, h | h, h'⟩
     .rw [hx] at h; cases h
     .rw [hx] at h; cases h; exact h'
   .rename_i c hx; simp [hx] at hm
   .rename_i h1 h2 _; split at hm
    .rename_i x hx; exact absurd hx (h1 x)
    .rename_i x hx; exact absurd hx (h2 x)
    .cases hm
  cases hg : (O i).guard with
  | none =>
    rw [hg] at hy
    simp only at hy ⊢
    rw [mv] at hy ⊢
    obtain ⟨x, hx, h⟩ := hy
    exact ⟨x, hx, h ▸ hK⟩
  | some p =>
    obtain ⟨j, want⟩ := p
    simp only [hg] at hy ⊢
    unfold Gd at *
    cases hb : wD (G i) (AW ops j) want with
    | true =>
      simp only [hb] at hy ⊢
      rw [mv] at hy ⊢
      obtain ⟨x, hx, h⟩ := hy
      exact ⟨x, hx, h ▸ hK⟩
    | false =>
      simp only [hb] at hy ⊢
      rwa [hy]
 rcases Nat.le_total k i with hki | hki
 .by_cases hx : ∃ h, k <= h /\ h < i /\ pD h an.1 = true
  .obtain ⟨h, h1, h2, h3, h4⟩ := Rz hx
   have e : W h = W k := r.still' h1 (by omega) h4
   have p := st.pair h i h2 hi
   unfold H6 at p
   simp only [aaO, ZR, abG] at p
   rcases p with p | p
   .have := hbi h (by omega) p
    have := (hS h (by omega) h3).1 this
    omega
   .have p2 := p.2
    rw [h3, hl] at p2
    simp only [aaO] at p2
    cases hmv : GF (O i) with
    | true => exact moved hmv
    | false =>
      rcases p2 with p2 | p2
      .rw [hmv] at p2; cases p2
      .refine same ?_ hmv
       have c := r.chk h i h2 hi p2
       unfold Tm J0 MK at c
       simp only [h3] at c
       rw [<- e]; exact c
  .have e : W i = W k := r.still' hki (by omega) (fun h a b => by
    cases hm : pD h an.1
    .rfl
    .exact absurd ⟨h, a, b, hm⟩ hx)
   have hy := r.yld i hi
   rw [r.light i hi hl, e] at hy
   exact hy
 .by_cases hx : ∃ h, i <= h /\ h < k /\ pD h an.1 = true
  .obtain ⟨h, h1, h2, h3, h4⟩ := Ol hx
   have hne : h ≠ i := fun e => by rw [e, hl] at h3; cases h3
   have e : W k = W (h + 1) := r.still' (by omega) hk (fun h' a b => h4 h' (by omega) b)
   have p := st.pair i h (by omega) (by omega)
   unfold H6 at p
   simp only [aaO, ZR, abG] at p
   rcases p with p | p
   .exact absurd (hdown i h (by omega) (by omega) ((hS h (by omega) h3).2 h2) p) hni
   .have p2 := p.2
    rw [h3, hl] at p2
    simp only [aaO] at p2
    cases hmv : GF (O i) with
    | true => exact moved hmv
    | false =>
      rcases p2 with p2 | p2
      .rw [hmv] at p2; cases p2
      .refine same ?_ hmv
       have c := r.chk i h (by omega) (by omega) p2
       unfold Tm J0 MK at c
       simp only [hl] at c
       rw [e]; exact c
  .have e : W k = W i := r.still' hki hk (fun h a b => by
    cases hm : pD h an.1
    .rfl
    .exact absurd ⟨h, a, b, hm⟩ hx)
   have hy := r.yld i hi
   rw [r.light i hi hl, <- e] at hy
   exact hy
def mJ (listed : Array Bool) (i : Nat) : Prop := listed.getD i false = true
theorem VB {N n : Nat} (hn : n = ops.size) (hd : JV N ops) (hca : KO P ops) {b : Array Nat} (r : Ux P ops an g0 w0 n O G W V) (st : Oy ops an O b)
 {Q : Act -> adH -> Prop} (hQ : ∀ a, Ib N (G n) a -> Q a (W n)) :
 ∀ (fuel : Nat) (listed : Array Bool) (g : Env) (a : Act) (k : Nat), listed.size = n -> Ib N g a -> k <= n →
   (∀ j, j < n -> mJ listed j -> ∀ e ∈ (O j).after, Region.binds .any e = true -> mJ listed e.on) →
   Gh n O V g0 (mJ listed) g -> (∀ h, h < n -> pD h an.1 = true -> (mJ listed h ↔ h < k)) →
   ((List.range n).filter fun i => !listed.getD i false).length <= fuel →
   Oo P ops Q fuel listed a (W k) := by
 subst hn
 have ready_iff : ∀ (listed : Array Bool), listed.size = ops.size -> ∀ i, i ∈ Region.ready .any ops listed ↔ (i < ops.size /\ ¬ mJ listed i /\ ∀ e ∈ (O i).after, Region.binds .any e = true -> mJ listed e.on) := by
  intro listed hsz i
  unfold Region.ready mJ
  rw [List.mem_filter, aaF]
  constructor
  .rintro ⟨h1, h2⟩
   rw [r.op i h1] at h2
   simp only [ZR, aaJ, aaY] at h2
   refine ⟨h1, ?_, fun e he hb => ?_⟩
   .have := h2.1
    rw [ZP] at this ⊢
    rw [ZX (by omega)] at this ⊢
    simpa using this
   .have := aaV.1 h2.2 e he
    simpa [hb] using this
  .rintro ⟨h1, h2, h3⟩
   refine ⟨h1, ?_⟩
   rw [r.op i h1]
   simp only [ZR, aaJ, aaY]
   refine ⟨?_, aaV.2 fun e he => ?_⟩
   .rw [ZP] at h2 ⊢
    rw [ZX (by omega)] at h2 ⊢
    simpa using h2
   .by_cases hb : Region.binds .any e = true
    .simp [hb, h3 e he hb]
    .simp [hb]
 have none_ready : ∀ (listed : Array Bool), listed.size = ops.size -> Region.ready .any ops listed = [] -> ∀ i, i < ops.size -> mJ listed i := by
  intro listed hsz hr i
  induction i using Nat.strongRecOn with
  | _ i ih =>
    intro hi
    refine Classical.byContradiction fun hl => ?_
    have : i ∈ Region.ready .any ops listed := (ready_iff listed hsz i).2 ⟨hi, hl, fun e he hb => by
     have := st.back i hi e he hb
     exact ih e.on this (by omega)⟩
    rw [hr] at this; cases this
 have all_done : ∀ (listed : Array Bool) (g : Env) (a : Act) (k : Nat), Ib N g a -> k <= ops.size -> Gh ops.size O V g0 (mJ listed) g →
     (∀ h, h < ops.size -> pD h an.1 = true -> (mJ listed h ↔ h < k)) -> (∀ i, i < ops.size -> mJ listed i) -> Q a (W k) := by
  intro listed g a k hr hk he hh hall
  have e : W ops.size = W k := r.still' hk (ZU _) (fun h h1 h2 => by
   cases hm : pD h an.1
   .rfl
   .have := (hh h h2 hm).1 (hall h h2); omega)
  have eg : g = G ops.size := funext fun s => he.agree (r.envFor ops.size (ZU _)) s (fun j hj _ => ⟨fun _ => hj, fun _ => hall j hj⟩)
  rw [<- e]; exact hQ a (eg ▸ hr)
 intro fuel
 induction fuel with
 | zero =>
   intro listed g a k hsz hr hk hdep henv hh hc
   have hall : ∀ i, i < ops.size -> mJ listed i := by
    intro i hi
    have hnil : ((List.range ops.size).filter fun i => !listed.getD i false) = [] := Z3.1 (by omega)
    have := List.filter_eq_nil_iff.1 hnil i (aaF.2 hi)
    unfold mJ; simpa using this
   refine ⟨?_, all_done listed g a k hr hk henv hh hall⟩
   rw [List.eq_nil_iff_forall_not_mem]
   intro i hi
   have := (ready_iff listed hsz i).1 hi
   exact this.2.1 (hall i this.1)
 | succ fuel ih =>
   intro listed g a k hsz hr hk hdep henv hh hc
   refine ⟨fun hn => all_done listed g a k hr hk henv hh (none_ready listed hsz hn), fun i hi => ?_⟩
   obtain ⟨h1, h2, h3⟩ := (ready_iff listed hsz i).1 hi
   have hdown : ∀ k j, j < ops.size -> k < ops.size -> mJ listed k -> UA b j k = true -> mJ listed j := by
    intro k
    induction k using Nat.strongRecOn with
    | _ k ihk =>
      intro j hj hk hl hb
      obtain ⟨e, he, hbi, h⟩ := st.closed j k hj hk hb
      have hle := hdep k hk hl e he hbi
      rcases h with h | h
      .exact h ▸ hle
      .have hlt := st.back k hk e he hbi
       exact ihk e.on hlt j hj (by omega) hle h
   have hbi : ∀ j, j < ops.size -> UA b j i = true -> mJ listed j := by
    intro j hj hb
    obtain ⟨e, he, hbi, h⟩ := st.closed j i hj h1 hb
    have hle := h3 e he hbi
    rcases h with h | h
    .exact h ▸ hle
    .have hlt := st.back i h1 e he hbi
     exact hdown e.on j hj (by omega) hle h
   have hdown' : ∀ j k, j < ops.size -> k < ops.size -> mJ listed k -> UA b j k = true -> mJ listed j := fun j k => hdown k j
   have hlooks : ∀ s ∈ looks ops (O i), (G i) s = g s := fun s hs =>
    (r.envFor i (by omega)).agree henv s (fun j hj hd => by
      by_cases hji : j = i
      .subst hji
       exact ⟨fun h => absurd h (by omega), fun h => absurd h h2⟩
      .exact (st.order h1 hdown' hbi h2 (.inl hs) hj hji hd).symm)
   have hl' : ∀ j, mJ (listed.setIfInBounds i true) j ↔ (mJ listed j ∨ j = i) := by
    intro j
    unfold mJ
    rw [ZP, ZP]
    by_cases hji : j = i
    .subst hji
     rw [ZZ (by omega)]
     simp
    .rw [Z1 (fun e => hji e.symm)]
     simp [hji]
   have next : ∀ k', k' <= ops.size -> (∀ h, h < ops.size -> pD h an.1 = true -> ((mJ listed h ∨ h = i) ↔ h < k')) -> Mu P ops g (O i) (W k) (V i) (W k') →
       HX P ops i (Oo P ops Q fuel (listed.setIfInBounds i true)) a (W k) := by
    intro k' hk' hh' hy
    refine Mq (r.op i h1) (hca i _ (r.op i h1)) hd hr hy ?_
    refine ih _ (put g (O i).dst (V i)) _ k' (by simp [hsz]) (hr.put _ _ (hd i _ (r.op i h1))) hk' ?_ ?_ ?_ ?_
    .intro j hj hlj e he hb
     rw [hl'] at hlj ⊢
     rcases hlj with hlj | rfl
     .exact .inl (hdep j hj hlj e he hb)
     .exact .inl (h3 e he hb)
    .have := henv.step i h1 (fun s hs j hj hji hd hlj => (st.order h1 hdown' hbi h2 (.inr hs) hj hji hd).1 hlj)
     intro s
     rcases this s with ⟨j, j1, j2, j3, j4, j5⟩ | ⟨j1, j2⟩
     .exact .inl ⟨j, j1, (hl' j).2 j2, j3, fun k k1 k2 k3 => j4 k k1 ((hl' k).1 k2) k3, j5⟩
     .exact .inr ⟨fun j a b => j1 j a ((hl' j).1 b), j2⟩
    .intro h a b; rw [hl']; exact hh' h a b
    .have hin : i ∈ (List.range ops.size).filter fun i => !listed.getD i false :=
      List.mem_filter.2 ⟨aaF.2 h1, by unfold mJ at h2; simpa using h2⟩
     have e1 : ((List.range ops.size).filter fun j => !(listed.setIfInBounds i true).getD j false) = ((List.range ops.size).filter fun j => !listed.getD j false).filter fun j => j != i := by
      rw [List.filter_filter]
      refine List.filter_congr fun j _ => ?_
      have := hl' j
      unfold mJ at this
      by_cases hji : j = i
      .have hh : (listed.setIfInBounds i true).getD j false = true := this.2 (.inr hji)
       rw [hh, hji]; simp
      .have hne : (j != i) = true := by simpa using hji
       rw [hne, Bool.true_and]
       cases ha : listed.getD j false with
       | true => rw [this.2 (.inl ha)]
       | false =>
         cases hb : (listed.setIfInBounds i true).getD j false with
         | false => rfl
         | true => rcases this.1 hb with h | h
                   .rw [ha] at h; cases h
                   .exact absurd h hji
     have hnd : ((List.range ops.size).filter fun j => !listed.getD j false).Nodup := List.nodup_range.filter _
     rw [e1, <- List.Nodup.erase_eq_filter hnd, List.length_erase_of_mem hin]
     omega
   cases hm : pD i an.1 with
   | true =>
     have hS : ∀ h, h < ops.size -> pD h an.1 = true -> (mJ listed h ↔ h < i) := by
      intro h hh1 hhm
      rcases Nat.lt_trichotomy h i with hlt | heq | hgt
      .refine ⟨fun _ => hlt, fun _ => ?_⟩
       have p := st.pair h i hlt h1
       unfold H6 at p
       rw [hhm, hm] at p
       simp only [aaO, ZR, ZF, and_false, or_false] at p
       exact hbi h hh1 p
      .subst heq; exact ⟨fun hh => absurd hh h2, fun hh => absurd hh (by omega)⟩
      .refine ⟨fun hl => ?_, fun hh => absurd hh (by omega)⟩
       have p := st.pair i h hgt hh1
       unfold H6 at p
       rw [hhm, hm] at p
       simp only [aaO, ZR, ZF, and_false, or_false] at p
       exact absurd (hdown h i h1 hh1 hl p) h2
     have eW : W k = W i := by
      rcases Nat.le_total k i with hki | hki
      .exact (r.still' hki (by omega) (fun h a b => by
        cases hx : pD h an.1
        .rfl
        .have := (hh h (by omega) hx).1 ((hS h (by omega) hx).2 b); omega)).symm
      .exact r.still' hki hk (fun h a b => by
        cases hx : pD h an.1
        .rfl
        .have := (hS h (by omega) hx).1 ((hh h (by omega) hx).2 b); omega)
     refine next (i + 1) (by omega) (fun h a b => ?_) ?_
     .rw [hS h a b]; omega
     .rw [eW]
      intro K hK
      exact KC (ops := ops) (st.sel i h1) hlooks (r.yld i h1 K hK)
   | false =>
     refine next k hk (fun h a b => ?_) ?_
     .rw [<- hh h a b]
      constructor
      .rintro (h' | rfl)
       .exact h'
       .rw [hm] at b; cases b
      .exact .inl
     .intro K hK
      exact KC (ops := ops) (st.sel i h1) hlooks (Q1 rfl r st h1 hk hdown' hbi h2 hh hm K hK)
end
abbrev Oh (P : Program) : Machine -> Prop := Machine.fenced P Fence.wide
def NC (P : Program) (f : FuncId) (ro : Option Nat) (c : Code) (Q : Exit -> Act -> adH -> Prop) (a : Act) (w : adH) : Prop :=
 ∀ (b : Frame) (k : List Item) (cs : List Frame), b.fn = f -> b.roundOf = ro -> ∃ e a' w', Q e a' w' /\ ArrivesIn (Oh P) P (lone (b.atR a (.code c :: k)) cs w) b k cs e a' w'
section
variable {P : Program} {f : FuncId} {ro : Option Nat} {Q : Exit -> Act -> adH -> Prop} {a : Act} {w : adH}
theorem DA {m m1 : Machine} (h : step P m = .next m1) : StepsIn (Oh P) P m m1 := .one (fenced_wide P m) h
theorem GV {m m1 m2 : Machine} (h : step P m = .next m1) (h' : StepsIn (Oh P) P m1 m2) : StepsIn (Oh P) P m m2 := .head (fenced_wide P m) h h'
theorem VD (h : Q .normal a w) : NC P f ro .skip Q a w := fun _ _ _ _ _ => ⟨.normal, a, w, h, DA Go.stepR_skip⟩
theorem T2 {l : Nat} (h : Q .normal a w) : NC P f ro (.label l) Q a w := fun _ _ _ _ _ => ⟨.normal, a, w, h, DA stepR_label⟩
theorem Rf {id : Nat} (h : Q (.exit id) a w) : NC P f ro (.exit id) Q a w :=
 fun _ k _ _ _ => ⟨.exit id, a, w, h, fun _ hk => DA (stepR_exit hk), fun _ hk => ⟨k, hk, .refl _⟩⟩
theorem S9 (h : Q .ret a w) : NC P f ro .ret Q a w :=
 fun _ k _ _ _ => ⟨.ret, a, w, h, fun hn => ⟨_, DA (stepR_ret hn)⟩, fun _ => ⟨k, .refl _⟩⟩
theorem WX {x y : Code} (h : NC P f ro x (Exit.then (NC P f ro y Q) Q) a w) : NC P f ro (.seq x y) Q a w := by
 intro b k cs hb hro
 obtain ⟨e, a1, w1, hq, har⟩ := h b (.code y :: k) cs hb hro
 cases e with
 | normal =>
   obtain ⟨e2, a2, w2, hq2, har2⟩ := hq b k cs hb hro
   exact ⟨e2, a2, w2, hq2, .of_steps (GV stepR_seq har) har2⟩
 | _ => exact ⟨_, a1, w1, hq, .of_steps (DA stepR_seq) (.pass (x := .code y) rfl (fun _ _ => .inl (by simp)) har)⟩
theorem UR {c : Operand} {x y : Code} {t : Bool} (hc : a.eval c = .bool t) (h : NC P f ro (if t then x else y) Q a w) : NC P f ro (.cond c x y) Q a w :=
 fun b k cs hb hro => let ⟨e, a1, w1, q, r⟩ := h b k cs hb hro; ⟨e, a1, w1, q, .of_steps (DA (stepR_cond hc)) r⟩
theorem TT {id : Nat} {c : Code} (h : NC P f ro c (Exit.inBlock id Q) a w) : NC P f ro (.block id c) Q a w := by
 intro b k cs hb hro
 obtain ⟨e, a1, w1, hq, har⟩ := h b (.inBlock id :: k) cs hb hro
 cases e with
 | normal => exact ⟨.normal, a1, w1, hq, GV stepR_block (StepsIn.trans har (DA stepR_inBlock))⟩
 | exit i =>
   by_cases hid : i = id
   .simp only [Exit.inBlock, hid, if_true] at hq
    exact ⟨.normal, a1, w1, hq, GV stepR_block (har.1 k (by simp [exitTo, hid]))⟩
   .simp only [Exit.inBlock, hid, if_false] at hq
    have this : (id == i) = false := by simp; exact fun h => hid h.symm
    have hx : exitTo i (.inBlock id :: k) = exitTo i k := by simp [exitTo, this]
    exact ⟨.exit i, a1, w1, hq, fun k' hk => GV stepR_block (har.1 k' (by rw [hx]; exact hk)),
     fun hr' hk => let ⟨k1, h1, h2⟩ := har.2 hr' (by rw [hx]; exact hk); ⟨k1, h1, GV stepR_block h2⟩⟩
 | goto l =>
   have hx : gotoIn l (.inBlock id :: k) = gotoIn l k := by simp [gotoIn]
   exact ⟨_, a1, w1, hq, fun k' hk => GV stepR_block (har.1 k' (by rw [hx]; exact hk)),
    fun hr' hk => let ⟨k1, h1, h2⟩ := har.2 hr' (by rw [hx]; exact hk); ⟨k1, h1, GV stepR_block h2⟩⟩
 | ret => exact ⟨_, a1, w1, hq, .of_steps (DA stepR_block) har⟩
 | panic ch => exact ⟨_, a1, w1, hq, .of_steps (DA stepR_block) har⟩
 | outgrown => exact ⟨_, a1, w1, hq, .of_steps (DA stepR_block) har⟩
theorem xZ {b : Frame} {k : List Item} {cs : List Frame} {c : Code} :
 step P (lone (b.atR a (.code (.scope c) :: k)) cs w) = .next (lone (b.atR a (.code c :: .inScope c :: k)) cs w) :=
 step_lone_go (by simp [stepG, stepG.exec, Frame.atR])
theorem OG {b : Frame} {k : List Item} {cs : List Frame} {c : Code} :
 step P (lone (b.atR a (.inScope c :: k)) cs w) = .next (lone (b.atR a k) cs w) :=
 step_lone_go (by simp [stepG, stepG.exec, Frame.atR])
theorem TA {c : Code} (h : NC P f ro c (Exit.noGoto Q) a w) : NC P f ro (.scope c) Q a w := by
 intro b k cs hb hro
 obtain ⟨e, a1, w1, hq, har⟩ := h b (.inScope c :: k) cs hb hro
 cases e with
 | normal => exact ⟨.normal, a1, w1, hq, GV xZ (StepsIn.trans har (DA OG))⟩
 | exit id =>
   have hx : exitTo id (.inScope c :: k) = exitTo id k := by simp [exitTo]
   exact ⟨.exit id, a1, w1, hq, fun k' hk => GV xZ (har.1 k' (by rw [hx]; exact hk)),
    fun hr' hk => let ⟨k1, h1, h2⟩ := har.2 hr' (by rw [hx]; exact hk); ⟨k1, h1, GV xZ h2⟩⟩
 | goto l => exact hq.elim
 | ret => exact ⟨_, a1, w1, hq, .of_steps (DA xZ) har⟩
 | panic ch => exact ⟨_, a1, w1, hq, .of_steps (DA xZ) har⟩
 | outgrown => exact ⟨_, a1, w1, hq, .of_steps (DA xZ) har⟩
theorem VL {c : Code} (I : Act -> adH -> Prop) (μ : Act -> adH -> Nat) (h0 : I a w)
 (round : ∀ a w, I a w -> NC P f ro c (Exit.then (fun a' w' => I a' w' /\ μ a' w' < μ a w) Q) a w) : NC P f ro (.loop c) Q a w := by
 intro b k cs hb hro
 have key : ∀ n a w, μ a w = n -> I a w →
     ∃ e a' w', Q e a' w' /\ ArrivesIn (Oh P) P (lone (b.atR a (.code c :: .inLoop c :: k)) cs w) b k cs e a' w' := by
  intro n
  induction n using Nat.strongRecOn with
  | _ n ih =>
    intro a w hn hI
    obtain ⟨e, a1, w1, hq, har⟩ := round a w hI b (.inLoop c :: k) cs hb hro
    cases e with
    | normal =>
      obtain ⟨hI1, hlt⟩ := hq
      obtain ⟨e2, a2, w2, hq2, har2⟩ := ih (μ a1 w1) (hn ▸ hlt) a1 w1 rfl hI1
      exact ⟨e2, a2, w2, hq2, .of_steps (StepsIn.trans har (DA stepR_inLoop)) har2⟩
    | _ => exact ⟨_, a1, w1, hq, .pass (x := .inLoop c) rfl (fun _ _ => .inl (by simp)) har⟩
 obtain ⟨e, a', w', hq, har⟩ := key _ a w rfl h0
 exact ⟨e, a', w', hq, .of_steps (DA stepR_loop) har⟩
theorem SU {ops : Array Oper} {L : List Nat} (h : AU P ops (Q .normal) L a w) (b : Frame) (k : List Item) (cs : List Frame) (hro : b.roundOf = ro) :
 ∃ e a' w', Q e a' w' /\ ArrivesIn (Oh P) P (lone (b.atR a (.inRegion ops L :: k)) cs w) b k cs e a' w' := by
 obtain ⟨e, a', w', ⟨rfl, hq⟩, hs⟩ := wp_opsIn (F := Ox ro) (n := 0) L a w (TV ro L a w h) b k cs hro trivial (fun _ h => by simp [Ox, Fence.wide] at h)
 exact ⟨.normal, a', w', hq, hs⟩
theorem R3 {id : Nat} {ops : Array Oper} (h : AU P ops (Q .normal) (List.range ops.size) a w) : NC P f ro (.region id ops false) Q a w := by
 intro b k cs hb hro
 obtain ⟨e, a1, w1, q, r⟩ := SU h b k cs hro
 exact ⟨e, a1, w1, q, .of_steps (DA stepR_region) r⟩
theorem M3 (hm : P.follows .mixedOrders = true) {id : Nat} {ops : Array Oper}
 (h : AU P ops (Q .normal) (Region.schedule true ops (w.tape w.drawn (.order f id))) a { w with drawn := w.drawn + 1 }) : NC P f ro (.region id ops true) Q a w := by
 intro b k cs hb hro
 obtain ⟨e, a1, w1, q, r⟩ := SU h b k cs hro
 refine ⟨e, a1, w1, q, .of_steps (DA ?_) r⟩
 have := @stepR_region_draw P b a k cs w ops id
 rw [hm, hb] at this
 exact this
def Ci (v : adI) (w : adH) (K : adH -> Prop) : Prop :=
 match v with
 | .pointer (some a) => w.heap[a.block]? = some (.deferred (some [])) /\ K (w.putObj a.block (.deferred none))
 | _ => K w
def TB (P : Program) (fn : Func) (R : adI -> adH -> Prop) : Exit -> Act -> adH -> Prop
 | .normal, a, w | .ret, a, w => ∃ m, a.defers = Rq m /\ Ci m w fun w' => ∃ v, (results fn a.tmps).run P w' = .ok v w' /\ R v w'
 | _, _, _ => False
theorem RG {fn : Func} {R : adI -> adH -> Prop} {fr : Frame} {cs : List Frame} (hm : fr.mode = .returning) (hf : P.funcs[fr.fn]? = some fn) (hk : fr.kind = .normal) {m : adI} (hd : fr.defers = Rq m)
 (h : Ci m w fun w' => ∃ v, (results fn fr.tmps).run P w' = .ok v w' /\ R v w') :
 ∃ v w' fr', R v w' /\ Steps P (lone fr cs w) (lone fr' cs w') /\ fr'.fn = fr.fn /\ fr'.leaving P w' (.returned v) := by
 have nil : fr.defers = [] -> (∃ v, (results fn fr.tmps).run P w = .ok v w /\ R v w) →
     ∃ v w' fr', R v w' /\ Steps P (lone fr cs w) (lone fr' cs w') /\ fr'.fn = fr.fn /\ fr'.leaving P w' (.returned v) := by
  rintro hd ⟨v, hv, hR⟩
  exact ⟨v, w, fr, hR, .refl _ _, rfl, hm, hd, hk, fn, hf, hv⟩
 cases m with
 | pointer p =>
   cases p with
   | none => exact nil hd h
   | some a =>
     obtain ⟨h1, v, hv, hR⟩ := h
     have hs := step_collected (P := P) (fr := fr) (cs := cs) (w := w) (d := { target := .collected a.block, args := #[] }) (r := a.block) (ds := []) (calls := [])
      (by rw [hm]; simp) hd rfl (run_takeDeferred h1)
     exact ⟨v, _, { fr with defers := [] }, hR, .head hs (.refl _ _), rfl, hm, rfl, hk, fn, hf, hv⟩
 | _ => exact nil hd h
theorem PX {fn : Func} {c : Code} {args : Array adI} {w : adH} {R : adI -> adH -> Prop}
 (hf : P.funcs[f]? = some fn) (hb : fn.body = some c)
 (h : NC P f none c (TB P fn R) { tmps := args ++ Array.replicate (fn.ntmps - args.size) undef, defers := [] } w) : Calls P f args w fun e w' => ∃ v, e = .returned v /\ R v w' := by
 intro cs
 let b : Frame := { (default : Frame) with fn := f, kind := .normal, roundOf := none }
 have henter : Frame.enter P f args .normal = b.atR { tmps := args ++ Array.replicate (fn.ntmps - args.size) undef, defers := [] } [.code c] := by
  simp [Frame.enter, Frame.atR, hf, hb, b]
 obtain ⟨e, a', w', hq, har⟩ := h b [] cs rfl rfl
 rw [<- henter] at har
 cases e with
 | normal =>
   obtain ⟨m, hd, hq⟩ := hq
   obtain ⟨v, w2, fr, hR, hs, hfn, hl⟩ := RG (P := P) (cs := cs) (fr := { b.atR a' [] with mode := .returning }) rfl hf rfl hd hq
   exact ⟨.returned v, w2, fr, ⟨v, rfl, hR⟩, (StepsIn.steps har).trans (.head (stepR_end rfl) hs), hfn, hl⟩
 | ret =>
   obtain ⟨m, hd, hq⟩ := hq
   obtain ⟨todo, hs0⟩ := har.1 rfl
   obtain ⟨v, w2, fr, hR, hs, hfn, hl⟩ := RG (P := P) (cs := cs) (fr := { b.atR a' todo with mode := .returning }) rfl hf rfl hd hq
   exact ⟨.returned v, w2, fr, ⟨v, rfl, hR⟩, (StepsIn.steps hs0).trans hs, hfn, hl⟩
 | panic chain => exact hq.elim
 | exit id => exact hq.elim
 | goto l => exact hq.elim
 | outgrown => exact hq.elim
def Xm (P : Program) (f : FuncId) (Q : Exit -> Act -> adH -> Prop) (a : Act) (w : adH) : Option Code -> Prop
 | none => Q .normal a w
 | some c => NC P f none c Q a w
theorem Ud {gf : Operand} {ps : Array Tmp} {ZC bd : Code} {d : Deferred} {g : FuncId} {args : Array adI} {w1 : adH} {l : Nat} {mark : List Deferred} {w2 w3 : adH} {v : adI}
 (he : (Instr.enterLoop f a.tmps ps ZC bd none).run P w = .ok (l, mark) w1)
 (hres : (resolve a.eval (rangeCall gf l) 0).run P w1 = .ok d w1) (hinv : (invoke d.target d.args).run P w1 = .ok (.enter g args) w2)
 (hcall : Ze P g args w2 v w3)
 {jump : Option Code} {w4 : adH} (hend : (Instr.endLoop l).run P w3 = .ok jump w4)
 (hj : Xm P f Q { a with defers := mark ++ a.defers } w4 jump) :
 NC P f none (.rangeFunc gf ps ZC bd) Q a w := by
 intro b k cs hb hro
 rw [<- hb, <- hro] at he
 have henter := stepR_rangeFunc (P := P) (b := b) (a := a) (k := k) (cs := cs) (w := w) he hres hinv
 obtain ⟨e, w3', fr, ⟨rfl, rfl⟩, hsteps, hfn, hleave⟩ := hcall (b.atR { a with defers := mark ++ a.defers } (.inRangeFunc l :: k) :: cs)
 have sback : StepsIn (Oh P) P (lone (b.atR a (.code (.rangeFunc gf ps ZC bd) :: k)) cs w) (lone (b.atR { a with defers := mark ++ a.defers } ((jump.map Item.code).toList ++ k)) cs w4) := by
  refine GV henter (StepsIn.trans (stepsIn_wide.2 hsteps) (GV (m1 := lone (b.atR { a with defers := mark ++ a.defers } (.endRangeFunc l :: k)) cs w3') ?_ (DA (stepR_endRangeFunc hend))))
  rw [<- finish_atR_inRangeFunc l v]; exact step_leave_returned hleave
 cases jump with
 | none => exact ⟨.normal, _, w4, hj, sback⟩
 | some c =>
   obtain ⟨e', a'', w5, hq, harr⟩ := hj b k cs hb hro
   exact ⟨e', a'', w5, hq, .of_steps sback harr⟩
def RT (P : Program) (l : Nat) (R : adI -> adH -> Prop) : Exit -> Act -> adH -> Prop
 | .normal, _, w => ∃ v w', (Instr.endRound l none).run P w = .ok v w' /\ R v w'
 | .ret, _, w => ∃ v w', (Instr.endRound l (some .ret)).run P w = .ok v w' /\ R v w'
 | .exit id, _, w => ∃ v w', (Instr.endRound l (some (.exit id))).run P w = .ok v w' /\ R v w'
 | _, _, _ => False
theorem PW {l : Nat} {tmps : Array adI} {ZC bd : Code} {R : adI -> adH -> Prop}
 (h : NC P f (some l) ZC (Exit.then (fun a1 w1 => ∃ w2, (Instr.beginRound l).run P w1 = .ok () w2 /\ NC P f (some l) bd (RT P l R) a1 w2) (fun _ _ _ => False))
   { tmps := tmps, defers := [] } w) :
 RoundIn Fence.wide 0 P l f tmps ZC bd w fun e w' => ∃ v, e = .returned v /\ R v w' := by
 refine ⟨trivial, fun c cs _ => ?_⟩
 let b : Frame := { (default : Frame) with fn := f, kind := .normal, roundOf := some l }
 have hb0 : Frame.round l f tmps ZC bd .normal = b.atR { tmps := tmps, defers := [] } [.code ZC, .beginRound, .code bd] := by
  simp [Frame.round, Frame.atR, b]
 obtain ⟨e, a1, w1, hq, harr⟩ := h b [.beginRound, .code bd] (c :: cs) rfl rfl
 rw [<- hb0] at harr
 cases e with
 | normal =>
   obtain ⟨w2, hbr, hbody⟩ := hq
   have s1 := DA (stepR_beginRound (P := P) (b := b) (a := a1) (k := [.code bd]) (cs := c :: cs) rfl hbr)
   obtain ⟨e2, a2, w3, hq2, harr2⟩ := hbody b [] (c :: cs) rfl rfl
   cases e2 with
   | normal =>
     obtain ⟨v, w4, hend, hR⟩ := hq2
     exact ⟨.returned v, w4, ⟨v, rfl, hR⟩, (StepsIn.trans harr s1).trans (StepsIn.trans harr2 (DA (stepR_round_end rfl rfl hend)))⟩
   | ret =>
     obtain ⟨v, w4, hend, hR⟩ := hq2
     obtain ⟨k1, hs⟩ := harr2.2 rfl
     exact ⟨.returned v, w4, ⟨v, rfl, hR⟩, (StepsIn.trans harr s1).trans (StepsIn.trans hs (DA (stepR_round_ret rfl rfl hend)))⟩
   | exit id =>
     obtain ⟨v, w4, hend, hR⟩ := hq2
     obtain ⟨k1, hk, hs⟩ := harr2.2 rfl rfl
     exact ⟨.returned v, w4, ⟨v, rfl, hR⟩, (StepsIn.trans harr s1).trans (StepsIn.trans hs (DA (stepR_round_exit rfl rfl hk hend)))⟩
   | goto t => exact hq2.elim
   | panic chain => exact hq2.elim
   | outgrown => exact hq2.elim
 | exit id => exact hq.elim
 | goto t => exact hq.elim
 | ret => exact hq.elim
 | panic chain => exact hq.elim
 | outgrown => exact hq.elim
end
def Qg (ops : Array Oper) : Nat -> Array Bool -> List Nat -> Prop
 | 0, _, L => L = []
 | _ + 1, listed, [] => Region.ready .any ops listed = []
 | n + 1, listed, i :: L => i ∈ Region.ready .any ops listed /\ Qg ops n (listed.setIfInBounds i true) L
section
variable {P : Program} {ops : Array Oper} {Q : Act -> adH -> Prop}
theorem Wo : ∀ (fuel t : Nat) (listed : Array Bool), Qg ops fuel listed (Region.linearise.go .any ops fuel t listed []) := by
 intro fuel
 induction fuel with
 | zero => intro t listed; simp [Region.linearise.go, Qg]
 | succ fuel ih =>
   intro t listed
   simp only [Region.linearise.go]
   change Qg ops (fuel + 1) listed (match (Region.ready .any ops listed)[t % (Region.ready .any ops listed).length]? with
    | some i => Region.linearise.go .any ops fuel (t / (Region.ready .any ops listed).length) (listed.setIfInBounds i true) [i]
    | none => [].reverse)
   cases hi : (Region.ready .any ops listed)[t % (Region.ready .any ops listed).length]? with
   | none =>
     have : Region.ready .any ops listed = [] := by
      cases hr : Region.ready .any ops listed with
      | nil => rfl
      | cons x xs =>
        rw [hr] at hi
        have hlt : t % (x :: xs).length < (x :: xs).length := acQ _ (by simp)
        rw [ZO hlt] at hi
        cases hi
     simpa [Qg] using this
   | some i =>
     simp only []
     rw [linearise_go_acc]
     exact ⟨adB hi, ih _ _⟩
theorem Lo : ∀ (fuel : Nat) (listed : Array Bool) (L : List Nat) (a : Act) (w : adH), Oo P ops Q fuel listed a w -> Qg ops fuel listed L -> AU P ops Q L a w := by
 intro fuel
 induction fuel with
 | zero => intro listed L a w h hL; obtain rfl : L = [] := hL; exact h.2
 | succ fuel ih =>
   intro listed L a w h hL
   cases L with
   | nil => exact h.1 hL
   | cons i L =>
     exact Sw (fun a w hh => ih _ _ a w hh hL.2) (h.2 i hL.1)
end
structure OW (π : List Nat) (ops : Array Oper) : Prop where
 len : π.length = ops.size
 to : ∀ i, i < ops.size -> tS π i < ops.size /\ π[tS π i]? = some i
 back : ∀ k, k < ops.size -> ∃ i, π[k]? = some i /\ tS π i = k /\ i < ops.size
 after : ∀ (i : Nat) (o : Oper), ops[i]? = some o -> ∀ e ∈ o.after, e.on < ops.size
 guard : ∀ (i : Nat) (o : Oper) (j : Nat) (b : Bool), ops[i]? = some o -> o.guard = some (j, b) -> j < ops.size
theorem WJ {π : List Nat} {ops : Array Oper} (h : St π ops = true) : OW π ops := by
 unfold St at h
 simp only [ZR] at h
 obtain ⟨⟨⟨h1, h2⟩, h3⟩, h4⟩ := h
 have h1 := Z5 h1
 have at4 : ∀ (i : Nat) (o : Oper), ops[i]? = some o -> (o.after.all fun e => Nat.blt e.on ops.size) = true /\ (match o.guard with | some (j, _) => Nat.blt j ops.size | none => true) = true := by
  intro i o ho
  have hi : i < ops.size := by
   rcases aaN i ops.size with h | h
   .exact h
   .rw [Z8 h] at ho; cases ho
  have := aaH.1 h4 i (aaF.2 hi)
  rw [ho] at this
  simp only [ZR] at this
  refine ⟨this.1, ?_⟩
  have h := this.2
  revert h
  cases o.guard <;> exact id
 refine ⟨h1, fun i hi => ?_, fun k hk => ?_, fun i o ho e he => ?_, fun i o j b ho hg => ?_⟩
 .have := aaH.1 h3 i (aaF.2 hi)
  cases hp : π[tS π i]? with
  | none => rw [hp] at this; cases this
  | some j =>
    rw [hp] at this
    obtain rfl := Z5 this
    refine ⟨?_, rfl⟩
    rcases aaN (tS π j) π.length with h | h
    .omega
    .rw [aaL h] at hp; cases hp
 .have := aaH.1 h2 k (aaF.2 hk)
  cases hp : π[k]? with
  | none => rw [hp] at this; cases this
  | some i =>
    rw [hp] at this
    simp only [ZR] at this
    exact ⟨i, rfl, Z5 this.1, (abZ (x := i) (y := ops.size)) ▸ this.2⟩
 .have := aaV.1 (at4 i o ho).1 e he
  exact (abZ (x := e.on) (y := ops.size)) ▸ this
 .have := (at4 i o ho).2
  rw [hg] at this
  exact (abZ (x := j) (y := ops.size)) ▸ this
theorem Ps {π : List Nat} {es : List (Nat × Nat)} {l : List Oper} : ∀ (r : List Nat), (∀ i ∈ r, i < l.length) -> (Kz π es l r).length = r.length /\ ∀ k i : Nat, r[k]? = some i -> (Kz π es l r)[k]? = (l[i]?).map (EF π es i) := by
 intro r
 induction r with
 | nil => intro _; exact ⟨rfl, fun k i h => by simp at h⟩
 | cons j r ih =>
   intro h
   obtain ⟨h1, h2⟩ := ih fun i hi => h i (ZV _ hi)
   have hj : j < l.length := h j (by simp)
   simp only [Kz, ZO hj]
   refine ⟨by simp [h1], fun k i hk => ?_⟩
   cases k with
   | zero => simp at hk; subst hk; simp [ZO hj]
   | succ k => simp at hk ⊢; exact h2 k i hk
section
variable {P : Program} {ops : Array Oper} {Q : Act -> adH -> Prop} {π : List Nat} {es : List (Nat × Nat)}
theorem OW.mem (p : OW π ops) : ∀ i ∈ π, i < ops.toList.length := by
 intro i hi
 obtain ⟨k, hk, e⟩ := acN hi
 obtain ⟨j, h1, _, h2⟩ := p.back k (by rw [<- p.len]; exact hk)
 rw [ZO hk] at h1
 cases h1
 rw [<- e]; simpa using h2
theorem OW.size (p : OW π ops) : (oR π es ops).size = ops.size := by
 unfold oR
 rw [abP, (Ps (es := es) (π := π) π p.mem).1, p.len]
theorem OW.get (p : OW π ops) {i : Nat} (hi : i < ops.size) : (oR π es ops)[tS π i]? = (ops[i]?).map (EF π es i) := by
 unfold oR
 have := (Ps (es := es) (π := π) π p.mem).2 (tS π i) i (p.to i hi).2
 rw [abT] at this
 simpa using this
theorem Sm {i : Nat} {o : Oper} {a : Act} {w : adH} {K : Act -> adH -> Prop} : R8 P (EF π es i o) a w K ↔ R8 P o a w K := by
 unfold R8
 have h1 : execOp a.eval (EF π es i o) = execOp a.eval o := by
  obtain ⟨d, op, ty, ps, af, g⟩ := o
  cases op <;> rfl
 have h2 : PI (EF π es i o) = PI o := rfl
 rw [h1, h2]
 generalize (execOp a.eval o).run P w = r
 cases r with
 | ok n w => cases n <;> exact Iff.rfl
 | halt x w => exact Iff.rfl
theorem RK (p : OW π ops) {i : Nat} {o : Oper} (ho : ops[i]? = some o) (tmps : Array adI) :
 Region.wanted (EF π es i o) (yielded (oR π es ops) tmps) = Region.wanted o (yielded ops tmps) := by
 unfold Region.wanted EF
 simp only
 cases hg : o.guard with
 | none => rfl
 | some q =>
   obtain ⟨j, b⟩ := q
   simp only
   have hj := p.guard i o j b ho hg
   have : (oR π es ops)[tS π j]?.bind (·.dst) = (ops[j]?).bind (·.dst) := by
    rw [p.get hj]
    cases ops[j]? <;> rfl
   unfold yielded
   rw [this]
theorem Sf (p : OW π ops) : ∀ (L : List Nat), (∀ i ∈ L, i < ops.size) -> ∀ (a : Act) (w : adH), AU P (oR π es ops) Q (L.map (tS π)) a w -> AU P ops Q L a w := by
 intro L
 induction L with
 | nil => intro _ a w h; exact h
 | cons i L ih =>
   intro hL a w h
   rw [ZT] at h
   simp only [AU] at h ⊢
   have hi := hL i (by simp)
   have ih := ih fun i hi => hL i (ZV _ hi)
   unfold HX at h ⊢
   rw [p.get hi] at h
   rw [ZX hi] at h ⊢
   simp only [aaJ] at h
   rw [RK p (ZX hi)] at h
   simp only
   split
   .rename_i hw
    rw [if_pos hw, Sm] at h
    exact Ph (fun a w => ih a w) h
   .rename_i hw
    rw [if_neg hw] at h
    exact ih _ _ h
theorem I0 {ops : Array Oper} {listed : Array Bool} (hsz : listed.size = ops.size) (i : Nat) :
 i ∈ Region.ready .any ops listed ↔ (i < ops.size /\ listed.getD i false = false /\ ∀ o, ops[i]? = some o -> ∀ e ∈ o.after, Region.binds .any e = true -> listed.getD e.on false = true) := by
 unfold Region.ready
 rw [List.mem_filter, aaF]
 constructor
 .rintro ⟨h1, h2⟩
  rw [ZX h1] at h2
  simp only [ZR, aaJ, aaY] at h2
  refine ⟨h1, ?_, fun o ho e he hb => ?_⟩
  .have := h2.1
   rw [ZP] at this ⊢
   rw [ZX (by omega)] at this ⊢
   simpa using this
  .rw [ZX h1] at ho
   cases ho
   have := aaV.1 h2.2 e he
   simpa [hb] using this
 .rintro ⟨h1, h2, h3⟩
  refine ⟨h1, ?_⟩
  rw [ZX h1]
  simp only [ZR, aaJ, aaY]
  refine ⟨?_, aaV.2 fun e he => ?_⟩
  .rw [ZP] at h2 ⊢
   rw [ZX (by omega)] at h2 ⊢
   simpa using h2
  .by_cases hb : Region.binds .any e = true
   .simp [hb, h3 _ (ZX h1) e he hb]
   .simp [hb]
theorem UY {π : List Nat} {i : Nat} : ∀ {es : List (Nat × Nat)} {e : Edge}, e ∈ Cx π i es -> ∃ a, (a, i) ∈ es /\ e.on = tS π a := by
 intro es
 induction es with
 | nil => intro e h; simp [Cx] at h
 | cons q r ih =>
   obtain ⟨a, b⟩ := q
   intro e h
   simp only [Cx] at h
   cases hb : Nat.beq b i with
   | true =>
     rw [hb] at h
     obtain rfl := Z5 hb
     rcases aaE.1 h with rfl | h
     .exact ⟨a, by simp, rfl⟩
     .obtain ⟨a, h1, h2⟩ := ih h; exact ⟨a, ZV _ h1, h2⟩
   | false => rw [hb] at h; obtain ⟨a, h1, h2⟩ := ih h; exact ⟨a, ZV _ h1, h2⟩
theorem Uq (p : OW π ops) {L0 : List Nat} (hes : ∀ q ∈ es, L0.idxOf q.1 <= L0.idxOf q.2 /\ q.1 ≠ q.2 /\ q.1 < ops.size) :
 ∀ (fuel : Nat) (listed listed' : Array Bool) (pre L : List Nat), L0 = pre ++ L -> listed.size = ops.size -> listed'.size = ops.size →
   (∀ j, j < ops.size -> listed'.getD (tS π j) false = listed.getD j false) -> (∀ j ∈ pre, listed.getD j false = true) -> (∀ j, listed.getD j false = true -> j ∈ pre) →
   Qg ops fuel listed L -> Qg (oR π es ops) fuel listed' (L.map (tS π)) /\ ∀ i ∈ L, i < ops.size := by
 intro fuel
 induction fuel with
 | zero => intro listed listed' pre L _ _ _ _ _ _ h; obtain rfl : L = [] := h; exact ⟨rfl, by simp⟩
 | succ fuel ih =>
   intro listed listed' pre L hL0 hs hs' hrel hpre hpre' h
   have hsz : (oR π es ops).size = ops.size := p.size
   cases L with
   | nil =>
     refine ⟨?_, by simp⟩
     show Region.ready .any (oR π es ops) listed' = []
     rw [List.eq_nil_iff_forall_not_mem]
     intro k hk
     obtain ⟨h1, h2, h3⟩ := (I0 (by omega) k).1 hk
     obtain ⟨i, hi1, hi2, hi3⟩ := p.back k (by omega)
     have : i ∈ Region.ready .any ops listed := by
      refine (I0 hs i).2 ⟨hi3, ?_, fun o ho e he hb => ?_⟩
      .rw [<- hrel i hi3, hi2]; exact h2
      .have g := p.get (es := es) hi3
       rw [hi2, ho] at g
       have hon := p.after i o ho e he
       have := h3 _ g ⟨tS π e.on, e.ground⟩ (by
        simp only [EF, List.mem_toArray, abA, aaK]
        exact .inl ⟨e, by simpa using he, rfl⟩) (by unfold Region.binds at hb ⊢; exact hb)
       rw [<- hrel e.on hon]; exact this
     rw [show Region.ready .any ops listed = [] from h] at this
     cases this
   | cons i L =>
     obtain ⟨h1, h2⟩ := h
     obtain ⟨r1, r2, r3⟩ := (I0 hs i).1 h1
     have hnot : i ∉ pre := fun hm => by rw [hpre i hm] at r2; cases r2
     have hidx : L0.idxOf i = pre.length := by
      rw [hL0, List.idxOf_append, if_neg hnot]; simp
     have ready' : tS π i ∈ Region.ready .any (oR π es ops) listed' := by
      refine (I0 (by omega) _).2 ⟨by rw [hsz]; exact (p.to i r1).1, by rw [hrel i r1]; exact r2, fun o' ho' e' he' hb => ?_⟩
      rw [p.get r1, ZX r1] at ho'
      simp only [aaJ, aaA] at ho'
      subst ho'
      simp only [EF, List.mem_toArray, abA, aaK] at he'
      rcases he' with ⟨e, he, rfl⟩ | he'
      .have ho := ZX r1
       have he2 : e ∈ ops[i].after := by simpa using he
       rw [hrel e.on (p.after i _ ho e he2)]
       exact r3 _ ho e he2 (by unfold Region.binds at hb ⊢; exact hb)
      .obtain ⟨a, ha, hon⟩ := UY he'
       obtain ⟨q1, q2, q3⟩ := hes _ ha
       simp only at q1 q2 q3
       rw [hon, hrel a q3]
       refine hpre a ?_
       rw [hidx] at q1
       rw [hL0, List.idxOf_append] at q1
       by_cases hm : a ∈ pre
       .exact hm
       .rw [if_neg hm] at q1
        exfalso
        have hz : (i :: L).idxOf a = 0 := by omega
        rw [List.idxOf_cons] at hz
        cases hb : (i == a) with
        | true => exact q2 (by simpa using (beq_iff_eq.1 hb).symm)
        | false => rw [hb] at hz; simp at hz
     have hlen' : listed'.size = ops.size := hs'
     obtain ⟨k1, k2⟩ := ih (listed.setIfInBounds i true) (listed'.setIfInBounds (tS π i) true) (pre ++ [i]) L (by rw [hL0]; simp) (by simp [hs]) (by simp [hs'])
      (fun j hj => by
       by_cases hji : j = i
       .subst hji
        rw [ZP, ZP, ZZ (by rw [hs']; exact (p.to j hj).1), ZZ (by omega)]
       .have hne : tS π i ≠ tS π j := fun e => by
         have a1 := (p.to i r1).2
         have a2 := (p.to j hj).2
         rw [e] at a1
         rw [a1] at a2
         exact hji (aaT a2).symm
        have := hrel j hj
        rw [ZP, ZP] at this ⊢
        rw [Z1 hne, Z1 (fun e => hji e.symm)]
        exact this)
      (fun j hj => by
       rw [ZP]
       rcases abA.1 hj with hj | hj
       .by_cases hji : j = i
        .subst hji; rw [ZZ (by omega)] <;> rfl
        .rw [Z1 (fun e => hji e.symm), <- ZP]; exact hpre j hj
       .have : j = i := by simpa using hj
        subst this
        rw [ZZ (by omega)] <;> rfl)
      (fun j hj => by
       by_cases hji : j = i
       .subst hji; simp
       .rw [ZP, Z1 (fun e => hji e.symm), <- ZP] at hj
        exact abM _ (hpre' j hj))
      h2
     exact ⟨⟨ready', k1⟩, fun j hj => (aaE.1 hj).elim (fun e => e ▸ r1) (k2 j)⟩
end
section
variable {P : Program} {ops : Array Oper}
theorem Mm {N : Nat} {an : Tn} {pl : Rx} (hok : NU ops an = true) (hpl : NO ops.size an pl = true) (hd : JV N ops) (hca : KO P ops)
 {K : Env -> adH -> Prop} {Q : Act -> adH -> Prop} (hQ : ∀ g a w, Ib N g a -> K g w -> Q a w) {g : Env} {a : Act} {w : adH} (hr : Ib N g a)
 (h : qA P ops ops.toList pl [] g w K) : Oo P ops Q ops.size (Array.replicate ops.size false) a w := by
 have r0 : Ux P ops an g w 0 (fun _ => default) (fun _ => g) (fun _ => w) (fun _ => undef) :=
  ⟨rfl, rfl, fun i hi => by omega, fun i hi => by omega, fun i hi => by omega, fun i hi => by omega, fun i j _ hj => by omega⟩
 obtain ⟨O, G, W, V, r, hk⟩ := QU hpl ops.toList 0 [] _ _ _ _ (fun j => by simp) (by simp) r0 (fun i hi => by omega) h
 simp only [ZL, Array.length_toList] at r hk
 have st := Um hok r.op
 have := VB (Q := Q) (n := ops.size) rfl hd hca r st (fun a hra => hQ _ a _ hra hk) ops.size (Array.replicate ops.size false) g a 0 (by simp) hr (by omega)
  (fun j hj hl => by unfold mJ at hl; simp [ZP, hj] at hl)
  (fun s => .inr ⟨fun j hj hl => by unfold mJ at hl; simp [ZP, hj] at hl, rfl⟩)
  (fun h hh _ => ⟨fun hl => by unfold mJ at hl; simp [ZP, hh] at hl, fun hl => by omega⟩)
  (abH (List.length_filter_le _ _) (by simp))
 rw [r.w0] at this
 exact this
theorem L6 {N : Nat} {ops : Array Oper} (h : ops.all (Ti N) = true) : JV N ops := by
 intro i o ho t ht
 have := aaV.1 h o (acY ho)
 unfold Ti at this
 rw [ht] at this
 exact (abZ (x := t) (y := N)) ▸ this
theorem NT {ops : Array Oper} (h : ops.all (zN P) = true) : KO P ops :=
 fun _ o ho => aaV.1 h o (acY ho)
theorem Sr {N : Nat} {f : FuncId} {id : Nat} (hd : JV N ops) (hca : KO P ops)
 {K : Env -> adH -> Prop} {Q : Act -> adH -> Prop} (hQ : ∀ g a w, Ib N g a -> K g w -> Q a w) {g : Env} {a : Act} {w0 w : adH} (hr : Ib N g a) :
 ∀ (T : HT) (path : List (Nat × Nat)), Kd P N ops path T = true →
   (∀ q ∈ path, (Region.schedule true ops (w0.tape w0.drawn (.order f id))).idxOf q.1 <= (Region.schedule true ops (w0.tape w0.drawn (.order f id))).idxOf q.2 /\ q.1 ≠ q.2) →
   QX P f id ops T g w0 w K -> AU P ops Q (Region.schedule true ops (w0.tape w0.drawn (.order f id))) a w := by
 have lin : Qg ops ops.size (Array.replicate ops.size false) (Region.schedule true ops (w0.tape w0.drawn (.order f id))) := by
  unfold Region.schedule
  simp only [Bool.true_or, if_true]
  exact Wo _ _ _
 generalize hL : Region.schedule true ops (w0.tape w0.drawn (.order f id)) = L at lin ⊢
 intro T
 induction T with
 | leaf an pl =>
   intro path hok _ h
   simp only [Kd, ZR] at hok
   exact Lo _ _ _ _ _ (Mm hok.1 hok.2 hd hca hQ hr h) lin
 | perm π es an pl =>
   intro path hok hpath h
   simp only [Kd, ZR] at hok
   obtain ⟨⟨⟨⟨⟨h1, h2⟩, h3⟩, h4⟩, h5⟩, h6⟩ := hok
   have p := WJ h2
   have hes : ∀ q ∈ es, L.idxOf q.1 <= L.idxOf q.2 /\ q.1 ≠ q.2 /\ q.1 < ops.size := fun q hq => by
    have := aaH.1 h1 q hq
    simp only [ZR] at this
    have hp := hpath q (UG this.1)
    exact ⟨hp.1, hp.2, (abZ (x := q.1) (y := ops.size)) ▸ this.2⟩
   obtain ⟨k1, k2⟩ := Uq (es := es) p hes ops.size (Array.replicate ops.size false) (Array.replicate ops.size false) [] L rfl (by simp) (by simp)
    (fun j hj => by simp [ZP, hj, (p.to j hj).1]) (by simp)
    (fun j hj => by rw [ZP] at hj; by_cases hh : j < ops.size <;> simp [hh] at hj) lin
   have hw := Mm h5 h6 (L6 h3) (NT h4) hQ hr h
   rw [p.size] at hw
   exact Sf (es := es) p L k2 a w (Lo _ _ _ _ _ hw k1)
 | split x y A B ihA ihB =>
   intro path hok hpath h
   simp only [Kd, ZR] at hok
   have hne : x ≠ y := by
    intro e
    have := hok.1.1
    rw [e] at this
    simp at this
   simp only [QX] at h
   unfold Ord WW at h
   rw [hL] at h
   cases hb : Nat.ble (L.idxOf x) (L.idxOf y) with
   | true =>
     rw [hb] at h
     refine ihA _ hok.1.2 (fun q hq => ?_) h
     rcases aaE.1 hq with rfl | hq
     .exact ⟨abJ hb, hne⟩
     .exact hpath q hq
   | false =>
     rw [hb] at h
     refine ihB _ hok.2 (fun q hq => ?_) h
     rcases aaE.1 hq with rfl | hq
     .refine ⟨?_, hne.symm⟩
      simp only
      rcases aaN (L.idxOf y) (L.idxOf x) with hh | hh
      .omega
      .have := Nat.ble_eq_true_of_le hh; rw [this] at hb; cases hb
     .exact hpath q hq
end
section
variable {P : Program} {ann : FA}
def nY : List Oper -> List Nat
 | [] => []
 | o :: r => match o.dst with | some d => d :: nY r | none => nY r
def Jp : Code -> List Nat
 | .region _ ops _ => nY ops.toList
 | .seq x y => Jp x ++ Jp y
 | .cond _ x y => Jp x ++ Jp y
 | .block _ c => Jp c
 | .scope c => Jp c
 | .loop c => Jp c
 | .rangeFunc .. => [DS]
 | _ => []
def mF (l : List Nat) (g g' : Env) : Prop := ∀ s, s ∉ l -> g' s = g s
theorem mF.refl (l : List Nat) (g : Env) : mF l g g := fun _ _ => rfl
theorem mF.trans {l l1 l2 : List Nat} {a b c : Env} (h : mF l1 a b) (k : mF l2 b c) (h1 : ∀ s, s ∈ l1 -> s ∈ l) (h2 : ∀ s, s ∈ l2 -> s ∈ l) : mF l a c :=
 fun s hs => (k s fun h => hs (h2 s h)).trans (h s fun h => hs (h1 s h))
theorem mF.mono {l l1 : List Nat} {a b : Env} (h : mF l1 a b) (h1 : ∀ s, s ∈ l1 -> s ∈ l) : mF l a b := fun s hs => h s fun hh => hs (h1 s hh)
theorem mF.put {l : List Nat} {a : Env} (d : Option Tmp) (v : adI) (h : ∀ t, d = some t -> t ∈ l) : mF l a (put a d v) := by
 intro s hs
 cases d with
 | none => rfl
 | some t =>
   rw [F3, if_neg (fun e => hs (by rw [e]; exact h t rfl))]
theorem Su {ops : Array Oper} {K : Env -> adH -> Prop} : ∀ (l : List Oper) (g : Env) (w : adH), ND P ops l g w K →
 ∃ g' w', K g' w' /\ mF (nY l) g g' /\ ∀ K' : Env -> adH -> Prop, K' g' w' -> ND P ops l g w K' := by
 intro l
 induction l with
 | nil => intro g w h; exact ⟨g, w, h, mF.refl _ _, fun _ h => h⟩
 | cons o l ih =>
   intro g w h
   obtain ⟨v, w1, hy, h1⟩ := GL h
   obtain ⟨g', w', hk, ha, hall⟩ := ih _ _ h1
   refine ⟨g', w', hk, ?_, fun K' hk' => hy _ (hall K' hk')⟩
   refine mF.trans (mF.put o.dst v (l := nY (o :: l)) fun t ht => by simp [nY, ht]) ha (fun _ h => h) (fun s hs => ?_)
   unfold nY
   split
   .exact ZV _ hs
   .exact hs
theorem MD {ops : Array Oper} {K : Env -> adH -> Prop} : ∀ (l : List Oper) (pl : Rx) (hist : List Rec) (g : Env) (w : adH), qA P ops l pl hist g w K →
 ∃ g' w', K g' w' /\ mF (nY l) g g' /\ ∀ K' : Env -> adH -> Prop, K' g' w' -> qA P ops l pl hist g w K' := by
 intro l
 induction l with
 | nil => intro pl hist g w h; unfold qA at h; exact ⟨g, w, h, mF.refl _ _, fun _ h => (by unfold qA; exact h)⟩
 | cons o l ih =>
   intro pl hist g w h
   cases pl with
   | nil => exact h.elim
   | cons p pl =>
     obtain ⟨hv, ks⟩ := p
     obtain ⟨v, w1, hy, h1⟩ := GL h
     have tail : ∀ (w2 : adH) (hist' : List Rec), qA P ops l pl hist' (put g o.dst v) w2 K →
         ∃ g' w', K g' w' /\ mF (nY (o :: l)) g g' /\ ∀ K' : Env -> adH -> Prop, K' g' w' -> qA P ops l pl hist' (put g o.dst v) w2 K' := by
      intro w2 hist' c2
      obtain ⟨g', w', hk, ha, hall⟩ := ih _ _ _ _ c2
      refine ⟨g', w', hk, ?_, hall⟩
      refine mF.trans (mF.put o.dst v (l := nY (o :: l)) fun t ht => by simp [nY, ht]) ha (fun _ h => h) (fun s hs => ?_)
      unfold nY
      split
      .exact ZV _ hs
      .exact hs
     cases hv with
     | true =>
       cases ks with
       | nil =>
         obtain ⟨g', w', hk, ha, hall⟩ := tail w1 _ h1
         exact ⟨g', w', hk, ha, fun K' hk' => hy _ (hall K' hk')⟩
       | cons k ks =>
         obtain ⟨hc, h1⟩ := h1
         obtain ⟨g', w', hk, ha, hall⟩ := tail w1 _ h1
         exact ⟨g', w', hk, ha, fun K' hk' => hy _ ⟨hc, hall K' hk'⟩⟩
     | false =>
       cases ks with
       | nil =>
         obtain ⟨rfl, h1⟩ := h1
         obtain ⟨g', w', hk, ha, hall⟩ := tail w1 _ h1
         exact ⟨g', w', hk, ha, fun K' hk' => hy _ ⟨rfl, hall K' hk'⟩⟩
       | cons k ks =>
         obtain ⟨rfl, hc, h1⟩ := h1
         obtain ⟨g', w', hk, ha, hall⟩ := tail w1 _ h1
         exact ⟨g', w', hk, ha, fun K' hk' => hy _ ⟨rfl, hc, hall K' hk'⟩⟩
theorem D6 {l : List Oper} {s : Nat} : s ∈ nY l ↔ ∃ o ∈ l, o.dst = some s := by
 induction l with
 | nil => simp [nY]
 | cons o l ih =>
   unfold nY
   cases hd : o.dst with
   | none => simp [ih, hd]
   | some d => simp [ih, hd, eq_comm]
theorem RY {π : List Nat} {es : List (Nat × Nat)} {l : List Oper} {s : Nat} : ∀ (r : List Nat), s ∈ nY (Kz π es l r) -> s ∈ nY l := by
 intro r
 induction r with
 | nil => intro h; simp [Kz, nY] at h
 | cons i r ih =>
   intro h
   simp only [Kz] at h
   cases ho : l[i]? with
   | none => rw [ho] at h; exact ih h
   | some o =>
     rw [ho] at h
     obtain ⟨o', h1, h2⟩ := D6.1 h
     rcases aaE.1 h1 with rfl | h1
     .exact D6.2 ⟨o, adB ho, h2⟩
     .exact ih (D6.2 ⟨o', h1, h2⟩)
theorem VW {f : FuncId} {id : Nat} {ops : Array Oper} {K : Env -> adH -> Prop} {g : Env} {w0 : adH} : ∀ (T : HT) (w : adH), QX P f id ops T g w0 w K →
 ∃ g' w', K g' w' /\ mF (nY ops.toList) g g' /\ ∀ K' : Env -> adH -> Prop, K' g' w' -> QX P f id ops T g w0 w K' := by
 intro T
 induction T with
 | leaf an pl => intro w h; exact MD _ _ _ _ _ h
 | perm π es an pl =>
   intro w h
   obtain ⟨g', w', a, b, c⟩ := MD _ _ _ _ _ h
   exact ⟨g', w', a, b.mono (fun s hs => RY π (by simpa [oR] using hs)), c⟩
 | split x y A B ihA ihB =>
   intro w h
   simp only [QX, Ord] at h ⊢
   cases hb : WW f id ops x y w0 with
   | true => rw [hb] at h; exact ihA w h
   | false => rw [hb] at h; exact ihB w h
theorem kF.head {α : Type} {F : (α -> adH -> Prop) -> α -> adH -> Prop} (hmono : ∀ X Y g w, (∀ g w, X g w -> Y g w) -> F X g w -> F Y g w)
 {g : α} {w : adH} (h : F (fun g' w' => kF F g' w') g w) (hdet : ∃ g' w', kF F g' w' /\ ∀ X : α -> adH -> Prop, X g' w' -> F X g w) : kF F g w := by
 obtain ⟨g1, w1, ⟨I, ⟨n1, h1⟩, hI⟩, hF⟩ := hdet
 refine ⟨fun n g' w' => I n g' w' ∨ (n = n1 + 1 /\ g' = g /\ w' = w), ⟨n1 + 1, .inr ⟨rfl, rfl, rfl⟩⟩, ?_⟩
 rintro n g' w' (h | ⟨rfl, rfl, rfl⟩)
 .exact hmono _ _ _ _ (fun _ _ ⟨m, hm, hh⟩ => ⟨m, hm, .inl hh⟩) (hI _ _ _ h)
 .exact hF _ ⟨n1, by omega, .inl h1⟩
theorem Ya {f : FuncId} {gf : Operand} {ps : Array Tmp} {ZC bd : Code} {Q : Exit -> Env -> adH -> Prop} {g : Env} {w : adH} (h : RF P f gf ps ZC bd Q g w) :
 ∃ e g' w', Q e g' w' /\ mF [DS] g g' /\ ∀ Q' : Exit -> Env -> adH -> Prop, Q' e g' w' -> RF P f gf ps ZC bd Q' g w := by
 unfold RF at h ⊢
 cases hn : noMark (g DS) with
 | false => rw [hn] at h; exact h.elim
 | true =>
   rw [hn] at h
   simp only at h ⊢
   generalize (xQ (ev g gf) [DC (w.heap.size + 1)]).run P (UB f (L7 P f) ps ZC bd g w) = r at *
   match r, h with
   | .ok (.enter f2 args) w1, h =>
     obtain ⟨v, w3, hret, r, h1, h2, h3⟩ := h
     have ha : mF [DS] g (put g (some DS) (.pointer (some ⟨w.heap.size, 0, none⟩))) := mF.put _ _ (fun t ht => by cases ht; simp)
     cases hp : r.pending with
     | none =>
       rw [hp] at h3
       exact ⟨.normal, _, _, h3, ha, fun Q' h => ⟨v, w3, hret, r, h1, h2, by rw [hp]; exact h⟩⟩
     | some c =>
       rw [hp] at h3
       cases c <;> first
        | exact h3.elim
        | exact ⟨.ret, _, _, h3, ha, fun Q' h => ⟨v, w3, hret, r, h1, h2, by rw [hp]; exact h⟩⟩
        | exact ⟨.exit _, _, _, h3, ha, fun Q' h => ⟨v, w3, hret, r, h1, h2, by rw [hp]; exact h⟩⟩
theorem Nc : ∀ (c : Code) (Q : Exit -> Env -> adH -> Prop) (g : Env) (w : adH), iR P ann c Q g w →
 ∃ e g' w', Q e g' w' /\ mF (Jp c) g g' /\ ∀ Q' : Exit -> Env -> adH -> Prop, Q' e g' w' -> iR P ann c Q' g w := by
 intro c
 induction c with
 | skip => intro Q g w h; exact ⟨_, _, _, h, mF.refl _ _, fun _ h => h⟩
 | region id ops draw =>
   intro Q g w h
   cases draw with
   | false =>
     obtain ⟨g', w', a, b, c⟩ := Su _ _ _ h
     exact ⟨.normal, g', w', a, b, fun Q' h => c _ h⟩
   | true =>
     obtain ⟨g', w', a, b, c⟩ := VW _ _ h
     exact ⟨.normal, g', w', a, b, fun Q' h => c _ h⟩
 | seq x y ihx ihy =>
   intro Q g w h
   obtain ⟨e, g1, w1, a, b, c⟩ := ihx _ _ _ h
   cases e with
   | normal =>
     obtain ⟨e2, g2, w2, a2, b2, c2⟩ := ihy _ _ _ a
     exact ⟨e2, g2, w2, a2, b.trans b2 (fun s h => abM _ h) (fun s h => acE _ h), fun Q' h => c _ (c2 _ h)⟩
   | _ => exact ⟨_, g1, w1, a, b.mono (fun s h => abM _ h), fun Q' h => c _ h⟩
 | cond c x y ihx ihy =>
   intro Q g w h
   simp only [iR] at h ⊢
   unfold lO at h ⊢
   cases hc : ev g c with
   | bool b =>
     rw [hc] at h
     cases b with
     | true =>
       obtain ⟨e, g', w', a, b, c⟩ := ihx _ _ _ h
       exact ⟨e, g', w', a, b.mono (fun s h => abM _ h), c⟩
     | false =>
       obtain ⟨e, g', w', a, b, c⟩ := ihy _ _ _ h
       exact ⟨e, g', w', a, b.mono (fun s h => acE _ h), c⟩
   | _ => rw [hc] at h; exact h.elim
 | block id c ih =>
   intro Q g w h
   obtain ⟨e, g', w', a, b, c⟩ := ih _ _ _ h
   cases e with
   | exit i =>
     simp only [WO] at a
     cases hb : Nat.beq i id with
     | true =>
       simp only [hb] at a
       refine ⟨.normal, g', w', a, b, fun Q' h => c _ ?_⟩
       simp only [WO, hb]; exact h
     | false =>
       simp only [hb] at a
       refine ⟨.exit i, g', w', a, b, fun Q' h => c _ ?_⟩
       simp only [WO, hb]; exact h
   | _ => exact ⟨_, g', w', a, b, fun Q' h => c _ h⟩
 | loop c ih =>
   intro Q g w h
   have hmono : ∀ (Q : Exit -> Env -> adH -> Prop) (X Y : Env -> adH -> Prop) g w, (∀ g w, X g w -> Y g w) -> iR P ann c (xY X Q) g w -> iR P ann c (xY Y Q) g w := by
    intro Q X Y g w hxy h
    obtain ⟨e, g', w', a, _, k⟩ := ih _ _ _ h
    refine k _ ?_
    cases e with
    | normal => exact hxy _ _ a
    | _ => exact a
   obtain ⟨I, ⟨n, h0⟩, hI⟩ := h
   have key : ∀ n g w, I n g w -> ∃ e g' w', Q e g' w' /\ mF (Jp c) g g' /\ ∀ Q' : Exit -> Env -> adH -> Prop, Q' e g' w' -> kF (fun X g w => iR P ann c (xY X Q') g w) g w := by
    intro n
    induction n using Nat.strongRecOn with
    | _ n ih2 =>
      intro g w hg
      obtain ⟨e, g1, w1, a, b, k⟩ := ih _ _ _ (hI n g w hg)
      have once : ∀ (Q' : Exit -> Env -> adH -> Prop), (∀ X : Env -> adH -> Prop, iR P ann c (xY X Q') g w) -> kF (fun X g w => iR P ann c (xY X Q') g w) g w := by
       intro Q' h
       refine ⟨fun n g' w' => g' = g /\ w' = w, ⟨0, rfl, rfl⟩, ?_⟩
       rintro _ g' w' ⟨rfl, rfl⟩
       exact h _
      cases e with
      | normal =>
        obtain ⟨m, hm, hIm⟩ := a
        obtain ⟨e2, g2, w2, a2, b2, k2⟩ := ih2 m hm g1 w1 hIm
        refine ⟨e2, g2, w2, a2, b.trans b2 (fun _ h => h) (fun _ h => h), fun Q' h => ?_⟩
        have hl := k2 Q' h
        exact kF.head (hmono Q') (k _ hl) ⟨g1, w1, hl, fun X hx => k _ hx⟩
      | _ => exact ⟨_, g1, w1, a, b, fun Q' h => once Q' fun X => k _ h⟩
   exact key n g w h0
 | exit id => intro Q g w h; exact ⟨_, _, _, h, mF.refl _ _, fun _ h => h⟩
 | label l => intro Q g w h; exact ⟨_, _, _, h, mF.refl _ _, fun _ h => h⟩
 | scope c ih => intro Q g w h; exact ih Q g w h
 | ret => intro Q g w h; exact ⟨_, _, _, h, mF.refl _ _, fun _ h => h⟩
 | rangeFunc gf ps ZC bd => intro Q g w h; exact Ya h
 | _ => intro Q g w h; exact h.elim
theorem Bm {c : Code} {Q Q' : Exit -> Env -> adH -> Prop} {g : Env} {w : adH} (h : iR P ann c Q g w)
 (hq : ∀ e g' w', mF (Jp c) g g' -> Q e g' w' -> Q' e g' w') : iR P ann c Q' g w :=
 let ⟨_, _, _, a, b, k⟩ := Nc c Q g w h
 k _ (hq _ _ _ b a)
def XE (Q : Exit -> Env -> adH -> Prop) : Exit -> Env -> adH -> Prop
 | .goto _, _, _ => False
 | e, g, w => Q e g w
theorem RS : ∀ (c : Code) (Q : Exit -> Env -> adH -> Prop) (g : Env) (w : adH), iR P ann c Q g w -> iR P ann c (XE Q) g w := by
 intro c
 induction c with
 | skip => intro Q g w h; exact h
 | region id ops draw => intro Q g w h; cases draw <;> exact h
 | seq x y ihx ihy =>
   intro Q g w h
   show iR P ann x (xY (fun g w => iR P ann y (XE Q) g w) (XE Q)) g w
   refine Bm (ihx _ _ _ h) (fun e g' w' _ hq => ?_)
   cases e with
   | normal => exact ihy _ _ _ hq
   | goto l => exact hq.elim
   | _ => exact hq
 | cond c x y ihx ihy =>
   intro Q g w h
   simp only [iR] at h ⊢
   unfold lO at h ⊢
   cases hc : ev g c with
   | bool b =>
     rw [hc] at h
     cases b with
     | true => exact ihx _ _ _ h
     | false => exact ihy _ _ _ h
   | _ => rw [hc] at h; exact h.elim
 | block id c ih =>
   intro Q g w h
   show iR P ann c (WO id (XE Q)) g w
   refine Bm (ih _ _ _ h) (fun e g' w' _ hq => ?_)
   cases e with
   | exit i =>
     simp only [XE, WO] at hq ⊢
     cases hb : Nat.beq i id with
     | true => rw [hb] at hq; exact hq
     | false => rw [hb] at hq; exact hq
   | goto l => exact hq.elim
   | _ => exact hq
 | loop c ih =>
   intro Q g w h
   obtain ⟨I, h0, hI⟩ := h
   refine ⟨I, h0, fun n g w hi => ?_⟩
   refine Bm (ih _ _ _ (hI n g w hi)) (fun e g' w' _ hq => ?_)
   cases e with
   | normal => exact hq
   | goto l => exact hq.elim
   | _ => exact hq
 | exit id => intro Q g w h; exact h
 | label l => intro Q g w h; exact h
 | scope c ih => intro Q g w h; exact ih Q g w h
 | ret => intro Q g w h; exact h
 | rangeFunc gf ps ZC bd =>
   intro Q g w h
   have h : RF P ann.f gf ps ZC bd Q g w := h
   show RF P ann.f gf ps ZC bd (XE Q) g w
   unfold RF at h ⊢
   cases hn : noMark (g DS) with
   | false => rw [hn] at h; exact h.elim
   | true =>
     rw [hn] at h
     simp only at h ⊢
     generalize (xQ (ev g gf) [DC (w.heap.size + 1)]).run P (UB ann.f (L7 P ann.f) ps ZC bd g w) = r at *
     match r, h with
     | .ok (.enter f2 args) w1, h =>
       obtain ⟨v, w3, hret, r, h1, h2, h3⟩ := h
       refine ⟨v, w3, hret, r, h1, h2, ?_⟩
       cases hp : r.pending with
       | none => rw [hp] at h3; exact h3
       | some c => rw [hp] at h3; cases c <;> exact h3
 | _ => intro Q g w h; exact h.elim
theorem Ni {N : Nat} {g : Env} {a : Act} (h : Ib N g a) : a.tmps = tmpsOf N g := by
 refine Array.ext (by simp [tmpsOf, h.size]) fun i h1 h2 => ?_
 have hi : i < N := by rw [<- h.size]; exact h1
 have := h.at_ i (acD (abS hi h.le))
 rw [ZP, ZX h1] at this
 simp [tmpsOf] at this ⊢
 exact this
theorem V5 {v : adI} (h : noMark v = true) : Rq v = [] := by cases v <;> first | rfl | cases h
theorem LQ {N : Nat} (hm : P.follows .mixedOrders = true) {ro : Option Nat} (hN : L7 P ann.f = N) : ∀ (c : Code), codeOk P N ann c = true -> ro = none ∨ qR c = true →
 ∀ (Q : Exit -> Env -> adH -> Prop) (QA : Exit -> Act -> adH -> Prop) (g : Env) (a : Act) (w : adH), Ib N g a →
   (∀ e g a w, Ib N g a -> Q e g w -> QA e a w) -> iR P ann c Q g w -> NC P ann.f ro c QA a w := by
 intro c
 induction c with
 | skip => intro _ _ Q QA g a w hr hq h; exact VD (hq _ _ _ _ hr h)
 | region id ops draw =>
   intro hok _ Q QA g a w hr hq h
   simp only [codeOk, ZR, aaO, abG] at hok
   have hd := L6 hok.1.1
   have hca := NT hok.1.2
   cases draw with
   | false =>
     refine R3 ?_
     have := Uv hd hca (P := P) (Q := QA .normal) (K := Q .normal) (fun g a w => hq .normal g a w) ops.toList 0 g a w (fun j => by simp) hr h
     rw [List.range_eq_range']
     simpa using this
   | true =>
     rcases hok.2 with h1 | h1
     .cases h1
     .exact M3 hm (Sr hd hca (fun g a w => hq .normal g a w) hr _ [] h1 (by simp) h)
 | seq x y ihx ihy =>
   intro hok hfl Q QA g a w hr hq h
   simp only [codeOk, ZR] at hok
   have hfx : ro = none ∨ qR x = true := hfl.imp id fun h => by simp only [qR, ZR] at h; exact h.1
   have hfy : ro = none ∨ qR y = true := hfl.imp id fun h => by simp only [qR, ZR] at h; exact h.2
   refine WX (ihx hok.1 hfx _ _ g a w hr (fun e g a w hr h => ?_) h)
   cases e with
   | normal => exact ihy hok.2 hfy _ _ g a w hr hq h
   | _ => exact hq _ _ _ _ hr h
 | cond c x y ihx ihy =>
   intro hok hfl Q QA g a w hr hq h
   simp only [codeOk, ZR] at hok
   have hfx : ro = none ∨ qR x = true := hfl.imp id fun h => by simp only [qR, ZR] at h; exact h.1
   have hfy : ro = none ∨ qR y = true := hfl.imp id fun h => by simp only [qR, ZR] at h; exact h.2
   simp only [iR] at h
   unfold lO at h
   have he := hr.ev c hok.1
   cases hc : ev g c with
   | bool b =>
     rw [hc] at h he
     refine UR he ?_
     cases b with
     | true => exact ihx hok.2.1 hfx _ _ g a w hr hq h
     | false => exact ihy hok.2.2 hfy _ _ g a w hr hq h
   | _ => rw [hc] at h; exact h.elim
 | block id c ih =>
   intro hok hfl Q QA g a w hr hq h
   refine TT (ih hok hfl _ _ g a w hr (fun e g a w hr h => ?_) h)
   cases e with
   | exit i =>
     unfold Exit.inBlock
     simp only [WO] at h
     by_cases hi : i = id
     .subst hi
      simp only [if_true]
      simp only [Nat.beq_refl] at h
      exact hq _ _ _ _ hr h
     .simp only [hi, if_false]
      have : Nat.beq i id = false := by
       cases hb : Nat.beq i id
       .rfl
       .exact absurd (Z5 hb) hi
      simp only [this] at h
      exact hq _ _ _ _ hr h
   | _ => exact hq _ _ _ _ hr h
 | loop c ih =>
   intro hok hfl Q QA g a w hr hq h
   obtain ⟨I, h0, hround⟩ := h
   have hex : ∀ a w, (∃ n g, Ib N g a /\ I n g w) -> ∃ n, (∃ g, Ib N g a /\ I n g w) /\ ∀ m, (∃ g, Ib N g a /\ I m g w) -> n <= m := by
    rintro a w ⟨n, hn⟩
    induction n using Nat.strongRecOn with
    | _ n ih2 =>
      by_cases hx : ∃ m, m < n /\ ∃ g, Ib N g a /\ I m g w
      .obtain ⟨m, hm, h⟩ := hx; exact ih2 m hm h
      .exact ⟨n, hn, fun m hm => Nat.le_of_not_lt fun hlt => hx ⟨m, hlt, hm⟩⟩
   have hdec : ∀ a w, Decidable (∃ n g, Ib N g a /\ I n g w) := fun a w => Classical.propDecidable _
   let μ : Act -> adH -> Nat := fun a w => if hh : ∃ n g, Ib N g a /\ I n g w then Classical.choose (hex a w hh) else 0
   have hμ : ∀ a w n g, Ib N g a -> I n g w -> μ a w <= n /\ ∃ g, Ib N g a /\ I (μ a w) g w := by
    intro a w n g hr hI
    have hh : ∃ n g, Ib N g a /\ I n g w := ⟨n, g, hr, hI⟩
    have e : μ a w = Classical.choose (hex a w hh) := dif_pos hh
    have s := Classical.choose_spec (hex a w hh)
    rw [e]
    exact ⟨s.2 n ⟨g, hr, hI⟩, s.1⟩
   obtain ⟨n0, h0⟩ := h0
   refine VL (fun a w => ∃ n g, Ib N g a /\ I n g w) μ ⟨n0, g, hr, h0⟩ ?_
   rintro a w ⟨n, g, hr, hI⟩
   obtain ⟨_, g', hr', hI'⟩ := hμ a w n g hr hI
   refine ih hok hfl _ _ g' a w hr' (fun e g1 a1 w1 hr1 h => ?_) (hround _ _ _ hI')
   cases e with
   | normal =>
     obtain ⟨m, hm, hIm⟩ := h
     have := hμ a1 w1 m g1 hr1 hIm
     exact ⟨⟨m, g1, hr1, hIm⟩, by omega⟩
   | _ => exact hq _ _ _ _ hr1 h
 | label l => intro _ _ Q QA g a w hr hq h; exact T2 (hq _ _ _ _ hr h)
 | scope c ih =>
   intro hok hfl Q QA g a w hr hq h
   refine TA (ih hok hfl (XE Q) _ g a w hr (fun e g a w hr h => ?_) (RS c _ g w h))
   cases e with
   | goto l => exact h.elim
   | _ => exact hq _ _ _ _ hr h
 | exit id => intro _ _ Q QA g a w hr hq h; exact Rf (hq _ _ _ _ hr h)
 | ret => intro _ _ Q QA g a w hr hq h; exact S9 (hq _ _ _ _ hr h)
 | rangeFunc gf ps ZC bd =>
   intro hok hfl Q QA g a w hr hq h
   have hro : ro = none := hfl.resolve_right (by simp [qR])
   subst hro
   have hok : PF gf = true := hok
   have h : RF P ann.f gf ps ZC bd Q g w := h
   unfold RF at h
   cases hn : noMark (g DS) with
   | false => rw [hn] at h; exact h.elim
   | true =>
     rw [hn] at h
     simp only [hN] at h
     have ed : a.defers = [] := by rw [hr.defers, V5 hn]
     have er := run_enterLoop_outer (P := P) (w := w) ann.f a.tmps ps ZC bd
     rw [Ni hr] at er
     have er : (Instr.enterLoop ann.f a.tmps ps ZC bd none).run P w = .ok (w.heap.size + 1, [{ target := .collected w.heap.size, args := #[] }]) (UB ann.f N ps ZC bd g w) := by rw [Ni hr]; exact er
     generalize UB ann.f N ps ZC bd g w = w1 at *
     have ee := hr.ev gf hok
     unfold xQ at h
     have hres : resolve a.eval (rangeCall gf (w.heap.size + 1)) 0 = Deferred.ofValue (ev g gf) #[DC (w.heap.size + 1)] := by
      have : resolve a.eval (rangeCall gf (w.heap.size + 1)) 0 = Deferred.ofValue (a.eval gf) #[DC (w.heap.size + 1)] := by
       simp only [resolve, List.map_toArray, ZT, List.map_nil]; rfl
      rw [this, ee]
     rw [show ([DC (w.heap.size + 1)] : List adI).toArray = #[DC (w.heap.size + 1)] from rfl, <- hres, Sem.run_bind] at h
     cases hv : (resolve a.eval (rangeCall gf (w.heap.size + 1)) 0).run P w1 with
     | halt x wx => rw [hv] at h; exact h.elim
     | ok d wx =>
       have hwx : wx = w1 := by
        rw [hres] at hv
        unfold Deferred.ofValue at hv
        split at hv <;> first | (simp only [Sem.run_pure] at hv; cases hv; rfl) | (simp [stuck] at hv)
       subst hwx
       rw [hv] at h
       simp only [Result.andThen] at h
       cases hi : (invoke d.target d.args).run P wx with
       | halt x w2 => rw [hi] at h; exact h.elim
       | ok nx w2 =>
         rw [hi] at h
         cases nx <;> try (exact h.elim)
         obtain ⟨v, w3, hret, r, h1, h2, h3⟩ := h
         have hrel : ∀ w, Ib N (put g (some DS) (.pointer (some ⟨w, 0, none⟩))) { a with defers := [{ target := .collected w, args := #[] }] ++ a.defers } := fun w => by
          refine ⟨hr.le, ?_, hr.size, fun i hi => ?_⟩
          .rw [F3, if_pos rfl, ed] <;> rfl
          .rw [F3, if_neg hi]; exact hr.at_ i hi
         have key : ∀ (j : Option Code) (w5 : adH), Yc Q (put g (some DS) (.pointer (some ⟨w.heap.size, 0, none⟩))) j w5 →
             Xm P ann.f QA { a with defers := [{ target := .collected w.heap.size, args := #[] }] ++ a.defers } w5 j := by
          intro j w5 h
          cases j with
          | none => exact hq _ _ _ _ (hrel _) h
          | some c =>
            cases c <;> first
             | exact h.elim
             | exact S9 (hq _ _ _ _ (hrel _) h)
             | exact Rf (hq _ _ _ _ (hrel _) h)
         exact Ud er hv hi hret (run_endLoop h1 h2) (key _ _ h3)
 | _ => intro hok; simp [codeOk] at hok
def pM (P : Program) : List ResultVar -> Env -> adH -> (List adI -> Prop) -> Prop
 | [], _, _, K => K []
 | .tmp t :: r, g, w, K => pM P r g w fun vs => K (g t :: vs)
 | .cell a t :: r, g, w, K => ∃ v, (do loadVar t (<- asAddr (g a)) : Sem adI).run P w = .ok v w /\ pM P r g w fun vs => K (v :: vs)
def OC : List adI -> adI
 | [v] => v
 | vs => .tuple vs.toArray
def YJ (P : Program) (rs : List ResultVar) (R : adI -> adH -> Prop) : Exit -> Env -> adH -> Prop
 | .normal, g, w => pM P rs g w fun vs => R (OC vs) w
 | .ret, g, w => pM P rs g w fun vs => R (OC vs) w
 | _, _, _ => False
theorem QE {N : Nat} {g : Env} {a : Act} {w : adH} (hr : Ib N g a) : ∀ (rs : List ResultVar), rs.all Pp = true -> ∀ (K : List adI -> Prop), pM P rs g w K →
 ∃ vs, K vs /\ (rs.mapM fun | .tmp t => pure (a.tmps.getD t undef) | .cell b t => do loadVar t (<- asAddr (a.tmps.getD b undef)) : Sem (List adI)).run P w = .ok vs w := by
 have ne : ∀ t : Nat, Nat.blt t DS = true -> a.tmps.getD t undef = g t := fun t h => hr.at_ t (acD ((abZ (x := t) (y := DS)) ▸ h))
 intro rs
 induction rs with
 | nil => intro _ K h; exact ⟨[], h, by simp⟩
 | cons r rs ih =>
   intro hok K h
   simp only [List.all_cons, ZR] at hok
   cases r with
   | tmp t =>
     obtain ⟨vs, h1, h2⟩ := ih hok.2 _ h
     refine ⟨_, h1, ?_⟩
     rw [List.mapM_cons]
     rw [pure_bind, Sem.run_bind]
     simp only [h2, Result.andThen, Sem.run_pure, ne t hok.1]
   | cell b t =>
     obtain ⟨v, hv, h⟩ := h
     obtain ⟨vs, h1, h2⟩ := ih hok.2 _ h
     refine ⟨_, h1, ?_⟩
     rw [List.mapM_cons]
     rw [<- ne b hok.1] at hv
     rw [Sem.run_bind]
     simp only [hv, Result.andThen]
     rw [Sem.run_bind]
     simp only [h2, Result.andThen]
     rfl
theorem XZ (vs : Array adI) : (if h : vs.size = 1 then vs[0] else Value.tuple vs) = OC vs.toList := by
 obtain ⟨l⟩ := vs
 match l with
 | [] => rfl
 | [v] => rfl
 | a :: b :: r => simp [OC]
theorem Ry {N : Nat} {g : Env} {a : Act} {w : adH} (fn : Func) {rs : List ResultVar} (hok : rs.all Pp = true) (hrs : fn.results = rs.toArray) (hr : Ib N g a) {R : adI -> adH -> Prop}
 (h : pM P rs g w fun vs => R (OC vs) w) : ∃ v, (results fn a.tmps).run P w = .ok v w /\ R v w := by
 obtain ⟨vs, h1, h2⟩ := QE hr rs hok _ h
 refine ⟨OC vs, ?_, h1⟩
 unfold results
 rw [hrs, Array.mapM_eq_mapM_toList, aaG]
 simp only [bind_assoc, map_eq_pure_bind]
 rw [Sem.run_bind]
 refine Eq.trans (congrArg (fun r => Result.andThen r _) h2) ?_
 simp only [Result.andThen]
 simp only [pure_bind, Sem.run_pure, XZ]
def MC (args : List adI) : Env := fun i => args.getD i undef
def Yf (P : Program) (rs : List ResultVar) (R : adI -> adH -> Prop) : Exit -> Env -> adH -> Prop
 | .normal, g, w => Ci (g DS) w fun w => pM P rs g w fun vs => R (OC vs) w
 | .ret, g, w => Ci (g DS) w fun w => pM P rs g w fun vs => R (OC vs) w
 | _, _, _ => False
theorem Rb {g : Env} {w : adH} : ∀ (rs : List ResultVar) (K : List adI -> Prop), pM P rs g w K -> ∃ vs, K vs /\ ∀ K' : List adI -> Prop, K' vs -> pM P rs g w K' := by
 intro rs
 induction rs with
 | nil => intro K h; exact ⟨_, h, fun _ h => h⟩
 | cons r rs ih =>
   intro K h
   cases r with
   | tmp t =>
     obtain ⟨vs, a, b⟩ := ih _ h
     exact ⟨_, a, fun K' h => b _ h⟩
   | cell b t =>
     obtain ⟨v, hv, h⟩ := h
     obtain ⟨vs, a, b⟩ := ih _ h
     exact ⟨_, a, fun K' h => ⟨v, hv, b _ h⟩⟩
theorem Pd {v : adI} {w : adH} {K : adH -> Prop} (h : Ci v w K) : ∃ w', K w' /\ ∀ K' : adH -> Prop, K' w' -> Ci v w K' := by
 cases v with
 | pointer p =>
   cases p with
   | none => exact ⟨_, h, fun _ h => h⟩
   | some a => exact ⟨_, h.2, fun _ h' => ⟨h.1, h'⟩⟩
 | _ => exact ⟨_, h, fun _ h => h⟩
theorem Sh {v : adI} {w : adH} {K K' : adH -> Prop} (h : Ci v w K) (hk : ∀ w, K w -> K' w) : Ci v w K' :=
 let ⟨w', a, b⟩ := Pd h; b _ (hk w' a)
theorem RO {args : List adI} {N i : Nat} (hle : args.length <= N) (hi : N <= i) : MC args i = undef := by
 unfold MC
 rw [ZS, aaL (by omega)] <;> rfl
theorem KP {f : FuncId} {fn : Func} {c : Code} {args : List adI} {w : adH} {rs : List ResultVar} {R : adI -> adH -> Prop} (hm : P.follows .mixedOrders = true) (hAf : ann.f = f)
 (hf : P.funcs[f]? = some fn) (hb : fn.body = some c) (hrs : fn.results = rs.toArray) {N : Nat} (hN : fn.ntmps = N) (hle : args.length <= N)
 (hok : codeOk P N ann c = true) (hro : rs.all Pp = true) (hND : Nat.ble N DS = true) (h : iR P ann c (Yf P rs R) (MC args) w) : gS P f args.toArray w R := by
 obtain ⟨e, g', w', hq, _, hall⟩ := Nc _ _ _ _ h
 have hND := abJ hND
 have hNt : L7 P ann.f = N := by unfold L7; rw [hAf, hf]; exact hN
 have hrv : Ci (g' DS) w' fun w => pM P rs g' w fun vs => R (OC vs) w := by cases e <;> first | exact hq | exact hq.elim
 obtain ⟨w2, hrv2, hsh⟩ := Pd hrv
 obtain ⟨vs, hv, hrest⟩ := Rb _ _ hrv2
 refine ⟨OC vs, w2, ?_, hv⟩
 have hrel : Ib N (MC args) { tmps := args.toArray ++ Array.replicate (fn.ntmps - args.toArray.size) undef, defers := [] } := by
  refine ⟨hND, by rw [RO hle hND] <;> rfl, by simp [hN]; omega, fun i _ => ?_⟩
  simp only [MC, ZP, ZS]
  by_cases hi : i < args.length
  .simp [Array.getElem?_append, hi]
  .simp only [Array.getElem?_append, abP, hi, if_false, Array.getElem?_replicate]
   rw [aaL (by omega)]
   split <;> rfl
 have key := PX (P := P) (f := f) hf hb (R := fun v3 w3 => v3 = OC vs /\ w3 = w2) (args := args.toArray) (w := w)
  (hAf ▸ LQ hm hNt c hok (.inl rfl) (Yf P rs fun v3 w3 => v3 = OC vs /\ w3 = w2) _ _ _ _ hrel (fun e g a w hr h => ?_) (hall _ ?_))
 .refine Calls.mono key ?_
  rintro e w3 ⟨v, rfl, rfl, rfl⟩
  exact ⟨rfl, rfl⟩
 .have hx : ∀ {w}, (Ci (g DS) w fun w => pM P rs g w fun vs' => OC vs' = OC vs /\ w = w2) -> ∃ m, a.defers = Rq m /\ Ci m w fun w' => ∃ v, (results fn a.tmps).run P w' = .ok v w' /\ (v = OC vs /\ w' = w2) := by
   intro w h
   exact ⟨_, hr.defers, Sh h fun w h => Ry fn hro hrs hr (R := fun v3 w3 => v3 = OC vs /\ w3 = w2) h⟩
  cases e with
  | normal => exact hx h
  | ret => exact hx h
  | _ => exact h.elim
 .have := hsh (fun w => pM P rs g' w fun vs' => OC vs' = OC vs /\ w = w2) (hrest _ ⟨rfl, rfl⟩)
  cases e <;> first | exact this | exact hq.elim
theorem Wk {N : Nat} : ∀ (c : Code), codeOk P N ann c = true -> qR c = true -> ∀ s ∈ Jp c, s < N := by
 intro c
 induction c with
 | region id ops draw =>
   intro hok _ s hs
   simp only [codeOk, ZR] at hok
   obtain ⟨o, h1, h2⟩ := D6.1 hs
   obtain ⟨i, hi, rfl⟩ := acN h1
   exact L6 hok.1.1 i _ (by simp at hi ⊢) s h2
 | seq x y ihx ihy =>
   intro hok hfl s hs
   simp only [codeOk, qR, ZR] at hok hfl
   rcases abA.1 hs with hs | hs
   .exact ihx hok.1 hfl.1 s hs
   .exact ihy hok.2 hfl.2 s hs
 | cond c x y ihx ihy =>
   intro hok hfl s hs
   simp only [codeOk, qR, ZR] at hok hfl
   rcases abA.1 hs with hs | hs
   .exact ihx hok.2.1 hfl.1 s hs
   .exact ihy hok.2.2 hfl.2 s hs
 | block id c ih => intro hok hfl s hs; exact ih hok hfl s hs
 | loop c ih => intro hok hfl s hs; exact ih hok hfl s hs
 | scope c ih => intro hok hfl s hs; exact ih hok hfl s hs
 | rangeFunc => intro _ hfl; simp [qR] at hfl
 | _ => intro _ _ s hs; simp [Jp] at hs
theorem Rv {f : FuncId} {fn : Func} {c : Code} {args : List adI} {w : adH} {rs : List ResultVar} {R : adI -> adH -> Prop} (hm : P.follows .mixedOrders = true) (hAf : ann.f = f)
 (hf : P.funcs[f]? = some fn) (hb : fn.body = some c) (hrs : fn.results = rs.toArray) {N : Nat} (hN : fn.ntmps = N) (hle : args.length <= N)
 (hok : codeOk P N ann c = true) (hro : rs.all Pp = true) (hND : Nat.ble N DS = true) (hfl : qR c = true) (h : iR P ann c (YJ P rs R) (MC args) w) : gS P f args.toArray w R := by
 refine KP hm hAf hf hb hrs hN hle hok hro hND (Bm h fun e g' w' ha hq => ?_)
 have hND := abJ hND
 have : g' DS = undef := by
  rw [ha DS (fun hd => absurd (Wk c hok hfl DS hd) (Nat.not_lt.2 hND)), RO hle hND]
 cases e with
 | normal => show Ci (g' DS) w' (fun w => pM P rs g' w fun vs => R (OC vs) w); rw [this]; exact hq
 | ret => show Ci (g' DS) w' (fun w => pM P rs g' w fun vs => R (OC vs) w); rw [this]; exact hq
 | _ => exact hq.elim
def Jm (tmps : Array adI) : Env := fun i => tmps.getD i undef
def Qf (l : Nat) (R : adI -> adH -> Prop) : Exit -> Env -> adH -> Prop
 | .normal, _, w => ∃ r : Loop, w.heap[l]? = some (.loop r) /\ R (.bool true) (w.putObj l (.loop { r with state := .ready, pending := none }))
 | .ret, _, w => ∃ r : Loop, w.heap[l]? = some (.loop r) /\ R (.bool false) (w.putObj l (.loop { r with state := .done, pending := some .ret }))
 | .exit i, _, w => ∃ r : Loop, w.heap[l]? = some (.loop r) /\ R (.bool false) (w.putObj l (.loop { r with state := .done, pending := some (.exit i) }))
 | _, _, _ => False
def Y7 (P : Program) (ann : FA) (l : Nat) (bd : Code) (R : adI -> adH -> Prop) : Exit -> Env -> adH -> Prop
 | .normal, g, w => ∃ r : Loop, w.heap[l]? = some (.loop r) /\ r.state = .ready /\ iR P ann bd (Qf l R) g (w.putObj l (.loop { r with state := .busy }))
 | _, _, _ => False
theorem P5 {f : FuncId} {l : Nat} {tmps : Array adI} {ZC bd : Code} {w : adH} {R : adI -> adH -> Prop} (hm : P.follows .mixedOrders = true) (hAf : ann.f = f) {N : Nat} (hN : L7 P f = N) (hND : Nat.ble N DS = true)
 (hsz : tmps.size = N) (hok1 : codeOk P N ann ZC = true) (hf1 : qR ZC = true) (hok2 : codeOk P N ann bd = true) (hf2 : qR bd = true)
 (h : iR P ann ZC (Y7 P ann l bd R) (Jm tmps) w) : Pa P l f tmps ZC bd w R := by
 subst hAf
 have hND := abJ hND
 obtain ⟨e, g1, w1, hq, ha, hall⟩ := Nc _ _ _ _ h
 cases e with
 | normal =>
   obtain ⟨r, h1, h2, hd⟩ := hq
   obtain ⟨e2, g2, w2, hq2, ha2, hall2⟩ := Nc _ _ _ _ hd
   have hx : ∃ v w4, R v w4 /\ ∀ R' : adI -> adH -> Prop, R' v w4 -> Qf l R' e2 g2 w2 := by
    cases e2 with
    | normal => obtain ⟨r2, k1, k2⟩ := hq2; exact ⟨_, _, k2, fun R' h => ⟨r2, k1, h⟩⟩
    | ret => obtain ⟨r2, k1, k2⟩ := hq2; exact ⟨_, _, k2, fun R' h => ⟨r2, k1, h⟩⟩
    | exit i => obtain ⟨r2, k1, k2⟩ := hq2; exact ⟨_, _, k2, fun R' h => ⟨r2, k1, h⟩⟩
    | _ => exact hq2.elim
   obtain ⟨v, w4, hR, hrest⟩ := hx
   refine ⟨v, w4, ?_, hR⟩
   have hrel : Ib N (Jm tmps) { tmps := tmps, defers := [] } := by
    refine ⟨hND, ?_, hsz, fun i _ => rfl⟩
    have : Jm tmps DS = undef := by unfold Jm; rw [ZP, Z8 (by omega)] <;> rfl
    rw [this] <;> rfl
   have key : RoundIn Fence.wide 0 P l ann.f tmps ZC bd w fun e w' => ∃ v', e = .returned v' /\ (v' = v /\ w' = w4) := by
    refine PW (LQ hm hN ZC hok1 (.inr hf1) (fun e g w => e = .normal /\ g = g1 /\ w = w1) _ _ _ _ hrel ?_ (hall _ ⟨rfl, rfl, rfl⟩))
    rintro e g a w hra ⟨rfl, rfl, rfl⟩
    refine ⟨_, run_beginRound h1 h2, LQ hm hN bd hok2 (.inr hf2) (Qf l fun v' w' => v' = v /\ w' = w4) _ _ _ _ hra ?_ (hall2 _ (hrest _ ⟨rfl, rfl⟩))⟩
    intro e g a w _ h
    cases e with
    | normal => obtain ⟨r, k1, k2⟩ := h; exact ⟨_, _, run_endRound none k1, k2⟩
    | ret => obtain ⟨r, k1, k2⟩ := h; exact ⟨_, _, run_endRound (some .ret) k1, k2⟩
    | exit i => obtain ⟨r, k1, k2⟩ := h; exact ⟨_, _, run_endRound (some (.exit i)) k1, k2⟩
    | _ => exact h.elim
   refine RoundIn.mono key ?_
   rintro e w' ⟨v', rfl, rfl, rfl⟩
   exact ⟨rfl, rfl⟩
 | _ => exact hq.elim
theorem O1 {f : FuncId} {args : Array adI} {w : adH} {R : adI -> adH -> Prop} (h : gS P f args w R) :
 Calls P f args w fun e w' => ∃ v, e = .returned v /\ R v w' := by
 obtain ⟨v, w', hr, hR⟩ := h
 refine Calls.mono hr ?_
 rintro e w'' ⟨rfl, rfl⟩
 exact ⟨v, rfl, hR⟩
end
def sA : Code -> Code | .seq a _ => a | c => c
def cT : Code -> Code | .cond _ a _ => a | c => c
def cE : Code -> Code | .cond _ _ b => b | c => c
def bI : Code -> Code | .block _ c => c | .loop c => c | .scope c => c | c => c
def iU (f : Func) : Code := match f.body with | some c => c | none => .skip
def gU : Nat -> Code -> Code
 | 0, c => c
 | 1, c => sA c
 | n + 1, .seq a b => .seq a (gU n b)
 | _, c => c
def gN : Nat -> Code -> Code
 | 0, c => c
 | n + 1, .seq _ b => gN n b
 | _, c => c
def SF : Nat -> Code -> Bool
 | 1, .seq _ _ => true
 | n + 1, .seq _ b => SF n b
 | _, _ => false
def dr (w : adH) : adH := { w with drawn := w.drawn + 1 }
def Uw (P : Program) (t : TypeId) (a : adI) (w : adH) (K : adI -> Prop) : Prop := ∃ v, (do loadVar t (<- asAddr a) : Sem adI).run P w = .ok v w /\ K v
def Y3 : List (Nat × (Env -> adH -> Prop)) -> Nat -> Env -> adH -> Prop
 | [], _, _, _ => False
 | (j, k) :: r, i, g, w => match Nat.beq i j with | true => k g w | false => Y3 r i g w
def Y5 (kn kr : Env -> adH -> Prop) (l : List (Nat × (Env -> adH -> Prop))) : Exit -> Env -> adH -> Prop
 | .normal, g, w => kn g w
 | .ret, g, w => kr g w
 | .exit i, g, w => Y3 l i g w
 | _, _, _ => False
def Te (Q : Exit -> Env -> adH -> Prop) : List (Nat × (Env -> adH -> Prop)) -> Prop
 | [] => True
 | (i, k) :: r => (∀ g w, k g w -> Q (.exit i) g w) /\ Te Q r
def kH (c a b : adI) : Sem Next := do pure (.value (if <- asBool c then a else b))
def lQ (t : TypeId) : Sem Next := V (Instr.alloc t true (.tuple #[]))
def DY (t : TypeId) (x : adI) : Sem Next := V (Instr.box t x)
def gJ (t : TypeId) (a : adI) : Sem Next := V (Instr.loadAt t a)
def iB (t : TypeId) (a x : adI) : Sem Next := U (Instr.storeAt t a x)
def iY (x : adI) : Sem Next := execOp (fun _ => x) ⟨none, .nilCheck (.tmp 0), 0, default, #[], none⟩
def J2 (op : UnOp) (x : adI) : Sem Next := V (Op.unary op x)
def kP (s d : TypeId) (x : adI) : Sem Next := V (convert s d x)
def XA (t : TypeId) (x : adI) : Sem Next := V (Instr.makeInterface t x)
def LL (t : TypeId) (r : Option adI) : Sem Next := V (Instr.makeMap t r)
def vT (t : TypeId) (l c : adI) : Sem Next := V (Instr.makeSlice t l c)
def lL (t : TypeId) (x : adI) (lo hi mx : Option adI) : Sem Next := V (Instr.sliceAt t x lo hi mx)
def gK (t : TypeId) (x : adI) (f : Nat) : Sem Next := V (Instr.fieldAt t x f)
def iF (t : TypeId) (x i : adI) : Sem Next := V (Instr.indexAt t x i)
def TZ (t : TypeId) (x i : adI) : Sem Next := V (Instr.index t x i)
def yN (t : TypeId) (x i : adI) (ok : Bool) : Sem Next := V (Instr.lookup t x i ok)
def Ka (t : TypeId) (m k x : adI) : Sem Next := U (Instr.mapUpdate t m k x)
def Np (t : TypeId) (x : adI) : Sem Next := V (Instr.range t x)
def Sk (it : adI) : Sem Next := V (Instr.entry it)
def Th (it : adI) (str : Bool) (ty : TypeId) : Sem Next := V (Instr.next it str ty)
def iP (t : adI) (i : Nat) : Sem Next := V (Instr.extract t i)
section
variable {P : Program} {ann : FA}
theorem XQ {Q : Exit -> Env -> adH -> Prop} : ∀ {l : List (Nat × (Env -> adH -> Prop))}, Te Q l -> ∀ {i : Nat} {g : Env} {w : adH}, Y3 l i g w -> Q (.exit i) g w := by
 intro l
 induction l with
 | nil => intro _ i g w h; exact h.elim
 | cons p r ih =>
   obtain ⟨j, k⟩ := p
   rintro ⟨h1, h2⟩ i g w h
   simp only [Y3] at h
   cases hb : Nat.beq i j with
   | true =>
     simp only [hb] at h
     obtain rfl := Z5 hb
     exact h1 _ _ h
   | false => simp only [hb] at h; exact ih h2 h
theorem WU {c : Code} {kn kr : Env -> adH -> Prop} {l : List (Nat × (Env -> adH -> Prop))} {Q : Exit -> Env -> adH -> Prop} {g : Env} {w : adH} {A : Prop}
 (e : A = iR P ann c (Y5 kn kr l) g w) (h : A) (hn : ∀ g w, kn g w -> Q .normal g w) (hr : ∀ g w, kr g w -> Q .ret g w) (hl : Te Q l) : iR P ann c Q g w := by
 rw [e] at h
 refine Bm h (fun e g' w' _ hq => ?_)
 cases e with
 | normal => exact hn _ _ hq
 | ret => exact hr _ _ hq
 | exit i => exact XQ hl hq
 | _ => exact hq.elim
theorem TH {x y z : Code} {Q : Exit -> Env -> adH -> Prop} {g : Env} {w : adH} (h : iR P ann (.seq (.seq x y) z) Q g w) : iR P ann (.seq x (.seq y z)) Q g w := by
 show iR P ann x (xY (fun g w => iR P ann y (xY (fun g w => iR P ann z Q g w) Q) g w) Q) g w
 have h : iR P ann x (xY (fun g w => iR P ann y (xY (fun g w => iR P ann z Q g w) Q) g w) (xY (fun g w => iR P ann z Q g w) Q)) g w := h
 refine Bm h (fun e g' w' _ hq => ?_)
 cases e <;> exact hq
theorem iA {K : Env -> adH -> Prop} {Q : Exit -> Env -> adH -> Prop} {g : Env} {w : adH} (h : K g w) : xY K Q .normal g w := h
theorem TL {Q : Exit -> Env -> adH -> Prop} : ∀ (n : Nat) (c : Code) (g : Env) (w : adH), SF n c = true -> iR P ann (.seq (gU n c) (gN n c)) Q g w -> iR P ann c Q g w := by
 intro n
 induction n with
 | zero => intro c g w h; simp [SF] at h
 | succ n ih =>
   intro c g w h hd
   cases c with
   | seq a b =>
     cases n with
     | zero => exact hd
     | succ n =>
       have hb : SF (n + 1) b = true := by simpa [SF] using h
       have hd' : iR P ann (.seq (.seq a (gU (n + 1) b)) (gN (n + 1) b)) Q g w := hd
       have := TH hd'
       show iR P ann a (xY (fun g w => iR P ann b Q g w) Q) g w
       have h2 : iR P ann a (xY (fun g w => iR P ann (.seq (gU (n + 1) b) (gN (n + 1) b)) Q g w) Q) g w := this
       refine Bm h2 (fun e g' w' _ hq => ?_)
       cases e with
       | normal => exact ih b g' w' hb hq
       | _ => exact hq
   | _ => cases n <;> simp [SF] at h
def Xl (id : Nat) : Code -> Bool | .block i _ => Nat.beq i id | _ => false
def UC : Code -> Bool | .loop _ => true | _ => false
def UT : Code -> Option Operand | .cond o _ _ => some o | _ => none
theorem Wh {Q : Exit -> Env -> adH -> Prop} (id : Nat) (c : Code) (g : Env) (w : adH) (h : Xl id c = true) (hd : iR P ann (bI c) (WO id Q) g w) : iR P ann c Q g w := by
 cases c with
 | block i c =>
   obtain rfl := Z5 (show Nat.beq i id = true from h)
   exact hd
 | _ => cases h
def Xx : Code -> Bool | .scope _ => true | _ => false
theorem Wz {Q : Exit -> Env -> adH -> Prop} (c : Code) (g : Env) (w : adH) (h : Xx c = true) (hd : iR P ann (bI c) Q g w) : iR P ann c Q g w := by
 cases c with
 | scope c => exact hd
 | _ => cases h
theorem Ws {Q : Exit -> Env -> adH -> Prop} (o : Operand) (c : Code) (g : Env) (w : adH) (h : UT c = some o)
 (hd : lO (ev g o) (iR P ann (cT c) Q g w) (iR P ann (cE c) Q g w)) : iR P ann c Q g w := by
 cases c with
 | cond o' a b => obtain rfl := aaT h; exact hd
 | _ => cases h
theorem VJ {v : adI} {A B A' B' : Prop} (ha : A -> A') (hb : B -> B') (h : lO v A B) : lO v A' B' := by
 unfold lO at *
 cases v with
 | bool b => cases b <;> first | exact ha h | exact hb h
 | _ => exact h
theorem Vo {T : Type} (proj : Env -> T) (F : (T -> adH -> Prop) -> T -> adH -> Prop) {c : Code} {Q : Exit -> Env -> adH -> Prop} {g : Env} {w : adH}
 (hF : ∀ (X : T -> adH -> Prop) g' w', mF (Jp c) g g' -> F X (proj g') w' -> iR P ann c (xY (fun g'' w'' => X (proj g'') w'') Q) g' w')
 (h : kF F (proj g) w) : iR P ann (.loop c) Q g w := by
 obtain ⟨I, ⟨n, h0⟩, hI⟩ := h
 refine ⟨fun n g' w' => mF (Jp c) g g' /\ I n (proj g') w', ⟨n, mF.refl _ _, h0⟩, ?_⟩
 rintro n g' w' ⟨ha, hi⟩
 have := hF _ g' w' ha (hI n _ _ hi)
 refine Bm this (fun e g2 w2 ha2 hq => ?_)
 cases e with
 | normal =>
   obtain ⟨m, hm, hh⟩ := hq
   exact ⟨m, hm, ha.trans ha2 (fun _ h => h) (fun _ h => h), hh⟩
 | _ => exact hq
theorem T9 {T : Type} (proj : Env -> T) (F : (T -> adH -> Prop) -> T -> adH -> Prop) (c : Code) {Q : Exit -> Env -> adH -> Prop} {g : Env} {w : adH} (hl : UC c = true)
 (h : kF F (proj g) w)
 (hF : ∀ (X : T -> adH -> Prop) g' w', mF (Jp (bI c)) g g' -> F X (proj g') w' -> iR P ann (bI c) (xY (fun g'' w'' => X (proj g'') w'') Q) g' w') : iR P ann c Q g w := by
 cases c with
 | loop c => exact Vo proj F hF h
 | _ => cases hl
theorem R4 {l : List Nat} {s : Nat} (hs : pD s l = false) : s ∉ l := by
 induction l with
 | nil => simp
 | cons a r ih =>
   unfold pD at hs
   cases hb : Nat.beq a s with
   | true => simp only [hb] at hs; cases hs
   | false =>
     simp only [hb] at hs
     intro hm
     rcases aaE.1 hm with e | hm
     .subst e; simp at hb
     .exact ih hs hm
theorem Vm {l : List Nat} {g g' : Env} (h : mF l g g') {s : Nat} (hs : pD s l = false) : g' s = g s := h s (R4 hs)
def JM (id : Nat) : Code -> Array Oper
 | .region i ops _ => match Nat.beq i id with | true => ops | false => #[]
 | .seq a b => match (JM id a).size with | 0 => JM id b | _ + 1 => JM id a
 | .cond _ a b => match (JM id a).size with | 0 => JM id b | _ + 1 => JM id a
 | .block _ c => JM id c
 | .loop c => JM id c
 | .scope c => JM id c
 | _ => #[]
theorem U8 {b : Bool} {A B : Prop} (ha : A) (hb : B) : Ord b A B := by cases b <;> assumption
theorem kF.rule {α : Type} {F : (α -> adH -> Prop) -> α -> adH -> Prop} (I : Nat -> α -> adH -> Prop) {g : α} {w : adH} (n : Nat) (h0 : I n g w)
 (hr : ∀ n g w, I n g w -> F (fun g' w' => ∃ m, m < n /\ I m g' w') g w) : kF F g w := ⟨I, ⟨n, h0⟩, hr⟩
theorem eQ (A B : Prop) : lO (.bool true) A B = A := Eq.trans rfl rfl
theorem eH (A B : Prop) : lO (.bool false) A B = B := Eq.trans rfl rfl
theorem eZ (s : (adI -> adH -> Prop) -> Prop) (w : adH) (K : adI -> adH -> Prop) : Gd true s w K = s K := Eq.trans rfl rfl
theorem eT (s : (adI -> adH -> Prop) -> Prop) (w : adH) (K : adI -> adH -> Prop) : Gd false s w K = K undef w := Eq.trans rfl rfl
theorem fB (p : Prop) : Gs true p = p := Eq.trans rfl rfl
theorem eX (p : Prop) : Gs false p = True := Eq.trans rfl rfl
theorem fE : jQ (.bool true) true = true := Eq.trans rfl rfl
theorem fH : jQ (.bool true) false = false := Eq.trans rfl rfl
theorem fG : jQ (.bool false) true = false := Eq.trans rfl rfl
theorem fD : jQ (.bool false) false = true := Eq.trans rfl rfl
def gW : Operand := .tmp 0
theorem lI {c : Code} {kn kr : Env -> adH -> Prop} {l : List (Nat × (Env -> adH -> Prop))} {Q : Exit -> Env -> adH -> Prop} {g : Env} {w : adH} {A : Prop}
 (h : A) (hn : ∀ g w, kn g w -> Q .normal g w) (hr : ∀ g w, kr g w -> Q .ret g w) (hl : Te Q l) (e : A = iR P ann c (Y5 kn kr l) g w := by kernel_rfl) : iR P ann c Q g w := WU e h hn hr hl
theorem uW {Q : Exit -> Env -> adH -> Prop} (n : Nat) {c : Code} {g : Env} {w : adH}
 (hd : iR P ann (gU n c) (xY (fun g w => iR P ann (gN n c) Q g w) Q) g w) (h : SF n c = true := by kernel_rfl) : iR P ann c Q g w := TL n c g w h hd
theorem Od {Q : Exit -> Env -> adH -> Prop} (id : Nat) {c : Code} {g : Env} {w : adH} (hd : iR P ann (bI c) (WO id Q) g w) (h : Xl id c = true := by kernel_rfl) : iR P ann c Q g w := Wh id c g w h hd
theorem Zt {Q : Exit -> Env -> adH -> Prop} {c : Code} {g : Env} {w : adH} (hd : iR P ann (bI c) Q g w) (h : Xx c = true := by kernel_rfl) : iR P ann c Q g w := Wz c g w h hd
theorem Zy {Q : Exit -> Env -> adH -> Prop} (o : Operand) {c : Code} {g : Env} {w : adH} {A B : Prop} (ha : A -> iR P ann (cT c) Q g w) (hb : B -> iR P ann (cE c) Q g w) (hd : lO (ev g o) A B) (h : UT c = some o := by kernel_rfl) : iR P ann c Q g w :=
 Ws o c g w h (VJ ha hb hd)
theorem OV {T : Type} (proj : Env -> T) (F : (T -> adH -> Prop) -> T -> adH -> Prop) {c : Code} {Q : Exit -> Env -> adH -> Prop} {g : Env} {w : adH}
 (h : kF F (proj g) w)
 (hF : ∀ (X : T -> adH -> Prop) g' w', mF (Jp (bI c)) g g' -> F X (proj g') w' -> iR P ann (bI c) (xY (fun g'' w'' => X (proj g'') w'') Q) g' w') (hl : UC c = true := by kernel_rfl) : iR P ann c Q g w := T9 proj F c hl h hF
theorem uN {l : List Nat} {g g' : Env} (s : Nat) (h : mF l g g') (hs : pD s l = false := by kernel_rfl) : g' s = g s := Vm h hs
theorem wC {ann : FA} (fn : Func) (c : Code) (args : List adI) (rs : List ResultVar) (N : Nat) {f : FuncId} {w : adH} {R : adI -> adH -> Prop} (hm : P.follows .mixedOrders = true)
 (hf : P.funcs[f]? = some fn) (h : iR P ann c (YJ P rs R) (MC args) w) (hAf : ann.f = f := by kernel_rfl) (hb : fn.body = some c := by kernel_rfl) (hrs : fn.results = rs.toArray := by kernel_rfl) (hN : fn.ntmps = N := by kernel_rfl) (hle : Nat.ble args.length N = true := by kernel_rfl)
 (hok : codeOk P N ann c = true := by kernel_rfl) (hro : rs.all Pp = true := by kernel_rfl) (hND : Nat.ble N DS = true := by kernel_rfl) (hfl : qR c = true := by kernel_rfl) : gS P f args.toArray w R :=
 Rv hm hAf hf hb hrs hN (abJ hle) hok hro hND hfl h
def OP : Code -> Option (Operand × Array Tmp × Code × Code)
 | .rangeFunc g ps ZC bd => some (g, ps, ZC, bd)
 | .seq a b => (match OP a with | some r => some r | none => OP b)
 | .cond _ a b => (match OP a with | some r => some r | none => OP b)
 | .block _ c => OP c
 | .loop c => OP c
 | .scope c => OP c
 | _ => none
def Ve (c : Code) : Array Tmp := match OP c with | some (_, ps, _) => ps | none => #[]
def Uh (c : Code) : Code := match OP c with | some (_, _, ZC, _) => ZC | none => .skip
def Sv (c : Code) : Code := match OP c with | some (_, _, _, bd) => bd | none => .skip
def Zf (l : Nat) (w : adH) (K : adH -> Prop) : Prop := ∃ r : Loop, w.heap[l]? = some (.loop r) /\ r.state = .ready /\ K (w.putObj l (.loop { r with state := .busy }))
def Zm : Option Code -> LoopState
 | none => .ready
 | some _ => .done
def Q8 (l : Nat) (j : Option Code) (R : adI -> adH -> Prop) (w : adH) : Prop :=
 ∃ r : Loop, w.heap[l]? = some (.loop r) /\ R (.bool j.isNone) (w.putObj l (.loop { r with state := Zm j, pending := j }))
theorem Zz {ann : FA} (fn : Func) (c : Code) (args : List adI) (rs : List ResultVar) (N : Nat) {f : FuncId} {w : adH} {R : adI -> adH -> Prop} (hm : P.follows .mixedOrders = true)
 (hf : P.funcs[f]? = some fn) (h : iR P ann c (Yf P rs R) (MC args) w) (hAf : ann.f = f := by kernel_rfl) (hb : fn.body = some c := by kernel_rfl) (hrs : fn.results = rs.toArray := by kernel_rfl) (hN : fn.ntmps = N := by kernel_rfl) (hle : Nat.ble args.length N = true := by kernel_rfl)
 (hok : codeOk P N ann c = true := by kernel_rfl) (hro : rs.all Pp = true := by kernel_rfl) (hND : Nat.ble N DS = true := by kernel_rfl) : gS P f args.toArray w R :=
 KP hm hAf hf hb hrs hN (abJ hle) hok hro hND h
theorem Zu {ann : FA} (N : Nat) {f : FuncId} {l : Nat} {tmps : Array adI} {ZC bd : Code} {w : adH} {R : adI -> adH -> Prop} (hm : P.follows .mixedOrders = true) (hsz : tmps.size = N)
 (h : iR P ann ZC (Y7 P ann l bd R) (Jm tmps) w) (hN : L7 P f = N) (hok1 : codeOk P N ann ZC = true) (hok2 : codeOk P N ann bd = true) (hAf : ann.f = f := by kernel_rfl) (hND : Nat.ble N DS = true := by kernel_rfl)
 (hf1 : qR ZC = true := by kernel_rfl) (hf2 : qR bd = true := by kernel_rfl) : Pa P l f tmps ZC bd w R :=
 P5 hm hAf hN hND hsz hok1 hf1 hok2 hf2 h
end
end Go.En
namespace Go.Proofs.YteelnmpbnaohpaaDoor
open Go Go.En
noncomputable abbrev pg : Program := Tryd.prog
theorem TrydM.mixed : pg.follows .mixedOrders = true := Tryd.checked.mixed
abbrev K0 := adH -> Prop
abbrev K1 := adI -> K0
abbrev K2 := adI -> K1
abbrev K3 := adI -> K2
abbrev K4 := adI -> K3
abbrev K5 := adI -> K4
abbrev K6 := adI -> K5
abbrev K7 := adI -> K6
abbrev K8 := adI -> K7
abbrev K9 := adI -> K8
abbrev Zp := adI -> K9
abbrev HR (rs : List ResultVar) (R : K1) (Q : Exit -> Env -> adH -> Prop) : Prop := ∀ g w, (pM pg rs g w fun vs => R (OC vs) w) -> Q .ret g w
abbrev Zo (rs : List ResultVar) (R : K1) (Q : Exit -> Env -> adH -> Prop) : Prop := ∀ g w, (Ci (g DS) w fun w => pM pg rs g w fun vs => R (OC vs) w) -> Q .ret g w
abbrev no : Env -> adH -> Prop := fun _ _ => False
theorem mE {Q : Env -> adH -> Prop} : ∀ g w, no g w -> Q g w := fun _ _ h => h.elim
abbrev zF : FuncId := 5
abbrev Bc : FuncId := 7
abbrev Bv : FuncId := 8
abbrev AJ : FuncId := 9
abbrev uR : FuncId := 10
abbrev jG : FuncId := 11
abbrev kO : FuncId := 12
abbrev jL : FuncId := 13
abbrev lP : FuncId := 14
abbrev nV : FuncId := 15
abbrev kJ : FuncId := 16
abbrev rK : FuncId := 17
abbrev vR : FuncId := 18
abbrev jD : FuncId := 19
abbrev kZ : FuncId := 20
abbrev rQ : FuncId := 23
abbrev pI : FuncId := 24
abbrev pX : FuncId := 25
abbrev mN : FuncId := 26
abbrev lV : FuncId := 27
abbrev yE : FuncId := 28
abbrev mX : FuncId := 29
abbrev pQ : FuncId := 30
abbrev nU : FuncId := 31
abbrev vU : FuncId := 32
abbrev nR : FuncId := 33
abbrev nX : FuncId := 34
abbrev mT : FuncId := 35
abbrev lY : FuncId := 36
abbrev rD : FuncId := 37
abbrev mU : FuncId := 38
abbrev kR : FuncId := 39
abbrev AM : FuncId := 40
abbrev sP : FuncId := 41
abbrev oI : FuncId := 42
abbrev oD : FuncId := 43
abbrev H8 : FuncId := 44
abbrev pJ : FuncId := 45
abbrev zQ : FuncId := 46
abbrev wF : FuncId := 47
abbrev rH : FuncId := 48
abbrev kV : FuncId := 49
abbrev A8 : FuncId := 50
abbrev rG : FuncId := 51
abbrev zM : FuncId := 52
abbrev I5 : FuncId := 53
abbrev lU : FuncId := 54
abbrev yW : FuncId := 55
abbrev Qb : FuncId := 56
abbrev vB : FuncId := 57
abbrev vF : FuncId := 58
abbrev qZ : FuncId := 59
abbrev mD : FuncId := 60
abbrev pY : FuncId := 61
abbrev rA : FuncId := 62
abbrev lF : FuncId := 63
abbrev Lb : FuncId := 64
abbrev nQ : FuncId := 65
abbrev uM : FuncId := 66
abbrev mC : FuncId := 67
abbrev pP : FuncId := 68
abbrev L9 : FuncId := 69
abbrev AS : FuncId := 70
abbrev Dp : FuncId := 71
abbrev Dr : FuncId := 72
abbrev zR : FuncId := 73
abbrev jJ : FuncId := 74
abbrev N0 (Q : Exit -> Env -> adH -> Prop) (k : K0) : Prop := ∀ g w, k w -> Q .normal g w
abbrev E0 (Q : Exit -> Env -> adH -> Prop) (k : K0) (x0 : Nat) : Prop := ∀ g w, k w -> Q (.exit x0) g w
abbrev N1 (Q : Exit -> Env -> adH -> Prop) (k : K1) (a_ : Nat) : Prop := ∀ g w, k (g a_) w -> Q .normal g w
abbrev E1 (Q : Exit -> Env -> adH -> Prop) (k : K1) (x0 : Nat) (a_ : Nat) : Prop := ∀ g w, k (g a_) w -> Q (.exit x0) g w
abbrev N2 (Q : Exit -> Env -> adH -> Prop) (k : K2) (a_ b_ : Nat) : Prop := ∀ g w, k (g a_) (g b_) w -> Q .normal g w
abbrev E2 (Q : Exit -> Env -> adH -> Prop) (k : K2) (x0 : Nat) (a_ b_ : Nat) : Prop := ∀ g w, k (g a_) (g b_) w -> Q (.exit x0) g w
abbrev N3 (Q : Exit -> Env -> adH -> Prop) (k : K3) (a_ b_ c_ : Nat) : Prop := ∀ g w, k (g a_) (g b_) (g c_) w -> Q .normal g w
abbrev E3 (Q : Exit -> Env -> adH -> Prop) (k : K3) (x0 : Nat) (a_ b_ c_ : Nat) : Prop := ∀ g w, k (g a_) (g b_) (g c_) w -> Q (.exit x0) g w
abbrev N4 (Q : Exit -> Env -> adH -> Prop) (k : K4) (a_ b_ c_ d_ : Nat) : Prop := ∀ g w, k (g a_) (g b_) (g c_) (g d_) w -> Q .normal g w
abbrev E4 (Q : Exit -> Env -> adH -> Prop) (k : K4) (x0 : Nat) (a_ b_ c_ d_ : Nat) : Prop := ∀ g w, k (g a_) (g b_) (g c_) (g d_) w -> Q (.exit x0) g w
abbrev N5 (Q : Exit -> Env -> adH -> Prop) (k : K5) (a_ b_ c_ d_ e_ : Nat) : Prop := ∀ g w, k (g a_) (g b_) (g c_) (g d_) (g e_) w -> Q .normal g w
abbrev N6 (Q : Exit -> Env -> adH -> Prop) (k : K6) (a_ b_ c_ d_ e_ f_ : Nat) : Prop := ∀ g w, k (g a_) (g b_) (g c_) (g d_) (g e_) (g f_) w -> Q .normal g w
abbrev N7 (Q : Exit -> Env -> adH -> Prop) (k : K7) (a_ b_ c_ d_ e_ f_ g_ : Nat) : Prop := ∀ g w, k (g a_) (g b_) (g c_) (g d_) (g e_) (g f_) (g g_) w -> Q .normal g w
abbrev N8 (Q : Exit -> Env -> adH -> Prop) (k : K8) (a_ b_ c_ d_ e_ f_ g_ h_ : Nat) : Prop := ∀ g w, k (g a_) (g b_) (g c_) (g d_) (g e_) (g f_) (g g_) (g h_) w -> Q .normal g w
abbrev N9 (Q : Exit -> Env -> adH -> Prop) (k : K9) (a_ b_ c_ d_ e_ f_ g_ h_ i_ : Nat) : Prop := ∀ g w, k (g a_) (g b_) (g c_) (g d_) (g e_) (g f_) (g g_) (g h_) (g i_) w -> Q .normal g w
abbrev N10 (Q : Exit -> Env -> adH -> Prop) (k : Zp) (a_ b_ c_ d_ e_ f_ g_ h_ i_ j_ : Nat) : Prop := ∀ g w, k (g a_) (g b_) (g c_) (g d_) (g e_) (g f_) (g g_) (g h_) (g i_) (g j_) w -> Q .normal g w
abbrev adJ (n_ : Int) : adI := .int .i64 n_
end Go.Proofs.YteelnmpbnaohpaaDoor
namespace Go.Proofs.YteelnmpbnaohpaaDoor
open Go Go.En
set_option maxRecDepth 20000
attribute [local irreducible] Go.En.iR
variable (Q : Exit -> Env -> adH -> Prop) (g : Env) (w : adH)
def jB : FA := ⟨zF, fun i => .leaf ([], []) []⟩
def kQ : List ResultVar := [.tmp 8]
noncomputable def iX : Code := iU Tryd.f5
def rF (R : K1) (jM iT mI lZ : adI) (w : adH) : Prop :=
 gS pg jL #[mI, (.string ⟨#[102]⟩)] w fun t211 w =>
 eY pg (iP t211 0) w fun t212 w =>
 eY pg (iP t211 1) w fun t213 w =>
 gS pg kO #[lZ] w fun t215 w =>
 gS pg jL #[mI, (.string ⟨#[102]⟩)] w fun t218 w =>
 eY pg (iP t218 0) w fun t219 w =>
 eY pg (iP t218 1) w fun t220 w =>
 eY pg (gO .eql 29 (.tmp 221) (.const (adJ 0)) t213 (adJ 0)) w fun t222 w =>
 Gd (jQ t222 true) (fun K => K t212 w) w fun t224 w =>
 Gd (jQ t222 true) (fun K => eY pg (kP 22 9 t224) w K) w fun t225 w =>
 Gd (jQ t222 true) (fun K => K jM w) w fun t226 w =>
 Gd (jQ t222 true) (fun K => eY pg (kP 22 9 t226) w K) w fun t227 w =>
 Gd (jQ t222 true) (fun K => eY pg (gO .eql 9 (.tmp 225) (.tmp 227) t225 t227) w K) w fun t228 w =>
 eY pg (kH t222 t228 (.bool false)) w fun t229 w =>
 Gd (jQ t229 true) (fun K => K t215 w) w fun t231 w =>
 Gd (jQ t229 true) (fun K => eY pg (gO .eql 29 (.tmp 231) (.const (adJ 0)) t231 (adJ 0)) w K) w fun t232 w =>
 eY pg (kH t229 t232 (.bool false)) w fun t233 w =>
 Gd (jQ t233 true) (fun K => K t220 w) w fun t235 w =>
 Gd (jQ t233 true) (fun K => eY pg (gO .eql 29 (.tmp 235) (.const (adJ 0)) t235 (adJ 0)) w K) w fun t236 w =>
 eY pg (kH t233 t236 (.bool false)) w fun t237 w =>
 Gd (jQ t237 true) (fun K => K t219 w) w fun t239 w =>
 Gd (jQ t237 true) (fun K => eY pg (kP 22 9 t239) w K) w fun t240 w =>
 Gd (jQ t237 true) (fun K => K iT w) w fun t241 w =>
 Gd (jQ t237 true) (fun K => eY pg (kP 22 9 t241) w K) w fun t242 w =>
 Gd (jQ t237 true) (fun K => eY pg (gO .eql 9 (.tmp 240) (.tmp 242) t240 t242) w K) w fun t243 w =>
 eY pg (kH t237 t243 (.bool false)) w fun t244 w =>
 R t244 w
theorem G9 (R : K1) (hr : HR kQ R Q) (h : rF R (g 0) (g 1) (g 14) (g 18) w) : iR pg jB (gN 1 (gN 17 iX)) Q g w :=
 lI (kn := no) (l := []) h mE hr trivial
def oQ (kn : K9) (jM iT nN nA nZ mI lZ iQ nB : adI) (w : adH) : Prop :=
 eY pg (gO .add 3 gW gW nB (adJ 1)) w fun u1 w =>
 kn jM iT nN nA nZ mI lZ iQ u1 w
theorem G8 (kn : K9) (hn : N9 Q kn 0 1 10 11 13 14 18 20 23) (h : oQ kn (g 0) (g 1) (g 10) (g 11) (g 13) (g 14) (g 18) (g 20) (g 23) w) : iR pg jB (gN 1 (gN 1 (bI (bI (gN 1 (gU 1 (gN 17 iX))))))) Q g w :=
 lI (kr := no) (l := []) h hn mE trivial
def oK (kn : K9) (R : K1) (jM iT nN nA nZ mI lZ iQ nB d4 : adI) (w : adH) : Prop :=
 eY pg (gO .add 3 gW gW iQ (adJ 13)) w fun v3 w =>
 eY pg (gO .mul 3 gW gW nN nB) w fun v9 w =>
 eY pg (lL 22 iT (some v9) (some d4) none) w fun x1 w =>
 gS pg jG #[lZ, nB, x1] w fun x2 w =>
 eY pg (gO .lss 3 gW gW nZ v3) w fun x5 w =>
 lO x5
  (eY pg (gO .mul 3 gW gW nN nB) w fun y1 w =>
  eY pg (lL 22 iT (some y1) (some d4) none) w fun y3 w =>
  gS pg jG #[lZ, nB, y3] w fun y4 w =>
  gS pg jL #[mI, (.string ⟨#[102]⟩)] w fun y7 w =>
  eY pg (iP y7 0) w fun y8 w =>
  eY pg (iP y7 1) w fun y9 w =>
  eY pg (gO .eql 29 (.tmp 180) (.const (adJ 22)) x2 (adJ 22)) w fun z1 w =>
  Gd (jQ z1 true) (fun K => K y4 w) w fun z3 w =>
  Gd (jQ z1 true) (fun K => eY pg (gO .eql 29 (.tmp 183) (.const (adJ 22)) z3 (adJ 22)) w K) w fun z4 w =>
  eY pg (kH z1 z4 (.bool false)) w fun z5 w =>
  Gd (jQ z5 true) (fun K => K lZ w) w fun z7 w =>
  Gd (jQ z5 true) (fun K => gS pg kZ #[z7] w K) w fun z8 w =>
  Gd (jQ z5 true) (fun K => eY pg (gO .eql 29 (.tmp 188) (.const (adJ 22)) z8 (adJ 22)) w K) w fun z9 w =>
  eY pg (kH z5 z9 (.bool false)) w fun t190 w =>
  Gd (jQ t190 true) (fun K => K lZ w) w fun t192 w =>
  Gd (jQ t190 true) (fun K => gS pg kO #[t192] w K) w fun t193 w =>
  Gd (jQ t190 true) (fun K => eY pg (gO .eql 29 (.tmp 193) (.const (adJ 22)) t193 (adJ 22)) w K) w fun t194 w =>
  eY pg (kH t190 t194 (.bool false)) w fun t195 w =>
  Gd (jQ t195 true) (fun K => K y9 w) w fun t197 w =>
  Gd (jQ t195 true) (fun K => eY pg (gO .eql 29 (.tmp 197) (.const (adJ 0)) t197 (adJ 0)) w K) w fun t198 w =>
  eY pg (kH t195 t198 (.bool false)) w fun t199 w =>
  Gd (jQ t199 true) (fun K => K y8 w) w fun t201 w =>
  Gd (jQ t199 true) (fun K => eY pg (kP 22 9 t201) w K) w fun t202 w =>
  Gd (jQ t199 true) (fun K => K jM w) w fun t203 w =>
  Gd (jQ t199 true) (fun K => eY pg (kP 22 9 t203) w K) w fun t204 w =>
  Gd (jQ t199 true) (fun K => eY pg (gO .eql 9 (.tmp 202) (.tmp 204) t202 t204) w K) w fun t205 w =>
  eY pg (kH t199 t205 (.bool false)) w fun t206 w =>
  R t206 w)
  (eY pg (gO .neq 29 (.tmp 207) (.const (adJ 0)) x2 (adJ 0)) w fun t208 w =>
  lO t208
   (R (.bool false) w)
   (kn jM iT nN nA nZ mI lZ v3 nB w))
theorem Hp (kn : K9) (R : K1) (hn : N9 Q kn 0 1 10 11 13 14 18 20 23) (hr : HR kQ R Q) (h : oK kn R (g 0) (g 1) (g 10) (g 11) (g 13) (g 14) (g 18) (g 20) (g 23) (g 24) w) : iR pg jB (gN 2 (bI (gU 1 (gN 1 (bI (bI (gN 1 (gU 1 (gN 17 iX))))))))) Q g w :=
 lI (l := []) h hn hr trivial
def xT (kn : Zp) (jM iT nN nA nZ mI lZ iQ nB : adI) (w : adH) : Prop :=
 eY pg (gO .add 3 gW gW nB (adJ 1)) w fun u4 w =>
 eY pg (gO .mul 3 gW gW nN u4) w fun u5 w =>
 eY pg (mS .len #[22] 3 [iT]) w fun u8 w =>
 eY pg (gO .gtr 3 gW gW u5 u8) w fun u9 w =>
 lO u9
  (eY pg (mS .len #[22] 3 [iT]) w fun v1 w =>
  kn jM iT nN nA nZ mI lZ iQ nB v1 w)
  (kn jM iT nN nA nZ mI lZ iQ nB u5 w)
theorem HM (kn : Zp) (hn : N10 Q kn 0 1 10 11 13 14 18 20 23 24) (h : xT kn (g 0) (g 1) (g 10) (g 11) (g 13) (g 14) (g 18) (g 20) (g 23) w) : iR pg jB (gU 2 (bI (gU 1 (gN 1 (bI (bI (gN 1 (gU 1 (gN 17 iX))))))))) Q g w :=
 lI (kr := no) (l := []) h hn mE trivial
def CY (kn : K9) (R : K1) (jM iT nN nA nZ mI lZ iQ nB : adI) (w : adH) : Prop :=
 xT (fun jM iT nN nA nZ mI lZ iQ nB d4 w => oK kn R jM iT nN nA nZ mI lZ iQ nB d4 w) jM iT nN nA nZ mI lZ iQ nB w
def wX (kn : K9) (R : K1) (jM iT nN nA nZ mI lZ iQ nB : adI) (w : adH) : Prop :=
 CY kn R jM iT nN nA nZ mI lZ iQ nB w
def wU (kn : K9) (R : K1) (jM iT nN nA nZ mI lZ iQ nB : adI) (w : adH) : Prop :=
 wX (fun jM iT nN nA nZ mI lZ iQ nB w => oQ kn jM iT nN nA nZ mI lZ iQ nB w) R jM iT nN nA nZ mI lZ iQ nB w
theorem Hf (kn : K9) (R : K1) (hn : N9 Q kn 0 1 10 11 13 14 18 20 23) (hr : HR kQ R Q) (h : wX kn R (g 0) (g 1) (g 10) (g 11) (g 13) (g 14) (g 18) (g 20) (g 23) w) : iR pg jB (gU 1 (gN 1 (bI (bI (gN 1 (gU 1 (gN 17 iX))))))) Q g w :=
 Od 1 (uW 2 (HM _ g w (oK kn R) (fun g w h => iA (Hp _ g w kn R hn hr h)) h))
def xA (kn : K9) (k0 : K4) (jM iT nN nA nZ mI lZ iQ nB : adI) (w : adH) : Prop :=
 eY pg (gK 28 nA 2) w fun s6 w =>
 eY pg (gJ 26 s6) w fun s7 w =>
 eY pg (mS .len #[26] 3 [s7]) w fun s8 w =>
 eY pg (gO .lss 3 gW gW nB s8) w fun s9 w =>
 lO s9
  (kn jM iT nN nA nZ mI lZ iQ nB w)
  (k0 jM iT mI lZ w)
theorem HG (kn : K9) (k0 : K4) (hn : N9 Q kn 0 1 10 11 13 14 18 20 23) (h0 : E4 Q k0 0 0 1 14 18) (h : xA kn k0 (g 0) (g 1) (g 10) (g 11) (g 13) (g 14) (g 18) (g 20) (g 23) w) : iR pg jB (gU 1 (bI (bI (gN 1 (gU 1 (gN 17 iX)))))) Q g w :=
 lI (kr := no) (l := [(0, fun g w => k0 (g 0) (g 1) (g 14) (g 18) w)]) h hn mE ⟨h0, trivial⟩
def qY (kn : K9) (k0 : K4) (R : K1) (jM iT nN nA nZ mI lZ iQ nB : adI) (w : adH) : Prop :=
 xA (fun jM iT nN nA nZ mI lZ iQ nB w => wU kn R jM iT nN nA nZ mI lZ iQ nB w) k0 jM iT nN nA nZ mI lZ iQ nB w
def vO (k0 : K4) (R : K1) (jM iT nN nA nZ mI lZ iQ nB : adI) (w : adH) : Prop :=
 kF (fun (X : (adI × adI) -> K0) (t : adI × adI) (w : adH) => qY (fun _ _ _ _ _ _ _ iQ nB w => X (iQ, nB) w) k0 R jM iT nN nA nZ mI lZ t.1 t.2 w) (iQ, nB) w
theorem HN (kn : K9) (k0 : K4) (R : K1) (hn : N9 Q kn 0 1 10 11 13 14 18 20 23) (h0 : E4 Q k0 0 0 1 14 18) (hr : HR kQ R Q) (h : qY kn k0 R (g 0) (g 1) (g 10) (g 11) (g 13) (g 14) (g 18) (g 20) (g 23) w) : iR pg jB (bI (bI (gN 1 (gU 1 (gN 17 iX))))) Q g w :=
 uW 1 (HG _ g w (wU kn R) k0 (fun g w h => iA (uW 1 (Hf _ g w (oQ kn) R (fun g w h => iA (G8 _ g w kn hn h)) hr h))) h0 h)
theorem F6 (k0 : K4) (R : K1) (h0 : E4 Q k0 0 0 1 14 18) (hr : HR kQ R Q) (h : vO k0 R (g 0) (g 1) (g 10) (g 11) (g 13) (g 14) (g 18) (g 20) (g 23) w) : iR pg jB (bI (gN 1 (gU 1 (gN 17 iX)))) Q g w := by
 refine OV (fun g : Env => (g 20, g 23)) (fun X t w => qY (fun _ _ _ _ _ _ _ iQ nB w => X (iQ, nB) w) k0 R (g 0) (g 1) (g 10) (g 11) (g 13) (g 14) (g 18) t.1 t.2 w) h (fun X g1 w1 ha hL => ?_)
 rw [<- uN 0 ha, <- uN 1 ha, <- uN 10 ha, <- uN 11 ha, <- uN 13 ha, <- uN 14 ha, <- uN 18 ha] at hL
 exact (HN _ g1 w1 (fun _ _ _ _ _ _ _ iQ nB w => X (iQ, nB) w) k0 R (fun _ _ h => h) h0 hr hL)
def vL (kn : K4) (R : K1) (jM iT nN nA nZ mI lZ iQ nB : adI) (w : adH) : Prop :=
 vO kn R jM iT nN nA nZ mI lZ iQ nB w
def vQ (kn : K9) (jM iT nN nA nZ mI lZ iQ : adI) (w : adH) : Prop :=
 kn jM iT nN nA nZ mI lZ iQ (adJ 0) w
theorem Gn (kn : K9) (hn : N9 Q kn 0 1 10 11 13 14 18 20 23) (h : vQ kn (g 0) (g 1) (g 10) (g 11) (g 13) (g 14) (g 18) (g 20) w) : iR pg jB (gU 1 (gU 1 (gN 17 iX))) Q g w :=
 lI (kr := no) (l := []) h hn mE trivial
def vD (kn : K4) (R : K1) (jM iT nN nA nZ mI lZ iQ : adI) (w : adH) : Prop :=
 vQ (fun jM iT nN nA nZ mI lZ iQ nB w => vL kn R jM iT nN nA nZ mI lZ iQ nB w) jM iT nN nA nZ mI lZ iQ w
def vN (R : K1) (jM iT nN nA nZ mI lZ iQ : adI) (w : adH) : Prop :=
 vD (fun jM iT mI lZ w => rF R jM iT mI lZ w) R jM iT nN nA nZ mI lZ iQ w
theorem Gg (kn : K4) (R : K1) (hn : N4 Q kn 0 1 14 18) (hr : HR kQ R Q) (h : vD kn R (g 0) (g 1) (g 10) (g 11) (g 13) (g 14) (g 18) (g 20) w) : iR pg jB (gU 1 (gN 17 iX)) Q g w :=
 uW 1 (Gn _ g w (vL kn R) (fun g w h => iA (Od 0 (F6 _ g w kn R hn hr h))) h)
def vH (kn : K8) (R : K1) (jM iT SI SM : adI) (w : adH) : Prop :=
 gS pg Bc #[] w fun e4 w =>
 eY pg (J2 .not e4) w fun e6 w =>
 lO e6
  (R (.bool false) w)
  (eY pg (mS .len #[22] 3 [jM]) w fun e8 w =>
  eY pg (gO .gtr 3 gW gW e8 (adJ 100)) w fun e9 w =>
  Gd (jQ e9 false) (fun K => K iT w) w fun f1 w =>
  Gd (jQ e9 false) (fun K => eY pg (mS .len #[22] 3 [f1]) w K) w fun f2 w =>
  Gd (jQ e9 false) (fun K => eY pg (gO .gtr 3 gW gW f2 (adJ 100)) w K) w fun f3 w =>
  eY pg (kH e9 (.bool true) f3) w fun f4 w =>
  Gd (jQ f4 false) (fun K => K jM w) w fun f6 w =>
  Gd (jQ f4 false) (fun K => eY pg (kP 22 9 f6) w K) w fun f7 w =>
  Gd (jQ f4 false) (fun K => K iT w) w fun f8 w =>
  Gd (jQ f4 false) (fun K => eY pg (kP 22 9 f8) w K) w fun f9 w =>
  Gd (jQ f4 false) (fun K => eY pg (gO .eql 9 (.tmp 47) (.tmp 49) f7 f9) w K) w fun i0 w =>
  eY pg (kH f4 (.bool true) i0) w fun i1 w =>
  lO i1
   (R (.bool true) w)
   (eY pg (gO .rem 5 gW gW SI (.int .u8 30)) w fun i3 w =>
   eY pg (kP 5 3 i3) w fun i4 w =>
   eY pg (gO .add 3 gW gW i4 (adJ 1)) w fun i5 w =>
   gS pg Bv #[iT, i5] w fun i9 w =>
   eY pg (iP i9 0) w fun j0 w =>
   eY pg (iP i9 1) w fun j1 w =>
   eY pg (lQ 28) w fun nA w =>
   eY pg (iB 28 nA j0) w fun _u w =>
   eY pg (mS .len #[22] 3 [jM]) w fun j3 w =>
   eY pg (gO .rem 44 gW gW SM (.int .u16 300)) w fun j5 w =>
   eY pg (kP 44 3 j5) w fun j6 w =>
   eY pg (gO .add 3 gW gW j3 j6) w fun j7 w =>
   gS pg AJ #[j7] w fun l0 w =>
   eY pg (iP l0 0) w fun l1 w =>
   eY pg (iP l0 1) w fun l2 w =>
   gS pg kJ #[l1, (.string ⟨#[102]⟩), (adJ 0), jM] w fun l5 w =>
   gS pg jD #[l1] w fun l7 w =>
   eY pg (gJ 28 nA) w fun m0 w =>
   gS pg uR #[l1, (.string ⟨#[102]⟩), m0] w fun m1 w =>
   eY pg (iP m1 0) w fun m2 w =>
   eY pg (iP m1 1) w fun m3 w =>
   eY pg (gO .neq 29 (.tmp 84) (.const (adJ 0)) j1 (adJ 0)) w fun m5 w =>
   Gd (jQ m5 false) (fun K => K l5 w) w fun m7 w =>
   Gd (jQ m5 false) (fun K => eY pg (gO .neq 29 (.tmp 87) (.const (adJ 0)) m7 (adJ 0)) w K) w fun m8 w =>
   eY pg (kH m5 (.bool true) m8) w fun m9 w =>
   Gd (jQ m9 false) (fun K => K l7 w) w fun n1 w =>
   Gd (jQ m9 false) (fun K => eY pg (gO .neq 29 (.tmp 91) (.const (adJ 0)) n1 (adJ 0)) w K) w fun n2 w =>
   eY pg (kH m9 (.bool true) n2) w fun n3 w =>
   lO n3
    (R (.bool false) w)
    (eY pg (mS .len #[22] 3 [jM]) w fun n5 w =>
    eY pg (gO .add 3 gW gW n5 (adJ 13)) w fun n6 w =>
    eY pg (mS .len #[22] 3 [iT]) w fun n8 w =>
    eY pg (gO .add 3 gW gW n6 n8) w fun n9 w =>
    eY pg (gO .eql 29 (.tmp 100) (.const (adJ 0)) m3 (adJ 0)) w fun o1 w =>
    Gd (jQ o1 true) (fun K => K m2 w) w fun o3 w =>
    Gd (jQ o1 true) (fun K => gS pg lP #[o3] w K) w fun o4 w =>
    eY pg (kH o1 o4 (.bool false)) w fun o5 w =>
    lO o5
     (R (.bool true) w)
     (eY pg (gO .lss 3 gW gW j7 n9) w fun o8 w =>
     lO o8
      (gS pg jL #[l1, (.string ⟨#[102]⟩)] w fun p1 w =>
      eY pg (iP p1 0) w fun p2 w =>
      eY pg (iP p1 1) w fun p3 w =>
      eY pg (gO .eql 29 (.tmp 114) (.const (adJ 22)) m3 (adJ 22)) w fun p5 w =>
      Gd (jQ p5 true) (fun K => K m2 w) w fun p7 w =>
      Gd (jQ p5 true) (fun K => eY pg (gO .eql 35 (.tmp 117) (.const (.pointer none)) p7 (.pointer none)) w K) w fun p8 w =>
      eY pg (kH p5 p8 (.bool false)) w fun p9 w =>
      Gd (jQ p9 true) (fun K => K p3 w) w fun q1 w =>
      Gd (jQ p9 true) (fun K => eY pg (gO .eql 29 (.tmp 121) (.const (adJ 0)) q1 (adJ 0)) w K) w fun q2 w =>
      eY pg (kH p9 q2 (.bool false)) w fun q3 w =>
      Gd (jQ q3 true) (fun K => K p2 w) w fun q5 w =>
      Gd (jQ q3 true) (fun K => eY pg (kP 22 9 q5) w K) w fun q6 w =>
      Gd (jQ q3 true) (fun K => K jM w) w fun q7 w =>
      Gd (jQ q3 true) (fun K => eY pg (kP 22 9 q7) w K) w fun q8 w =>
      Gd (jQ q3 true) (fun K => eY pg (gO .eql 9 (.tmp 126) (.tmp 128) q6 q8) w K) w fun q9 w =>
      eY pg (kH q3 q9 (.bool false)) w fun s0 w =>
      R s0 w)
      (eY pg (gO .neq 29 (.tmp 131) (.const (adJ 0)) m3 (adJ 0)) w fun s2 w =>
      lO s2
       (R (.bool false) w)
       (gS pg lP #[m2] w fun s4 w =>
       lO s4
        (R (.bool true) w)
        (kn jM iT i5 nA j7 l1 m2 n9 w)))))))
theorem Gm (kn : K8) (R : K1) (hn : N8 Q kn 0 1 10 11 13 14 18 20) (hr : HR kQ R Q) (h : vH kn R (g 0) (g 1) (g 2) (g 3) w) : iR pg jB (gU 17 iX) Q g w :=
 lI (l := []) h hn hr trivial
def vI (R : K1) (jM iT SI SM : adI) (w : adH) : Prop :=
 vH (fun jM iT nN nA nZ mI lZ iQ w => vN R jM iT nN nA nZ mI lZ iQ w) R jM iT SI SM w
theorem Gy (R : K1) (hr : HR kQ R Q) (h : vI R (g 0) (g 1) (g 2) (g 3) w) : iR pg jB iX Q g w :=
 uW 17 (Gm _ g w (vN R) R (fun g w h => iA (uW 1 (Gg _ g w (rF R) R (fun g w h => iA (G9 _ g w R hr h)) hr h))) hr h)
def GU (a0 a1 a2 a3 : adI) (w : adH) (R : K1) : Prop :=
 vI R a0 a1 a2 a3 w
theorem IN {a0 a1 a2 a3 : adI} {w : adH} {R : K1} (h : GU a0 a1 a2 a3 w R) : gS pg zF #[a0, a1, a2, a3] w R := by
 refine wC (ann := jB) Tryd.f5 iX [a0, a1, a2, a3] kQ 245 TrydM.mixed Tryd.func5 ?_
 exact (Gy _ _ _ R (fun _ _ h => h) h)
def G4 : FA := ⟨Bc, fun i => .leaf ([], []) []⟩
def HV : List ResultVar := [.tmp 0]
noncomputable def FH : Code := iU Tryd.f7
def DI (R : K1)  (w : adH) : Prop :=
 gS pg AJ #[(adJ 1000)] w fun c4 w =>
 eY pg (iP c4 0) w fun c5 w =>
 eY pg (iP c4 1) w fun c6 w =>
 eY pg (iC 22 5 [(0, (.int .u8 97)), (1, (.int .u8 98)), (2, (.int .u8 99)), (3, (.int .u8 100)), (4, (.int .u8 101))]) w fun c8 w =>
 eY pg (kP 22 22 c8) w fun c9 w =>
 gS pg Bv #[c9, (adJ 2)] w fun d0 w =>
 eY pg (iP d0 0) w fun d1 w =>
 eY pg (iP d0 1) w fun d2 w =>
 eY pg (lQ 28) w fun Zr w =>
 eY pg (iB 28 Zr d1) w fun _u w =>
 eY pg (gJ 28 Zr) w fun d5 w =>
 gS pg uR #[c5, (.string ⟨#[102]⟩), d5] w fun d6 w =>
 eY pg (iP d6 0) w fun d7 w =>
 eY pg (iP d6 1) w fun d8 w =>
 eY pg (gO .neq 29 (.tmp 29) (.const (adJ 0)) c6 (adJ 0)) w fun e0 w =>
 Gd (jQ e0 false) (fun K => K d2 w) w fun e2 w =>
 Gd (jQ e0 false) (fun K => eY pg (gO .neq 29 (.tmp 32) (.const (adJ 0)) e2 (adJ 0)) w K) w fun e3 w =>
 eY pg (kH e0 (.bool true) e3) w fun e4 w =>
 Gd (jQ e4 false) (fun K => K d8 w) w fun e6 w =>
 Gd (jQ e4 false) (fun K => eY pg (gO .neq 29 (.tmp 36) (.const (adJ 0)) e6 (adJ 0)) w K) w fun e7 w =>
 eY pg (kH e4 (.bool true) e7) w fun e8 w =>
 Gd (jQ e8 false) (fun K => K d7 w) w fun f0 w =>
 Gd (jQ e8 false) (fun K => eY pg (gO .eql 35 (.tmp 40) (.const (.pointer none)) f0 (.pointer none)) w K) w fun f1 w =>
 eY pg (kH e8 (.bool true) f1) w fun f2 w =>
 lO f2
  (R (.bool false) w)
  (eY pg (iC 22 2 [(0, (.int .u8 99)), (1, (.int .u8 100))]) w fun f4 w =>
  eY pg (kP 22 22 f4) w fun f5 w =>
  gS pg jG #[d7, (adJ 1), f5] w fun f6 w =>
  eY pg (iC 22 2 [(0, (.int .u8 120)), (1, (.int .u8 121))]) w fun f8 w =>
  eY pg (kP 22 22 f8) w fun f9 w =>
  gS pg jG #[d7, (adJ 0), f9] w fun i0 w =>
  gS pg kO #[d7] w fun i2 w =>
  eY pg (iC 22 2 [(0, (.int .u8 97)), (1, (.int .u8 98))]) w fun i4 w =>
  eY pg (kP 22 22 i4) w fun i5 w =>
  gS pg jG #[d7, (adJ 0), i5] w fun i6 w =>
  eY pg (iC 22 1 [(0, (.int .u8 101))]) w fun i8 w =>
  eY pg (kP 22 22 i8) w fun i9 w =>
  gS pg jG #[d7, (adJ 2), i9] w fun j0 w =>
  gS pg kO #[d7] w fun j2 w =>
  gS pg jL #[c5, (.string ⟨#[102]⟩)] w fun j5 w =>
  eY pg (iP j5 0) w fun j6 w =>
  eY pg (iP j5 1) w fun j7 w =>
  gS pg nV #[d7] w fun j9 w =>
  eY pg (gO .eql 24 (.tmp 69) (.const (.int .u64 1)) j9 (.int .u64 1)) w fun l0 w =>
  Gd (jQ l0 true) (fun K => K f6 w) w fun l2 w =>
  Gd (jQ l0 true) (fun K => eY pg (gO .eql 29 (.tmp 72) (.const (adJ 0)) l2 (adJ 0)) w K) w fun l3 w =>
  eY pg (kH l0 l3 (.bool false)) w fun l4 w =>
  Gd (jQ l4 true) (fun K => K i0 w) w fun l6 w =>
  Gd (jQ l4 true) (fun K => eY pg (gO .eql 29 (.tmp 76) (.const (adJ 13)) l6 (adJ 13)) w K) w fun l7 w =>
  eY pg (kH l4 l7 (.bool false)) w fun l8 w =>
  Gd (jQ l8 true) (fun K => K i2 w) w fun m0 w =>
  Gd (jQ l8 true) (fun K => eY pg (gO .eql 29 (.tmp 80) (.const (adJ 30)) m0 (adJ 30)) w K) w fun m1 w =>
  eY pg (kH l8 m1 (.bool false)) w fun m2 w =>
  Gd (jQ m2 true) (fun K => K j2 w) w fun m4 w =>
  Gd (jQ m2 true) (fun K => eY pg (gO .eql 29 (.tmp 84) (.const (adJ 0)) m4 (adJ 0)) w K) w fun m5 w =>
  eY pg (kH m2 m5 (.bool false)) w fun m6 w =>
  Gd (jQ m6 true) (fun K => K j6 w) w fun m8 w =>
  Gd (jQ m6 true) (fun K => eY pg (kP 22 9 m8) w K) w fun m9 w =>
  Gd (jQ m6 true) (fun K => eY pg (gO .eql 9 (.tmp 89) (.const (.string ⟨#[97, 98, 99, 100, 101]⟩)) m9 (.string ⟨#[97, 98, 99, 100, 101]⟩)) w K) w fun n0 w =>
  eY pg (kH m6 n0 (.bool false)) w fun n1 w =>
  Gd (jQ n1 true) (fun K => K j7 w) w fun n3 w =>
  Gd (jQ n1 true) (fun K => eY pg (gO .eql 29 (.tmp 93) (.const (adJ 0)) n3 (adJ 0)) w K) w fun n4 w =>
  eY pg (kH n1 n4 (.bool false)) w fun n5 w =>
  Gd (jQ n5 true) (fun K => K d7 w) w fun n7 w =>
  Gd (jQ n5 true) (fun K => gS pg lP #[n7] w K) w fun n8 w =>
  eY pg (kH n5 n8 (.bool false)) w fun n9 w =>
  Gd (jQ n9 true) (fun K => K d7 w) w fun o1 w =>
  Gd (jQ n9 true) (fun K => gS pg rK #[o1] w K) w fun o2 w =>
  Gd (jQ n9 true) (fun K => eY pg (mS .len #[45] 3 [o2]) w K) w fun o3 w =>
  Gd (jQ n9 true) (fun K => eY pg (gO .eql 3 (.tmp 103) (.const (adJ 3)) o3 (adJ 3)) w K) w fun o4 w =>
  eY pg (kH n9 o4 (.bool false)) w fun o5 w =>
  R o5 w)
theorem KT (R : K1) (hr : HR HV R Q) (h : DI R w) : iR pg G4 FH Q g w :=
 lI (kn := no) (l := []) h mE hr trivial
def MJ (w : adH) (R : K1) : Prop :=
 DI R w
theorem L4 {w : adH} {R : K1} (h : MJ w R) : gS pg Bc #[] w R := by
 refine wC (ann := G4) Tryd.f7 FH [] HV 106 TrydM.mixed Tryd.func7 ?_
 exact (KT _ _ _ R (fun _ _ h => h) h)
def oH : FA := ⟨Bv, fun i => match Nat.beq i 11 with | true => .leaf ([9, 10, 11, 13], [(0, 9), (0, 10), (1, 9), (1, 10)]) [(false, []), (false, []), (false, []), (false, []), (false, []), (false, []), (false, []), (false, []), (false, []), (true, [7, 8]), (true, [8, 9]), (true, []), (false, []), (true, [])] | false => .leaf ([], []) []⟩
def rB : List ResultVar := [.cell 4 28, .tmp 5]
noncomputable def mR : Code := iU Tryd.f8
def Cn (R : K1) (b4 I1 : adI) (w : adH) : Prop :=
 eY pg (gJ 28 I1) w fun j2 w =>
 eY pg (iB 28 b4 j2) w fun _u w =>
 Uw pg 28 b4 w fun r0 => R (.tuple #[r0, (adJ 0)]) w
theorem MP (R : K1) (hr : HR rB R Q) (h : Cn R (g 4) (g 8) w) : iR pg oH (gN 1 (gN 4 mR)) Q g w :=
 lI (kn := no) (l := []) h mE hr trivial
def Cp (kn : K6) (k0 : K2) (R : K1) (Ak kY b4 I1 e1 e2 : adI) (w : adH) : Prop :=
 eY pg (gO .lss 3 gW gW e2 e1) w fun e3 w =>
 lO e3
  (eY pg (gK 28 I1 0) w fun e6 w =>
  eY pg (gJ 24 e6) w fun e7 w =>
  gS pg pI #[e7, kY, e2] w fun f0 w =>
  eY pg (iP f0 0) w fun f1 w =>
  eY pg (iP f0 1) w fun f2 w =>
  eY pg (iP f0 2) w fun f3 w =>
  eY pg (gO .neq 29 (.tmp 44) (.const (adJ 0)) f3 (adJ 0)) w fun f5 w =>
  lO f5
   (eY pg (lK 28 []) w fun f6 w =>
   eY pg (iB 28 b4 f6) w fun _u w =>
   Uw pg 28 b4 w fun r0 => R (.tuple #[r0, f3]) w)
   (eY pg (gK 28 I1 2) (dr w) fun f8 w_ => w_ = (dr w) /\
   eY pg (gJ 26 f8) (dr w) fun f9 w_ => w_ = (dr w) /\
   (dr w) = (dr w) /\
   (dr w) = (dr w) /\
   (dr w) = (dr w) /\
   (dr w) = (dr w) /\
   eY pg (kP 3 24 f2) (dr w) fun i4 w_ => w_ = (dr w) /\
   eY pg (gO .add 24 gW gW f1 i4) (dr w) fun i5 w_ => w_ = (dr w) /\
   eY pg (lL 22 Ak (some f1) (some i5) none) (dr w) fun i6 w_ => w_ = (dr w) /\
   gS pg vR #[i6] (dr w) fun i7 V4 =>
   (gM pg (gJ 26 f8) f9 V4 /\ gM pg (gK 28 I1 2) f8 V4 /\ True) /\
   eY pg (iC 26 1 [(0, i7)]) V4 fun i8 SH =>
   (gM pg (gJ 26 f8) f9 SH /\ gM pg (gK 28 I1 2) f8 SH /\ True) /\
   eY pg (mS .append #[26, 26] 26 [f9, i8]) SH fun i9 Ow =>
   eY pg (gK 28 I1 2) Ow fun j0 w_ => w_ = Ow /\
   eY pg (iB 26 j0 i9) Ow fun _u13 CD =>
   eY pg (gO .add 3 gW gW e2 (adJ 1)) CD fun j1 w =>
   kn Ak kY b4 I1 e1 j1 w))
  (k0 b4 I1 w)
theorem M1 (kn : K6) (k0 : K2) (R : K1) (hn : N6 Q kn 0 1 4 8 31 32) (h0 : E2 Q k0 0 4 8) (hr : HR rB R Q) (h : Cp kn k0 R (g 0) (g 1) (g 4) (g 8) (g 31) (g 32) w) : iR pg oH (bI (bI (gN 1 (gU 1 (gN 4 mR))))) Q g w :=
 lI (l := [(0, fun g w => k0 (g 4) (g 8) w)]) h hn hr ⟨h0, trivial⟩
def F5 (k0 : K2) (R : K1) (Ak kY b4 I1 e1 e2 : adI) (w : adH) : Prop :=
 kF (fun (X : adI -> K0) (t : adI) (w : adH) => Cp (fun _ _ _ _ _ e2 w => X e2 w) k0 R Ak kY b4 I1 e1 t w) e2 w
theorem MX (k0 : K2) (R : K1) (h0 : E2 Q k0 0 4 8) (hr : HR rB R Q) (h : F5 k0 R (g 0) (g 1) (g 4) (g 8) (g 31) (g 32) w) : iR pg oH (bI (gN 1 (gU 1 (gN 4 mR)))) Q g w := by
 refine OV (fun g : Env => g 32) (fun X t w => Cp (fun _ _ _ _ _ e2 w => X e2 w) k0 R (g 0) (g 1) (g 4) (g 8) (g 31) t w) h (fun X g1 w1 ha hL => ?_)
 rw [<- uN 0 ha, <- uN 1 ha, <- uN 4 ha, <- uN 8 ha, <- uN 31 ha] at hL
 exact (M1 _ g1 w1 (fun _ _ _ _ _ e2 w => X e2 w) k0 R (fun _ _ h => h) h0 hr hL)
def Gz (kn : K2) (R : K1) (Ak kY b4 I1 e1 e2 : adI) (w : adH) : Prop :=
 F5 kn R Ak kY b4 I1 e1 e2 w
def GG (kn : K6) (Ak kY b4 RP I1 : adI) (w : adH) : Prop :=
 kn Ak kY b4 I1 RP (adJ 0) w
theorem MZ (kn : K6) (hn : N6 Q kn 0 1 4 8 31 32) (h : GG kn (g 0) (g 1) (g 4) (g 6) (g 8) w) : iR pg oH (gU 1 (gU 1 (gN 4 mR))) Q g w :=
 lI (kr := no) (l := []) h hn mE trivial
def Ge (kn : K2) (R : K1) (Ak kY b4 RP I1 : adI) (w : adH) : Prop :=
 GG (fun Ak kY b4 I1 e1 e2 w => Gz kn R Ak kY b4 I1 e1 e2 w) Ak kY b4 RP I1 w
def Gr (R : K1) (Ak kY b4 RP I1 : adI) (w : adH) : Prop :=
 Ge (fun b4 I1 w => Cn R b4 I1 w) R Ak kY b4 RP I1 w
theorem MW (kn : K2) (R : K1) (hn : N2 Q kn 4 8) (hr : HR rB R Q) (h : Ge kn R (g 0) (g 1) (g 4) (g 6) (g 8) w) : iR pg oH (gU 1 (gN 4 mR)) Q g w :=
 uW 1 (MZ _ g w (Gz kn R) (fun g w h => iA (Od 0 (MX _ g w kn R hn hr h))) h)
def Gv (kn : K5) (R : K1) (Ak kY : adI) (w : adH) : Prop :=
 eY pg (lQ 28) w fun b4 w =>
 eY pg (mS .len #[22] 3 [Ak]) w fun c5 w =>
 eY pg (kP 3 24 c5) w fun c6 w =>
 gS pg rQ #[c6, kY] w fun c8 w =>
 eY pg (iP c8 0) w fun c9 w =>
 eY pg (iP c8 1) w fun d0 w =>
 eY pg (gO .neq 29 (.tmp 21) (.const (adJ 0)) d0 (adJ 0)) w fun d2 w =>
 lO d2
  (eY pg (lK 28 []) w fun d3 w =>
  eY pg (iB 28 b4 d3) w fun _u w =>
  Uw pg 28 b4 w fun r0 => R (.tuple #[r0, d0]) w)
  (eY pg (mS .len #[22] 3 [Ak]) w fun d6 w =>
  eY pg (kP 3 24 d6) w fun d7 w =>
  eY pg (kP 3 25 kY) w fun d9 w =>
  eY pg (lK 28 [(0, d7), (1, d9)]) w fun e0 w =>
  eY pg (lQ 28) w fun I1 w =>
  eY pg (iB 28 I1 e0) w fun _u w =>
  kn Ak kY b4 c9 I1 w)
theorem MS (kn : K5) (R : K1) (hn : N5 Q kn 0 1 4 6 8) (hr : HR rB R Q) (h : Gv kn R (g 0) (g 1) w) : iR pg oH (gU 4 mR) Q g w :=
 lI (l := []) h hn hr trivial
def GA (R : K1) (Ak kY : adI) (w : adH) : Prop :=
 Gv (fun Ak kY b4 RP I1 w => Gr R Ak kY b4 RP I1 w) R Ak kY w
theorem M4 (R : K1) (hr : HR rB R Q) (h : GA R (g 0) (g 1) w) : iR pg oH mR Q g w :=
 uW 4 (MS _ g w (Gr R) R (fun g w h => iA (uW 1 (MW _ g w (Cn R) R (fun g w h => iA (MP _ g w R hr h)) hr h))) hr h)
def PE (a0 a1 : adI) (w : adH) (R : K1) : Prop :=
 GA R a0 a1 w
theorem Ng {a0 a1 : adI} {w : adH} {R : K1} (h : PE a0 a1 w R) : gS pg Bv #[a0, a1] w R := by
 refine wC (ann := oH) Tryd.f8 mR [a0, a1] rB 63 TrydM.mixed Tryd.func8 ?_
 exact (M4 _ _ _ R (fun _ _ h => h) h)
def Kx : FA := ⟨AJ, fun i => .leaf ([], []) []⟩
def MM : List ResultVar := [.tmp 2, .tmp 3]
noncomputable def JJ : Code := iU Tryd.f9
def H9 (R : K1) (SG : adI) (w : adH) : Prop :=
 eY pg (gO .lss 3 gW gW SG (adJ 0)) w fun b5 w =>
 Gd (jQ b5 false) (fun K => K SG w) w fun b7 w =>
 Gd (jQ b5 false) (fun K => eY pg (gO .gtr 3 gW gW b7 (adJ 16777216)) w K) w fun b8 w =>
 eY pg (kH b5 (.bool true) b8) w fun b9 w =>
 lO b9
  (R (.tuple #[(.pointer none), (adJ 1)]) w)
  (eY pg (LL 61 none) w fun c1 w =>
  eY pg (LL 61 none) w fun c2 w =>
  eY pg (lK 64 [(0, SG), (1, c1), (2, c2), (4, (adJ (-1)))]) w fun c3 w =>
  eY pg (DY 64 c3) w fun c4 w =>
  R (.tuple #[c4, (adJ 0)]) w)
theorem NJ (R : K1) (hr : HR MM R Q) (h : H9 R (g 0) w) : iR pg Kx JJ Q g w :=
 lI (kn := no) (l := []) h mE hr trivial
def Q9 (a0 : adI) (w : adH) (R : K1) : Prop :=
 H9 R a0 w
theorem OH {a0 : adI} {w : adH} {R : K1} (h : Q9 a0 w R) : gS pg AJ #[a0] w R := by
 refine wC (ann := Kx) Tryd.f9 JJ [a0] MM 15 TrydM.mixed Tryd.func9 ?_
 exact (NJ _ _ _ R (fun _ _ h => h) h)
def kU : FA := ⟨uR, fun i => match Nat.beq i 28 with | true => .leaf ([12], []) [(false, []), (false, []), (false, []), (false, []), (false, []), (false, []), (false, []), (false, []), (false, []), (false, []), (false, []), (false, []), (true, [])] | false => .leaf ([], []) []⟩
def rS : List ResultVar := [.tmp 6, .tmp 7]
noncomputable def kD : Code := iU Tryd.f10
def wA (R : K1) (nJ mW : adI) (w : adH) : Prop :=
 gS pg jD #[nJ] w fun v4 w =>
 eY pg (gO .neq 29 (.tmp 155) (.const (adJ 0)) v4 (adJ 0)) w fun v6 w =>
 lO v6
  (R (.tuple #[(.pointer none), v4]) w)
  (R (.tuple #[mW, (adJ 0)]) w)
theorem LS (R : K1) (hr : HR rS R Q) (h : wA R (g 0) (g 10) w) : iR pg kU (gN 1 (gN 12 kD)) Q g w :=
 lI (kn := no) (l := []) h mE hr trivial
def Ba (kn : K7) (nJ FK mW GI q4 q5 q6 : adI) (w : adH) : Prop :=
 eY pg (gO .add 3 gW gW q6 (adJ 1)) w fun v2 w =>
 kn nJ FK mW GI q4 q5 v2 w
theorem Mc (kn : K7) (hn : N7 Q kn 0 8 10 16 124 125 126) (h : Ba kn (g 0) (g 8) (g 10) (g 16) (g 124) (g 125) (g 126) w) : iR pg kU (gN 3 (bI (bI (gN 5 (cT (gN 1 (gU 1 (gN 12 kD)))))))) Q g w :=
 lI (kr := no) (l := []) h hn mE trivial
def EN (kn : K7) (k1 : K2) (nJ FK mW GI q4 q5 q6 : adI) (w : adH) : Prop :=
 eY pg (gO .lss 3 gW gW q6 q5) w fun q7 w =>
 lO q7
  (eY pg (iF 72 q4 q6) w fun q8 w =>
  eY pg (gJ 77 q8) w fun q9 w =>
  eY pg (lQ 77) w fun VH w =>
  eY pg (iB 77 VH q9) w fun _u w =>
  eY pg (gK 77 VH 0) w fun s0 w =>
  eY pg (gJ 5 s0) w fun s1 w =>
  eY pg (gO .eql 5 (.tmp 131) (.const (.int .u8 2)) s1 (.int .u8 2)) w fun s2 w =>
  Gd (jQ s2 true) (fun K => eY pg (gK 77 VH 1) w K) w fun s4 w =>
  Gd (jQ s2 true) (fun K => eY pg (gJ 24 s4) w K) w fun s5 w =>
  Gd (jQ s2 true) (fun K => K FK w) w fun s6 w =>
  Gd (jQ s2 true) (fun K => eY pg (kP 3 24 s6) w K) w fun s7 w =>
  Gd (jQ s2 true) (fun K => eY pg (gO .lss 24 gW gW s5 s7) w K) w fun s8 w =>
  eY pg (kH s2 s8 (.bool false)) w fun s9 w =>
  lO s9
   ((dr w) = (dr w) /\
   eY pg (iY mW) (dr w) fun u1 w_ => w_ = (dr w) /\
   eY pg (gK 67 u1 4) (dr w) fun u2 w_ => w_ = (dr w) /\
   eY pg (gJ 45 u2) (dr w) fun u3 w_ => w_ = (dr w) /\
   eY pg (gK 77 VH 1) (dr w) fun u4 w_ => w_ = (dr w) /\
   eY pg (gJ 24 u4) (dr w) fun u5 w_ => w_ = (dr w) /\
   (dr w) = (dr w) /\
   eY pg (gK 77 VH 1) (dr w) fun u7 w_ => w_ = (dr w) /\
   eY pg (gJ 24 u7) (dr w) fun u8 w_ => w_ = (dr w) /\
   eY pg (iF 45 GI u8) (dr w) fun u9 w_ => w_ = (dr w) /\
   eY pg (gJ 4 u9) (dr w) fun v0 w_ => w_ = (dr w) /\
   eY pg (iF 45 u3 u5) (dr w) fun v1 w_ => w_ = (dr w) /\
   eY pg (iB 4 v1 v0) (dr w) fun _u12 XW =>
   kn nJ FK mW GI q4 q5 q6 XW)
   (kn nJ FK mW GI q4 q5 q6 w))
  (k1 nJ mW w)
theorem LB (kn : K7) (k1 : K2) (hn : N7 Q kn 0 8 10 16 124 125 126) (h1 : E2 Q k1 1 0 10) (h : EN kn k1 (g 0) (g 8) (g 10) (g 16) (g 124) (g 125) (g 126) w) : iR pg kU (gU 3 (bI (bI (gN 5 (cT (gN 1 (gU 1 (gN 12 kD)))))))) Q g w :=
 lI (kr := no) (l := [(1, fun g w => k1 (g 0) (g 10) w)]) h hn mE ⟨h1, trivial⟩
def Bb (kn : K7) (k1 : K2) (nJ FK mW GI q4 q5 q6 : adI) (w : adH) : Prop :=
 EN (fun nJ FK mW GI q4 q5 q6 w => Ba kn nJ FK mW GI q4 q5 q6 w) k1 nJ FK mW GI q4 q5 q6 w
def EA (k1 : K2) (nJ FK mW GI q4 q5 q6 : adI) (w : adH) : Prop :=
 kF (fun (X : adI -> K0) (t : adI) (w : adH) => Bb (fun _ _ _ _ _ _ q6 w => X q6 w) k1 nJ FK mW GI q4 q5 t w) q6 w
theorem L2 (kn : K7) (k1 : K2) (hn : N7 Q kn 0 8 10 16 124 125 126) (h1 : E2 Q k1 1 0 10) (h : Bb kn k1 (g 0) (g 8) (g 10) (g 16) (g 124) (g 125) (g 126) w) : iR pg kU (bI (bI (gN 5 (cT (gN 1 (gU 1 (gN 12 kD))))))) Q g w :=
 uW 3 (LB _ g w (Ba kn) k1 (fun g w h => iA (Mc _ g w kn hn h)) h1 h)
theorem LU (k1 : K2) (h1 : E2 Q k1 1 0 10) (h : EA k1 (g 0) (g 8) (g 10) (g 16) (g 124) (g 125) (g 126) w) : iR pg kU (bI (gN 5 (cT (gN 1 (gU 1 (gN 12 kD)))))) Q g w := by
 refine OV (fun g : Env => g 126) (fun X t w => Bb (fun _ _ _ _ _ _ q6 w => X q6 w) k1 (g 0) (g 8) (g 10) (g 16) (g 124) (g 125) t w) h (fun X g1 w1 ha hL => ?_)
 rw [<- uN 0 ha, <- uN 8 ha, <- uN 10 ha, <- uN 16 ha, <- uN 124 ha, <- uN 125 ha] at hL
 exact (L2 _ g1 w1 (fun _ _ _ _ _ _ q6 w => X q6 w) k1 (fun _ _ h => h) h1 hL)
def Ev (kn : K2) (nJ FK mW GI q4 q5 q6 : adI) (w : adH) : Prop :=
 EA kn nJ FK mW GI q4 q5 q6 w
def Et (kn : K7) (R : K1) (nJ FK mW FL : adI) (w : adH) : Prop :=
 gS pg pQ #[mW] w fun p0 w =>
 eY pg (iP p0 0) w fun p1 w =>
 eY pg (iP p0 1) w fun p2 w =>
 eY pg (gO .neq 29 (.tmp 113) (.const (adJ 0)) p2 (adJ 0)) w fun p4 w =>
 lO p4
  (R (.tuple #[(.pointer none), p2]) w)
  (eY pg (vT 45 FK FK) w fun p8 w =>
  eY pg (iY mW) w fun p9 w =>
  eY pg (gK 67 p9 4) w fun q0 w =>
  eY pg (iB 45 q0 p8) w fun _u w =>
  gS pg lV #[mW, p1] w fun q3 w =>
  eY pg (mS .len #[72] 3 [FL]) w fun q5 w =>
  kn nJ FK mW q3 FL q5 (adJ 0) w)
theorem LO (kn : K7) (R : K1) (hn : N7 Q kn 0 8 10 16 124 125 126) (hr : HR rS R Q) (h : Et kn R (g 0) (g 8) (g 10) (g 13) w) : iR pg kU (gU 5 (cT (gN 1 (gU 1 (gN 12 kD))))) Q g w :=
 lI (l := []) h hn hr trivial
def JH (kn : K2) (R : K1) (nJ FK mW FL : adI) (w : adH) : Prop :=
 Et (fun nJ FK mW GI q4 q5 q6 w => Ev kn nJ FK mW GI q4 q5 q6 w) R nJ FK mW FL w
def EB (kn : K2) (nJ mW : adI) (w : adH) : Prop :=
 kn nJ mW w
theorem L3 (kn : K2) (hn : N2 Q kn 0 10) (h : EB kn (g 0) (g 10) w) : iR pg kU (cE (gN 1 (gU 1 (gN 12 kD)))) Q g w :=
 lI (kr := no) (l := []) h hn mE trivial
def CN (kn : K2) (R : K1) (nJ FK mW FL o7 : adI) (w : adH) : Prop :=
 lO o7 (JH kn R nJ FK mW FL w) (EB kn nJ mW w)
def Cz (kn : K5) (nJ FK mW FL : adI) (w : adH) : Prop :=
 eY pg (iY mW) w fun o4 w =>
 eY pg (gK 67 o4 6) w fun o5 w =>
 eY pg (gJ 4 o5) w fun o6 w =>
 eY pg (J2 .not o6) w fun o7 w =>
 kn nJ FK mW FL o7 w
theorem KA (kn : K5) (hn : N5 Q kn 0 8 10 13 107) (h : Cz kn (g 0) (g 8) (g 10) (g 13) w) : iR pg kU (gU 1 (gU 1 (gN 12 kD))) Q g w :=
 lI (kr := no) (l := []) h hn mE trivial
def Df (kn : K2) (R : K1) (nJ FK mW FL : adI) (w : adH) : Prop :=
 Cz (fun nJ FK mW FL o7 w => CN kn R nJ FK mW FL o7 w) nJ FK mW FL w
def uI (R : K1) (nJ FK mW FL : adI) (w : adH) : Prop :=
 Df (fun nJ mW w => wA R nJ mW w) R nJ FK mW FL w
theorem KF (kn : K2) (R : K1) (hn : N2 Q kn 0 10) (hr : HR rS R Q) (h : Df kn R (g 0) (g 8) (g 10) (g 13) w) : iR pg kU (gU 1 (gN 12 kD)) Q g w :=
 uW 1 (KA _ g w (CN kn R) (fun g w h => iA (Zy (.tmp 107) (fun h => (uW 5 (LO _ g w (Ev kn) R (fun g w h => iA (Od 1 (LU _ g w kn hn h))) hr h))) (fun h => (L3 _ g w kn hn h)) h)) h)
def CR (kn : K4) (R : K1) (nJ tP Zd : adI) (w : adH) : Prop :=
 eY pg (DY 28 Zd) w fun XU w =>
 eY pg (gO .eql 32 (.tmp 20) (.const (.pointer none)) nJ (.pointer none)) w fun d1 w =>
 Gd (jQ d1 false) (fun K => K tP w) w fun d3 w =>
 Gd (jQ d1 false) (fun K => eY pg (mS .len #[9] 3 [d3]) w K) w fun d4 w =>
 Gd (jQ d1 false) (fun K => eY pg (gO .lss 3 gW gW d4 (adJ 1)) w K) w fun d5 w =>
 eY pg (kH d1 (.bool true) d5) w fun d6 w =>
 Gd (jQ d6 false) (fun K => K tP w) w fun d8 w =>
 Gd (jQ d6 false) (fun K => eY pg (mS .len #[9] 3 [d8]) w K) w fun d9 w =>
 Gd (jQ d6 false) (fun K => eY pg (gO .gtr 3 gW gW d9 (adJ 27)) w K) w fun e0 w =>
 eY pg (kH d6 (.bool true) e0) w fun e1 w =>
 lO e1
  (R (.tuple #[(.pointer none), (adJ 1)]) w)
  (eY pg (gK 28 XU 0) w fun e3 w =>
  eY pg (gJ 24 e3) w fun e4 w =>
  eY pg (gK 28 XU 1) w fun e5 w =>
  eY pg (gJ 25 e5) w fun e6 w =>
  eY pg (kP 25 3 e6) w fun e7 w =>
  gS pg rQ #[e4, e7] w fun e8 w =>
  eY pg (iP e8 0) w fun e9 w =>
  eY pg (iP e8 1) w fun f0 w =>
  eY pg (gO .neq 29 (.tmp 42) (.const (adJ 0)) f0 (adJ 0)) w fun f3 w =>
  lO f3
   (R (.tuple #[(.pointer none), f0]) w)
   (eY pg (gK 28 XU 2) w fun f7 w =>
   eY pg (gJ 26 f7) w fun f8 w =>
   eY pg (mS .len #[26] 3 [f8]) w fun f9 w =>
   eY pg (gO .neq 3 (.tmp 46) (.tmp 49) e9 f9) w fun i0 w =>
   lO i0
    (R (.tuple #[(.pointer none), (adJ 11)]) w)
    (eY pg (gK 28 XU 2) w fun i1 w =>
    eY pg (gJ 26 i1) w fun i2 w =>
    gS pg pX #[i2] w fun i3 w =>
    eY pg (gK 28 XU 2) w fun i4 w =>
    eY pg (iB 26 i4 i3) w fun _u w =>
    eY pg (gJ 28 XU) w fun i7 w =>
    eY pg (lK 67 [(0, nJ), (1, tP), (2, i7)]) w fun i8 w =>
    eY pg (DY 67 i8) w fun i9 w =>
    gS pg mN #[i9, tP] w fun j3 w =>
    eY pg (iP j3 0) w fun j4 w =>
    eY pg (iP j3 1) w fun j5 w =>
    eY pg (iP j3 2) w fun j6 w =>
    eY pg (gO .neq 29 (.tmp 67) (.const (adJ 0)) j6 (adJ 0)) w fun j8 w =>
    lO j8
     (R (.tuple #[(.pointer none), j6]) w)
     (gS pg lV #[i9, j4] w fun l3 w =>
     eY pg (iY i9) w fun l4 w =>
     eY pg (gK 67 l4 4) w fun l5 w =>
     eY pg (iB 45 l5 l3) w fun _u w =>
     Gd (jQ j5 true) (fun K => K j4 w) w fun l9 w =>
     Gd (jQ j5 true) (fun K => eY pg (mS .len #[22] 3 [l9]) w K) w fun m0 w =>
     Gd (jQ j5 true) (fun K => eY pg (kP 3 24 m0) w K) w fun m1 w =>
     Gd (jQ j5 true) (fun K => eY pg (gK 28 XU 0) w K) w fun m2 w =>
     Gd (jQ j5 true) (fun K => eY pg (gJ 24 m2) w K) w fun m3 w =>
     Gd (jQ j5 true) (fun K => eY pg (gO .eql 24 (.tmp 81) (.tmp 83) m1 m3) w K) w fun m4 w =>
     eY pg (kH j5 m4 (.bool false)) w fun m5 w =>
     Gd (jQ m5 true) (fun K => K i9 w) w fun m7 w =>
     Gd (jQ m5 true) (fun K => eY pg (iY m7) w K) w fun m8 w =>
     Gd (jQ m5 true) (fun K => eY pg (gK 67 m8 4) w K) w fun m9 w =>
     Gd (jQ m5 true) (fun K => eY pg (gJ 45 m9) w K) w fun n0 w =>
     Gd (jQ m5 true) (fun K => gS pg yE #[n0] w K) w fun n1 w =>
     eY pg (kH m5 n1 (.bool false)) w fun n2 w =>
     eY pg (iY i9) w fun n3 w =>
     eY pg (gK 67 n3 6) w fun n4 w =>
     eY pg (iB 4 n4 n2) w fun _u w =>
     gS pg mX #[i9] w fun n7 w =>
     eY pg (iP n7 0) w fun n8 w =>
     eY pg (iP n7 1) w fun n9 w =>
     eY pg (gO .neq 29 (.tmp 100) (.const (adJ 0)) n9 (adJ 0)) w fun o1 w =>
     lO o1
      (R (.tuple #[(.pointer none), n9]) w)
      (kn nJ e9 i9 n8 w)))))
theorem LA (kn : K4) (R : K1) (hn : N4 Q kn 0 8 10 13) (hr : HR rS R Q) (h : CR kn R (g 0) (g 1) (g 2) w) : iR pg kU (gU 12 kD) Q g w :=
 lI (l := []) h hn hr trivial
def CZ (R : K1) (nJ tP Zd : adI) (w : adH) : Prop :=
 CR (fun nJ FK mW FL w => uI R nJ FK mW FL w) R nJ tP Zd w
theorem KI (R : K1) (hr : HR rS R Q) (h : CZ R (g 0) (g 1) (g 2) w) : iR pg kU kD Q g w :=
 uW 12 (LA _ g w (uI R) R (fun g w h => iA (uW 1 (KF _ g w (wA R) R (fun g w h => iA (LS _ g w R hr h)) hr h))) hr h)
def NQ (a0 a1 a2 : adI) (w : adH) (R : K1) : Prop :=
 CZ R a0 a1 a2 w
theorem M0 {a0 a1 a2 : adI} {w : adH} {R : K1} (h : NQ a0 a1 a2 w R) : gS pg uR #[a0, a1, a2] w R := by
 refine wC (ann := kU) Tryd.f10 kD [a0, a1, a2] rS 159 TrydM.mixed Tryd.func10 ?_
 exact (KI _ _ _ R (fun _ _ h => h) h)
def pV : FA := ⟨jG, fun i => match Nat.beq i 3 with | true => .leaf ([], []) [(false, []), (false, []), (false, []), (false, []), (false, []), (false, []), (false, []), (false, []), (false, []), (false, []), (false, []), (false, [])] | false => match Nat.beq i 5 with | true => .leaf ([], []) [(false, []), (false, []), (false, []), (false, []), (false, []), (false, []), (false, []), (false, []), (false, []), (false, []), (false, []), (false, []), (false, []), (false, [])] | false => match Nat.beq i 9 with | true => .split 12 17 (.perm [0, 1, 2, 3, 4, 5, 6, 7, 8, 9, 10, 11, 12, 13, 14, 15, 16, 17, 18, 19, 20] [(12, 17)] ([12, 17, 18], [(14, 17), (15, 17), (15, 18), (16, 17), (16, 18)]) [(false, []), (false, []), (false, []), (false, []), (false, []), (false, []), (false, []), (false, []), (false, []), (false, []), (false, []), (false, []), (true, []), (false, []), (false, []), (false, []), (false, []), (true, [0, 1, 2]), (true, [1, 2]), (false, []), (false, [])]) (.perm [0, 1, 2, 3, 4, 5, 6, 7, 8, 9, 10, 11, 17, 12, 13, 14, 15, 16, 18, 19, 20] [(17, 12)] ([12, 13, 18], [(0, 12), (1, 12), (2, 12), (3, 12), (4, 12), (5, 12), (6, 12), (7, 12), (8, 12), (9, 12), (10, 12), (11, 12), (16, 18), (17, 18)]) [(false, []), (false, []), (false, []), (false, []), (false, []), (false, []), (false, []), (false, []), (false, []), (false, []), (false, []), (false, []), (true, [0, 1, 2, 3, 4, 5, 6, 7, 8, 9, 10, 11]), (true, []), (false, []), (false, []), (false, []), (false, []), (true, [0, 1]), (false, []), (false, [])]) | false => match Nat.beq i 10 with | true => .leaf ([13, 14, 17], [(0, 13), (0, 14)]) [(false, []), (false, []), (false, []), (false, []), (false, []), (false, []), (false, []), (false, []), (false, []), (false, []), (false, []), (false, []), (false, []), (true, [12]), (true, [13]), (false, []), (false, []), (true, [])] | false => match Nat.beq i 11 with | true => .leaf ([11], []) [(false, []), (false, []), (false, []), (false, []), (false, []), (false, []), (false, []), (false, []), (false, []), (false, []), (false, []), (true, [])] | false => .leaf ([], []) []⟩
def rL : List ResultVar := [.tmp 6]
noncomputable def mV : Code := iU Tryd.f11
def mO (R : K1) (KY Hy QK NW : adI) (w : adH) : Prop :=
 eY pg (gJ 35 KY) (dr w) fun j5 w_ => w_ = (dr w) /\
 eY pg (Iu (.func 33) [] [KY, NW, QK]) (dr w) fun j6 w_ => w_ = (dr w) /\
 eY pg (gJ 35 KY) (dr w) fun j7 w_ => w_ = (dr w) /\
 eY pg (iY j7) (dr w) fun j8 w_ => w_ = (dr w) /\
 eY pg (gK 67 j8 0) (dr w) fun j9 w_ => w_ = (dr w) /\
 eY pg (gJ 32 j9) (dr w) fun l0 w_ => w_ = (dr w) /\
 eY pg (Iu (.func 19) [l0] []) (dr w) fun l1 w_ => w_ = (dr w) /\
 eY pg (Iu (.func 34) [] [KY, Hy]) (dr w) fun l2 w_ => w_ = (dr w) /\
 eY pg (gJ 35 KY) (dr w) fun l3 w_ => w_ = (dr w) /\
 eY pg (iY l3) (dr w) fun l4 w_ => w_ = (dr w) /\
 eY pg (gK 67 l4 0) (dr w) fun l5 w_ => w_ = (dr w) /\
 eY pg (gJ 32 l5) (dr w) fun l6 w_ => w_ = (dr w) /\
 eY pg (Iu (.func 19) [l6] []) (dr w) fun l7 w_ => w_ = (dr w) /\
 eY pg (iC 98 4 [(0, j6), (1, l1), (2, l2), (3, l7)]) (dr w) fun l8 Vu =>
 (gM pg (gJ 35 KY) j5 Vu /\ True) /\
 gS pg vU #[l8] Vu fun l9 LI =>
 (gM pg (gJ 35 KY) j5 LI /\ True) /\
 eY pg (iY j5) LI fun m0 w_ => w_ = LI /\
 eY pg (gK 67 m0 7) LI fun m1 w_ => w_ = LI /\
 eY pg (iB 29 m1 l9) LI fun _u17 oP =>
 eY pg (gJ 35 KY) (dr oP) fun m2 w_ => w_ = (dr oP) /\
 eY pg (iY m2) (dr oP) fun m3 w_ => w_ = (dr oP) /\
 eY pg (gK 67 m3 4) (dr oP) fun m4 w_ => w_ = (dr oP) /\
 eY pg (gJ 45 m4) (dr oP) fun m5 w_ => w_ = (dr oP) /\
 eY pg (gJ 3 Hy) (dr oP) fun m6 w_ => w_ = (dr oP) /\
 eY pg (gJ 35 KY) (dr oP) fun m7 w_ => w_ = (dr oP) /\
 eY pg (iY m7) (dr oP) fun m8 w_ => w_ = (dr oP) /\
 eY pg (gK 67 m8 7) (dr oP) fun m9 w_ => w_ = (dr oP) /\
 eY pg (gJ 29 m9) (dr oP) fun n0 w_ => w_ = (dr oP) /\
 eY pg (gO .eql 29 (.tmp 90) (.const (adJ 0)) n0 (adJ 0)) (dr oP) fun n1 w_ => w_ = (dr oP) /\
 eY pg (iF 45 m5 m6) (dr oP) fun n2 w_ => w_ = (dr oP) /\
 eY pg (iB 4 n2 n1) (dr oP) fun _u11 Ow =>
 eY pg (gJ 35 KY) Ow fun n3 w =>
 eY pg (iY n3) w fun n4 w =>
 eY pg (gK 67 n4 7) w fun n5 w =>
 eY pg (gJ 29 n5) w fun n6 w =>
 R n6 w
theorem HF (R : K1) (hr : HR rL R Q) (h : mO R (g 3) (g 4) (g 5) (g 7) w) : iR pg pV (gN 3 mV) Q g w :=
 lI (kn := no) (l := []) h mE hr trivial
def xB (kn : K4) (R : K1) (lE Yi V8 : adI) (w : adH) : Prop :=
 eY pg (DY 35 lE) w fun KY w =>
 eY pg (DY 3 Yi) w fun Hy w =>
 eY pg (DY 22 V8) w fun QK w =>
 eY pg (gJ 35 KY) w fun c1 w =>
 gS pg kZ #[c1] w fun c2 w =>
 eY pg (gO .neq 29 (.tmp 12) (.const (adJ 0)) c2 (adJ 0)) w fun c3 w =>
 lO c3
  (eY pg (gJ 35 KY) w fun c4 w =>
  gS pg kZ #[c4] w fun c5 w =>
  R c5 w)
  (eY pg (gJ 3 Hy) (dr w) fun c7 w_ => w_ = (dr w) /\
  eY pg (gO .lss 3 gW gW c7 (adJ 0)) (dr w) fun c8 w_ => w_ = (dr w) /\
  (dr w) = (dr w) /\
  Gd (jQ c8 false) (fun K => eY pg (gJ 3 Hy) (dr w) K) (dr w) fun d0 w_ => w_ = (dr w) /\
  Gd (jQ c8 false) (fun K => eY pg (gJ 35 KY) (dr w) K) (dr w) fun d1 w_ => w_ = (dr w) /\
  Gd (jQ c8 false) (fun K => eY pg (iY d1) (dr w) K) (dr w) fun d2 w_ => w_ = (dr w) /\
  Gd (jQ c8 false) (fun K => eY pg (gK 67 d2 4) (dr w) K) (dr w) fun d3 w_ => w_ = (dr w) /\
  Gd (jQ c8 false) (fun K => eY pg (gJ 45 d3) (dr w) K) (dr w) fun d4 w_ => w_ = (dr w) /\
  Gd (jQ c8 false) (fun K => eY pg (mS .len #[45] 3 [d4]) (dr w) K) (dr w) fun d5 w_ => w_ = (dr w) /\
  Gd (jQ c8 false) (fun K => eY pg (gO .geq 3 gW gW d0 d5) (dr w) K) (dr w) fun d6 w_ => w_ = (dr w) /\
  eY pg (kH c8 (.bool true) d6) (dr w) fun d7 w_ => w_ = (dr w) /\
  (dr w) = (dr w) /\
  lO d7
   (R (adJ 17) (dr w))
   (eY pg (gJ 35 KY) (dr (dr w)) fun d9 w_ => w_ = (dr (dr w)) /\
   eY pg (iY d9) (dr (dr w)) fun e0 w_ => w_ = (dr (dr w)) /\
   eY pg (gK 67 e0 6) (dr (dr w)) fun e1 w_ => w_ = (dr (dr w)) /\
   eY pg (gJ 4 e1) (dr (dr w)) fun e2 w_ => w_ = (dr (dr w)) /\
   (dr (dr w)) = (dr (dr w)) /\
   Gd (jQ e2 false) (fun K => eY pg (gJ 35 KY) (dr (dr w)) K) (dr (dr w)) fun e4 w_ => w_ = (dr (dr w)) /\
   Gd (jQ e2 false) (fun K => eY pg (iY e4) (dr (dr w)) K) (dr (dr w)) fun e5 w_ => w_ = (dr (dr w)) /\
   Gd (jQ e2 false) (fun K => eY pg (gK 67 e5 4) (dr (dr w)) K) (dr (dr w)) fun e6 w_ => w_ = (dr (dr w)) /\
   Gd (jQ e2 false) (fun K => eY pg (gJ 45 e6) (dr (dr w)) K) (dr (dr w)) fun e7 w_ => w_ = (dr (dr w)) /\
   Gd (jQ e2 false) (fun K => eY pg (gJ 3 Hy) (dr (dr w)) K) (dr (dr w)) fun e8 w_ => w_ = (dr (dr w)) /\
   Gd (jQ e2 false) (fun K => eY pg (iF 45 e7 e8) (dr (dr w)) K) (dr (dr w)) fun e9 w_ => w_ = (dr (dr w)) /\
   Gd (jQ e2 false) (fun K => eY pg (gJ 4 e9) (dr (dr w)) K) (dr (dr w)) fun f0 w_ => w_ = (dr (dr w)) /\
   eY pg (kH e2 (.bool true) f0) (dr (dr w)) fun f1 w_ => w_ = (dr (dr w)) /\
   (dr (dr w)) = (dr (dr w)) /\
   lO f1
    (R (adJ 0) (dr (dr w)))
    (eY pg (gJ 35 KY) (dr (dr w)) fun f3 w =>
    eY pg (gJ 3 Hy) w fun f4 w =>
    eY pg (gJ 22 QK) w fun f5 w =>
    gS pg nU #[f3, f4, f5] w fun f6 w =>
    eY pg (J2 .not f6) w fun f7 w =>
    lO f7
     (R (adJ 13) w)
     (Ord (WW jG 9 (JM 9 mV) 12 17 w)
      (eY pg (gJ 35 KY) (dr w) fun f9 w_ => w_ = (dr w) /\
      eY pg (iY f9) (dr w) fun i0 w_ => w_ = (dr w) /\
      eY pg (gK 67 i0 2) (dr w) fun i1 w_ => w_ = (dr w) /\
      eY pg (gK 28 i1 0) (dr w) fun i2 w_ => w_ = (dr w) /\
      eY pg (gJ 24 i2) (dr w) fun i3 w_ => w_ = (dr w) /\
      eY pg (gJ 35 KY) (dr w) fun i4 w_ => w_ = (dr w) /\
      eY pg (iY i4) (dr w) fun i5 w_ => w_ = (dr w) /\
      eY pg (gK 67 i5 2) (dr w) fun i6 w_ => w_ = (dr w) /\
      eY pg (gK 28 i6 1) (dr w) fun i7 w_ => w_ = (dr w) /\
      eY pg (gJ 25 i7) (dr w) fun i8 w_ => w_ = (dr w) /\
      eY pg (kP 25 3 i8) (dr w) fun i9 w_ => w_ = (dr w) /\
      eY pg (gJ 3 Hy) (dr w) fun j0 w_ => w_ = (dr w) /\
      gS pg pI #[i3, i9, j0] (dr w) fun j1 uJ =>
      uJ = uJ /\
      eY pg (iP j1 0) uJ fun j2 w_ => w_ = uJ /\
      eY pg (iP j1 1) uJ fun j3 w_ => w_ = uJ /\
      eY pg (iP j1 2) uJ fun j4 w_ => w_ = uJ /\
      eY pg (lQ 24) uJ fun NW S6 =>
      (gM pg (iP j1 2) j4 S6 /\ gM pg (iP j1 1) j3 S6 /\ gM pg (iP j1 0) j2 S6 /\ True) /\
      eY pg (iB 24 NW j2) S6 fun _u18 Dw =>
      (gM pg (iP j1 2) j4 Dw /\ gM pg (iP j1 1) j3 Dw /\ True) /\
      Dw = Dw /\
      Dw = Dw /\
      kn KY Hy QK NW Dw)
      (eY pg (gJ 35 KY) (dr w) fun f9 w_ => w_ = (dr w) /\
      eY pg (iY f9) (dr w) fun i0 w_ => w_ = (dr w) /\
      eY pg (gK 67 i0 2) (dr w) fun i1 w_ => w_ = (dr w) /\
      eY pg (gK 28 i1 0) (dr w) fun i2 w_ => w_ = (dr w) /\
      eY pg (gJ 24 i2) (dr w) fun i3 w_ => w_ = (dr w) /\
      eY pg (gJ 35 KY) (dr w) fun i4 w_ => w_ = (dr w) /\
      eY pg (iY i4) (dr w) fun i5 w_ => w_ = (dr w) /\
      eY pg (gK 67 i5 2) (dr w) fun i6 w_ => w_ = (dr w) /\
      eY pg (gK 28 i6 1) (dr w) fun i7 w_ => w_ = (dr w) /\
      eY pg (gJ 25 i7) (dr w) fun i8 w_ => w_ = (dr w) /\
      eY pg (kP 25 3 i8) (dr w) fun i9 w_ => w_ = (dr w) /\
      eY pg (gJ 3 Hy) (dr w) fun j0 w_ => w_ = (dr w) /\
      eY pg (lQ 24) (dr w) fun NW uJ =>
      (gM pg (gJ 3 Hy) j0 uJ /\ gM pg (kP 25 3 i8) i9 uJ /\ gM pg (gJ 25 i7) i8 uJ /\ gM pg (gK 28 i6 1) i7 uJ /\ gM pg (gK 67 i5 2) i6 uJ /\ gM pg (iY i4) i5 uJ /\ gM pg (gJ 35 KY) i4 uJ /\ gM pg (gJ 24 i2) i3 uJ /\ gM pg (gK 28 i1 0) i2 uJ /\ gM pg (gK 67 i0 2) i1 uJ /\ gM pg (iY f9) i0 uJ /\ gM pg (gJ 35 KY) f9 uJ /\ True) /\
      gS pg pI #[i3, i9, j0] uJ fun j1 Kq =>
      Kq = Kq /\
      eY pg (iP j1 0) Kq fun j2 w_ => w_ = Kq /\
      eY pg (iP j1 1) Kq fun j3 w_ => w_ = Kq /\
      eY pg (iP j1 2) Kq fun j4 w_ => w_ = Kq /\
      eY pg (iB 24 NW j2) Kq fun _u18 Dw =>
      (gM pg (iP j1 2) j4 Dw /\ gM pg (iP j1 1) j3 Dw /\ True) /\
      Dw = Dw /\
      Dw = Dw /\
      kn KY Hy QK NW Dw)))))
theorem HI (kn : K4) (R : K1) (hn : N4 Q kn 3 4 5 7) (hr : HR rL R Q) (h : xB kn R (g 0) (g 1) (g 2) w) : iR pg pV (gU 3 mV) Q g w :=
 lI (l := []) h hn hr trivial
def xV (R : K1) (lE Yi V8 : adI) (w : adH) : Prop :=
 xB (fun KY Hy QK NW w => mO R KY Hy QK NW w) R lE Yi V8 w
theorem Hx (R : K1) (hr : HR rL R Q) (h : xV R (g 0) (g 1) (g 2) w) : iR pg pV mV Q g w :=
 uW 3 (HI _ g w (mO R) R (fun g w h => iA (HF _ g w R hr h)) hr h)
def GW (a0 a1 a2 : adI) (w : adH) (R : K1) : Prop :=
 xV R a0 a1 a2 w
theorem HZ {a0 a1 a2 : adI} {w : adH} {R : K1} (h : GW a0 a1 a2 w R) : gS pg jG #[a0, a1, a2] w R := by
 refine wC (ann := pV) Tryd.f11 mV [a0, a1, a2] rL 97 TrydM.mixed Tryd.func11 ?_
 exact (Hx _ _ _ R (fun _ _ h => h) h)
def zD : FA := ⟨kO, fun i => match Nat.beq i 7 with | true => .leaf ([9], []) [(false, []), (false, []), (false, []), (false, []), (false, []), (false, []), (false, []), (false, []), (false, []), (true, []), (false, []), (false, []), (false, []), (false, []), (false, [])] | false => match Nat.beq i 11 with | true => .leaf ([3, 6], [(0, 3)]) [(false, []), (false, []), (false, []), (true, [2]), (false, []), (false, []), (true, [])] | false => match Nat.beq i 14 with | true => .leaf ([7, 8, 11], [(0, 7), (0, 8)]) [(false, []), (false, []), (false, []), (false, []), (false, []), (false, []), (false, []), (true, [6]), (true, [7]), (false, []), (false, []), (true, [])] | false => match Nat.beq i 15 with | true => .leaf ([8], []) [(false, []), (false, []), (false, []), (false, []), (false, []), (false, []), (false, []), (false, []), (true, [])] | false => .leaf ([], []) []⟩
def AF : List ResultVar := [.tmp 2]
noncomputable def yF : Code := iU Tryd.f12
def rX (R : K1) (lE : adI) (w : adH) : Prop :=
 eY pg (DY 35 lE) w fun Qc w =>
 eY pg (gJ 35 Qc) w fun b6 w =>
 gS pg kZ #[b6] w fun b7 w =>
 eY pg (gO .neq 29 (.tmp 7) (.const (adJ 0)) b7 (adJ 0)) w fun b8 w =>
 lO b8
  (eY pg (gJ 35 Qc) w fun b9 w =>
  gS pg kZ #[b9] w fun c0 w =>
  R c0 w)
  (eY pg (gJ 35 Qc) w fun c2 w =>
  eY pg (iY c2) w fun c3 w =>
  eY pg (gK 67 c3 6) w fun c4 w =>
  eY pg (gJ 4 c4) w fun c5 w =>
  lO c5
   (R (adJ 0) w)
   (eY pg (gJ 35 Qc) w fun c7 w =>
   eY pg (iY c7) w fun c8 w =>
   eY pg (gK 67 c8 4) w fun c9 w =>
   eY pg (gJ 45 c9) w fun d0 w =>
   gS pg yE #[d0] w fun d1 w =>
   eY pg (J2 .not d1) w fun d2 w =>
   lO d2
    (R (adJ 30) w)
    (eY pg (gJ 35 Qc) (dr w) fun d4 w_ => w_ = (dr w) /\
    eY pg (iY d4) (dr w) fun d5 w_ => w_ = (dr w) /\
    eY pg (gK 67 d5 0) (dr w) fun d6 w_ => w_ = (dr w) /\
    eY pg (gJ 32 d6) (dr w) fun d7 w_ => w_ = (dr w) /\
    eY pg (gJ 35 Qc) (dr w) fun d8 w_ => w_ = (dr w) /\
    eY pg (iY d8) (dr w) fun d9 w_ => w_ = (dr w) /\
    eY pg (gK 67 d9 1) (dr w) fun e0 w_ => w_ = (dr w) /\
    eY pg (gJ 9 e0) (dr w) fun e1 w_ => w_ = (dr w) /\
    eY pg (gO .add 9 gW gW e1 (.string ⟨#[46, 112, 97, 114, 116]⟩)) (dr w) fun e2 w_ => w_ = (dr w) /\
    gS pg jL #[d7, e2] (dr w) fun e3 H4 =>
    H4 = H4 /\
    eY pg (iP e3 0) H4 fun e4 w_ => w_ = H4 /\
    eY pg (iP e3 1) H4 fun e5 w_ => w_ = H4 /\
    H4 = H4 /\
    H4 = H4 /\
    eY pg (gO .neq 29 (.tmp 36) (.const (adJ 0)) e5 (adJ 0)) H4 fun e7 w =>
    lO e7
     (eY pg (gJ 35 Qc) w fun e8 w =>
     eY pg (iY e8) w fun f0 w =>
     eY pg (gK 67 f0 7) w fun f1 w =>
     eY pg (iB 29 f1 e5) w fun _u w =>
     R e5 w)
     (eY pg (gJ 35 Qc) (dr w) fun f3 w_ => w_ = (dr w) /\
     eY pg (gJ 35 Qc) (dr w) fun f4 w_ => w_ = (dr w) /\
     (dr w) = (dr w) /\
     gS pg lV #[f4, e4] (dr w) fun f6 PB =>
     (gM pg (gJ 35 Qc) f3 PB /\ True) /\
     eY pg (iY f3) PB fun f7 w_ => w_ = PB /\
     eY pg (gK 67 f7 4) PB fun f8 w_ => w_ = PB /\
     eY pg (iB 45 f8 f6) PB fun _u6 YR =>
     eY pg (gJ 35 Qc) YR fun f9 w =>
     eY pg (iY f9) w fun i0 w =>
     eY pg (gK 67 i0 4) w fun i1 w =>
     eY pg (gJ 45 i1) w fun i2 w =>
     gS pg yE #[i2] w fun i3 w =>
     eY pg (J2 .not i3) w fun i4 w =>
     lO i4
      (R (adJ 13) w)
      (eY pg (gJ 35 Qc) (dr w) fun i5 w_ => w_ = (dr w) /\
      eY pg (Iu (.func 36) [] [Qc]) (dr w) fun i6 w_ => w_ = (dr w) /\
      eY pg (gJ 35 Qc) (dr w) fun i7 w_ => w_ = (dr w) /\
      eY pg (iY i7) (dr w) fun i8 w_ => w_ = (dr w) /\
      eY pg (gK 67 i8 0) (dr w) fun i9 w_ => w_ = (dr w) /\
      eY pg (gJ 32 i9) (dr w) fun j0 w_ => w_ = (dr w) /\
      eY pg (Iu (.func 19) [j0] []) (dr w) fun j1 w_ => w_ = (dr w) /\
      eY pg (iC 98 2 [(0, i6), (1, j1)]) (dr w) fun j2 Xr =>
      (gM pg (gJ 35 Qc) i5 Xr /\ True) /\
      gS pg vU #[j2] Xr fun j3 Po =>
      (gM pg (gJ 35 Qc) i5 Po /\ True) /\
      eY pg (iY i5) Po fun j4 w_ => w_ = Po /\
      eY pg (gK 67 j4 7) Po fun j5 w_ => w_ = Po /\
      eY pg (iB 29 j5 j3) Po fun _u11 tM =>
      eY pg (gJ 35 Qc) (dr tM) fun j6 w_ => w_ = (dr tM) /\
      eY pg (gJ 35 Qc) (dr tM) fun j7 w_ => w_ = (dr tM) /\
      eY pg (iY j7) (dr tM) fun j8 w_ => w_ = (dr tM) /\
      eY pg (gK 67 j8 7) (dr tM) fun j9 w_ => w_ = (dr tM) /\
      eY pg (gJ 29 j9) (dr tM) fun l0 w_ => w_ = (dr tM) /\
      eY pg (gO .eql 29 (.tmp 70) (.const (adJ 0)) l0 (adJ 0)) (dr tM) fun l1 w_ => w_ = (dr tM) /\
      eY pg (iY j6) (dr tM) fun l2 w_ => w_ = (dr tM) /\
      eY pg (gK 67 l2 6) (dr tM) fun l3 w_ => w_ = (dr tM) /\
      eY pg (iB 4 l3 l1) (dr tM) fun _u8 Ys =>
      eY pg (gJ 35 Qc) Ys fun l4 w =>
      eY pg (iY l4) w fun l5 w =>
      eY pg (gK 67 l5 7) w fun l6 w =>
      eY pg (gJ 29 l6) w fun l7 w =>
      R l7 w)))))
theorem EE (R : K1) (hr : HR AF R Q) (h : rX R (g 0) w) : iR pg zD yF Q g w :=
 lI (kn := no) (l := []) h mE hr trivial
def Dn (a0 : adI) (w : adH) (R : K1) : Prop :=
 rX R a0 w
theorem Fq {a0 : adI} {w : adH} {R : K1} (h : Dn a0 w R) : gS pg kO #[a0] w R := by
 refine wC (ann := zD) Tryd.f12 yF [a0] AF 78 TrydM.mixed Tryd.func12 ?_
 exact (EE _ _ _ R (fun _ _ h => h) h)
def CH : FA := ⟨jL, fun i => .leaf ([], []) []⟩
def D5 : List ResultVar := [.tmp 4, .tmp 5]
noncomputable def Cj : Code := iU Tryd.f13
def zG (R : K1) (nJ tP : adI) (w : adH) : Prop :=
 gS pg mU #[nJ] w fun c0 w =>
 eY pg (gO .neq 29 (.tmp 11) (.const (adJ 0)) c0 (adJ 0)) w fun c2 w =>
 lO c2
  (R (.tuple #[(.slice none 0 0), c0]) w)
  (eY pg (iY nJ) w fun c6 w =>
  eY pg (gK 64 c6 2) w fun c7 w =>
  eY pg (gJ 61 c7) w fun c8 w =>
  eY pg (yN 61 c8 tP true) w fun d0 w =>
  eY pg (iP d0 0) w fun d1 w =>
  eY pg (iP d0 1) w fun d2 w =>
  eY pg (J2 .not d2) w fun d4 w =>
  lO d4
   (R (.tuple #[(.slice none 0 0), (adJ 21)]) w)
   (gS pg kR #[d1] w fun d6 w =>
   R (.tuple #[d6, (adJ 0)]) w))
theorem Iw (R : K1) (hr : HR D5 R Q) (h : zG R (g 0) (g 1) w) : iR pg CH Cj Q g w :=
 lI (kn := no) (l := []) h mE hr trivial
def H7 (a0 a1 : adI) (w : adH) (R : K1) : Prop :=
 zG R a0 a1 w
theorem Jl {a0 a1 : adI} {w : adH} {R : K1} (h : H7 a0 a1 w R) : gS pg jL #[a0, a1] w R := by
 refine wC (ann := CH) Tryd.f13 Cj [a0, a1] D5 27 TrydM.mixed Tryd.func13 ?_
 exact (Iw _ _ _ R (fun _ _ h => h) h)
def BA : FA := ⟨lP, fun i => .leaf ([], []) []⟩
def Ca : List ResultVar := [.tmp 2]
noncomputable def Ay : Code := iU Tryd.f14
def vK (R : K1) (lE : adI) (w : adH) : Prop :=
 eY pg (gO .neq 35 (.tmp 3) (.const (.pointer none)) lE (.pointer none)) w fun b4 w =>
 Gd (jQ b4 true) (fun K => K lE w) w fun b6 w =>
 Gd (jQ b4 true) (fun K => eY pg (iY b6) w K) w fun b7 w =>
 Gd (jQ b4 true) (fun K => eY pg (gK 67 b7 6) w K) w fun b8 w =>
 Gd (jQ b4 true) (fun K => eY pg (gJ 4 b8) w K) w fun b9 w =>
 eY pg (kH b4 b9 (.bool false)) w fun c0 w =>
 R c0 w
theorem Gl (R : K1) (hr : HR Ca R Q) (h : vK R (g 0) w) : iR pg BA Ay Q g w :=
 lI (kn := no) (l := []) h mE hr trivial
def Fu (a0 : adI) (w : adH) (R : K1) : Prop :=
 vK R a0 w
theorem Hk {a0 : adI} {w : adH} {R : K1} (h : Fu a0 w R) : gS pg lP #[a0] w R := by
 refine wC (ann := BA) Tryd.f14 Ay [a0] Ca 11 TrydM.mixed Tryd.func14 ?_
 exact (Gl _ _ _ R (fun _ _ h => h) h)
def Ax : FA := ⟨nV, fun i => .leaf ([], []) []⟩
def BI : List ResultVar := [.tmp 2]
noncomputable def yQ : Code := iU Tryd.f15
def tQ (R : K1) (lE : adI) (w : adH) : Prop :=
 eY pg (gO .eql 35 (.tmp 3) (.const (.pointer none)) lE (.pointer none)) w fun b4 w =>
 lO b4
  (R (.int .u64 0) w)
  (eY pg (iY lE) w fun b6 w =>
  eY pg (gK 67 b6 3) w fun b7 w =>
  eY pg (gJ 24 b7) w fun b8 w =>
  R b8 w)
theorem Fk (R : K1) (hr : HR BI R Q) (h : tQ R (g 0) w) : iR pg Ax yQ Q g w :=
 lI (kn := no) (l := []) h mE hr trivial
def Ej (a0 : adI) (w : adH) (R : K1) : Prop :=
 tQ R a0 w
theorem GB {a0 : adI} {w : adH} {R : K1} (h : Ej a0 w R) : gS pg nV #[a0] w R := by
 refine wC (ann := Ax) Tryd.f15 yQ [a0] BI 9 TrydM.mixed Tryd.func15 ?_
 exact (Fk _ _ _ R (fun _ _ h => h) h)
def Ch : FA := ⟨kJ, fun i => match Nat.beq i 9 with | true => .leaf ([4], [(4, 7), (4, 8), (4, 10), (4, 11), (4, 14), (4, 15), (4, 16)]) [(false, []), (false, []), (false, []), (false, []), (true, []), (false, []), (false, []), (false, [2]), (false, [3]), (false, []), (false, [5]), (false, [6]), (false, []), (false, []), (false, [9]), (false, [10]), (false, [11]), (false, []), (false, [])] | false => .leaf ([], []) []⟩
def DP : List ResultVar := [.tmp 8]
noncomputable def Bf : Code := iU Tryd.f16
def xK (R : K1) (nJ tP UK SA : adI) (w : adH) : Prop :=
 gS pg mU #[nJ] w fun c2 w =>
 eY pg (gO .neq 29 (.tmp 13) (.const (adJ 0)) c2 (adJ 0)) w fun c4 w =>
 lO c4
  (R c2 w)
  (eY pg (iY nJ) w fun c7 w =>
  eY pg (gK 64 c7 2) w fun c8 w =>
  eY pg (gJ 61 c8) w fun c9 w =>
  eY pg (yN 61 c9 tP false) w fun d1 w =>
  eY pg (mS .len #[22] 3 [d1]) w fun d2 w =>
  gS pg AM #[tP] w fun d5 w =>
  eY pg (J2 .not d5) w fun d6 w =>
  Gd (jQ d6 false) (fun K => K UK w) w fun d8 w =>
  Gd (jQ d6 false) (fun K => eY pg (gO .lss 3 gW gW d8 (adJ 0)) w K) w fun d9 w =>
  eY pg (kH d6 (.bool true) d9) w fun e0 w =>
  lO e0
   (R (adJ 1) w)
   (eY pg (gO .gtr 3 gW gW UK d2) w fun e4 w =>
   lO e4
    (R (adJ 17) w)
    ((dr w) = (dr w) /\
    eY pg (iY nJ) (dr w) fun e7 w_ => w_ = (dr w) /\
    eY pg (gK 64 e7 2) (dr w) fun e8 w_ => w_ = (dr w) /\
    eY pg (gJ 61 e8) (dr w) fun e9 w_ => w_ = (dr w) /\
    gS pg sP #[e9] (dr w) fun f0 yL =>
    yL = yL /\
    yL = yL /\
    eY pg (mS .len #[22] 3 [SA]) yL fun f3 w_ => w_ = yL /\
    (gM pg (mS .len #[22] 3 [SA]) f3 (dr w) /\ True) /\
    eY pg (gO .add 3 gW gW UK f3) yL fun f4 w_ => w_ = yL /\
    (gM pg (gO .add 3 gW gW UK f3) f4 (dr w) /\ True) /\
    yL = yL /\
    eY pg (gO .sub 3 gW gW f4 d2) yL fun f6 w_ => w_ = yL /\
    (gM pg (gO .sub 3 gW gW f4 d2) f6 (dr w) /\ True) /\
    eY pg (mS .max #[3, 3] 3 [f6, (adJ 0)]) yL fun f7 w_ => w_ = yL /\
    (gM pg (mS .max #[3, 3] 3 [f6, (adJ 0)]) f7 (dr w) /\ True) /\
    eY pg (gO .add 3 gW gW f0 f7) yL fun f8 w_ => w_ = yL /\
    yL = yL /\
    eY pg (iY nJ) yL fun i0 w_ => w_ = yL /\
    (gM pg (iY nJ) i0 (dr w) /\ True) /\
    eY pg (gK 64 i0 0) yL fun i1 w_ => w_ = yL /\
    (gM pg (gK 64 i0 0) i1 (dr w) /\ True) /\
    eY pg (gJ 3 i1) yL fun i2 w_ => w_ = yL /\
    (gM pg (gJ 3 i1) i2 (dr w) /\ True) /\
    eY pg (gO .gtr 3 gW gW f8 i2) yL fun i3 w_ => w_ = yL /\
    yL = yL /\
    lO i3
     (R (adJ 22) yL)
     (gS pg kR #[SA] yL fun i8 w =>
     eY pg (lK 88 [(0, (adJ 0)), (1, tP), (3, UK), (4, i8)]) w fun i9 w =>
     gS pg oI #[nJ, i9] w fun j0 w =>
     R j0 w))))
theorem HJ (R : K1) (hr : HR DP R Q) (h : xK R (g 0) (g 1) (g 2) (g 3) w) : iR pg Ch Bf Q g w :=
 lI (kn := no) (l := []) h mE hr trivial
def GQ (a0 a1 a2 a3 : adI) (w : adH) (R : K1) : Prop :=
 xK R a0 a1 a2 a3 w
theorem H2 {a0 a1 a2 a3 : adI} {w : adH} {R : K1} (h : GQ a0 a1 a2 a3 w R) : gS pg kJ #[a0, a1, a2, a3] w R := by
 refine wC (ann := Ch) Tryd.f16 Bf [a0, a1, a2, a3] DP 61 TrydM.mixed Tryd.func16 ?_
 exact (HJ _ _ _ R (fun _ _ h => h) h)
def Bl : FA := ⟨rK, fun i => .leaf ([], []) []⟩
def Cb : List ResultVar := [.tmp 2]
noncomputable def Av : Code := iU Tryd.f17
def vA (R : K1) (lE : adI) (w : adH) : Prop :=
 eY pg (gO .eql 35 (.tmp 3) (.const (.pointer none)) lE (.pointer none)) w fun b4 w =>
 lO b4
  (R (.slice none 0 0) w)
  (eY pg (iY lE) w fun b6 w =>
  eY pg (gK 67 b6 4) w fun b7 w =>
  eY pg (gJ 45 b7) w fun b8 w =>
  gS pg oD #[b8] w fun b9 w =>
  R b9 w)
theorem Gf (R : K1) (hr : HR Cb R Q) (h : vA R (g 0) w) : iR pg Bl Av Q g w :=
 lI (kn := no) (l := []) h mE hr trivial
def Fy (a0 : adI) (w : adH) (R : K1) : Prop :=
 vA R a0 w
theorem HE {a0 : adI} {w : adH} {R : K1} (h : Fy a0 w R) : gS pg rK #[a0] w R := by
 refine wC (ann := Bl) Tryd.f17 Av [a0] Cb 10 TrydM.mixed Tryd.func17 ?_
 exact (Gf _ _ _ R (fun _ _ h => h) h)
def GX : FA := ⟨vR, fun i => .leaf ([], []) []⟩
def IM : List ResultVar := [.cell 2 49]
noncomputable def Fv : Code := iU Tryd.f18
def CE (R : K1) (Ak : adI) (w : adH) : Prop :=
 eY pg (lQ 49) w fun b2 w =>
 eY pg (iC 22 1 [(0, (.int .u8 0))]) w fun b3 w =>
 eY pg (mS .append #[22, 22] 22 [b3, Ak]) w fun b5 w =>
 gS pg H8 #[b5] w fun b6 w =>
 eY pg (iB 49 b2 b6) w fun _u w =>
 Uw pg 49 b2 w fun r0 => R r0 w
theorem Lm (R : K1) (hr : HR IM R Q) (h : CE R (g 0) w) : iR pg GX Fv Q g w :=
 lI (kn := no) (l := []) h mE hr trivial
def ML (a0 : adI) (w : adH) (R : K1) : Prop :=
 CE R a0 w
theorem LP {a0 : adI} {w : adH} {R : K1} (h : ML a0 w R) : gS pg vR #[a0] w R := by
 refine wC (ann := GX) Tryd.f18 Fv [a0] IM 7 TrydM.mixed Tryd.func18 ?_
 exact (Lm _ _ _ R (fun _ _ h => h) h)
def CL : FA := ⟨jD, fun i => .leaf ([], []) []⟩
def Ef : List ResultVar := [.tmp 2]
noncomputable def Ce : Code := iU Tryd.f19
def zS (R : K1) (nJ : adI) (w : adH) : Prop :=
 gS pg mU #[nJ] w fun b5 w =>
 eY pg (gO .neq 29 (.tmp 6) (.const (adJ 0)) b5 (adJ 0)) w fun b7 w =>
 lO b7
  (R b5 w)
  (gS pg pJ #[nJ] w fun c0 w =>
  lO c0
   (R (adJ 20) w)
   (eY pg (iY nJ) w fun c4 w =>
   eY pg (gK 64 c4 2) w fun c5 w =>
   eY pg (gJ 61 c5) w fun c6 w =>
   gS pg zQ #[c6] w fun c7 w =>
   eY pg (iY nJ) w fun c8 w =>
   eY pg (gK 64 c8 1) w fun c9 w =>
   eY pg (iB 61 c9 c7) w fun _u w =>
   eY pg (iY nJ) w fun d0 w =>
   eY pg (gK 64 d0 3) w fun d1 w =>
   eY pg (iB 62 d1 (.slice none 0 0)) w fun _u w =>
   R (adJ 0) w))
theorem HY (R : K1) (hr : HR Ef R Q) (h : zS R (g 0) w) : iR pg CL Ce Q g w :=
 lI (kn := no) (l := []) h mE hr trivial
def HW (a0 : adI) (w : adH) (R : K1) : Prop :=
 zS R a0 w
theorem Jq {a0 : adI} {w : adH} {R : K1} (h : HW a0 w R) : gS pg jD #[a0] w R := by
 refine wC (ann := CL) Tryd.f19 Ce [a0] Ef 22 TrydM.mixed Tryd.func19 ?_
 exact (HY _ _ _ R (fun _ _ h => h) h)
def Cf : FA := ⟨kZ, fun i => .leaf ([], []) []⟩
def C9 : List ResultVar := [.tmp 2]
noncomputable def Bo : Code := iU Tryd.f20
def xC (R : K1) (lE : adI) (w : adH) : Prop :=
 eY pg (gO .eql 35 (.tmp 3) (.const (.pointer none)) lE (.pointer none)) w fun b4 w =>
 lO b4
  (R (adJ 1) w)
  (eY pg (iY lE) w fun b6 w =>
  eY pg (gK 67 b6 7) w fun b7 w =>
  eY pg (gJ 29 b7) w fun b8 w =>
  R b8 w)
theorem HD (R : K1) (hr : HR C9 R Q) (h : xC R (g 0) w) : iR pg Cf Bo Q g w :=
 lI (kn := no) (l := []) h mE hr trivial
def GZ (a0 : adI) (w : adH) (R : K1) : Prop :=
 xC R a0 w
theorem IJ {a0 : adI} {w : adH} {R : K1} (h : GZ a0 w R) : gS pg kZ #[a0] w R := by
 refine wC (ann := Cf) Tryd.f20 Bo [a0] C9 9 TrydM.mixed Tryd.func20 ?_
 exact (HD _ _ _ R (fun _ _ h => h) h)
def wG : FA := ⟨rQ, fun i => .leaf ([], []) []⟩
def Ac : List ResultVar := [.tmp 4, .tmp 5]
noncomputable def uP : Code := iU Tryd.f23
def oJ (R : K1) (RP : adI) (w : adH) : Prop :=
 eY pg (gO .gtr 24 gW gW RP (.int .u64 1024)) w fun d5 w =>
 lO d5
  (R (.tuple #[(adJ 0), (adJ 12)]) w)
  (eY pg (kP 24 3 RP) w fun d7 w =>
  R (.tuple #[d7, (adJ 0)]) w)
theorem KE (R : K1) (hr : HR Ac R Q) (h : oJ R (g 6) w) : iR pg wG (gN 4 uP) Q g w :=
 lI (kn := no) (l := []) h mE hr trivial
def Dz (kn : K1) (R : K1) (J6 kY : adI) (w : adH) : Prop :=
 eY pg (gO .lss 3 gW gW kY (adJ 1)) w fun b8 w =>
 Gd (jQ b8 false) (fun K => K kY w) w fun c0 w =>
 Gd (jQ b8 false) (fun K => eY pg (gO .gtr 3 gW gW c0 (adJ 65536)) w K) w fun c1 w =>
 eY pg (kH b8 (.bool true) c1) w fun c2 w =>
 lO c2
  (R (.tuple #[(adJ 0), (adJ 1)]) w)
  (eY pg (kP 3 24 kY) w fun c5 w =>
  eY pg (gO .quo 24 gW gW J6 c5) w fun c6 w =>
  eY pg (kP 3 24 kY) w fun c9 w =>
  eY pg (gO .rem 24 gW gW J6 c9) w fun d0 w =>
  eY pg (gO .gtr 24 gW gW d0 (.int .u64 0)) w fun d1 w =>
  lO d1
   (eY pg (gO .add 24 gW gW c6 (.int .u64 1)) w fun d3 w =>
   kn d3 w)
   (kn c6 w))
theorem Lp (kn : K1) (R : K1) (hn : N1 Q kn 6) (hr : HR Ac R Q) (h : Dz kn R (g 0) (g 1) w) : iR pg wG (gU 4 uP) Q g w :=
 lI (l := []) h hn hr trivial
def Dx (R : K1) (J6 kY : adI) (w : adH) : Prop :=
 Dz (fun RP w => oJ R RP w) R J6 kY w
theorem Ln (R : K1) (hr : HR Ac R Q) (h : Dx R (g 0) (g 1) w) : iR pg wG uP Q g w :=
 uW 4 (Lp _ g w (oJ R) R (fun g w h => iA (KE _ g w R hr h)) hr h)
def MA (a0 a1 : adI) (w : adH) (R : K1) : Prop :=
 Dx R a0 a1 w
theorem LY {a0 a1 : adI} {w : adH} {R : K1} (h : MA a0 a1 w R) : gS pg rQ #[a0, a1] w R := by
 refine wC (ann := wG) Tryd.f23 uP [a0, a1] Ac 28 TrydM.mixed Tryd.func23 ?_
 exact (Ln _ _ _ R (fun _ _ h => h) h)
def ID : FA := ⟨pI, fun i => .leaf ([], []) []⟩
def JB : List ResultVar := [.tmp 6, .tmp 7, .tmp 8]
noncomputable def G3 : Code := iU Tryd.f24
def EK (R : K1) (J6 kY Y8 : adI) (w : adH) : Prop :=
 gS pg rQ #[J6, kY] w fun c5 w =>
 eY pg (iP c5 0) w fun c6 w =>
 eY pg (iP c5 1) w fun c7 w =>
 eY pg (gO .neq 29 (.tmp 19) (.const (adJ 0)) c7 (adJ 0)) w fun d0 w =>
 lO d0
  (R (.tuple #[(.int .u64 0), (adJ 0), c7]) w)
  (eY pg (gO .lss 3 gW gW Y8 (adJ 0)) w fun d4 w =>
  Gd (jQ d4 false) (fun K => K Y8 w) w fun d6 w =>
  Gd (jQ d4 false) (fun K => K c6 w) w fun d7 w =>
  Gd (jQ d4 false) (fun K => eY pg (gO .geq 3 gW gW d6 d7) w K) w fun d8 w =>
  eY pg (kH d4 (.bool true) d8) w fun d9 w =>
  lO d9
   (R (.tuple #[(.int .u64 0), (adJ 0), (adJ 17)]) w)
   (eY pg (kP 3 24 kY) w fun e1 w =>
   eY pg (kP 3 24 Y8) w fun e3 w =>
   eY pg (gO .mul 24 gW gW e1 e3) w fun e4 w =>
   eY pg (gO .sub 24 gW gW J6 e4) w fun e8 w =>
   eY pg (kP 3 24 kY) w fun f0 w =>
   eY pg (mS .min #[24, 24] 24 [e8, f0]) w fun f1 w =>
   eY pg (kP 24 3 f1) w fun f2 w =>
   R (.tuple #[e4, f2, (adJ 0)]) w))
theorem LH (R : K1) (hr : HR JB R Q) (h : EK R (g 0) (g 1) (g 2) w) : iR pg ID G3 Q g w :=
 lI (kn := no) (l := []) h mE hr trivial
def Ob (a0 a1 a2 : adI) (w : adH) (R : K1) : Prop :=
 EK R a0 a1 a2 w
theorem MV {a0 a1 a2 : adI} {w : adH} {R : K1} (h : Ob a0 a1 a2 w R) : gS pg pI #[a0, a1, a2] w R := by
 refine wC (ann := ID) Tryd.f24 G3 [a0, a1, a2] JB 43 TrydM.mixed Tryd.func24 ?_
 exact (LH _ _ _ R (fun _ _ h => h) h)
def As : FA := ⟨pX, fun i => .leaf ([], []) []⟩
def Bu : List ResultVar := [.tmp 2]
noncomputable def yS : Code := iU Tryd.f25
def uG (R : K1) (lE : adI) (w : adH) : Prop :=
 eY pg (gO .eql 26 (.tmp 3) (.const (.slice none 0 0)) lE (.slice none 0 0)) w fun b4 w =>
 lO b4
  (R (.slice none 0 0) w)
  (eY pg (iC 26 0 []) w fun b5 w =>
  eY pg (mS .append #[26, 26] 26 [b5, lE]) w fun b7 w =>
  R b7 w)
theorem FF (R : K1) (hr : HR Bu R Q) (h : uG R (g 0) w) : iR pg As yS Q g w :=
 lI (kn := no) (l := []) h mE hr trivial
def El (a0 : adI) (w : adH) (R : K1) : Prop :=
 uG R a0 w
theorem GP {a0 : adI} {w : adH} {R : K1} (h : El a0 w R) : gS pg pX #[a0] w R := by
 refine wC (ann := As) Tryd.f25 yS [a0] Bu 8 TrydM.mixed Tryd.func25 ?_
 exact (FF _ _ _ R (fun _ _ h => h) h)
def Bk : FA := ⟨mN, fun i => .leaf ([], []) []⟩
def Cg : List ResultVar := [.tmp 4, .tmp 5, .tmp 6]
noncomputable def AE : Code := iU Tryd.f26
def vC (R : K1) (lE tP : adI) (w : adH) : Prop :=
 eY pg (iY lE) w fun c1 w =>
 eY pg (gK 67 c1 0) w fun c2 w =>
 eY pg (gJ 32 c2) w fun c3 w =>
 gS pg jL #[c3, tP] w fun c5 w =>
 eY pg (iP c5 0) w fun c6 w =>
 eY pg (iP c5 1) w fun c7 w =>
 eY pg (gO .eql 29 (.tmp 18) (.const (adJ 21)) c7 (adJ 21)) w fun c9 w =>
 lO c9
  (R (.tuple #[(.slice none 0 0), (.bool false), (adJ 0)]) w)
  (eY pg (gO .eql 29 (.tmp 21) (.const (adJ 0)) c7 (adJ 0)) w fun d2 w =>
  R (.tuple #[c6, d2, c7]) w)
theorem Gp (R : K1) (hr : HR Cg R Q) (h : vC R (g 0) (g 1) w) : iR pg Bk AE Q g w :=
 lI (kn := no) (l := []) h mE hr trivial
def Fs (a0 a1 : adI) (w : adH) (R : K1) : Prop :=
 vC R a0 a1 w
theorem HH {a0 a1 : adI} {w : adH} {R : K1} (h : Fs a0 a1 w R) : gS pg mN #[a0, a1] w R := by
 refine wC (ann := Bk) Tryd.f26 AE [a0, a1] Cg 24 TrydM.mixed Tryd.func26 ?_
 exact (Gp _ _ _ R (fun _ _ h => h) h)
end Go.Proofs.YteelnmpbnaohpaaDoor

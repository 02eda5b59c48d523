/- Parts of the proof of SequencesSame: merged and given short names by a program of ours. -/
import Derived.Orders
import Derived.Below
import Derived.KernelRfl
import Derived.Eval
import Derived.Laws.Sem
import Derived.Scope
import Derived.Test.YtaggdjhhmbnhoaaDoorRows
set_option linter.unusedVariables false
set_option linter.unusedSimpArgs false
open Array renaming getD_eq_getD_getElem? → ajC, getElem?_eq_getElem → ajQ, getElem?_setIfInBounds_self_of_lt → akL, getElem?_setIfInBounds_ne → akR, all_eq_true' → alA, length_toList → alQ, getElem?_eq_none → amP, mem_of_getElem? → anO
open Bool renaming false_eq_true → aiS, and_eq_true → ajH, not_true → akS, or_eq_true → alI, not_eq_true' → amH, or_eq_false_iff → amZ
open List renaming getElem?_eq_getElem → aiN, getElem?_cons_succ → aiQ, getD_eq_getElem?_getD → ajD, mem_cons_of_mem → ajE, getElem?_eq_none → ajJ, length_cons → ajK, getElem_of_mem → ajT, length_eq_zero_iff → ajV, drop_eq_getElem_cons → akA, mem_range → akD, mem_cons → akE, mem_map → akF, all_eq_true → akP, mem_cons_self → akZ, mem_of_getElem? → alD, mem_append → alO, map_congr_left → alP, toList_toArray → alR, mem_append_left → alZ, map_cons → amE, mem_append_right → amU, length_erase_of_mem → anE, mem_filter → anQ
open Nat renaming zero_add → aiR, le_refl → aiU, lt_or_ge → ajI, eq_of_beq_eq_true → ajW, add_assoc → alL, mod_lt → amA, lt_trichotomy → amD, le_trans → amJ, blt_eq → anH
open Option renaming map_some → akB, getD_some → anM
open Option.some renaming inj → ajG
namespace Go.En
open Go
abbrev anV := World
abbrev anW := Value
abbrev Env := Nat -> anW
def put (g : Env) (d : Option Tmp) (v : anW) : Env :=
 match d with
 | some d => fun i => match Nat.beq i d with | true => v | false => g i
 | none => g
def ev (g : Env) : Operand -> anW
 | .tmp t => g t
 | .const v => v
 | .global b => .pointer (some ⟨b, 0, none⟩)
 | .func f => .func (.func f) #[] #[]
def Ret (P : Program) (f : FuncId) (args : Array anW) (w : anV) (v : anW) (w' : anV) : Prop :=
 Calls P f args w fun e w'' => e = .returned v /\ w'' = w'
def aU (P : Program) (f : FuncId) (args : Array anW) (w : anV) (R : anW -> anV -> Prop) : Prop :=
 ∃ v w', Ret P f args w v w' /\ R v w'
theorem aU.mono {P : Program} {f : FuncId} {args : Array anW} {w : anV} {R R' : anW -> anV -> Prop} (h : aU P f args w R)
 (hr : ∀ v w', R v w' -> R' v w') : aU P f args w R' :=
 let ⟨v, w', a, b⟩ := h; ⟨v, w', a, hr _ _ b⟩
def adM (P : Program) (r : Result Next) (K : anW -> anV -> Prop) : Prop :=
 match r with
 | .ok (.value v) w => K v w
 | .ok .skip w => K undef w
 | .ok (.enter f args) w => aU P f args w K
 | _ => False
theorem aA (P : Program) (v : anW) (w : anV) (K : anW -> anV -> Prop) : adM P (.ok (.value v) w) K = K v w := Eq.trans rfl rfl
def aC (P : Program) (s : Sem Next) (w : anV) (K : anW -> anV -> Prop) : Prop := adM P (s.run P w) K
def eE (P : Program) (s : Sem Next) (v : anW) (w : anV) : Prop := s.run P w = .ok (.value v) w
def Gd (b : Bool) (s : (anW -> anV -> Prop) -> Prop) (w : anV) (K : anW -> anV -> Prop) : Prop :=
 match b with
 | true => s K
 | false => K undef w
def asB (v : anW) : Option Bool := match v with | .bool b => some b | _ => none
def fA (v : anW) (want : Bool) : Bool := asB v == some want
def fL (v : anW) (A B : Prop) : Prop :=
 match v with
 | .bool b => (match b with | true => A | false => B)
 | _ => False
def Ai (ops : Array Oper) (j : Nat) : Option Tmp := (ops[j]?).bind (·.dst)
def uP (g : Env) (t : Option Tmp) (want : Bool) : Bool := match t with | some t => fA (g t) want | none => false
def V (s : Sem anW) : Sem Next := do pure (.value (<- s))
def U (s : Sem Unit) : Sem Next := do s; pure .skip
def Gh (op : BinOp) : Bool := match op with | .eql | .neq => true | _ => false
def aF (op : BinOp) (t : TypeId) (ox oy : Operand) (x y : anW) : Sem Next :=
 match Gh op with
 | true => V (do eqGuard op t ox oy x y; binOp op t x y)
 | false => V (binOp op t x y)
def jI (b : Builtin) (ats : Array TypeId) (ty : TypeId) (args : List anW) : Sem Next := builtin b ats ty #[] args.toArray
def cA (t : TypeId) (ps : List (Nat × anW)) : Sem Next := V (Instr.build t ps.toArray)
def dB (t : TypeId) (n : Nat) (ps : List (Nat × anW)) : Sem Next := V (Instr.buildSlice t n ps.toArray)
def GK (g : Env) (o : Oper) : Sem Next :=
 match o.op with
 | .binOp op t x y _ => aF op t x y (ev g x) (ev g y)
 | .build t ps => cA t (ps.toList.map fun p => (p.1, ev g p.2))
 | .buildSlice t n ps => dB t n (ps.toList.map fun p => (p.1, ev g p.2))
 | .call c => (match c.callee with
   | .builtin b => jI b c.argTypes o.type (c.args.toList.map (ev g))
   | _ => execOp (ev g) o)
 | _ => execOp (ev g) o
def EL (P : Program) (g : Env) (o : Oper) (w : anV) (K : anW -> anV -> Prop) : Prop :=
 match o.op with
 | .move x => K (ev g x) w
 | .assign x => K (ev g x) w
 | .call c => (match c.callee with
   | .value (.func f) => aU P f (c.args.toList.map (ev g)).toArray w K
   | _ => aC P (GK g o) w K)
 | _ => aC P (GK g o) w K
def DL (P : Program) (ops : Array Oper) (g : Env) (o : Oper) (w : anV) (K : anW -> anV -> Prop) : Prop :=
 match o.guard with
 | none => EL P g o w K
 | some (j, want) => Gd (uP g (Ai ops j) want) (EL P g o w) w K
def Sg (P : Program) (ops : Array Oper) : List Oper -> Env -> anV -> (Env -> anV -> Prop) -> Prop
 | [], g, w, K => K g w
 | o :: rest, g, w, K => DL P ops g o w fun v w' => Sg P ops rest (put g o.dst v) w' K
structure Rec where
 heavy : Bool
 o : Oper
 g : Env
 w : anV
 v : anW
def gOf (ops : Array Oper) (o : Oper) (g : Env) : Bool := match o.guard with | none => true | some (j, want) => uP g (Ai ops j) want
def Gs (b : Bool) (p : Prop) : Prop := match b with | true => p | false => True
def MK (P : Program) (ops : Array Oper) (q : Rec) (o : Oper) (g : Env) (w' : anV) (v : anW) : Prop :=
 match q.heavy with
 | true => Gs (gOf ops o g) (eE P (GK g o) v q.w)
 | false => Gs (gOf ops q.o q.g) (eE P (GK q.g q.o) q.v w')
def Sb (i j : Nat) : List (Nat × Nat) -> Bool
 | [] => false
 | (a, b) :: r => match Nat.beq a i with
   | true => (match Nat.beq b j with | true => true | false => Sb i j r)
   | false => Sb i j r
def mA (i : Nat) : List Nat -> Bool
 | [] => false
 | a :: r => match Nat.beq a i with | true => true | false => mA i r
def V2 : List Rec -> Nat -> Option Rec
 | [], _ => none
 | q :: _, 0 => some q
 | _ :: r, n + 1 => V2 r n
def acN (P : Program) (ops : Array Oper) (o : Oper) (g : Env) (w' : anV) (v : anW) (hist : List Rec) : List Nat -> Prop
 | [] => True
 | k :: ks => (match V2 hist k with
   | some q => MK P ops q o g w' v
   | none => False) /\ acN P ops o g w' v hist ks
abbrev XM := List Nat × List (Nat × Nat)
abbrev Vu := List (Bool × List Nat)
def nL (P : Program) (ops : Array Oper) : List Oper -> Vu -> List Rec -> Env -> anV -> (Env -> anV -> Prop) -> Prop
 | [], _, _, g, w, K => K g w
 | _ :: _, [], _, _, _, _ => False
 | o :: rest, (hv, ks) :: pl, hist, g, w, K =>
   DL P ops g o w fun v w' =>
    match hv, ks with
    | true, [] => nL P ops rest pl (⟨true, o, g, w, v⟩ :: hist) (put g o.dst v) w' K
    | true, k :: ks => acN P ops o g w' v hist (k :: ks) /\ nL P ops rest pl (⟨true, o, g, w, v⟩ :: hist) (put g o.dst v) w' K
    | false, [] => w' = w /\ nL P ops rest pl (⟨false, o, g, w, v⟩ :: hist) (put g o.dst v) w K
    | false, k :: ks => w' = w /\ acN P ops o g w v hist (k :: ks) /\ nL P ops rest pl (⟨false, o, g, w, v⟩ :: hist) (put g o.dst v) w K
def cO {α : Type} (F : (α -> anV -> Prop) -> α -> anV -> Prop) (g : α) (w : anV) : Prop :=
 ∃ I : Nat -> α -> anV -> Prop, (∃ n, I n g w) /\ ∀ n g w, I n g w -> F (fun g' w' => ∃ m, m < n /\ I m g' w') g w
def xK (K : Env -> anV -> Prop) (Q : Exit -> Env -> anV -> Prop) : Exit -> Env -> anV -> Prop
 | .normal, g, w => K g w
 | e, g, w => Q e g w
def blk (id : Nat) (Q : Exit -> Env -> anV -> Prop) : Exit -> Env -> anV -> Prop
 | .exit i, g, w => (match Nat.beq i id with | true => Q .normal g w | false => Q (.exit i) g w)
 | e, g, w => Q e g w
inductive HT where
 | leaf (an : XM) (pl : Vu)
 | perm (π : List Nat) (es : List (Nat × Nat)) (an : XM) (pl : Vu)
 | split (a b : Nat) (x y : HT)
structure FA where
 f : FuncId
 t : Nat -> HT
def rF : List Nat -> Nat -> Nat
 | [], _ => 0
 | a :: r, i => match Nat.beq a i with | true => 0 | false => rF r i + 1
def CG (π : List Nat) (i : Nat) : List (Nat × Nat) -> List Edge
 | [] => []
 | (a, b) :: r => match Nat.beq b i with | true => ⟨rF π a, .data⟩ :: CG π i r | false => CG π i r
def D4 (π : List Nat) (es : List (Nat × Nat)) (i : Nat) (o : Oper) : Oper :=
 { dst := o.dst, op := o.op, type := o.type, pos := o.pos, after := (o.after.toList.map (fun e => (⟨rF π e.on, e.ground⟩ : Edge)) ++ CG π i es).toArray,
   guard := match o.guard with | none => none | some (j, b) => some (rF π j, b) }
def OF (π : List Nat) (es : List (Nat × Nat)) (l : List Oper) : List Nat -> List Oper
 | [] => []
 | i :: r => match l[i]? with | some o => D4 π es i o :: OF π es l r | none => OF π es l r
def lV (π : List Nat) (es : List (Nat × Nat)) (ops : Array Oper) : Array Oper := (OF π es ops.toList π).toArray
def Ua (f : FuncId) (id : Nat) (ops : Array Oper) (a b : Nat) (w : anV) : Bool :=
 Nat.ble ((Region.schedule true ops (w.tape w.drawn (.order f id))).idxOf a) ((Region.schedule true ops (w.tape w.drawn (.order f id))).idxOf b)
def Ord (b : Bool) (A B : Prop) : Prop := match b with | true => A | false => B
def Vz (P : Program) (f : FuncId) (id : Nat) (ops : Array Oper) : HT -> Env -> anV -> anV -> (Env -> anV -> Prop) -> Prop
 | .leaf _ pl, g, _, w, K => nL P ops ops.toList pl [] g w K
 | .perm π es _ pl, g, _, w, K => nL P (lV π es ops) (lV π es ops).toList pl [] g w K
 | .split a b x y, g, w0, w, K => Ord (Ua f id ops a b w0) (Vz P f id ops x g w0 w K) (Vz P f id ops y g w0 w K)
def bG (P : Program) (ann : FA) : Code -> (Exit -> Env -> anV -> Prop) -> Env -> anV -> Prop
 | .skip, Q, g, w => Q .normal g w
 | .region id ops draw, Q, g, w => match draw with
   | false => Sg P ops ops.toList g w (Q .normal)
   | true => Vz P ann.f id ops (ann.t id) g w { w with drawn := w.drawn + 1 } (Q .normal)
 | .seq x y, Q, g, w => bG P ann x (xK (fun g w => bG P ann y Q g w) Q) g w
 | .cond c x y, Q, g, w => fL (ev g c) (bG P ann x Q g w) (bG P ann y Q g w)
 | .block id c, Q, g, w => bG P ann c (blk id Q) g w
 | .loop c, Q, g, w => cO (fun X g w => bG P ann c (xK X Q) g w) g w
 | .scope c, Q, g, w => bG P ann c Q g w
 | .label _, Q, g, w => Q .normal g w
 | .exit id, Q, g, w => Q (.exit id) g w
 | .ret, Q, g, w => Q .ret g w
 | _, _, _, _ => False
def X7 (N : Nat) (o : Oper) : Bool := match o.dst with | some d => Nat.blt d N | none => true
def Y4 (b : Array Nat) (i j : Nat) : Bool := (b.getD j 0).testBit i
def looks (ops : Array Oper) (o : Oper) : List Tmp :=
 (o.op.operands.toList.filterMap fun | .tmp t => some t | _ => none) ++ (match o.guard with | some (j, _) => (Ai ops j).toList | none => [])
def ZZ (ops : Array Oper) (x y : Oper) : Bool :=
 (match x.dst with | some d => (looks ops y).contains d || y.dst == some d | none => false) ||
 (match y.dst with | some d => (looks ops x).contains d | none => false)
def VE (o : Oper) : Bool := match o.op with | .select .. => true | _ => false
def Za (o : Oper) : Bool := match o.op with | .call { callee := .value (.func _), .. } => true | _ => false
def J2 (P : Program) (o : Oper) : Bool :=
 match o.op with
 | .call c => (match c.callee with
   | .value (.func f) => (match P.funcs[f]? with | some fn => fn.body.isSome && !(fn.name == "runtime.NumGoroutine") | none => false)
   | .builtin b => (match b with | .print | .println => false | _ => true)
   | _ => true)
 | _ => true
def Ia (o : Oper) : Bool := match o.op with | .move _ | .assign _ => true | _ => false
def Ka (ops : Array Oper) (b : Array Nat) (an : XM) (i j : Nat) (x y : Oper) : Bool :=
 Y4 b i j ||
 (!ZZ ops x y &&
   match mA i an.1, mA j an.1 with
   | true, true => false
   | false, false => true
   | true, false => Ia y || Sb i j an.2
   | false, true => Ia x || Sb i j an.2)
def V6 (ops : Array Oper) (b : Array Nat) (an : XM) : Bool :=
 (List.range ops.size).all fun j => (List.range j).all fun i =>
  match ops[i]?, ops[j]? with
  | some x, some y => Ka ops b an i j x y
  | _, _ => false
def T1 (ops : Array Oper) : Bool :=
 (List.range ops.size).all fun i => match ops[i]? with
  | some o => o.after.all fun e => !Region.binds .any e || Nat.blt e.on i
  | none => false
def TM (ops : Array Oper) (b : Array Nat) : Bool :=
 (List.range ops.size).all fun j => (List.range ops.size).all fun i =>
  !Y4 b i j || (match ops[j]? with
   | some o => o.after.any fun e => Region.binds .any e && (Nat.beq e.on i || Y4 b i e.on)
   | none => false)
def RY (ops : Array Oper) (an : XM) : Bool :=
 T1 ops && TM ops (Region.before ops) && V6 ops (Region.before ops) an && (ops.all fun o => !VE o) &&
  (List.range ops.size).all fun i => match ops[i]? with | some o => !Za o || mA i an.1 | none => false
def Sw (n : Nat) (an : XM) (pl : Vu) : Bool :=
 (List.range n).all fun i => match pl[i]? with
  | some (h, ks) => h == mA i an.1 && an.2.all fun p => !Nat.beq p.2 i || (Nat.blt p.1 i && ks.contains (i - 1 - p.1))
  | none => false
def W9 (π : List Nat) (ops : Array Oper) : Bool :=
 Nat.beq π.length ops.size && ((List.range ops.size).all fun k => match π[k]? with | some i => Nat.beq (rF π i) k && Nat.blt i ops.size | none => false) &&
  ((List.range ops.size).all fun i => match π[rF π i]? with | some j => Nat.beq j i | none => false) &&
  ((List.range ops.size).all fun i => match ops[i]? with
    | some o => (o.after.all fun e => Nat.blt e.on ops.size) && (match o.guard with | some (j, _) => Nat.blt j ops.size | none => true)
    | none => false)
def M7 (P : Program) (N : Nat) (ops : Array Oper) : List (Nat × Nat) -> HT -> Bool
 | _, .leaf an pl => RY ops an && Sw ops.size an pl
 | path, .perm π es an pl => (es.all fun p => Sb p.1 p.2 path && Nat.blt p.1 ops.size) && W9 π ops && (lV π es ops).all (X7 N) && (lV π es ops).all (J2 P) &&
  RY (lV π es ops) an && Sw (lV π es ops).size an pl
 | path, .split a b x y => !Nat.beq a b && M7 P N ops ((a, b) :: path) x && M7 P N ops ((b, a) :: path) y
def codeOk (P : Program) (N : Nat) (ann : FA) : Code -> Bool
 | .skip | .exit _ | .ret | .label _ => true
 | .scope c => codeOk P N ann c
 | .region id ops draw => ops.all (X7 N) && ops.all (J2 P) && (!draw || M7 P N ops [] (ann.t id))
 | .seq x y => codeOk P N ann x && codeOk P N ann y
 | .cond _ x y => codeOk P N ann x && codeOk P N ann y
 | .block _ c => codeOk P N ann c
 | .loop c => codeOk P N ann c
 | _ => false
theorem Sm (g : Env) (d i : Nat) (v : anW) : put g (some d) v i = if i = d then v else g i := by
 unfold put
 by_cases h : i = d
 .subst h; simp
 .have : Nat.beq i d = false := by
   cases hb : Nat.beq i d
   .rfl
   .exact absurd (ajW hb) h
  simp [this, h]
def Lh (N : Nat) (g : Env) (a : Act) : Prop := a.defers = [] /\ a.tmps.size = N /\ ∀ i, a.tmps.getD i undef = g i
theorem Lh.ev {N : Nat} {g : Env} {a : Act} (h : Lh N g a) (x : Operand) : a.eval x = ev g x := by
 cases x <;> simp [Act.eval, En.ev, <- h.2.2]
theorem Lh.evs {N : Nat} {g : Env} {a : Act} (h : Lh N g a) : a.eval = En.ev g := funext h.ev
theorem Lh.put {N : Nat} {g : Env} {a : Act} (h : Lh N g a) (d : Option Tmp) (v : anW) (hd : ∀ t, d = some t -> t < N) :
 Lh N (put g d v) (a.put d v) := by
 cases d with
 | none => exact h
 | some t =>
   obtain ⟨h1, h2, h3⟩ := h
   have ht := hd t rfl
   refine ⟨h1, by simp [Act.put, h2], fun i => ?_⟩
   rw [Sm, <- h3 i]
   by_cases hi : i = t
   .subst hi; simp [Act.put, h2, ht]
   .have hi' : t ≠ i := fun e => hi e.symm
    simp [Act.put, hi, akR hi']
theorem Lh.wanted {N : Nat} {g : Env} {a : Act} (h : Lh N g a) (ops : Array Oper) (o : Oper) :
 Region.wanted o (yielded ops a.tmps) = match o.guard with | none => true | some (j, want) => uP g (Ai ops j) want := by
 unfold Region.wanted
 cases o.guard with
 | none => rfl
 | some p =>
   obtain ⟨j, want⟩ := p
   simp only [yielded, uP, Ai]
   cases (ops[j]?).bind (·.dst) with
   | none => simp
   | some t =>
     have h3 := h.2.2 t
     simp only [Option.bind_some, fA, asB, <- h3]
     simp only [ajC]
     cases ht : a.tmps[t]? with
     | none => simp [undef]
     | some v => cases v <;> simp
section
variable {P : Program} {ops : Array Oper}
def QE (P : Program) (ops : Array Oper) (g : Env) (o : Oper) (w : anV) (v : anW) (w' : anV) : Prop :=
 ∀ K : anW -> anV -> Prop, K v w' -> DL P ops g o w K
theorem XR {s : Sem Next} {w : anV} {K : anW -> anV -> Prop} (h : aC P s w K) :
 ∃ v w', (∀ K' : anW -> anV -> Prop, K' v w' -> aC P s w K') /\ K v w' := by
 unfold aC at *
 generalize s.run P w = r at *
 match r, h with
 | .ok (.value v) w1, h => exact ⟨v, w1, fun _ h' => h', h⟩
 | .ok .skip w1, h => exact ⟨undef, w1, fun _ h' => h', h⟩
 | .ok (.enter f args) w1, h =>
   obtain ⟨v, w', hr, hk⟩ := h
   exact ⟨v, w', fun _ h' => ⟨v, w', hr, h'⟩, hk⟩
theorem TF {g : Env} {o : Oper} {w : anV} {K : anW -> anV -> Prop} (h : EL P g o w K) :
 ∃ v w', (∀ K' : anW -> anV -> Prop, K' v w' -> EL P g o w K') /\ K v w' := by
 unfold EL at *
 split at h
 .exact ⟨_, _, fun _ h' => h', h⟩
 .exact ⟨_, _, fun _ h' => h', h⟩
 .split at h
  .obtain ⟨v, w', a, b⟩ := h
   exact ⟨v, w', fun _ h' => ⟨v, w', a, h'⟩, b⟩
  .exact XR h
 .exact XR h
theorem acC (op : BinOp) (t : TypeId) (ox oy : Operand) (x y : anW) : aF op t ox oy x y = V (do eqGuard op t ox oy x y; binOp op t x y) := by
 cases op <;> simp [aF, Gh, eqGuard]
theorem Zj {g : Env} {o : Oper} (ho : J2 P o = true) : GK g o = execOp (ev g) o := by
 unfold GK
 split
 .rename_i op t x y yt hx
  simp only [execOp, hx, acC, V]
 .rename_i t ps hx
  have e : (List.map (fun p : Nat × Operand => (p.1, ev g p.2)) ps.toList).toArray = ps.map (fun p => (p.1, ev g p.2)) := by obtain ⟨l⟩ := ps; simp
  simp only [execOp, hx, cA, V, e]
 .rename_i t n ps hx
  have e : (List.map (fun p : Nat × Operand => (p.1, ev g p.2)) ps.toList).toArray = ps.map (fun p => (p.1, ev g p.2)) := by obtain ⟨l⟩ := ps; simp
  simp only [execOp, hx, dB, V, e]
 .rename_i c hx
  split
  .rename_i b hb
   simp only [execOp, hx, resolve, hb, pure_bind, invoke, jI]
   unfold J2 at ho
   simp only [hx, hb] at ho
   have e : (List.map (ev g) c.args.toList).toArray = c.args.map (ev g) := by obtain ⟨l⟩ := c.args; simp
   rw [e]
   cases b <;> first | rfl | (cases ho)
  .rfl
 .rfl
theorem UX {f : FuncId} {fn : Func} (hf : P.funcs[f]? = some fn) (hb : fn.body.isSome = true) (hn : (fn.name == "runtime.NumGoroutine") = false)
 (args : Array anW) (w : anV) : (callFunc f args).run P w = .ok (.enter f args) w := by
 unfold callFunc
 have hb' : fn.body.isNone = false := by cases h : fn.body <;> simp_all
 show Sem.run P (Sem.program fun p => _) w = _
 simp only [Sem.run]
 simp only [bind, Sem.bind, hf, hn, hb', aiS, if_false]
 rfl
theorem Ic {g : Env} {o : Oper} {w : anV} {K : anW -> anV -> Prop} (h : DL P ops g o w K) :
 ∃ v w', QE P ops g o w v w' /\ K v w' := by
 unfold QE
 unfold DL at *
 split at h
 .obtain ⟨v, w', h1, h2⟩ := TF h
  exact ⟨v, w', h1, h2⟩
 .rename_i j want hg
  unfold Gd at *
  cases hb : uP g (Ai ops j) want with
  | true =>
    simp only [hb] at h
    obtain ⟨v, w', h1, h2⟩ := TF h
    exact ⟨v, w', fun K hk => h1 K hk, h2⟩
  | false =>
    simp only [hb] at h
    exact ⟨_, _, fun K hk => hk, h⟩
theorem Qq {N i : Nat} {g : Env} {a : Act} {o : Oper} {w w' : anV} {v : anW} {Q : Exit -> Act -> anV -> Prop} {next : Act -> anV -> Prop}
 (hi : ops[i]? = some o) (hc : J2 P o = true) (hr : Lh N g a) (hy : QE P ops g o w v w') (hn : next (a.put o.dst v) w') : wpOp P ops Q i next a w := by
 have h := hy (fun v2 w2 => v2 = v /\ w2 = w') ⟨rfl, rfl⟩
 unfold wpOp
 rw [hi]
 simp only [hr.wanted]
 have run : EL P g o w (fun v2 w2 => v2 = v /\ w2 = w') -> o.wp P a w next Q := by
  intro h
  have stp : aC P (GK g o) w (fun v2 w2 => v2 = v /\ w2 = w') -> o.upon P a next Q ((execOp (ev g) o).run P w) := by
   intro h
   rw [Zj hc] at h
   unfold aC at h
   generalize (execOp (ev g) o).run P w = r at *
   match r, h with
   | .ok (.value v) w1, h => obtain ⟨rfl, rfl⟩ := h; exact hn
   | .ok .skip w1, h => obtain ⟨rfl, rfl⟩ := h; exact hn
   | .ok (.enter f args) w1, h =>
     obtain ⟨v2, w2, hret, rfl, rfl⟩ := h
     simp only [Oper.upon_enter]
     refine Calls.mono hret ?_
     rintro e w'' ⟨rfl, rfl⟩
     exact hn
  unfold Oper.wp
  rw [hr.evs]
  unfold EL at h
  split at h
  .rename_i x hx
   obtain ⟨rfl, rfl⟩ := h
   simp only [execOp, hx]; exact hn
  .rename_i x hx
   obtain ⟨rfl, rfl⟩ := h
   simp only [execOp, hx]; exact hn
  .rename_i c hx
   split at h
   .rename_i f hcal
    obtain ⟨v2, w2, hret, rfl, rfl⟩ := h
    have e : (execOp (ev g) o).run P w = .ok (.enter f (List.map (ev g) c.args.toList).toArray) w := by
     unfold J2 at hc
     simp only [hx, hcal] at hc
     cases hfn : P.funcs[f]? with
     | none => rw [hfn] at hc; cases hc
     | some fn =>
       rw [hfn] at hc
       simp only [ajH, amH] at hc
       have ea : (List.map (ev g) c.args.toList).toArray = c.args.map (ev g) := by obtain ⟨l⟩ := c.args; simp
       rw [ea]
       simp only [execOp, hx, resolve, hcal, ev, Deferred.ofValue, pure_bind, invoke]
       simp only [Array.empty_append, Array.append_empty]
       exact UX hfn hc.1 hc.2 _ w
    rw [e]
    simp only [Oper.upon_enter]
    refine Calls.mono hret ?_
    rintro e w'' ⟨rfl, rfl⟩
    exact hn
   .exact stp h
  .exact stp h
 unfold DL at h
 cases hg : o.guard with
 | none =>
   rw [hg] at h
   simp only [if_true]
   exact .inl (run h)
 | some p =>
   obtain ⟨j, want⟩ := p
   simp only [hg] at h
   simp only
   by_cases hb : uP g (Ai ops j) want = true
   .rw [if_pos hb]
    simp only [hb, Gd] at h
    exact .inl (run h)
   .rw [if_neg hb]
    have hb' : uP g (Ai ops j) want = false := by simpa using hb
    simp only [hb', Gd] at h
    obtain ⟨rfl, rfl⟩ := h
    exact hn
def RZ (N : Nat) (ops : Array Oper) : Prop := ∀ (i : Nat) (o : Oper), ops[i]? = some o -> ∀ t, o.dst = some t -> t < N
def NJ (P : Program) (ops : Array Oper) : Prop := ∀ (i : Nat) (o : Oper), ops[i]? = some o -> J2 P o = true
theorem Yt {N : Nat} (hd : RZ N ops) (hca : NJ P ops) {Q : Exit -> Act -> anV -> Prop} {K : Env -> anV -> Prop}
 (hQ : ∀ g a w, Lh N g a -> K g w -> Q .normal a w) :
 ∀ (l : List Oper) (k : Nat) (g : Env) (a : Act) (w : anV), (∀ j, l[j]? = ops[k + j]?) -> Lh N g a -> Sg P ops l g w K →
   wpOps P ops Q (List.range' k l.length) a w := by
 intro l
 induction l with
 | nil => intro k g a w _ hr h; exact hQ _ _ _ hr h
 | cons o l ih =>
   intro k g a w hl hr h
   have h0 : ops[k]? = some o := by have := hl 0; simpa using this.symm
   obtain ⟨v, w', hy, hk⟩ := Ic h
   rw [ajK, List.range'_succ, wpOps_cons]
   refine Qq h0 (hca k o h0) hr hy ?_
   refine ih (k + 1) _ _ _ (fun j => ?_) (hr.put _ _ (hd k o h0)) hk
   have := hl (j + 1)
   simp only [aiQ] at this
   rw [this]; congr 1; omega
def Qx (an : XM) (O : Nat -> Oper) (G : Nat -> Env) (W : Nat -> anV) (V : Nat -> anW) (i : Nat) : Rec :=
 ⟨mA i an.1, O i, G i, W i, V i⟩
def XJ (P : Program) (ops : Array Oper) (an : XM) (O : Nat -> Oper) (G : Nat -> Env) (W : Nat -> anV) (V : Nat -> anW) (i j : Nat) : Prop :=
 MK P ops (Qx an O G W V i) (O j) (G j) (W (j + 1)) (V j)
structure Y3 (P : Program) (ops : Array Oper) (an : XM) (g0 : Env) (w0 : anV) (n : Nat) (O : Nat -> Oper) (G : Nat -> Env) (W : Nat -> anV) (V : Nat -> anW) : Prop where
 g0 : G 0 = g0
 w0 : W 0 = w0
 op : ∀ i, i < n -> ops[i]? = some (O i)
 yld : ∀ i, i < n -> QE P ops (G i) (O i) (W i) (V i) (W (i + 1))
 light : ∀ i, i < n -> mA i an.1 = false -> W (i + 1) = W i
 env : ∀ i, i < n -> G (i + 1) = put (G i) (O i).dst (V i)
 chk : ∀ i j, i < j -> j < n -> Sb i j an.2 = true -> XJ P ops an O G W V i j
theorem Ve {o : Oper} {g : Env} {w' : anV} {v : anW} {hist : List Rec} : ∀ {ks : List Nat}, acN P ops o g w' v hist ks -> ∀ k ∈ ks, ∃ q, V2 hist k = some q /\ MK P ops q o g w' v := by
 intro ks
 induction ks with
 | nil => intro _ k hk; cases hk
 | cons a ks ih =>
   rintro ⟨h1, h2⟩ k hk
   rcases akE.1 hk with rfl | hk
   .cases hn : V2 hist k with
    | none => rw [hn] at h1; exact h1.elim
    | some q => rw [hn] at h1; exact ⟨q, rfl, h1⟩
   .exact ih h2 k hk
theorem Yf {n : Nat} {an : XM} {pl : Vu} (h : Sw n an pl = true) {i : Nat} (hi : i < n) :
 ∃ ks, pl[i]? = some (mA i an.1, ks) /\ ∀ j, Sb j i an.2 = true -> j < i /\ (i - 1 - j) ∈ ks := by
 have := akP.1 h i (akD.2 hi)
 cases hp : pl[i]? with
 | none => rw [hp] at this; cases this
 | some p =>
   obtain ⟨hv, ks⟩ := p
   rw [hp] at this
   simp only [ajH] at this
   obtain ⟨h1, h2⟩ := this
   have h1 : hv = mA i an.1 := by simpa using h1
   refine ⟨ks, by rw [h1], fun j hj => ?_⟩
   have mm : ∀ (l : List (Nat × Nat)), Sb j i l = true -> (j, i) ∈ l := by
    intro l
    induction l with
    | nil => intro h; cases h
    | cons q r ih =>
      obtain ⟨a, b⟩ := q
      intro h
      unfold Sb at h
      cases ha : Nat.beq a j with
      | true =>
        simp only [ha] at h
        cases hb : Nat.beq b i with
        | true =>
          obtain rfl := ajW ha
          obtain rfl := ajW hb
          exact akZ
        | false => simp only [hb] at h; exact ajE _ (ih h)
      | false => simp only [ha] at h; exact ajE _ (ih h)
   have := akP.1 h2 (j, i) (mm _ hj)
   simp only [Nat.beq_refl, akS, Bool.false_or, ajH] at this
   refine ⟨?_, by simpa using this.2⟩
   have hlt := this.1
   exact (anH (x := j) (y := i)) ▸ hlt
theorem Wp {an : XM} {pl : Vu} {g0 : Env} {w0 : anV} {K : Env -> anV -> Prop} (hpl : Sw ops.size an pl = true) :
 ∀ (l : List Oper) (m : Nat) (hist : List Rec) (O : Nat -> Oper) (G : Nat -> Env) (W : Nat -> anV) (V : Nat -> anW),
   (∀ j, l[j]? = ops[m + j]?) -> m + l.length = ops.size -> Y3 P ops an g0 w0 m O G W V -> (∀ i, i < m -> V2 hist (m - 1 - i) = some (Qx an O G W V i)) →
   nL P ops l (pl.drop m) hist (G m) (W m) K →
   ∃ (O : Nat -> Oper) (G : Nat -> Env) (W : Nat -> anV) (V : Nat -> anW), Y3 P ops an g0 w0 (m + l.length) O G W V /\ K (G (m + l.length)) (W (m + l.length)) := by
 intro l
 induction l with
 | nil => intro m hist O G W V _ _ hr _ h; exact ⟨O, G, W, V, hr, by unfold nL at h; exact h⟩
 | cons o l ih =>
   intro m hist O G W V hl hlen hr hh h
   have h0 : ops[m]? = some o := by have := hl 0; simpa using this.symm
   have hmn : m < ops.size := by rw [ajK] at hlen; omega
   obtain ⟨ks, hk1, hk2⟩ := Yf hpl hmn
   have hdrop : pl.drop m = (mA m an.1, ks) :: pl.drop (m + 1) := by
    have hlt : m < pl.length := by
     rcases ajI m pl.length with h | h
     .exact h
     .rw [ajJ h] at hk1; cases hk1
    rw [akA hlt]
    rw [aiN hlt] at hk1
    rw [ajG hk1]
   rw [hdrop] at h
   obtain ⟨v, w', hy, hk⟩ := Ic h
   have key : (mA m an.1 = false -> w' = W m) /\ (∀ k ∈ ks, ∃ q, V2 hist k = some q /\ MK P ops q o (G m) w' v) /\
       (nL P ops l (pl.drop (m + 1)) (⟨mA m an.1, o, G m, W m, v⟩ :: hist) (put (G m) o.dst v) w' K) := by
    have nil : ∀ w', ∀ k ∈ ([] : List Nat), ∃ q, V2 hist k = some q /\ MK P ops q o (G m) w' v := fun _ k hk => (by cases hk)
    cases hm : mA m an.1 with
    | true =>
      rw [hm] at hk
      cases ks with
      | nil => exact ⟨fun e => (by cases e), nil _, hk⟩
      | cons k ks => exact ⟨fun e => (by cases e), Ve hk.1, hk.2⟩
    | false =>
      rw [hm] at hk
      cases ks with
      | nil => obtain ⟨rfl, hk⟩ := hk; exact ⟨fun _ => rfl, nil _, hk⟩
      | cons k ks => obtain ⟨rfl, hc, hk⟩ := hk; exact ⟨fun _ => rfl, Ve hc, hk⟩
   obtain ⟨kl, c1, c2⟩ := key
   let O' : Nat -> Oper := fun i => if i = m then o else O i
   let V' : Nat -> anW := fun i => if i = m then v else V i
   let G' : Nat -> Env := fun i => if i = m + 1 then put (G m) o.dst v else G i
   let W' : Nat -> anV := fun i => if i = m + 1 then w' else W i
   have eO : ∀ i, i < m -> O' i = O i := fun i hi => if_neg (by omega)
   have eV : ∀ i, i < m -> V' i = V i := fun i hi => if_neg (by omega)
   have eG : ∀ i, i <= m -> G' i = G i := fun i hi => if_neg (by omega)
   have eW : ∀ i, i <= m -> W' i = W i := fun i hi => if_neg (by omega)
   have oO : O' m = o := if_pos rfl
   have oV : V' m = v := if_pos rfl
   have oG : G' (m + 1) = put (G m) o.dst v := if_pos rfl
   have oW : W' (m + 1) = w' := if_pos rfl
   have eR : ∀ i, i < m -> Qx an O' G' W' V' i = Qx an O G W V i := fun i hi => by
    simp only [Qx, eO i hi, eV i hi, eG i (by omega), eW i (by omega)]
   have hr' : Y3 P ops an g0 w0 (m + 1) O' G' W' V' := by
    refine ⟨by rw [eG 0 (by omega)]; exact hr.g0, by rw [eW 0 (by omega)]; exact hr.w0, fun i hi => ?_, fun i hi => ?_, fun i hi hm => ?_, fun i hi => ?_, fun i j hij hj hm => ?_⟩
    .by_cases hi' : i = m
     .subst hi'; rw [oO]; exact h0
     .rw [eO i (by omega)]; exact hr.op i (by omega)
    .by_cases hi' : i = m
     .subst hi'; rw [oO, oV, oW, eG i (by omega), eW i (by omega)]; exact hy
     .rw [eO i (by omega), eV i (by omega), eG i (by omega), eW i (by omega), eW (i + 1) (by omega)]; exact hr.yld i (by omega)
    .by_cases hi' : i = m
     .subst hi'; rw [oW, eW i (by omega)]; exact kl hm
     .rw [eW i (by omega), eW (i + 1) (by omega)]; exact hr.light i (by omega) hm
    .by_cases hi' : i = m
     .subst hi'; rw [oO, oV, oG, eG i (by omega)]
     .rw [eO i (by omega), eV i (by omega), eG i (by omega), eG (i + 1) (by omega)]; exact hr.env i (by omega)
    .unfold XJ
     by_cases hj' : j = m
     .subst hj'
      rw [eR i (by omega), oO, oV, oW, eG j (by omega)]
      obtain ⟨q, hq, hc⟩ := c1 _ (hk2 i hm).2
      rw [hh i hij] at hq
      obtain rfl := ajG hq
      exact hc
     .rw [eR i (by omega), eO j (by omega), eV j (by omega), eG j (by omega), eW (j + 1) (by omega)]
      exact hr.chk i j hij (by omega) hm
   have := ih (m + 1) (⟨mA m an.1, o, G m, W m, v⟩ :: hist) O' G' W' V' (fun j => by
       have := hl (j + 1)
       simp only [aiQ] at this
       rw [this]; congr 1; omega) (by rw [ajK] at hlen; omega) hr' (fun i hi => by
       by_cases hi' : i = m
       .subst hi'
        rw [show i + 1 - 1 - i = 0 from by omega]
        simp only [V2, Qx, oO, oV, eG i (by omega), eW i (by omega)]
       .rw [eR i (by omega), show m + 1 - 1 - i = (m - 1 - i) + 1 from by omega]
        exact hh i (by omega)) (by rw [oG, oW]; exact c2)
   rw [ajK, show m + (l.length + 1) = m + 1 + l.length from by omega]
   exact this
end
section
variable {P : Program} {ops : Array Oper} {an : XM} {g0 : Env} {w0 : anV} {O : Nat -> Oper} {G : Nat -> Env} {W : Nat -> anV} {V : Nat -> anW}
def It (n : Nat) (O : Nat -> Oper) (V : Nat -> anW) (g0 : Env) (S : Nat -> Prop) (g : Env) : Prop :=
 ∀ s, (∃ j, j < n /\ S j /\ (O j).dst = some s /\ (∀ k, k < n -> S k -> (O k).dst = some s -> k <= j) /\ g s = V j) ∨
   ((∀ j, j < n -> S j -> (O j).dst ≠ some s) /\ g s = g0 s)
theorem It.agree {n : Nat} {S T : Nat -> Prop} {g g' : Env} (h : It n O V g0 S g) (h' : It n O V g0 T g') (s : Nat)
 (hs : ∀ j, j < n -> (O j).dst = some s -> (S j ↔ T j)) : g s = g' s := by
 rcases h s with ⟨j, h1, h2, h3, h4, h5⟩ | ⟨h1, h2⟩ <;> rcases h' s with ⟨k, k1, k2, k3, k4, k5⟩ | ⟨k1, k2⟩
 .have a := h4 k k1 ((hs k k1 k3).2 k2) k3
  have b := k4 j h1 ((hs j h1 h3).1 h2) h3
  have : j = k := by omega
  subst this; rw [h5, k5]
 .exact absurd h3 (k1 j h1 ((hs j h1 h3).1 h2))
 .exact absurd k3 (h1 k k1 ((hs k k1 k3).2 k2))
 .rw [h2, k2]
theorem It.step {n : Nat} {S : Nat -> Prop} {g : Env} (h : It n O V g0 S g) (i : Nat) (hi : i < n)
 (hw : ∀ s, (O i).dst = some s -> ∀ j, j < n -> j ≠ i -> (O j).dst = some s -> S j -> j < i) :
 It n O V g0 (fun j => S j ∨ j = i) (put g (O i).dst (V i)) := by
 intro s
 cases hd : (O i).dst with
 | none =>
   rcases h s with ⟨j, h1, h2, h3, h4, h5⟩ | ⟨h1, h2⟩
   .refine .inl ⟨j, h1, .inl h2, h3, fun k k1 k2 k3 => ?_, h5⟩
    rcases k2 with k2 | rfl
    .exact h4 k k1 k2 k3
    .rw [hd] at k3; cases k3
   .refine .inr ⟨fun j h3 h4 h5 => ?_, h2⟩
    rcases h4 with h4 | rfl
    .exact h1 j h3 h4 h5
    .rw [hd] at h5; cases h5
 | some t =>
   rw [Sm]
   by_cases hst : s = t
   .subst hst
    rw [if_pos rfl]
    refine .inl ⟨i, hi, .inr rfl, hd, fun k k1 k2 k3 => ?_, rfl⟩
    rcases k2 with k2 | rfl
    .by_cases hk : k = i
     .omega
     .have := hw s hd k k1 hk k3 k2; omega
    .omega
   .rw [if_neg hst]
    rcases h s with ⟨j, h1, h2, h3, h4, h5⟩ | ⟨h1, h2⟩
    .refine .inl ⟨j, h1, .inl h2, h3, fun k k1 k2 k3 => ?_, h5⟩
     rcases k2 with k2 | rfl
     .exact h4 k k1 k2 k3
     .rw [hd] at k3; exact absurd (ajG k3).symm hst
    .refine .inr ⟨fun j h3 h4 h5 => ?_, h2⟩
     rcases h4 with h4 | rfl
     .exact h1 j h3 h4 h5
     .rw [hd] at h5; exact absurd (ajG h5).symm hst
theorem Y3.envFor {n : Nat} (r : Y3 P ops an g0 w0 n O G W V) : ∀ i, i <= n -> It n O V g0 (fun j => j < i) (G i) := by
 intro i
 induction i with
 | zero => intro _ s; exact .inr ⟨fun j _ h => absurd h (by omega), by rw [r.g0]⟩
 | succ i ih =>
   intro hi
   have h := ih (by omega)
   have := h.step (V := V) i (by omega) (fun s _ j _ _ _ hj => hj)
   rw [<- r.env i (by omega)] at this
   intro s
   rcases this s with ⟨j, h1, h2, h3, h4, h5⟩ | ⟨h1, h2⟩
   .exact .inl ⟨j, h1, by omega, h3, fun k k1 k2 k3 => h4 k k1 (by omega) k3, h5⟩
   .exact .inr ⟨fun j a b => h1 j a (by omega), h2⟩
theorem Y3.still {n : Nat} (r : Y3 P ops an g0 w0 n O G W V) (i : Nat) : ∀ d, i + d <= n -> (∀ h, i <= h -> h < i + d -> mA h an.1 = false) -> W (i + d) = W i := by
 intro d
 induction d with
 | zero => intro _ _; rfl
 | succ d ih =>
   intro h1 h2
   rw [<- alL, r.light (i + d) (by omega) (h2 _ (by omega) (by omega))]
   exact ih (by omega) (fun h a b => h2 h a (by omega))
theorem Y3.still' {n : Nat} (r : Y3 P ops an g0 w0 n O G W V) {i k : Nat} (hik : i <= k) (hk : k <= n) (hh : ∀ h, i <= h -> h < k -> mA h an.1 = false) : W k = W i := by
 have := r.still i (k - i) (by omega) (fun h a b => hh h a (by omega))
 rwa [show i + (k - i) = k from by omega] at this
theorem VO {i k : Nat} : (∃ h, i <= h /\ h < k /\ mA h an.1 = true) -> ∃ h, i <= h /\ h < k /\ mA h an.1 = true /\ ∀ h', i <= h' -> h' < h -> mA h' an.1 = false := by
 rintro ⟨h, h1, h2, h3⟩
 induction h using Nat.strongRecOn with
 | _ h ih =>
   by_cases hx : ∃ h', i <= h' /\ h' < h /\ mA h' an.1 = true
   .obtain ⟨h', a, b, c⟩ := hx
    exact ih h' b a (by omega) c
   .refine ⟨h, h1, h2, h3, fun h' a b => ?_⟩
    cases hm : mA h' an.1
    .rfl
    .exact absurd ⟨h', a, b, hm⟩ hx
theorem Sn {i k : Nat} : (∃ h, i <= h /\ h < k /\ mA h an.1 = true) -> ∃ h, i <= h /\ h < k /\ mA h an.1 = true /\ ∀ h', h < h' -> h' < k -> mA h' an.1 = false := by
 rintro ⟨h, h1, h2, h3⟩
 induction hd : k - h using Nat.strongRecOn generalizing h with
 | _ d ih =>
   by_cases hx : ∃ h', h < h' /\ h' < k /\ mA h' an.1 = true
   .obtain ⟨h', a, b, c⟩ := hx
    exact ih (k - h') (by omega) h' (by omega) b c rfl
   .refine ⟨h, h1, h2, h3, fun h' a b => ?_⟩
    cases hm : mA h' an.1
    .rfl
    .exact absurd ⟨h', a, b, hm⟩ hx
structure SM (ops : Array Oper) (an : XM) (O : Nat -> Oper) (b : Array Nat) : Prop where
 back : ∀ i, i < ops.size -> ∀ e ∈ (O i).after, Region.binds .any e = true -> e.on < i
 closed : ∀ i j, i < ops.size -> j < ops.size -> Y4 b i j = true -> ∃ e ∈ (O j).after, Region.binds .any e = true /\ (e.on = i ∨ Y4 b i e.on = true)
 pair : ∀ i j, i < j -> j < ops.size -> Ka ops b an i j (O i) (O j) = true
 sel : ∀ i, i < ops.size -> VE (O i) = false
 fn : ∀ i, i < ops.size -> Za (O i) = true -> mA i an.1 = true
theorem Ys (h : RY ops an = true) (ho : ∀ i, i < ops.size -> ops[i]? = some (O i)) : SM ops an O (Region.before ops) := by
 unfold RY at h
 simp only [ajH] at h
 obtain ⟨⟨⟨⟨h1, h2⟩, h3⟩, h5⟩, h6⟩ := h
 refine ⟨fun i hi e he hb => ?_, fun i j hi hj hb => ?_, fun i j hij hj => ?_, fun i hi => ?_, fun i hi hf => ?_⟩
 .unfold T1 at h1
  have := akP.1 h1 i (akD.2 hi)
  rw [ho i hi] at this
  have := alA.1 this e he
  simp only [hb, akS, Bool.false_or] at this
  exact (anH (x := e.on) (y := i)) ▸ this
 .unfold TM at h2
  have := akP.1 (akP.1 h2 j (akD.2 hj)) i (akD.2 hi)
  rw [ho j hj] at this
  simp only [hb, akS, Bool.false_or] at this
  obtain ⟨e, he, h⟩ := Array.any_eq_true'.1 this
  simp only [ajH, alI] at h
  refine ⟨e, he, h.1, h.2.imp (fun h => ajW h) id⟩
 .unfold V6 at h3
  have := akP.1 (akP.1 h3 j (akD.2 hj)) i (akD.2 hij)
  rw [ho i (by omega), ho j hj] at this
  exact this
 .have := alA.1 h5 (O i) (anO (ho i hi))
  simpa using this
 .have := akP.1 h6 i (akD.2 hi)
  rw [ho i hi] at this
  simpa [hf] using this
theorem aaK {i j : Nat} : ∀ {l : List (Nat × Nat)}, Sb i j l = true -> (i, j) ∈ l := by
 intro l
 induction l with
 | nil => intro h; cases h
 | cons p r ih =>
   obtain ⟨a, b⟩ := p
   intro h
   unfold Sb at h
   cases ha : Nat.beq a i with
   | true =>
     simp only [ha] at h
     cases hb : Nat.beq b j with
     | true =>
       obtain rfl := ajW ha
       obtain rfl := ajW hb
       exact akZ
     | false => simp only [hb] at h; exact ajE _ (ih h)
   | false => simp only [ha] at h; exact ajE _ (ih h)
theorem SM.order {b : Array Nat} (st : SM ops an O b) {S : Nat -> Prop} {i : Nat} (hi : i < ops.size)
 (hdown : ∀ j k, j < ops.size -> k < ops.size -> S k -> Y4 b j k = true -> S j) (hbi : ∀ j, j < ops.size -> Y4 b j i = true -> S j) (hni : ¬ S i)
 {s : Nat} (hs : s ∈ looks ops (O i) ∨ (O i).dst = some s) {j : Nat} (hj : j < ops.size) (hji : j ≠ i) (hd : (O j).dst = some s) : S j ↔ j < i := by
 rcases ajI j i with h | h
 .refine ⟨fun _ => h, fun _ => ?_⟩
  have p := st.pair j i h hi
  unfold Ka at p
  simp only [alI, ajH, amH] at p
  rcases p with p | p
  .exact hbi j hj p
  .exfalso
   have p1 := p.1
   unfold ZZ at p1
   simp only [hd, amZ] at p1
   rcases hs with hs | hs
   .have := p1.1.1; simp [hs] at this
   .have := p1.1.2; simp [hs] at this
 .have h' : i < j := by omega
  refine ⟨fun hS => ?_, fun hh => by omega⟩
  exfalso
  have p := st.pair i j h' hj
  unfold Ka at p
  simp only [alI, ajH, amH] at p
  rcases p with p | p
  .exact hni (hdown i j hi hj hS p)
  .have p1 := p.1
   unfold ZZ at p1
   simp only [hd, amZ] at p1
   rcases hs with hs | hs
   .have := p1.2; simp [hs] at this
   .have := p1.1; rw [hs] at this; simp at this
theorem GD {g g' : Env} {o : Oper} (h : ∀ s ∈ looks ops o, g s = g' s) : ∀ x ∈ o.op.operands, ev g x = ev g' x := by
 intro x hx
 cases x with
 | tmp t => exact h t (alZ _ (List.mem_filterMap.2 ⟨.tmp t, by simpa using hx, rfl⟩))
 | _ => rfl
theorem Vk {g g' : Env} {o : Oper} (hs : VE o = false) (h : ∀ s ∈ looks ops o, g s = g' s) : GK g o = GK g' o := by
 have e := execOp_congr o (fun cs b he => by simp [VE, he] at hs) (GD h)
 have k := GD h
 unfold GK
 split
 .rename_i op t x y yt hx
  rw [k x (by simp [hx, Op.operands]), k y (by simp [hx, Op.operands])]
 .rename_i t ps hx
  congr 1
  refine alP fun p hp => ?_
  rw [k p.2 (by simp [hx, Op.operands]; exact ⟨p.1, by simpa using hp⟩)]
 .rename_i t n ps hx
  congr 1
  refine alP fun p hp => ?_
  rw [k p.2 (by simp [hx, Op.operands]; exact ⟨p.1, by simpa using hp⟩)]
 .rename_i c hx
  split
  .rename_i b hb
   congr 1
   refine alP fun p hp => ?_
   exact k p (by simp [hx, Op.operands, Call.operands, hb]; simpa using hp)
  .exact e
 .exact e
theorem Tm {g g' : Env} {o : Oper} {j : Nat} {want : Bool} (hg : o.guard = some (j, want)) (h : ∀ s ∈ looks ops o, g s = g' s) :
 uP g (Ai ops j) want = uP g' (Ai ops j) want := by
 cases hs : Ai ops j with
 | none => rfl
 | some t =>
   have := h t (amU _ (by simp [hg, hs]))
   simp [uP, this]
theorem NQ {g g' : Env} {o : Oper} {w : anV} {K : anW -> anV -> Prop} (hs : VE o = false) (h : ∀ s ∈ looks ops o, g s = g' s)
 (hk : DL P ops g o w K) : DL P ops g' o w K := by
 have e := Vk (ops := ops) hs h
 have run : EL P g o w = EL P g' o w := by
  funext K
  unfold EL
  split
  .rename_i x hx
   have := GD (ops := ops) h x (by simp [hx, Op.operands])
   rw [this]
  .rename_i x hx
   have := GD (ops := ops) h x (by simp [hx, Op.operands])
   rw [this]
  .rename_i c hx
   have k := GD h
   have : List.map (ev g) c.args.toList = List.map (ev g') c.args.toList := alP fun p hp => k p (by simp [hx, Op.operands, Call.operands]; exact .inr (by simpa using hp))
   rw [this, e]
  .rw [e]
 unfold DL at *
 cases hg : o.guard with
 | none => rw [hg] at hk; simp only at hk ⊢; rwa [<- run]
 | some p =>
   obtain ⟨j, want⟩ := p
   simp only [hg] at hk ⊢
   rw [<- run, <- Tm hg h]
   exact hk
theorem Wk {n : Nat} (hn : n = ops.size) {b : Array Nat} (r : Y3 P ops an g0 w0 n O G W V) (st : SM ops an O b) {S : Nat -> Prop} {i k : Nat} (hi : i < n) (hk : k <= n)
 (hdown : ∀ j k, j < ops.size -> k < ops.size -> S k -> Y4 b j k = true -> S j) (hbi : ∀ j, j < ops.size -> Y4 b j i = true -> S j) (hni : ¬ S i)
 (hS : ∀ h, h < n -> mA h an.1 = true -> (S h ↔ h < k)) (hl : mA i an.1 = false) :
 QE P ops (G i) (O i) (W k) (V i) (W k) := by
 subst hn
 have same : Gs (gOf ops (O i) (G i)) (eE P (GK (G i) (O i)) (V i) (W k)) -> Ia (O i) = false -> QE P ops (G i) (O i) (W k) (V i) (W k) := by
  intro hs hm K hK
  have run : eE P (GK (G i) (O i)) (V i) (W k) -> EL P (G i) (O i) (W k) K := by
   intro hs
   unfold eE at hs
   have stp : aC P (GK (G i) (O i)) (W k) K := by unfold aC; rw [hs]; exact hK
   unfold EL
   split
   .rename_i x hx; simp [Ia, hx] at hm
   .rename_i x hx; simp [Ia, hx] at hm
   .rename_i c hx
    have hf : Za (O i) = false := by
     cases hh : Za (O i)
     .rfl
     .rw [st.fn i hi hh] at hl; cases hl
    obtain ⟨cal, cargs, cats⟩ := c
    cases cal with
    | value f =>
      cases f with
      | func f => simp [Za, hx] at hf
      | _ => exact stp
    | _ => exact stp
   .exact stp
  have hy := r.yld i hi (fun v _ => v = V i) rfl
  unfold DL at hy ⊢
  unfold gOf at hs
  cases hg : (O i).guard with
  | none => rw [hg] at hs; exact run hs
  | some p =>
    obtain ⟨j, want⟩ := p
    rw [hg] at hs
    simp only [hg] at hs hy ⊢
    cases hb : uP (G i) (Ai ops j) want with
    | true => rw [hb] at hs; exact run hs
    | false =>
      rw [hb] at hy
      have : undef = V i := hy
      show K undef (W k)
      rw [this]; exact hK
 have moved : Ia (O i) = true -> QE P ops (G i) (O i) (W k) (V i) (W k) := by
  intro hm K hK
  have hy := r.yld i hi (fun v _ => v = V i) rfl
  unfold DL at hy ⊢
  have mv : ∀ (K' : anW -> anV -> Prop) w, EL P (G i) (O i) w K' ↔ ∃ x, ((O i).op = .move x ∨ (O i).op = .assign x) /\ K' (ev (G i) x) w := by
   intro K' w
   unfold EL
   unfold Ia at hm
   split
   .rename_i x hx; constructor
    .intro h; exact ⟨x, .inl hx, h⟩
    .rintro ⟨y, h | h, h'⟩
     .rw [hx] at h; cases h; exact h'
     .rw [hx] at h; cases h
   .rename_i x hx; constructor
    .intro h; exact ⟨x, .inr hx, h⟩
    .rintro ⟨y, h | h, h'⟩
     .rw [hx] at h; cases h
     .rw [hx] at h; cases h; exact h'
   .rename_i c hx; simp [hx] at hm
   .rename_i h1 h2 _; split at hm
    .rename_i x hx; exact absurd hx (h1 x)
    .rename_i x hx; exact absurd hx (h2 x)
    .cases hm
  cases hg : (O i).guard with
  | none =>
    rw [hg] at hy
    simp only at hy ⊢
    rw [mv] at hy ⊢
    obtain ⟨x, hx, h⟩ := hy
    exact ⟨x, hx, h ▸ hK⟩
  | some p =>
    obtain ⟨j, want⟩ := p
    simp only [hg] at hy ⊢
    unfold Gd at *
    cases hb : uP (G i) (Ai ops j) want with
    | true =>
      simp only [hb] at hy ⊢
      rw [mv] at hy ⊢
      obtain ⟨x, hx, h⟩ := hy
      exact ⟨x, hx, h ▸ hK⟩
    | false =>
      simp only [hb] at hy ⊢
      rwa [hy]
 rcases Nat.le_total k i with hki | hki
 .by_cases hx : ∃ h, k <= h /\ h < i /\ mA h an.1 = true
  .obtain ⟨h, h1, h2, h3, h4⟩ := VO hx
   have e : W h = W k := r.still' h1 (by omega) h4
   have p := st.pair h i h2 hi
   unfold Ka at p
   simp only [alI, ajH, amH] at p
   rcases p with p | p
   .have := hbi h (by omega) p
    have := (hS h (by omega) h3).1 this
    omega
   .have p2 := p.2
    rw [h3, hl] at p2
    simp only [alI] at p2
    cases hmv : Ia (O i) with
    | true => exact moved hmv
    | false =>
      rcases p2 with p2 | p2
      .rw [hmv] at p2; cases p2
      .refine same ?_ hmv
       have c := r.chk h i h2 hi p2
       unfold XJ MK Qx at c
       simp only [h3] at c
       rw [<- e]; exact c
  .have e : W i = W k := r.still' hki (by omega) (fun h a b => by
    cases hm : mA h an.1
    .rfl
    .exact absurd ⟨h, a, b, hm⟩ hx)
   have hy := r.yld i hi
   rw [r.light i hi hl, e] at hy
   exact hy
 .by_cases hx : ∃ h, i <= h /\ h < k /\ mA h an.1 = true
  .obtain ⟨h, h1, h2, h3, h4⟩ := Sn hx
   have hne : h ≠ i := fun e => by rw [e, hl] at h3; cases h3
   have e : W k = W (h + 1) := r.still' (by omega) hk (fun h' a b => h4 h' (by omega) b)
   have p := st.pair i h (by omega) (by omega)
   unfold Ka at p
   simp only [alI, ajH, amH] at p
   rcases p with p | p
   .exact absurd (hdown i h (by omega) (by omega) ((hS h (by omega) h3).2 h2) p) hni
   .have p2 := p.2
    rw [h3, hl] at p2
    simp only [alI] at p2
    cases hmv : Ia (O i) with
    | true => exact moved hmv
    | false =>
      rcases p2 with p2 | p2
      .rw [hmv] at p2; cases p2
      .refine same ?_ hmv
       have c := r.chk i h (by omega) (by omega) p2
       unfold XJ MK Qx at c
       simp only [hl] at c
       rw [e]; exact c
  .have e : W k = W i := r.still' hki hk (fun h a b => by
    cases hm : mA h an.1
    .rfl
    .exact absurd ⟨h, a, b, hm⟩ hx)
   have hy := r.yld i hi
   rw [r.light i hi hl, <- e] at hy
   exact hy
def iZ (listed : Array Bool) (i : Nat) : Prop := listed.getD i false = true
theorem ZA {N n : Nat} (hn : n = ops.size) (hd : RZ N ops) (hca : NJ P ops) {b : Array Nat} (r : Y3 P ops an g0 w0 n O G W V) (st : SM ops an O b)
 {Q : Exit -> Act -> anV -> Prop} (hQ : ∀ a, Lh N (G n) a -> Q .normal a (W n)) :
 ∀ (fuel : Nat) (listed : Array Bool) (g : Env) (a : Act) (k : Nat), listed.size = n -> Lh N g a -> k <= n →
   (∀ j, j < n -> iZ listed j -> ∀ e ∈ (O j).after, Region.binds .any e = true -> iZ listed e.on) →
   It n O V g0 (iZ listed) g -> (∀ h, h < n -> mA h an.1 = true -> (iZ listed h ↔ h < k)) →
   ((List.range n).filter fun i => !listed.getD i false).length <= fuel →
   wpAny P .any ops Q fuel listed a (W k) := by
 subst hn
 have ready_iff : ∀ (listed : Array Bool), listed.size = ops.size -> ∀ i, i ∈ Region.ready .any ops listed ↔ (i < ops.size /\ ¬ iZ listed i /\ ∀ e ∈ (O i).after, Region.binds .any e = true -> iZ listed e.on) := by
  intro listed hsz i
  unfold Region.ready iZ
  rw [anQ, akD]
  constructor
  .rintro ⟨h1, h2⟩
   rw [r.op i h1] at h2
   simp only [ajH, akB, anM] at h2
   refine ⟨h1, ?_, fun e he hb => ?_⟩
   .have := h2.1
    rw [ajC] at this ⊢
    rw [ajQ (by omega)] at this ⊢
    simpa using this
   .have := alA.1 h2.2 e he
    simpa [hb] using this
  .rintro ⟨h1, h2, h3⟩
   refine ⟨h1, ?_⟩
   rw [r.op i h1]
   simp only [ajH, akB, anM]
   refine ⟨?_, alA.2 fun e he => ?_⟩
   .rw [ajC] at h2 ⊢
    rw [ajQ (by omega)] at h2 ⊢
    simpa using h2
   .by_cases hb : Region.binds .any e = true
    .simp [hb, h3 e he hb]
    .simp [hb]
 have none_ready : ∀ (listed : Array Bool), listed.size = ops.size -> Region.ready .any ops listed = [] -> ∀ i, i < ops.size -> iZ listed i := by
  intro listed hsz hr i
  induction i using Nat.strongRecOn with
  | _ i ih =>
    intro hi
    refine Classical.byContradiction fun hl => ?_
    have : i ∈ Region.ready .any ops listed := (ready_iff listed hsz i).2 ⟨hi, hl, fun e he hb => by
     have := st.back i hi e he hb
     exact ih e.on this (by omega)⟩
    rw [hr] at this; cases this
 have all_done : ∀ (listed : Array Bool) (g : Env) (a : Act) (k : Nat), Lh N g a -> k <= ops.size -> It ops.size O V g0 (iZ listed) g →
     (∀ h, h < ops.size -> mA h an.1 = true -> (iZ listed h ↔ h < k)) -> (∀ i, i < ops.size -> iZ listed i) -> Q .normal a (W k) := by
  intro listed g a k hr hk he hh hall
  have e : W ops.size = W k := r.still' hk (aiU _) (fun h h1 h2 => by
   cases hm : mA h an.1
   .rfl
   .have := (hh h h2 hm).1 (hall h h2); omega)
  have eg : g = G ops.size := funext fun s => he.agree (r.envFor ops.size (aiU _)) s (fun j hj _ => ⟨fun _ => hj, fun _ => hall j hj⟩)
  rw [<- e]; exact hQ a (eg ▸ hr)
 intro fuel
 induction fuel with
 | zero =>
   intro listed g a k hsz hr hk hdep henv hh hc
   have hall : ∀ i, i < ops.size -> iZ listed i := by
    intro i hi
    have hnil : ((List.range ops.size).filter fun i => !listed.getD i false) = [] := ajV.1 (by omega)
    have := List.filter_eq_nil_iff.1 hnil i (akD.2 hi)
    unfold iZ; simpa using this
   refine ⟨?_, all_done listed g a k hr hk henv hh hall⟩
   rw [List.eq_nil_iff_forall_not_mem]
   intro i hi
   have := (ready_iff listed hsz i).1 hi
   exact this.2.1 (hall i this.1)
 | succ fuel ih =>
   intro listed g a k hsz hr hk hdep henv hh hc
   refine ⟨fun hn => all_done listed g a k hr hk henv hh (none_ready listed hsz hn), fun i hi => ?_⟩
   obtain ⟨h1, h2, h3⟩ := (ready_iff listed hsz i).1 hi
   have hdown : ∀ k j, j < ops.size -> k < ops.size -> iZ listed k -> Y4 b j k = true -> iZ listed j := by
    intro k
    induction k using Nat.strongRecOn with
    | _ k ihk =>
      intro j hj hk hl hb
      obtain ⟨e, he, hbi, h⟩ := st.closed j k hj hk hb
      have hle := hdep k hk hl e he hbi
      rcases h with h | h
      .exact h ▸ hle
      .have hlt := st.back k hk e he hbi
       exact ihk e.on hlt j hj (by omega) hle h
   have hbi : ∀ j, j < ops.size -> Y4 b j i = true -> iZ listed j := by
    intro j hj hb
    obtain ⟨e, he, hbi, h⟩ := st.closed j i hj h1 hb
    have hle := h3 e he hbi
    rcases h with h | h
    .exact h ▸ hle
    .have hlt := st.back i h1 e he hbi
     exact hdown e.on j hj (by omega) hle h
   have hdown' : ∀ j k, j < ops.size -> k < ops.size -> iZ listed k -> Y4 b j k = true -> iZ listed j := fun j k => hdown k j
   have hlooks : ∀ s ∈ looks ops (O i), (G i) s = g s := fun s hs =>
    (r.envFor i (by omega)).agree henv s (fun j hj hd => by
      by_cases hji : j = i
      .subst hji
       exact ⟨fun h => absurd h (by omega), fun h => absurd h h2⟩
      .exact (st.order h1 hdown' hbi h2 (.inl hs) hj hji hd).symm)
   have hl' : ∀ j, iZ (listed.setIfInBounds i true) j ↔ (iZ listed j ∨ j = i) := by
    intro j
    unfold iZ
    rw [ajC, ajC]
    by_cases hji : j = i
    .subst hji
     rw [akL (by omega)]
     simp
    .rw [akR (fun e => hji e.symm)]
     simp [hji]
   have next : ∀ k', k' <= ops.size -> (∀ h, h < ops.size -> mA h an.1 = true -> ((iZ listed h ∨ h = i) ↔ h < k')) -> QE P ops g (O i) (W k) (V i) (W k') →
       wpOp P ops Q i (wpAny P .any ops Q fuel (listed.setIfInBounds i true)) a (W k) := by
    intro k' hk' hh' hy
    refine Qq (r.op i h1) (hca i _ (r.op i h1)) hr hy ?_
    refine ih _ (put g (O i).dst (V i)) _ k' (by simp [hsz]) (hr.put _ _ (hd i _ (r.op i h1))) hk' ?_ ?_ ?_ ?_
    .intro j hj hlj e he hb
     rw [hl'] at hlj ⊢
     rcases hlj with hlj | rfl
     .exact .inl (hdep j hj hlj e he hb)
     .exact .inl (h3 e he hb)
    .have := henv.step i h1 (fun s hs j hj hji hd hlj => (st.order h1 hdown' hbi h2 (.inr hs) hj hji hd).1 hlj)
     intro s
     rcases this s with ⟨j, j1, j2, j3, j4, j5⟩ | ⟨j1, j2⟩
     .exact .inl ⟨j, j1, (hl' j).2 j2, j3, fun k k1 k2 k3 => j4 k k1 ((hl' k).1 k2) k3, j5⟩
     .exact .inr ⟨fun j a b => j1 j a ((hl' j).1 b), j2⟩
    .intro h a b; rw [hl']; exact hh' h a b
    .have hin : i ∈ (List.range ops.size).filter fun i => !listed.getD i false :=
      anQ.2 ⟨akD.2 h1, by unfold iZ at h2; simpa using h2⟩
     have e1 : ((List.range ops.size).filter fun j => !(listed.setIfInBounds i true).getD j false) = ((List.range ops.size).filter fun j => !listed.getD j false).filter fun j => j != i := by
      rw [List.filter_filter]
      refine List.filter_congr fun j _ => ?_
      have := hl' j
      unfold iZ at this
      by_cases hji : j = i
      .have hh : (listed.setIfInBounds i true).getD j false = true := this.2 (.inr hji)
       rw [hh, hji]; simp
      .have hne : (j != i) = true := by simpa using hji
       rw [hne, Bool.true_and]
       cases ha : listed.getD j false with
       | true => rw [this.2 (.inl ha)]
       | false =>
         cases hb : (listed.setIfInBounds i true).getD j false with
         | false => rfl
         | true => rcases this.1 hb with h | h
                   .rw [ha] at h; cases h
                   .exact absurd h hji
     have hnd : ((List.range ops.size).filter fun j => !listed.getD j false).Nodup := List.nodup_range.filter _
     rw [e1, <- List.Nodup.erase_eq_filter hnd, anE hin]
     omega
   cases hm : mA i an.1 with
   | true =>
     have hS : ∀ h, h < ops.size -> mA h an.1 = true -> (iZ listed h ↔ h < i) := by
      intro h hh1 hhm
      rcases amD h i with hlt | heq | hgt
      .refine ⟨fun _ => hlt, fun _ => ?_⟩
       have p := st.pair h i hlt h1
       unfold Ka at p
       rw [hhm, hm] at p
       simp only [alI, ajH, aiS, and_false, or_false] at p
       exact hbi h hh1 p
      .subst heq; exact ⟨fun hh => absurd hh h2, fun hh => absurd hh (by omega)⟩
      .refine ⟨fun hl => ?_, fun hh => absurd hh (by omega)⟩
       have p := st.pair i h hgt hh1
       unfold Ka at p
       rw [hhm, hm] at p
       simp only [alI, ajH, aiS, and_false, or_false] at p
       exact absurd (hdown h i h1 hh1 hl p) h2
     have eW : W k = W i := by
      rcases Nat.le_total k i with hki | hki
      .exact (r.still' hki (by omega) (fun h a b => by
        cases hx : mA h an.1
        .rfl
        .have := (hh h (by omega) hx).1 ((hS h (by omega) hx).2 b); omega)).symm
      .exact r.still' hki hk (fun h a b => by
        cases hx : mA h an.1
        .rfl
        .have := (hS h (by omega) hx).1 ((hh h (by omega) hx).2 b); omega)
     refine next (i + 1) (by omega) (fun h a b => ?_) ?_
     .rw [hS h a b]; omega
     .rw [eW]
      intro K hK
      exact NQ (ops := ops) (st.sel i h1) hlooks (r.yld i h1 K hK)
   | false =>
     refine next k hk (fun h a b => ?_) ?_
     .rw [<- hh h a b]
      constructor
      .rintro (h' | rfl)
       .exact h'
       .rw [hm] at b; cases b
      .exact .inl
     .intro K hK
      exact NQ (ops := ops) (st.sel i h1) hlooks (Wk rfl r st h1 hk hdown' hbi h2 hh hm K hK)
end
def WV (P : Program) (f : FuncId) (c : Code) (Q : Exit -> Act -> anV -> Prop) (a : Act) (w : anV) : Prop :=
 ∀ (b : Frame) (k : List Item) (cs : List Frame), b.fn = f -> ∃ e a' w', Q e a' w' /\ Arrives P (lone (b.at a (.code c :: k)) cs w) b k cs e a' w'
section
variable {P : Program} {f : FuncId} {Q : Exit -> Act -> anV -> Prop} {a : Act} {w : anV}
theorem Si {c : Code} (h : c.wp P Q a w) : WV P f c Q a w := fun b k cs _ => h b k cs
theorem abB {x y : Code} (h : WV P f x (Exit.then (WV P f y Q) Q) a w) : WV P f (.seq x y) Q a w := by
 intro b k cs hb
 obtain ⟨e, a1, w1, hq, har⟩ := h b (.code y :: k) cs hb
 cases e with
 | normal =>
   obtain ⟨e2, a2, w2, hq2, har2⟩ := hq b k cs hb
   exact ⟨e2, a2, w2, hq2, .of_steps (.head step_seq har) har2⟩
 | _ => exact ⟨_, a1, w1, hq, .of_steps (.one step_seq) (.pass (x := .code y) rfl (fun _ _ => .inl (by simp)) har)⟩
theorem ZV {c : Operand} {x y : Code} {t : Bool} (hc : a.eval c = .bool t) (h : WV P f (if t then x else y) Q a w) : WV P f (.cond c x y) Q a w :=
 fun b k cs hb => let ⟨e, a1, w1, q, r⟩ := h b k cs hb; ⟨e, a1, w1, q, .of_steps (.one (step_cond hc)) r⟩
theorem Yx {id : Nat} {c : Code} (h : WV P f c (Exit.inBlock id Q) a w) : WV P f (.block id c) Q a w := by
 intro b k cs hb
 obtain ⟨e, a1, w1, hq, har⟩ := h b (.inBlock id :: k) cs hb
 cases e with
 | normal => exact ⟨.normal, a1, w1, hq, .head step_block (Steps.trans har (.one step_inBlock))⟩
 | exit i =>
   by_cases hid : i = id
   .simp only [Exit.inBlock, hid, if_true] at hq
    exact ⟨.normal, a1, w1, hq, .head step_block (har k (by simp [exitTo, hid]))⟩
   .simp only [Exit.inBlock, hid, if_false] at hq
    refine ⟨.exit i, a1, w1, hq, fun k' hk => .head step_block (har k' ?_)⟩
    have : (id == i) = false := by simp; exact fun h => hid h.symm
    simp [exitTo, this, hk]
 | goto l => exact ⟨_, a1, w1, hq, fun k' hk => .head step_block (har k' (by simp [gotoIn, hk]))⟩
 | outgrown => exact ⟨_, a1, w1, hq, .of_steps (b := b) (k := k) (cs := cs) (e := .outgrown) (.one step_block) har⟩
 | _ => exact ⟨_, a1, w1, hq, .of_steps (.one step_block) har⟩
theorem Yv {c : Code} (h : WV P f c (Exit.noGoto Q) a w) : WV P f (.scope c) Q a w := by
 intro b k cs hb
 obtain ⟨e, a1, w1, hq, har⟩ := h b (.inScope c :: k) cs hb
 cases e with
 | normal => exact ⟨.normal, a1, w1, hq, .head step_scope (Steps.trans har (.one step_inScope))⟩
 | exit id => exact ⟨.exit id, a1, w1, hq, fun k' hk => .head step_scope (har k' (by simp [exitTo, hk]))⟩
 | goto l => exact hq.elim
 | _ => exact ⟨_, a1, w1, hq, .of_steps (.one step_scope) har⟩
theorem aaX {c : Code} (I : Act -> anV -> Prop) (μ : Act -> anV -> Nat) (h0 : I a w)
 (round : ∀ a w, I a w -> WV P f c (Exit.then (fun a' w' => I a' w' /\ μ a' w' < μ a w) Q) a w) : WV P f (.loop c) Q a w := by
 intro b k cs hb
 have key : ∀ n a w, μ a w = n -> I a w →
     ∃ e a' w', Q e a' w' /\ Arrives P (lone (b.at a (.code c :: .inLoop c :: k)) cs w) b k cs e a' w' := by
  intro n
  induction n using Nat.strongRecOn with
  | _ n ih =>
    intro a w hn hI
    obtain ⟨e, a1, w1, hq, har⟩ := round a w hI b (.inLoop c :: k) cs hb
    cases e with
    | normal =>
      obtain ⟨hI1, hlt⟩ := hq
      obtain ⟨e2, a2, w2, hq2, har2⟩ := ih (μ a1 w1) (hn ▸ hlt) a1 w1 rfl hI1
      exact ⟨e2, a2, w2, hq2, .of_steps (Steps.trans har (.one step_inLoop)) har2⟩
    | _ => exact ⟨_, a1, w1, hq, .pass (x := .inLoop c) rfl (fun _ _ => .inl (by simp)) har⟩
 obtain ⟨e, a', w', hq, har⟩ := key _ a w rfl h0
 exact ⟨e, a', w', hq, .of_steps (.one step_loop) har⟩
theorem QT (hm : P.follows .mixedOrders = true) {id : Nat} {ops : Array Oper}
 (h : wpOps P ops Q (Region.schedule true ops (w.tape w.drawn (.order f id))) a { w with drawn := w.drawn + 1 }) : WV P f (.region id ops true) Q a w := by
 intro b k cs hb
 obtain ⟨e, a1, w1, q, r⟩ := wp_ops _ a _ h b k cs
 refine ⟨e, a1, w1, q, .of_steps (.one ?_) r⟩
 have := @step_region_draw P b a k cs w ops id
 rw [hm, hb] at this
 exact this
theorem UB {fn : Func} {c : Code} {args : Array anW} {w : anV} {R : Ending -> anV -> Prop}
 (hf : P.funcs[f]? = some fn) (hb : fn.body = some c)
 (h : WV P f c (bodyPost P fn R) { tmps := args ++ Array.replicate (fn.ntmps - args.size) undef, defers := [] } w) : Calls P f args w R := by
 intro cs
 let b : Frame := { (default : Frame) with fn := f, kind := .normal }
 have henter : Frame.enter P f args .normal = b.at { tmps := args ++ Array.replicate (fn.ntmps - args.size) undef, defers := [] } [.code c] := by
  simp [Frame.enter, Frame.at, hf, hb, b]
 obtain ⟨e, a', w', hq, har⟩ := h b [] cs rfl
 rw [<- henter] at har
 cases e with
 | normal =>
   obtain ⟨hd, v, hr, hR⟩ := hq
   exact ⟨.returned v, w', _, hR, Steps.trans har (.one step_end), rfl, rfl, hd, rfl, fn, hf, hr⟩
 | ret =>
   obtain ⟨hd, v, hr, hR⟩ := hq
   obtain ⟨todo, hs⟩ := har
   exact ⟨.returned v, w', _, hR, hs, rfl, rfl, hd, rfl, fn, hf, hr⟩
 | panic chain =>
   obtain ⟨hd, hR⟩ := hq
   obtain ⟨todo, hs⟩ := har
   exact ⟨.panicked chain, w', _, hR, hs, rfl, rfl, hd, fn, hf⟩
 | exit id => exact hq.elim
 | goto l => exact hq.elim
 | outgrown => exact ⟨.outgrown, w', b, hq, har.resolve_left (by simp [b]), rfl, trivial⟩
end
def Uo (ops : Array Oper) : Nat -> Array Bool -> List Nat -> Prop
 | 0, _, L => L = []
 | _ + 1, listed, [] => Region.ready .any ops listed = []
 | n + 1, listed, i :: L => i ∈ Region.ready .any ops listed /\ Uo ops n (listed.setIfInBounds i true) L
section
variable {P : Program} {ops : Array Oper} {Q : Exit -> Act -> anV -> Prop}
theorem abH : ∀ (fuel t : Nat) (listed : Array Bool), Uo ops fuel listed (Region.linearise.go .any ops fuel t listed []) := by
 intro fuel
 induction fuel with
 | zero => intro t listed; simp [Region.linearise.go, Uo]
 | succ fuel ih =>
   intro t listed
   simp only [Region.linearise.go]
   change Uo ops (fuel + 1) listed (match (Region.ready .any ops listed)[t % (Region.ready .any ops listed).length]? with
    | some i => Region.linearise.go .any ops fuel (t / (Region.ready .any ops listed).length) (listed.setIfInBounds i true) [i]
    | none => [].reverse)
   cases hi : (Region.ready .any ops listed)[t % (Region.ready .any ops listed).length]? with
   | none =>
     have : Region.ready .any ops listed = [] := by
      cases hr : Region.ready .any ops listed with
      | nil => rfl
      | cons x xs =>
        rw [hr] at hi
        have hlt : t % (x :: xs).length < (x :: xs).length := amA _ (by simp)
        rw [aiN hlt] at hi
        cases hi
     simpa [Uo] using this
   | some i =>
     simp only []
     rw [linearise_go_acc]
     exact ⟨alD hi, ih _ _⟩
theorem Od : ∀ (fuel : Nat) (listed : Array Bool) (L : List Nat) (a : Act) (w : anV), wpAny P .any ops Q fuel listed a w -> Uo ops fuel listed L -> wpOps P ops Q L a w := by
 intro fuel
 induction fuel with
 | zero => intro listed L a w h hL; obtain rfl : L = [] := hL; exact h.2
 | succ fuel ih =>
   intro listed L a w h hL
   cases L with
   | nil => exact h.1 hL
   | cons i L =>
     rw [wpOps_cons]
     exact wpOp_mono (fun a w hh => ih _ _ a w hh hL.2) (h.2 i hL.1)
end
structure Perm (π : List Nat) (ops : Array Oper) : Prop where
 len : π.length = ops.size
 to : ∀ i, i < ops.size -> rF π i < ops.size /\ π[rF π i]? = some i
 back : ∀ k, k < ops.size -> ∃ i, π[k]? = some i /\ rF π i = k /\ i < ops.size
 after : ∀ (i : Nat) (o : Oper), ops[i]? = some o -> ∀ e ∈ o.after, e.on < ops.size
 guard : ∀ (i : Nat) (o : Oper) (j : Nat) (b : Bool), ops[i]? = some o -> o.guard = some (j, b) -> j < ops.size
theorem acB {π : List Nat} {ops : Array Oper} (h : W9 π ops = true) : Perm π ops := by
 unfold W9 at h
 simp only [ajH] at h
 obtain ⟨⟨⟨h1, h2⟩, h3⟩, h4⟩ := h
 have h1 := ajW h1
 have at4 : ∀ (i : Nat) (o : Oper), ops[i]? = some o -> (o.after.all fun e => Nat.blt e.on ops.size) = true /\ (match o.guard with | some (j, _) => Nat.blt j ops.size | none => true) = true := by
  intro i o ho
  have hi : i < ops.size := by
   rcases ajI i ops.size with h | h
   .exact h
   .rw [amP h] at ho; cases ho
  have := akP.1 h4 i (akD.2 hi)
  rw [ho] at this
  simp only [ajH] at this
  refine ⟨this.1, ?_⟩
  have h := this.2
  revert h
  cases o.guard <;> exact id
 refine ⟨h1, fun i hi => ?_, fun k hk => ?_, fun i o ho e he => ?_, fun i o j b ho hg => ?_⟩
 .have := akP.1 h3 i (akD.2 hi)
  cases hp : π[rF π i]? with
  | none => rw [hp] at this; cases this
  | some j =>
    rw [hp] at this
    obtain rfl := ajW this
    refine ⟨?_, rfl⟩
    rcases ajI (rF π j) π.length with h | h
    .omega
    .rw [ajJ h] at hp; cases hp
 .have := akP.1 h2 k (akD.2 hk)
  cases hp : π[k]? with
  | none => rw [hp] at this; cases this
  | some i =>
    rw [hp] at this
    simp only [ajH] at this
    exact ⟨i, rfl, ajW this.1, (anH (x := i) (y := ops.size)) ▸ this.2⟩
 .have := alA.1 (at4 i o ho).1 e he
  exact (anH (x := e.on) (y := ops.size)) ▸ this
 .have := (at4 i o ho).2
  rw [hg] at this
  exact (anH (x := j) (y := ops.size)) ▸ this
theorem TN {π : List Nat} {es : List (Nat × Nat)} {l : List Oper} : ∀ (r : List Nat), (∀ i ∈ r, i < l.length) -> (OF π es l r).length = r.length /\ ∀ k i : Nat, r[k]? = some i -> (OF π es l r)[k]? = (l[i]?).map (D4 π es i) := by
 intro r
 induction r with
 | nil => intro _; exact ⟨rfl, fun k i h => by simp at h⟩
 | cons j r ih =>
   intro h
   obtain ⟨h1, h2⟩ := ih fun i hi => h i (ajE _ hi)
   have hj : j < l.length := h j (by simp)
   simp only [OF, aiN hj]
   refine ⟨by simp [h1], fun k i hk => ?_⟩
   cases k with
   | zero => simp at hk; subst hk; simp [aiN hj]
   | succ k => simp at hk ⊢; exact h2 k i hk
section
variable {P : Program} {ops : Array Oper} {Q : Exit -> Act -> anV -> Prop} {π : List Nat} {es : List (Nat × Nat)}
theorem Perm.mem (p : Perm π ops) : ∀ i ∈ π, i < ops.toList.length := by
 intro i hi
 obtain ⟨k, hk, e⟩ := ajT hi
 obtain ⟨j, h1, _, h2⟩ := p.back k (by rw [<- p.len]; exact hk)
 rw [aiN hk] at h1
 cases h1
 rw [<- e]; simpa using h2
theorem Perm.size (p : Perm π ops) : (lV π es ops).size = ops.size := by
 unfold lV
 rw [List.size_toArray, (TN (es := es) (π := π) π p.mem).1, p.len]
theorem Perm.get (p : Perm π ops) {i : Nat} (hi : i < ops.size) : (lV π es ops)[rF π i]? = (ops[i]?).map (D4 π es i) := by
 unfold lV
 have := (TN (es := es) (π := π) π p.mem).2 (rF π i) i (p.to i hi).2
 rw [Array.getElem?_toList] at this
 simpa using this
theorem YM {i : Nat} {o : Oper} {a : Act} {w : anV} {K : Act -> anV -> Prop} : (D4 π es i o).wp P a w K Q = o.wp P a w K Q := by
 unfold Oper.wp
 have : execOp a.eval (D4 π es i o) = execOp a.eval o := by
  obtain ⟨d, op, ty, ps, af, g⟩ := o
  cases op <;> rfl
 rw [this]
 generalize (execOp a.eval o).run P w = r
 cases r with
 | ok n w => cases n <;> rfl
 | halt x w => cases x <;> rfl
theorem VS {i : Nat} {o : Oper} {a : Act} {w : anV} : (D4 π es i o).asks P a w = o.asks P a w := by
 unfold Oper.asks
 have : execOp a.eval (D4 π es i o) = execOp a.eval o := by
  obtain ⟨d, op, ty, ps, af, g⟩ := o
  cases op <;> rfl
 rw [this]
theorem Vh (p : Perm π ops) {i : Nat} {o : Oper} (ho : ops[i]? = some o) (tmps : Array anW) :
 Region.wanted (D4 π es i o) (yielded (lV π es ops) tmps) = Region.wanted o (yielded ops tmps) := by
 unfold Region.wanted D4
 simp only
 cases hg : o.guard with
 | none => rfl
 | some q =>
   obtain ⟨j, b⟩ := q
   simp only
   have hj := p.guard i o j b ho hg
   have : (lV π es ops)[rF π j]?.bind (·.dst) = (ops[j]?).bind (·.dst) := by
    rw [p.get hj]
    cases ops[j]? <;> rfl
   unfold yielded
   rw [this]
theorem WB (p : Perm π ops) : ∀ (L : List Nat), (∀ i ∈ L, i < ops.size) -> ∀ (a : Act) (w : anV), wpOps P (lV π es ops) Q (L.map (rF π)) a w -> wpOps P ops Q L a w := by
 intro L
 induction L with
 | nil => intro _ a w h; exact h
 | cons i L ih =>
   intro hL a w h
   rw [amE, wpOps_cons] at h
   rw [wpOps_cons]
   have hi := hL i (by simp)
   have ih := ih fun i hi => hL i (ajE _ hi)
   unfold wpOp at h ⊢
   rw [p.get hi] at h
   rw [ajQ hi] at h ⊢
   simp only [akB] at h
   rw [Vh p (ajQ hi)] at h
   simp only
   split
   .rename_i hw
    rw [if_pos hw, YM, VS] at h
    exact h.imp (Oper.wp_mono fun a w => ih a w) id
   .rename_i hw
    rw [if_neg hw] at h
    exact ih _ _ h
theorem Lr {ops : Array Oper} {listed : Array Bool} (hsz : listed.size = ops.size) (i : Nat) :
 i ∈ Region.ready .any ops listed ↔ (i < ops.size /\ listed.getD i false = false /\ ∀ o, ops[i]? = some o -> ∀ e ∈ o.after, Region.binds .any e = true -> listed.getD e.on false = true) := by
 unfold Region.ready
 rw [anQ, akD]
 constructor
 .rintro ⟨h1, h2⟩
  rw [ajQ h1] at h2
  simp only [ajH, akB, anM] at h2
  refine ⟨h1, ?_, fun o ho e he hb => ?_⟩
  .have := h2.1
   rw [ajC] at this ⊢
   rw [ajQ (by omega)] at this ⊢
   simpa using this
  .rw [ajQ h1] at ho
   cases ho
   have := alA.1 h2.2 e he
   simpa [hb] using this
 .rintro ⟨h1, h2, h3⟩
  refine ⟨h1, ?_⟩
  rw [ajQ h1]
  simp only [ajH, akB, anM]
  refine ⟨?_, alA.2 fun e he => ?_⟩
  .rw [ajC] at h2 ⊢
   rw [ajQ (by omega)] at h2 ⊢
   simpa using h2
  .by_cases hb : Region.binds .any e = true
   .simp [hb, h3 _ (ajQ h1) e he hb]
   .simp [hb]
theorem ZG {π : List Nat} {i : Nat} : ∀ {es : List (Nat × Nat)} {e : Edge}, e ∈ CG π i es -> ∃ a, (a, i) ∈ es /\ e.on = rF π a := by
 intro es
 induction es with
 | nil => intro e h; simp [CG] at h
 | cons q r ih =>
   obtain ⟨a, b⟩ := q
   intro e h
   simp only [CG] at h
   cases hb : Nat.beq b i with
   | true =>
     rw [hb] at h
     obtain rfl := ajW hb
     rcases akE.1 h with rfl | h
     .exact ⟨a, by simp, rfl⟩
     .obtain ⟨a, h1, h2⟩ := ih h; exact ⟨a, ajE _ h1, h2⟩
   | false => rw [hb] at h; obtain ⟨a, h1, h2⟩ := ih h; exact ⟨a, ajE _ h1, h2⟩
theorem Yy (p : Perm π ops) {L0 : List Nat} (hes : ∀ q ∈ es, L0.idxOf q.1 <= L0.idxOf q.2 /\ q.1 ≠ q.2 /\ q.1 < ops.size) :
 ∀ (fuel : Nat) (listed listed' : Array Bool) (pre L : List Nat), L0 = pre ++ L -> listed.size = ops.size -> listed'.size = ops.size →
   (∀ j, j < ops.size -> listed'.getD (rF π j) false = listed.getD j false) -> (∀ j ∈ pre, listed.getD j false = true) -> (∀ j, listed.getD j false = true -> j ∈ pre) →
   Uo ops fuel listed L -> Uo (lV π es ops) fuel listed' (L.map (rF π)) /\ ∀ i ∈ L, i < ops.size := by
 intro fuel
 induction fuel with
 | zero => intro listed listed' pre L _ _ _ _ _ _ h; obtain rfl : L = [] := h; exact ⟨rfl, by simp⟩
 | succ fuel ih =>
   intro listed listed' pre L hL0 hs hs' hrel hpre hpre' h
   have hsz : (lV π es ops).size = ops.size := p.size
   cases L with
   | nil =>
     refine ⟨?_, by simp⟩
     show Region.ready .any (lV π es ops) listed' = []
     rw [List.eq_nil_iff_forall_not_mem]
     intro k hk
     obtain ⟨h1, h2, h3⟩ := (Lr (by omega) k).1 hk
     obtain ⟨i, hi1, hi2, hi3⟩ := p.back k (by omega)
     have : i ∈ Region.ready .any ops listed := by
      refine (Lr hs i).2 ⟨hi3, ?_, fun o ho e he hb => ?_⟩
      .rw [<- hrel i hi3, hi2]; exact h2
      .have g := p.get (es := es) hi3
       rw [hi2, ho] at g
       have hon := p.after i o ho e he
       have := h3 _ g ⟨rF π e.on, e.ground⟩ (by
        simp only [D4, List.mem_toArray, alO, akF]
        exact .inl ⟨e, by simpa using he, rfl⟩) (by unfold Region.binds at hb ⊢; exact hb)
       rw [<- hrel e.on hon]; exact this
     rw [show Region.ready .any ops listed = [] from h] at this
     cases this
   | cons i L =>
     obtain ⟨h1, h2⟩ := h
     obtain ⟨r1, r2, r3⟩ := (Lr hs i).1 h1
     have hnot : i ∉ pre := fun hm => by rw [hpre i hm] at r2; cases r2
     have hidx : L0.idxOf i = pre.length := by
      rw [hL0, List.idxOf_append, if_neg hnot]; simp
     have ready' : rF π i ∈ Region.ready .any (lV π es ops) listed' := by
      refine (Lr (by omega) _).2 ⟨by rw [hsz]; exact (p.to i r1).1, by rw [hrel i r1]; exact r2, fun o' ho' e' he' hb => ?_⟩
      rw [p.get r1, ajQ r1] at ho'
      simp only [akB, Option.some.injEq] at ho'
      subst ho'
      simp only [D4, List.mem_toArray, alO, akF] at he'
      rcases he' with ⟨e, he, rfl⟩ | he'
      .have ho := ajQ r1
       have he2 : e ∈ ops[i].after := by simpa using he
       rw [hrel e.on (p.after i _ ho e he2)]
       exact r3 _ ho e he2 (by unfold Region.binds at hb ⊢; exact hb)
      .obtain ⟨a, ha, hon⟩ := ZG he'
       obtain ⟨q1, q2, q3⟩ := hes _ ha
       simp only at q1 q2 q3
       rw [hon, hrel a q3]
       refine hpre a ?_
       rw [hidx] at q1
       rw [hL0, List.idxOf_append] at q1
       by_cases hm : a ∈ pre
       .exact hm
       .rw [if_neg hm] at q1
        exfalso
        have hz : (i :: L).idxOf a = 0 := by omega
        rw [List.idxOf_cons] at hz
        cases hb : (i == a) with
        | true => exact q2 (by simpa using (beq_iff_eq.1 hb).symm)
        | false => rw [hb] at hz; simp at hz
     have hlen' : listed'.size = ops.size := hs'
     obtain ⟨k1, k2⟩ := ih (listed.setIfInBounds i true) (listed'.setIfInBounds (rF π i) true) (pre ++ [i]) L (by rw [hL0]; simp) (by simp [hs]) (by simp [hs'])
      (fun j hj => by
       by_cases hji : j = i
       .subst hji
        rw [ajC, ajC, akL (by rw [hs']; exact (p.to j hj).1), akL (by omega)]
       .have hne : rF π i ≠ rF π j := fun e => by
         have a1 := (p.to i r1).2
         have a2 := (p.to j hj).2
         rw [e] at a1
         rw [a1] at a2
         exact hji (ajG a2).symm
        have := hrel j hj
        rw [ajC, ajC] at this ⊢
        rw [akR hne, akR (fun e => hji e.symm)]
        exact this)
      (fun j hj => by
       rw [ajC]
       rcases alO.1 hj with hj | hj
       .by_cases hji : j = i
        .subst hji; rw [akL (by omega)] <;> rfl
        .rw [akR (fun e => hji e.symm), <- ajC]; exact hpre j hj
       .have : j = i := by simpa using hj
        subst this
        rw [akL (by omega)] <;> rfl)
      (fun j hj => by
       by_cases hji : j = i
       .subst hji; simp
       .rw [ajC, akR (fun e => hji e.symm), <- ajC] at hj
        exact alZ _ (hpre' j hj))
      h2
     exact ⟨⟨ready', k1⟩, fun j hj => (akE.1 hj).elim (fun e => e ▸ r1) (k2 j)⟩
end
section
variable {P : Program} {ops : Array Oper}
theorem QD {N : Nat} {an : XM} {pl : Vu} (hok : RY ops an = true) (hpl : Sw ops.size an pl = true) (hd : RZ N ops) (hca : NJ P ops)
 {K : Env -> anV -> Prop} {Q : Exit -> Act -> anV -> Prop} (hQ : ∀ g a w, Lh N g a -> K g w -> Q .normal a w) {g : Env} {a : Act} {w : anV} (hr : Lh N g a)
 (h : nL P ops ops.toList pl [] g w K) : wpAny P .any ops Q ops.size (Array.replicate ops.size false) a w := by
 have r0 : Y3 P ops an g w 0 (fun _ => default) (fun _ => g) (fun _ => w) (fun _ => undef) :=
  ⟨rfl, rfl, fun i hi => by omega, fun i hi => by omega, fun i hi => by omega, fun i hi => by omega, fun i j _ hj => by omega⟩
 obtain ⟨O, G, W, V, r, hk⟩ := Wp hpl ops.toList 0 [] _ _ _ _ (fun j => by simp) (by simp) r0 (fun i hi => by omega) h
 simp only [aiR, alQ] at r hk
 have st := Ys hok r.op
 have := ZA (Q := Q) (n := ops.size) rfl hd hca r st (fun a hra => hQ _ a _ hra hk) ops.size (Array.replicate ops.size false) g a 0 (by simp) hr (by omega)
  (fun j hj hl => by unfold iZ at hl; simp [ajC, hj] at hl)
  (fun s => .inr ⟨fun j hj hl => by unfold iZ at hl; simp [ajC, hj] at hl, rfl⟩)
  (fun h hh _ => ⟨fun hl => by unfold iZ at hl; simp [ajC, hh] at hl, fun hl => by omega⟩)
  (amJ (List.length_filter_le _ _) (by simp))
 rw [r.w0] at this
 exact this
theorem TU {N : Nat} {ops : Array Oper} (h : ops.all (X7 N) = true) : RZ N ops := by
 intro i o ho t ht
 have := alA.1 h o (anO ho)
 unfold X7 at this
 rw [ht] at this
 exact (anH (x := t) (y := N)) ▸ this
theorem Sy {ops : Array Oper} (h : ops.all (J2 P) = true) : NJ P ops :=
 fun _ o ho => alA.1 h o (anO ho)
theorem WU {N : Nat} {f : FuncId} {id : Nat} (hd : RZ N ops) (hca : NJ P ops)
 {K : Env -> anV -> Prop} {Q : Exit -> Act -> anV -> Prop} (hQ : ∀ g a w, Lh N g a -> K g w -> Q .normal a w) {g : Env} {a : Act} {w0 w : anV} (hr : Lh N g a) :
 ∀ (T : HT) (path : List (Nat × Nat)), M7 P N ops path T = true →
   (∀ q ∈ path, (Region.schedule true ops (w0.tape w0.drawn (.order f id))).idxOf q.1 <= (Region.schedule true ops (w0.tape w0.drawn (.order f id))).idxOf q.2 /\ q.1 ≠ q.2) →
   Vz P f id ops T g w0 w K -> wpOps P ops Q (Region.schedule true ops (w0.tape w0.drawn (.order f id))) a w := by
 have lin : Uo ops ops.size (Array.replicate ops.size false) (Region.schedule true ops (w0.tape w0.drawn (.order f id))) := by
  unfold Region.schedule
  simp only [Bool.true_or, if_true]
  exact abH _ _ _
 generalize hL : Region.schedule true ops (w0.tape w0.drawn (.order f id)) = L at lin ⊢
 intro T
 induction T with
 | leaf an pl =>
   intro path hok _ h
   simp only [M7, ajH] at hok
   exact Od _ _ _ _ _ (QD hok.1 hok.2 hd hca hQ hr h) lin
 | perm π es an pl =>
   intro path hok hpath h
   simp only [M7, ajH] at hok
   obtain ⟨⟨⟨⟨⟨h1, h2⟩, h3⟩, h4⟩, h5⟩, h6⟩ := hok
   have p := acB h2
   have hes : ∀ q ∈ es, L.idxOf q.1 <= L.idxOf q.2 /\ q.1 ≠ q.2 /\ q.1 < ops.size := fun q hq => by
    have := akP.1 h1 q hq
    simp only [ajH] at this
    have hp := hpath q (aaK this.1)
    exact ⟨hp.1, hp.2, (anH (x := q.1) (y := ops.size)) ▸ this.2⟩
   obtain ⟨k1, k2⟩ := Yy (es := es) p hes ops.size (Array.replicate ops.size false) (Array.replicate ops.size false) [] L rfl (by simp) (by simp)
    (fun j hj => by simp [ajC, hj, (p.to j hj).1]) (by simp)
    (fun j hj => by rw [ajC] at hj; by_cases hh : j < ops.size <;> simp [hh] at hj) lin
   have hw := QD h5 h6 (TU h3) (Sy h4) hQ hr h
   rw [p.size] at hw
   exact WB (es := es) p L k2 a w (Od _ _ _ _ _ hw k1)
 | split x y A B ihA ihB =>
   intro path hok hpath h
   simp only [M7, ajH] at hok
   have hne : x ≠ y := by
    intro e
    have := hok.1.1
    rw [e] at this
    simp at this
   simp only [Vz] at h
   unfold Ord Ua at h
   rw [hL] at h
   cases hb : Nat.ble (L.idxOf x) (L.idxOf y) with
   | true =>
     rw [hb] at h
     refine ihA _ hok.1.2 (fun q hq => ?_) h
     rcases akE.1 hq with rfl | hq
     .exact ⟨Nat.le_of_ble_eq_true hb, hne⟩
     .exact hpath q hq
   | false =>
     rw [hb] at h
     refine ihB _ hok.2 (fun q hq => ?_) h
     rcases akE.1 hq with rfl | hq
     .refine ⟨?_, hne.symm⟩
      simp only
      rcases ajI (L.idxOf y) (L.idxOf x) with hh | hh
      .omega
      .have := Nat.ble_eq_true_of_le hh; rw [this] at hb; cases hb
     .exact hpath q hq
end
section
variable {P : Program} {ann : FA}
def kU : List Oper -> List Nat
 | [] => []
 | o :: r => match o.dst with | some d => d :: kU r | none => kU r
def NS : Code -> List Nat
 | .region _ ops _ => kU ops.toList
 | .seq x y => NS x ++ NS y
 | .cond _ x y => NS x ++ NS y
 | .block _ c => NS c
 | .scope c => NS c
 | .loop c => NS c
 | _ => []
def kB (l : List Nat) (g g' : Env) : Prop := ∀ s, s ∉ l -> g' s = g s
theorem kB.refl (l : List Nat) (g : Env) : kB l g g := fun _ _ => rfl
theorem kB.trans {l l1 l2 : List Nat} {a b c : Env} (h : kB l1 a b) (k : kB l2 b c) (h1 : ∀ s, s ∈ l1 -> s ∈ l) (h2 : ∀ s, s ∈ l2 -> s ∈ l) : kB l a c :=
 fun s hs => (k s fun h => hs (h2 s h)).trans (h s fun h => hs (h1 s h))
theorem kB.mono {l l1 : List Nat} {a b : Env} (h : kB l1 a b) (h1 : ∀ s, s ∈ l1 -> s ∈ l) : kB l a b := fun s hs => h s fun hh => hs (h1 s hh)
theorem kB.put {l : List Nat} {a : Env} (d : Option Tmp) (v : anW) (h : ∀ t, d = some t -> t ∈ l) : kB l a (put a d v) := by
 intro s hs
 cases d with
 | none => rfl
 | some t =>
   rw [Sm, if_neg (fun e => hs (by rw [e]; exact h t rfl))]
theorem WK {ops : Array Oper} {K : Env -> anV -> Prop} : ∀ (l : List Oper) (g : Env) (w : anV), Sg P ops l g w K →
 ∃ g' w', K g' w' /\ kB (kU l) g g' /\ ∀ K' : Env -> anV -> Prop, K' g' w' -> Sg P ops l g w K' := by
 intro l
 induction l with
 | nil => intro g w h; exact ⟨g, w, h, kB.refl _ _, fun _ h => h⟩
 | cons o l ih =>
   intro g w h
   obtain ⟨v, w1, hy, h1⟩ := Ic h
   obtain ⟨g', w', hk, ha, hall⟩ := ih _ _ h1
   refine ⟨g', w', hk, ?_, fun K' hk' => hy _ (hall K' hk')⟩
   refine kB.trans (kB.put o.dst v (l := kU (o :: l)) fun t ht => by simp [kU, ht]) ha (fun _ h => h) (fun s hs => ?_)
   unfold kU
   split
   .exact ajE _ hs
   .exact hs
theorem Qv {ops : Array Oper} {K : Env -> anV -> Prop} : ∀ (l : List Oper) (pl : Vu) (hist : List Rec) (g : Env) (w : anV), nL P ops l pl hist g w K →
 ∃ g' w', K g' w' /\ kB (kU l) g g' /\ ∀ K' : Env -> anV -> Prop, K' g' w' -> nL P ops l pl hist g w K' := by
 intro l
 induction l with
 | nil => intro pl hist g w h; unfold nL at h; exact ⟨g, w, h, kB.refl _ _, fun _ h => (by unfold nL; exact h)⟩
 | cons o l ih =>
   intro pl hist g w h
   cases pl with
   | nil => exact h.elim
   | cons p pl =>
     obtain ⟨hv, ks⟩ := p
     obtain ⟨v, w1, hy, h1⟩ := Ic h
     have tail : ∀ (w2 : anV) (hist' : List Rec), nL P ops l pl hist' (put g o.dst v) w2 K →
         ∃ g' w', K g' w' /\ kB (kU (o :: l)) g g' /\ ∀ K' : Env -> anV -> Prop, K' g' w' -> nL P ops l pl hist' (put g o.dst v) w2 K' := by
      intro w2 hist' c2
      obtain ⟨g', w', hk, ha, hall⟩ := ih _ _ _ _ c2
      refine ⟨g', w', hk, ?_, hall⟩
      refine kB.trans (kB.put o.dst v (l := kU (o :: l)) fun t ht => by simp [kU, ht]) ha (fun _ h => h) (fun s hs => ?_)
      unfold kU
      split
      .exact ajE _ hs
      .exact hs
     cases hv with
     | true =>
       cases ks with
       | nil =>
         obtain ⟨g', w', hk, ha, hall⟩ := tail w1 _ h1
         exact ⟨g', w', hk, ha, fun K' hk' => hy _ (hall K' hk')⟩
       | cons k ks =>
         obtain ⟨hc, h1⟩ := h1
         obtain ⟨g', w', hk, ha, hall⟩ := tail w1 _ h1
         exact ⟨g', w', hk, ha, fun K' hk' => hy _ ⟨hc, hall K' hk'⟩⟩
     | false =>
       cases ks with
       | nil =>
         obtain ⟨rfl, h1⟩ := h1
         obtain ⟨g', w', hk, ha, hall⟩ := tail w1 _ h1
         exact ⟨g', w', hk, ha, fun K' hk' => hy _ ⟨rfl, hall K' hk'⟩⟩
       | cons k ks =>
         obtain ⟨rfl, hc, h1⟩ := h1
         obtain ⟨g', w', hk, ha, hall⟩ := tail w1 _ h1
         exact ⟨g', w', hk, ha, fun K' hk' => hy _ ⟨rfl, hc, hall K' hk'⟩⟩
theorem Lg {l : List Oper} {s : Nat} : s ∈ kU l ↔ ∃ o ∈ l, o.dst = some s := by
 induction l with
 | nil => simp [kU]
 | cons o l ih =>
   unfold kU
   cases hd : o.dst with
   | none => simp [ih, hd]
   | some d => simp [ih, hd, eq_comm]
theorem WQ {π : List Nat} {es : List (Nat × Nat)} {l : List Oper} {s : Nat} : ∀ (r : List Nat), s ∈ kU (OF π es l r) -> s ∈ kU l := by
 intro r
 induction r with
 | nil => intro h; simp [OF, kU] at h
 | cons i r ih =>
   intro h
   simp only [OF] at h
   cases ho : l[i]? with
   | none => rw [ho] at h; exact ih h
   | some o =>
     rw [ho] at h
     obtain ⟨o', h1, h2⟩ := Lg.1 h
     rcases akE.1 h1 with rfl | h1
     .exact Lg.2 ⟨o, alD ho, h2⟩
     .exact ih (Lg.2 ⟨o', h1, h2⟩)
theorem Zc {f : FuncId} {id : Nat} {ops : Array Oper} {K : Env -> anV -> Prop} {g : Env} {w0 : anV} : ∀ (T : HT) (w : anV), Vz P f id ops T g w0 w K →
 ∃ g' w', K g' w' /\ kB (kU ops.toList) g g' /\ ∀ K' : Env -> anV -> Prop, K' g' w' -> Vz P f id ops T g w0 w K' := by
 intro T
 induction T with
 | leaf an pl => intro w h; exact Qv _ _ _ _ _ h
 | perm π es an pl =>
   intro w h
   obtain ⟨g', w', a, b, c⟩ := Qv _ _ _ _ _ h
   exact ⟨g', w', a, b.mono (fun s hs => WQ π (by simpa [lV] using hs)), c⟩
 | split x y A B ihA ihB =>
   intro w h
   simp only [Vz, Ord] at h ⊢
   cases hb : Ua f id ops x y w0 with
   | true => rw [hb] at h; exact ihA w h
   | false => rw [hb] at h; exact ihB w h
theorem cO.head {α : Type} {F : (α -> anV -> Prop) -> α -> anV -> Prop} (hmono : ∀ X Y g w, (∀ g w, X g w -> Y g w) -> F X g w -> F Y g w)
 {g : α} {w : anV} (h : F (fun g' w' => cO F g' w') g w) (hdet : ∃ g' w', cO F g' w' /\ ∀ X : α -> anV -> Prop, X g' w' -> F X g w) : cO F g w := by
 obtain ⟨g1, w1, ⟨I, ⟨n1, h1⟩, hI⟩, hF⟩ := hdet
 refine ⟨fun n g' w' => I n g' w' ∨ (n = n1 + 1 /\ g' = g /\ w' = w), ⟨n1 + 1, .inr ⟨rfl, rfl, rfl⟩⟩, ?_⟩
 rintro n g' w' (h | ⟨rfl, rfl, rfl⟩)
 .exact hmono _ _ _ _ (fun _ _ ⟨m, hm, hh⟩ => ⟨m, hm, .inl hh⟩) (hI _ _ _ h)
 .exact hF _ ⟨n1, by omega, .inl h1⟩
theorem XF : ∀ (c : Code) (Q : Exit -> Env -> anV -> Prop) (g : Env) (w : anV), bG P ann c Q g w →
 ∃ e g' w', Q e g' w' /\ kB (NS c) g g' /\ ∀ Q' : Exit -> Env -> anV -> Prop, Q' e g' w' -> bG P ann c Q' g w := by
 intro c
 induction c with
 | skip => intro Q g w h; exact ⟨_, _, _, h, kB.refl _ _, fun _ h => h⟩
 | region id ops draw =>
   intro Q g w h
   cases draw with
   | false =>
     obtain ⟨g', w', a, b, c⟩ := WK _ _ _ h
     exact ⟨.normal, g', w', a, b, fun Q' h => c _ h⟩
   | true =>
     obtain ⟨g', w', a, b, c⟩ := Zc _ _ h
     exact ⟨.normal, g', w', a, b, fun Q' h => c _ h⟩
 | seq x y ihx ihy =>
   intro Q g w h
   obtain ⟨e, g1, w1, a, b, c⟩ := ihx _ _ _ h
   cases e with
   | normal =>
     obtain ⟨e2, g2, w2, a2, b2, c2⟩ := ihy _ _ _ a
     exact ⟨e2, g2, w2, a2, b.trans b2 (fun s h => alZ _ h) (fun s h => amU _ h), fun Q' h => c _ (c2 _ h)⟩
   | _ => exact ⟨_, g1, w1, a, b.mono (fun s h => alZ _ h), fun Q' h => c _ h⟩
 | cond c x y ihx ihy =>
   intro Q g w h
   simp only [bG] at h ⊢
   unfold fL at h ⊢
   cases hc : ev g c with
   | bool b =>
     rw [hc] at h
     cases b with
     | true =>
       obtain ⟨e, g', w', a, b, c⟩ := ihx _ _ _ h
       exact ⟨e, g', w', a, b.mono (fun s h => alZ _ h), c⟩
     | false =>
       obtain ⟨e, g', w', a, b, c⟩ := ihy _ _ _ h
       exact ⟨e, g', w', a, b.mono (fun s h => amU _ h), c⟩
   | _ => rw [hc] at h; exact h.elim
 | block id c ih =>
   intro Q g w h
   obtain ⟨e, g', w', a, b, c⟩ := ih _ _ _ h
   cases e with
   | exit i =>
     simp only [blk] at a
     cases hb : Nat.beq i id with
     | true =>
       simp only [hb] at a
       refine ⟨.normal, g', w', a, b, fun Q' h => c _ ?_⟩
       simp only [blk, hb]; exact h
     | false =>
       simp only [hb] at a
       refine ⟨.exit i, g', w', a, b, fun Q' h => c _ ?_⟩
       simp only [blk, hb]; exact h
   | _ => exact ⟨_, g', w', a, b, fun Q' h => c _ h⟩
 | loop c ih =>
   intro Q g w h
   have hmono : ∀ (Q : Exit -> Env -> anV -> Prop) (X Y : Env -> anV -> Prop) g w, (∀ g w, X g w -> Y g w) -> bG P ann c (xK X Q) g w -> bG P ann c (xK Y Q) g w := by
    intro Q X Y g w hxy h
    obtain ⟨e, g', w', a, _, k⟩ := ih _ _ _ h
    refine k _ ?_
    cases e with
    | normal => exact hxy _ _ a
    | _ => exact a
   obtain ⟨I, ⟨n, h0⟩, hI⟩ := h
   have key : ∀ n g w, I n g w -> ∃ e g' w', Q e g' w' /\ kB (NS c) g g' /\ ∀ Q' : Exit -> Env -> anV -> Prop, Q' e g' w' -> cO (fun X g w => bG P ann c (xK X Q') g w) g w := by
    intro n
    induction n using Nat.strongRecOn with
    | _ n ih2 =>
      intro g w hg
      obtain ⟨e, g1, w1, a, b, k⟩ := ih _ _ _ (hI n g w hg)
      have once : ∀ (Q' : Exit -> Env -> anV -> Prop), (∀ X : Env -> anV -> Prop, bG P ann c (xK X Q') g w) -> cO (fun X g w => bG P ann c (xK X Q') g w) g w := by
       intro Q' h
       refine ⟨fun n g' w' => g' = g /\ w' = w, ⟨0, rfl, rfl⟩, ?_⟩
       rintro _ g' w' ⟨rfl, rfl⟩
       exact h _
      cases e with
      | normal =>
        obtain ⟨m, hm, hIm⟩ := a
        obtain ⟨e2, g2, w2, a2, b2, k2⟩ := ih2 m hm g1 w1 hIm
        refine ⟨e2, g2, w2, a2, b.trans b2 (fun _ h => h) (fun _ h => h), fun Q' h => ?_⟩
        have hl := k2 Q' h
        exact cO.head (hmono Q') (k _ hl) ⟨g1, w1, hl, fun X hx => k _ hx⟩
      | _ => exact ⟨_, g1, w1, a, b, fun Q' h => once Q' fun X => k _ h⟩
   exact key n g w h0
 | exit id => intro Q g w h; exact ⟨_, _, _, h, kB.refl _ _, fun _ h => h⟩
 | label l => intro Q g w h; exact ⟨_, _, _, h, kB.refl _ _, fun _ h => h⟩
 | scope c ih => intro Q g w h; exact ih Q g w h
 | ret => intro Q g w h; exact ⟨_, _, _, h, kB.refl _ _, fun _ h => h⟩
 | _ => intro Q g w h; exact h.elim
theorem DF {c : Code} {Q Q' : Exit -> Env -> anV -> Prop} {g : Env} {w : anV} (h : bG P ann c Q g w)
 (hq : ∀ e g' w', kB (NS c) g g' -> Q e g' w' -> Q' e g' w') : bG P ann c Q' g w :=
 let ⟨_, _, _, a, b, k⟩ := XF c Q g w h
 k _ (hq _ _ _ b a)
def noG (Q : Exit -> Env -> anV -> Prop) : Exit -> Env -> anV -> Prop
 | .goto _, _, _ => False
 | e, g, w => Q e g w
theorem XB : ∀ (c : Code) (Q : Exit -> Env -> anV -> Prop) (g : Env) (w : anV), bG P ann c Q g w -> bG P ann c (noG Q) g w := by
 intro c
 induction c with
 | skip => intro Q g w h; exact h
 | region id ops draw => intro Q g w h; cases draw <;> exact h
 | seq x y ihx ihy =>
   intro Q g w h
   show bG P ann x (xK (fun g w => bG P ann y (noG Q) g w) (noG Q)) g w
   refine DF (ihx _ _ _ h) (fun e g' w' _ hq => ?_)
   cases e with
   | normal => exact ihy _ _ _ hq
   | goto l => exact hq.elim
   | _ => exact hq
 | cond c x y ihx ihy =>
   intro Q g w h
   simp only [bG] at h ⊢
   unfold fL at h ⊢
   cases hc : ev g c with
   | bool b =>
     rw [hc] at h
     cases b with
     | true => exact ihx _ _ _ h
     | false => exact ihy _ _ _ h
   | _ => rw [hc] at h; exact h.elim
 | block id c ih =>
   intro Q g w h
   show bG P ann c (blk id (noG Q)) g w
   refine DF (ih _ _ _ h) (fun e g' w' _ hq => ?_)
   cases e with
   | exit i =>
     simp only [noG, blk] at hq ⊢
     cases hb : Nat.beq i id with
     | true => rw [hb] at hq; exact hq
     | false => rw [hb] at hq; exact hq
   | goto l => exact hq.elim
   | _ => exact hq
 | loop c ih =>
   intro Q g w h
   obtain ⟨I, h0, hI⟩ := h
   refine ⟨I, h0, fun n g w hi => ?_⟩
   refine DF (ih _ _ _ (hI n g w hi)) (fun e g' w' _ hq => ?_)
   cases e with
   | normal => exact hq
   | goto l => exact hq.elim
   | _ => exact hq
 | exit id => intro Q g w h; exact h
 | label l => intro Q g w h; exact h
 | scope c ih => intro Q g w h; exact ih Q g w h
 | ret => intro Q g w h; exact h
 | _ => intro Q g w h; exact h.elim
theorem YG {N : Nat} (hm : P.follows .mixedOrders = true) : ∀ (c : Code), codeOk P N ann c = true →
 ∀ (Q : Exit -> Env -> anV -> Prop) (QA : Exit -> Act -> anV -> Prop) (g : Env) (a : Act) (w : anV), Lh N g a →
   (∀ e g a w, Lh N g a -> Q e g w -> QA e a w) -> bG P ann c Q g w -> WV P ann.f c QA a w := by
 intro c
 induction c with
 | skip => intro _ Q QA g a w hr hq h; exact Si (wp_skip (hq _ _ _ _ hr h))
 | region id ops draw =>
   intro hok Q QA g a w hr hq h
   simp only [codeOk, ajH, alI, amH] at hok
   have hd := TU hok.1.1
   have hca := Sy hok.1.2
   cases draw with
   | false =>
     refine Si (wp_region ?_)
     have := Yt hd hca (P := P) (Q := QA) (K := Q .normal) (fun g a w => hq .normal g a w) ops.toList 0 g a w (fun j => by simp) hr h
     rw [List.range_eq_range']
     simpa using this
   | true =>
     rcases hok.2 with h1 | h1
     .cases h1
     .exact QT hm (WU hd hca (fun g a w => hq .normal g a w) hr _ [] h1 (by simp) h)
 | seq x y ihx ihy =>
   intro hok Q QA g a w hr hq h
   simp only [codeOk, ajH] at hok
   refine abB (ihx hok.1 _ _ g a w hr (fun e g a w hr h => ?_) h)
   cases e with
   | normal => exact ihy hok.2 _ _ g a w hr hq h
   | _ => exact hq _ _ _ _ hr h
 | cond c x y ihx ihy =>
   intro hok Q QA g a w hr hq h
   simp only [codeOk, ajH] at hok
   simp only [bG] at h
   unfold fL at h
   have he := hr.ev c
   cases hc : ev g c with
   | bool b =>
     rw [hc] at h he
     refine ZV he ?_
     cases b with
     | true => exact ihx hok.1 _ _ g a w hr hq h
     | false => exact ihy hok.2 _ _ g a w hr hq h
   | _ => rw [hc] at h; exact h.elim
 | block id c ih =>
   intro hok Q QA g a w hr hq h
   refine Yx (ih hok _ _ g a w hr (fun e g a w hr h => ?_) h)
   cases e with
   | exit i =>
     unfold Exit.inBlock
     simp only [blk] at h
     by_cases hi : i = id
     .subst hi
      simp only [if_true]
      simp only [Nat.beq_refl] at h
      exact hq _ _ _ _ hr h
     .simp only [hi, if_false]
      have : Nat.beq i id = false := by
       cases hb : Nat.beq i id
       .rfl
       .exact absurd (ajW hb) hi
      simp only [this] at h
      exact hq _ _ _ _ hr h
   | _ => exact hq _ _ _ _ hr h
 | loop c ih =>
   intro hok Q QA g a w hr hq h
   obtain ⟨I, h0, hround⟩ := h
   have hex : ∀ a w, (∃ n g, Lh N g a /\ I n g w) -> ∃ n, (∃ g, Lh N g a /\ I n g w) /\ ∀ m, (∃ g, Lh N g a /\ I m g w) -> n <= m := by
    rintro a w ⟨n, hn⟩
    induction n using Nat.strongRecOn with
    | _ n ih2 =>
      by_cases hx : ∃ m, m < n /\ ∃ g, Lh N g a /\ I m g w
      .obtain ⟨m, hm, h⟩ := hx; exact ih2 m hm h
      .exact ⟨n, hn, fun m hm => Nat.le_of_not_lt fun hlt => hx ⟨m, hlt, hm⟩⟩
   have hdec : ∀ a w, Decidable (∃ n g, Lh N g a /\ I n g w) := fun a w => Classical.propDecidable _
   let μ : Act -> anV -> Nat := fun a w => if hh : ∃ n g, Lh N g a /\ I n g w then Classical.choose (hex a w hh) else 0
   have hμ : ∀ a w n g, Lh N g a -> I n g w -> μ a w <= n /\ ∃ g, Lh N g a /\ I (μ a w) g w := by
    intro a w n g hr hI
    have hh : ∃ n g, Lh N g a /\ I n g w := ⟨n, g, hr, hI⟩
    have e : μ a w = Classical.choose (hex a w hh) := dif_pos hh
    have s := Classical.choose_spec (hex a w hh)
    rw [e]
    exact ⟨s.2 n ⟨g, hr, hI⟩, s.1⟩
   obtain ⟨n0, h0⟩ := h0
   refine aaX (fun a w => ∃ n g, Lh N g a /\ I n g w) μ ⟨n0, g, hr, h0⟩ ?_
   rintro a w ⟨n, g, hr, hI⟩
   obtain ⟨_, g', hr', hI'⟩ := hμ a w n g hr hI
   refine ih hok _ _ g' a w hr' (fun e g1 a1 w1 hr1 h => ?_) (hround _ _ _ hI')
   cases e with
   | normal =>
     obtain ⟨m, hm, hIm⟩ := h
     have := hμ a1 w1 m g1 hr1 hIm
     exact ⟨⟨m, g1, hr1, hIm⟩, by omega⟩
   | _ => exact hq _ _ _ _ hr1 h
 | label l => intro _ Q QA g a w hr hq h; exact Si (wp_label (hq _ _ _ _ hr h))
 | scope c ih =>
   intro hok Q QA g a w hr hq h
   refine Yv (ih hok (noG Q) _ g a w hr (fun e g a w hr h => ?_) (XB c _ g w h))
   cases e with
   | goto l => exact h.elim
   | _ => exact hq _ _ _ _ hr h
 | exit id => intro _ Q QA g a w hr hq h; exact Si (wp_exit (hq _ _ _ _ hr h))
 | ret => intro _ Q QA g a w hr hq h; exact Si (wp_ret (hq _ _ _ _ hr h))
 | _ => intro hok; simp [codeOk] at hok
def uQ (P : Program) : List ResultVar -> Env -> anV -> (List anW -> Prop) -> Prop
 | [], _, _, K => K []
 | .tmp t :: r, g, w, K => uQ P r g w fun vs => K (g t :: vs)
 | .cell a t :: r, g, w, K => ∃ v, (do loadVar t (<- asAddr (g a)) : Sem anW).run P w = .ok v w /\ uQ P r g w fun vs => K (v :: vs)
def tup : List anW -> anW
 | [v] => v
 | vs => .tuple vs.toArray
def aeB (P : Program) (rs : List ResultVar) (R : anW -> anV -> Prop) : Exit -> Env -> anV -> Prop
 | .normal, g, w => uQ P rs g w fun vs => R (tup vs) w
 | .ret, g, w => uQ P rs g w fun vs => R (tup vs) w
 | _, _, _ => False
theorem VH {N : Nat} {g : Env} {a : Act} {w : anV} (hr : Lh N g a) : ∀ (rs : List ResultVar) (K : List anW -> Prop), uQ P rs g w K →
 ∃ vs, K vs /\ (rs.mapM fun | .tmp t => pure (a.tmps.getD t undef) | .cell b t => do loadVar t (<- asAddr (a.tmps.getD b undef)) : Sem (List anW)).run P w = .ok vs w := by
 intro rs
 induction rs with
 | nil => intro K h; exact ⟨[], h, by simp⟩
 | cons r rs ih =>
   intro K h
   cases r with
   | tmp t =>
     obtain ⟨vs, h1, h2⟩ := ih _ h
     refine ⟨_, h1, ?_⟩
     rw [List.mapM_cons]
     rw [pure_bind, Sem.run_bind]
     simp only [h2, Result.andThen, Sem.run_pure, hr.2.2 t]
   | cell b t =>
     obtain ⟨v, hv, h⟩ := h
     obtain ⟨vs, h1, h2⟩ := ih _ h
     refine ⟨_, h1, ?_⟩
     rw [List.mapM_cons]
     rw [<- hr.2.2 b] at hv
     rw [Sem.run_bind]
     simp only [hv, Result.andThen]
     rw [Sem.run_bind]
     simp only [h2, Result.andThen]
     rfl
theorem aeZ (vs : Array anW) : (if h : vs.size = 1 then vs[0] else Value.tuple vs) = tup vs.toList := by
 obtain ⟨l⟩ := vs
 match l with
 | [] => rfl
 | [v] => rfl
 | a :: b :: r => simp [tup]
theorem Wc {N : Nat} {g : Env} {a : Act} {w : anV} (fn : Func) {rs : List ResultVar} (hrs : fn.results = rs.toArray) (hr : Lh N g a) {R : anW -> anV -> Prop}
 (h : uQ P rs g w fun vs => R (tup vs) w) : ∃ v, (results fn a.tmps).run P w = .ok v w /\ R v w := by
 obtain ⟨vs, h1, h2⟩ := VH hr rs _ h
 refine ⟨tup vs, ?_, h1⟩
 unfold results
 rw [hrs, Array.mapM_eq_mapM_toList, alR]
 simp only [bind_assoc, map_eq_pure_bind]
 rw [Sem.run_bind]
 refine Eq.trans (congrArg (fun r => Result.andThen r _) h2) ?_
 simp only [Result.andThen]
 simp only [pure_bind, Sem.run_pure, aeZ]
def XW (args : List anW) : Env := fun i => args.getD i undef
theorem V0 {f : FuncId} {fn : Func} {c : Code} {args : List anW} {w : anV} {rs : List ResultVar} {R : anW -> anV -> Prop} (hm : P.follows .mixedOrders = true) (hAf : ann.f = f)
 (hf : P.funcs[f]? = some fn) (hb : fn.body = some c) (hrs : fn.results = rs.toArray) {N : Nat} (hN : fn.ntmps = N) (hle : args.length <= N)
 (hok : codeOk P N ann c = true) (h : bG P ann c (aeB P rs R) (XW args) w) : aU P f args.toArray w R := by
 obtain ⟨e, g', w', hq, _, hall⟩ := XF _ _ _ _ h
 have hrv : uQ P rs g' w' fun vs => R (tup vs) w' := by cases e <;> first | exact hq | exact hq.elim
 have hex : ∃ v, R v w' /\ ∀ R' : anW -> anV -> Prop, R' v w' -> uQ P rs g' w' fun vs => R' (tup vs) w' := by
  have gen : ∀ (rs : List ResultVar) (K : List anW -> Prop), uQ P rs g' w' K -> ∃ vs, K vs /\ ∀ K' : List anW -> Prop, K' vs -> uQ P rs g' w' K' := by
   intro rs
   induction rs with
   | nil => intro K h; exact ⟨_, h, fun _ h => h⟩
   | cons r rs ih =>
     intro K h
     cases r with
     | tmp t =>
       obtain ⟨vs, a, b⟩ := ih _ h
       exact ⟨_, a, fun K' h => b _ h⟩
     | cell b t =>
       obtain ⟨v, hv, h⟩ := h
       obtain ⟨vs, a, b⟩ := ih _ h
       exact ⟨_, a, fun K' h => ⟨v, hv, b _ h⟩⟩
  obtain ⟨vs, a, b⟩ := gen _ _ hrv
  exact ⟨_, a, fun R' h => b _ h⟩
 obtain ⟨v, hv, hrest⟩ := hex
 refine ⟨v, w', ?_, hv⟩
 have hrel : Lh N (XW args) { tmps := args.toArray ++ Array.replicate (fn.ntmps - args.toArray.size) undef, defers := [] } := by
  refine ⟨rfl, by simp [hN]; omega, fun i => ?_⟩
  simp only [XW, ajC, ajD]
  by_cases hi : i < args.length
  .simp [Array.getElem?_append, hi]
  .simp only [Array.getElem?_append, List.size_toArray, hi, if_false, Array.getElem?_replicate]
   rw [ajJ (by omega)]
   split <;> rfl
 refine UB (f := f) hf hb ?_
 refine hAf ▸ YG hm c hok (aeB P rs fun v2 w2 => v2 = v /\ w2 = w') _ _ _ _ hrel ?_ (hall _ ?_)
 .intro e g a w hr h
  have hx : ∀ {w}, (uQ P rs g w fun vs => tup vs = v /\ w = w') -> a.defers = [] /\ ∃ v2, (results fn a.tmps).run P w = .ok v2 w /\ (Ending.returned v2 = .returned v /\ w = w') := by
   intro w h
   obtain ⟨v2, h1, rfl, h3⟩ := Wc fn hrs hr (R := fun v2 w2 => v2 = v /\ w2 = w') h
   exact ⟨hr.1, v2, h1, rfl, h3⟩
  cases e with
  | normal => exact hx h
  | ret => exact hx h
  | _ => exact h.elim
 .have := hrest (fun v2 w2 => v2 = v /\ w2 = w') ⟨rfl, rfl⟩
  cases e <;> first | exact this | exact hq.elim
theorem Th {f : FuncId} {args : Array anW} {w : anV} {R : anW -> anV -> Prop} (h : aU P f args w R) :
 Calls P f args w fun e w' => ∃ v, e = .returned v /\ R v w' := by
 obtain ⟨v, w', hr, hR⟩ := h
 refine Calls.mono hr ?_
 rintro e w'' ⟨rfl, rfl⟩
 exact ⟨v, rfl, hR⟩
end
def sA : Code -> Code | .seq a _ => a | c => c
def cT : Code -> Code | .cond _ a _ => a | c => c
def cE : Code -> Code | .cond _ _ b => b | c => c
def bI : Code -> Code | .block _ c => c | .loop c => c | .scope c => c | c => c
def dC (f : Func) : Code := match f.body with | some c => c | none => .skip
def aE : Nat -> Code -> Code
 | 0, c => c
 | 1, c => sA c
 | n + 1, .seq a b => .seq a (aE n b)
 | _, c => c
def aB : Nat -> Code -> Code
 | 0, c => c
 | n + 1, .seq _ b => aB n b
 | _, c => c
def Xd : Nat -> Code -> Bool
 | 1, .seq _ _ => true
 | n + 1, .seq _ b => Xd n b
 | _, _ => false
def dr (w : anV) : anV := { w with drawn := w.drawn + 1 }
def xA (P : Program) (t : TypeId) (a : anW) (w : anV) (K : anW -> Prop) : Prop := ∃ v, (do loadVar t (<- asAddr a) : Sem anW).run P w = .ok v w /\ K v
def exL : List (Nat × (Env -> anV -> Prop)) -> Nat -> Env -> anV -> Prop
 | [], _, _, _ => False
 | (j, k) :: r, i, g, w => match Nat.beq i j with | true => k g w | false => exL r i g w
def exQ (kn kr : Env -> anV -> Prop) (l : List (Nat × (Env -> anV -> Prop))) : Exit -> Env -> anV -> Prop
 | .normal, g, w => kn g w
 | .ret, g, w => kr g w
 | .exit i, g, w => exL l i g w
 | _, _, _ => False
def X2 (Q : Exit -> Env -> anV -> Prop) : List (Nat × (Env -> anV -> Prop)) -> Prop
 | [] => True
 | (i, k) :: r => (∀ g w, k g w -> Q (.exit i) g w) /\ X2 Q r
def fR (c a b : anW) : Sem Next := do pure (.value (if <- asBool c then a else b))
def cM (t : TypeId) : Sem Next := V (Instr.alloc t true (.tuple #[]))
def BA (t : TypeId) (x : anW) : Sem Next := V (Instr.box t x)
def aJ (t : TypeId) (a : anW) : Sem Next := V (Instr.loadAt t a)
def aR (t : TypeId) (a x : anW) : Sem Next := U (Instr.storeAt t a x)
def lE (x : anW) : Sem Next := execOp (fun _ => x) ⟨none, .nilCheck (.tmp 0), 0, default, #[], none⟩
def sUn (op : UnOp) (x : anW) : Sem Next := V (Op.unary op x)
def fG (s d : TypeId) (x : anW) : Sem Next := V (convert s d x)
def rM (t : TypeId) (l c : anW) : Sem Next := V (Instr.makeSlice t l c)
def fW (t : TypeId) (x : anW) (lo hi mx : Option anW) : Sem Next := V (Instr.sliceAt t x lo hi mx)
def aQ (t : TypeId) (x : anW) (f : Nat) : Sem Next := V (Instr.fieldAt t x f)
def bB (t : TypeId) (x i : anW) : Sem Next := V (Instr.indexAt t x i)
def GH (t : TypeId) (x i : anW) : Sem Next := V (Instr.index t x i)
def bT (t : anW) (i : Nat) : Sem Next := V (Instr.extract t i)
section
variable {P : Program} {ann : FA}
theorem adX {Q : Exit -> Env -> anV -> Prop} : ∀ {l : List (Nat × (Env -> anV -> Prop))}, X2 Q l -> ∀ {i : Nat} {g : Env} {w : anV}, exL l i g w -> Q (.exit i) g w := by
 intro l
 induction l with
 | nil => intro _ i g w h; exact h.elim
 | cons p r ih =>
   obtain ⟨j, k⟩ := p
   rintro ⟨h1, h2⟩ i g w h
   simp only [exL] at h
   cases hb : Nat.beq i j with
   | true =>
     simp only [hb] at h
     obtain rfl := ajW hb
     exact h1 _ _ h
   | false => simp only [hb] at h; exact ih h2 h
theorem abC {c : Code} {kn kr : Env -> anV -> Prop} {l : List (Nat × (Env -> anV -> Prop))} {Q : Exit -> Env -> anV -> Prop} {g : Env} {w : anV} {A : Prop}
 (e : A = bG P ann c (exQ kn kr l) g w) (h : A) (hn : ∀ g w, kn g w -> Q .normal g w) (hr : ∀ g w, kr g w -> Q .ret g w) (hl : X2 Q l) : bG P ann c Q g w := by
 rw [e] at h
 refine DF h (fun e g' w' _ hq => ?_)
 cases e with
 | normal => exact hn _ _ hq
 | ret => exact hr _ _ hq
 | exit i => exact adX hl hq
 | _ => exact hq.elim
theorem Y2 {x y z : Code} {Q : Exit -> Env -> anV -> Prop} {g : Env} {w : anV} (h : bG P ann (.seq (.seq x y) z) Q g w) : bG P ann (.seq x (.seq y z)) Q g w := by
 show bG P ann x (xK (fun g w => bG P ann y (xK (fun g w => bG P ann z Q g w) Q) g w) Q) g w
 have h : bG P ann x (xK (fun g w => bG P ann y (xK (fun g w => bG P ann z Q g w) Q) g w) (xK (fun g w => bG P ann z Q g w) Q)) g w := h
 refine DF h (fun e g' w' _ hq => ?_)
 cases e <;> exact hq
theorem aK {K : Env -> anV -> Prop} {Q : Exit -> Env -> anV -> Prop} {g : Env} {w : anV} (h : K g w) : xK K Q .normal g w := h
theorem YD {Q : Exit -> Env -> anV -> Prop} : ∀ (n : Nat) (c : Code) (g : Env) (w : anV), Xd n c = true -> bG P ann (.seq (aE n c) (aB n c)) Q g w -> bG P ann c Q g w := by
 intro n
 induction n with
 | zero => intro c g w h; simp [Xd] at h
 | succ n ih =>
   intro c g w h hd
   cases c with
   | seq a b =>
     cases n with
     | zero => exact hd
     | succ n =>
       have hb : Xd (n + 1) b = true := by simpa [Xd] using h
       have hd' : bG P ann (.seq (.seq a (aE (n + 1) b)) (aB (n + 1) b)) Q g w := hd
       have := Y2 hd'
       show bG P ann a (xK (fun g w => bG P ann b Q g w) Q) g w
       have h2 : bG P ann a (xK (fun g w => bG P ann (.seq (aE (n + 1) b) (aB (n + 1) b)) Q g w) Q) g w := this
       refine DF h2 (fun e g' w' _ hq => ?_)
       cases e with
       | normal => exact ih b g' w' hb hq
       | _ => exact hq
   | _ => cases n <;> simp [Xd] at h
def acX (id : Nat) : Code -> Bool | .block i _ => Nat.beq i id | _ => false
def Y8 : Code -> Bool | .loop _ => true | _ => false
def Zf : Code -> Option Operand | .cond o _ _ => some o | _ => none
theorem abY {Q : Exit -> Env -> anV -> Prop} (id : Nat) (c : Code) (g : Env) (w : anV) (h : acX id c = true) (hd : bG P ann (bI c) (blk id Q) g w) : bG P ann c Q g w := by
 cases c with
 | block i c =>
   obtain rfl := ajW (show Nat.beq i id = true from h)
   exact hd
 | _ => cases h
def adC : Code -> Bool | .scope _ => true | _ => false
theorem abK {Q : Exit -> Env -> anV -> Prop} (c : Code) (g : Env) (w : anV) (h : adC c = true) (hd : bG P ann (bI c) Q g w) : bG P ann c Q g w := by
 cases c with
 | scope c => exact hd
 | _ => cases h
theorem abD {Q : Exit -> Env -> anV -> Prop} (o : Operand) (c : Code) (g : Env) (w : anV) (h : Zf c = some o)
 (hd : fL (ev g o) (bG P ann (cT c) Q g w) (bG P ann (cE c) Q g w)) : bG P ann c Q g w := by
 cases c with
 | cond o' a b => obtain rfl := ajG h; exact hd
 | _ => cases h
theorem ZY {v : anW} {A B A' B' : Prop} (ha : A -> A') (hb : B -> B') (h : fL v A B) : fL v A' B' := by
 unfold fL at *
 cases v with
 | bool b => cases b <;> first | exact ha h | exact hb h
 | _ => exact h
theorem aaT {T : Type} (proj : Env -> T) (F : (T -> anV -> Prop) -> T -> anV -> Prop) {c : Code} {Q : Exit -> Env -> anV -> Prop} {g : Env} {w : anV}
 (hF : ∀ (X : T -> anV -> Prop) g' w', kB (NS c) g g' -> F X (proj g') w' -> bG P ann c (xK (fun g'' w'' => X (proj g'') w'') Q) g' w')
 (h : cO F (proj g) w) : bG P ann (.loop c) Q g w := by
 obtain ⟨I, ⟨n, h0⟩, hI⟩ := h
 refine ⟨fun n g' w' => kB (NS c) g g' /\ I n (proj g') w', ⟨n, kB.refl _ _, h0⟩, ?_⟩
 rintro n g' w' ⟨ha, hi⟩
 have := hF _ g' w' ha (hI n _ _ hi)
 refine DF this (fun e g2 w2 ha2 hq => ?_)
 cases e with
 | normal =>
   obtain ⟨m, hm, hh⟩ := hq
   exact ⟨m, hm, ha.trans ha2 (fun _ h => h) (fun _ h => h), hh⟩
 | _ => exact hq
theorem Yg {T : Type} (proj : Env -> T) (F : (T -> anV -> Prop) -> T -> anV -> Prop) (c : Code) {Q : Exit -> Env -> anV -> Prop} {g : Env} {w : anV} (hl : Y8 c = true)
 (h : cO F (proj g) w)
 (hF : ∀ (X : T -> anV -> Prop) g' w', kB (NS (bI c)) g g' -> F X (proj g') w' -> bG P ann (bI c) (xK (fun g'' w'' => X (proj g'') w'') Q) g' w') : bG P ann c Q g w := by
 cases c with
 | loop c => exact aaT proj F hF h
 | _ => cases hl
theorem Xs {l : List Nat} {s : Nat} (hs : mA s l = false) : s ∉ l := by
 induction l with
 | nil => simp
 | cons a r ih =>
   unfold mA at hs
   cases hb : Nat.beq a s with
   | true => simp only [hb] at hs; cases hs
   | false =>
     simp only [hb] at hs
     intro hm
     rcases akE.1 hm with e | hm
     .subst e; simp at hb
     .exact ih hs hm
theorem Z5 {l : List Nat} {g g' : Env} (h : kB l g g') {s : Nat} (hs : mA s l = false) : g' s = g s := h s (Xs hs)
def Dz (id : Nat) : Code -> Array Oper
 | .region i ops _ => match Nat.beq i id with | true => ops | false => #[]
 | .seq a b => match (Dz id a).size with | 0 => Dz id b | _ + 1 => Dz id a
 | .cond _ a b => match (Dz id a).size with | 0 => Dz id b | _ + 1 => Dz id a
 | .block _ c => Dz id c
 | .loop c => Dz id c
 | .scope c => Dz id c
 | _ => #[]
theorem Gm {b : Bool} {A B : Prop} (ha : A) (hb : B) : Ord b A B := by cases b <;> assumption
theorem cO.rule {α : Type} {F : (α -> anV -> Prop) -> α -> anV -> Prop} (I : Nat -> α -> anV -> Prop) {g : α} {w : anV} (n : Nat) (h0 : I n g w)
 (hr : ∀ n g w, I n g w -> F (fun g' w' => ∃ m, m < n /\ I m g' w') g w) : cO F g w := ⟨I, ⟨n, h0⟩, hr⟩
theorem aG (A B : Prop) : fL (.bool true) A B = A := Eq.trans rfl rfl
theorem aD (A B : Prop) : fL (.bool false) A B = B := Eq.trans rfl rfl
theorem cB (s : (anW -> anV -> Prop) -> Prop) (w : anV) (K : anW -> anV -> Prop) : Gd true s w K = s K := Eq.trans rfl rfl
theorem eZ (s : (anW -> anV -> Prop) -> Prop) (w : anV) (K : anW -> anV -> Prop) : Gd false s w K = K undef w := Eq.trans rfl rfl
theorem BL : fA (.bool true) true = true := Eq.trans rfl rfl
theorem lK : fA (.bool true) false = false := Eq.trans rfl rfl
theorem MG : fA (.bool false) true = false := Eq.trans rfl rfl
theorem eU : fA (.bool false) false = true := Eq.trans rfl rfl
def aL : Operand := .tmp 0
theorem eC {c : Code} {kn kr : Env -> anV -> Prop} {l : List (Nat × (Env -> anV -> Prop))} {Q : Exit -> Env -> anV -> Prop} {g : Env} {w : anV} {A : Prop}
 (h : A) (hn : ∀ g w, kn g w -> Q .normal g w) (hr : ∀ g w, kr g w -> Q .ret g w) (hl : X2 Q l) (e : A = bG P ann c (exQ kn kr l) g w := by kernel_rfl) : bG P ann c Q g w := abC e h hn hr hl
theorem gM {Q : Exit -> Env -> anV -> Prop} (n : Nat) {c : Code} {g : Env} {w : anV}
 (hd : bG P ann (aE n c) (xK (fun g w => bG P ann (aB n c) Q g w) Q) g w) (h : Xd n c = true := by kernel_rfl) : bG P ann c Q g w := YD n c g w h hd
theorem Ca {Q : Exit -> Env -> anV -> Prop} (id : Nat) {c : Code} {g : Env} {w : anV} (hd : bG P ann (bI c) (blk id Q) g w) (h : acX id c = true := by kernel_rfl) : bG P ann c Q g w := abY id c g w h hd
theorem scD {Q : Exit -> Env -> anV -> Prop} {c : Code} {g : Env} {w : anV} (hd : bG P ann (bI c) Q g w) (h : adC c = true := by kernel_rfl) : bG P ann c Q g w := abK c g w h hd
theorem cdD {Q : Exit -> Env -> anV -> Prop} (o : Operand) {c : Code} {g : Env} {w : anV} {A B : Prop} (ha : A -> bG P ann (cT c) Q g w) (hb : B -> bG P ann (cE c) Q g w) (hd : fL (ev g o) A B) (h : Zf c = some o := by kernel_rfl) : bG P ann c Q g w :=
 abD o c g w h (ZY ha hb hd)
theorem JK {T : Type} (proj : Env -> T) (F : (T -> anV -> Prop) -> T -> anV -> Prop) {c : Code} {Q : Exit -> Env -> anV -> Prop} {g : Env} {w : anV}
 (h : cO F (proj g) w)
 (hF : ∀ (X : T -> anV -> Prop) g' w', kB (NS (bI c)) g g' -> F X (proj g') w' -> bG P ann (bI c) (xK (fun g'' w'' => X (proj g'') w'') Q) g' w') (hl : Y8 c = true := by kernel_rfl) : bG P ann c Q g w := Yg proj F c hl h hF
theorem fM {l : List Nat} {g g' : Env} (s : Nat) (h : kB l g g') (hs : mA s l = false := by kernel_rfl) : g' s = g s := Z5 h hs
theorem xB {ann : FA} (fn : Func) (c : Code) (args : List anW) (rs : List ResultVar) (N : Nat) {f : FuncId} {w : anV} {R : anW -> anV -> Prop} (hm : P.follows .mixedOrders = true)
 (hf : P.funcs[f]? = some fn) (h : bG P ann c (aeB P rs R) (XW args) w) (hAf : ann.f = f := by kernel_rfl) (hb : fn.body = some c := by kernel_rfl) (hrs : fn.results = rs.toArray := by kernel_rfl) (hN : fn.ntmps = N := by kernel_rfl) (hle : Nat.ble args.length N = true := by kernel_rfl)
 (hok : codeOk P N ann c = true := by kernel_rfl) : aU P f args.toArray w R := V0 hm hAf hf hb hrs hN (Nat.le_of_ble_eq_true hle) hok h
end
end Go.En
namespace Go.Proofs.YtaggdjhhmbnhoaaDoor
open Go Go.En
noncomputable abbrev pg : Program := Tryd.prog
theorem TrydM.mixed : pg.follows .mixedOrders = true := Tryd.checked.mixed
abbrev K0 := anV -> Prop
abbrev K1 := anW -> K0
abbrev K2 := anW -> K1
abbrev K3 := anW -> K2
abbrev K4 := anW -> K3
abbrev K5 := anW -> K4
abbrev K6 := anW -> K5
abbrev K7 := anW -> K6
abbrev K8 := anW -> K7
abbrev K9 := anW -> K8
abbrev CH := anW -> K9
abbrev K11 := anW -> CH
abbrev HR (rs : List ResultVar) (R : K1) (Q : Exit -> Env -> anV -> Prop) : Prop := ∀ g w, (uQ pg rs g w fun vs => R (tup vs) w) -> Q .ret g w
abbrev no : Env -> anV -> Prop := fun _ _ => False
theorem fH {Q : Env -> anV -> Prop} : ∀ g w, no g w -> Q g w := fun _ _ h => h.elim
abbrev lW : FuncId := 5
abbrev Bc : FuncId := 7
abbrev oB : FuncId := 8
abbrev CA : FuncId := 10
abbrev xR : FuncId := 11
abbrev kC : FuncId := 13
abbrev lT : FuncId := 16
abbrev oL : FuncId := 17
abbrev gS : FuncId := 18
abbrev iE : FuncId := 19
abbrev nU : FuncId := 20
abbrev lI : FuncId := 21
abbrev jA : FuncId := 22
abbrev Ey : FuncId := 23
abbrev kL : FuncId := 24
abbrev Ih : FuncId := 25
abbrev jU : FuncId := 26
abbrev oU : FuncId := 37
abbrev eH : FuncId := 38
abbrev qP : FuncId := 39
abbrev jM : FuncId := 40
abbrev pS : FuncId := 41
abbrev jB : FuncId := 42
abbrev nJ : FuncId := 43
abbrev sZ : FuncId := 44
abbrev AH : FuncId := 45
abbrev fJ : FuncId := 47
abbrev fX : FuncId := 48
abbrev uN : FuncId := 49
abbrev tF : FuncId := 50
abbrev jP : FuncId := 51
abbrev iA : FuncId := 52
abbrev yP : FuncId := 53
abbrev lL : FuncId := 63
abbrev Ii : FuncId := 64
abbrev pN : FuncId := 65
abbrev rD : FuncId := 66
abbrev mE : FuncId := 67
abbrev xE : FuncId := 68
abbrev mV : FuncId := 69
abbrev yD : FuncId := 70
abbrev lG : FuncId := 71
abbrev Eu : FuncId := 72
abbrev Cx : FuncId := 73
abbrev cZ : FuncId := 74
abbrev mS : FuncId := 75
abbrev A0 : FuncId := 76
abbrev Bx : FuncId := 77
abbrev wX : FuncId := 78
abbrev mI : FuncId := 86
abbrev yH : FuncId := 87
abbrev xZ : FuncId := 88
abbrev mB : FuncId := 89
abbrev yT : FuncId := 90
abbrev lN : FuncId := 91
abbrev qY : FuncId := 92
abbrev qX : FuncId := 93
abbrev gT : FuncId := 94
abbrev yV : FuncId := 95
abbrev sV : FuncId := 96
abbrev nE : FuncId := 97
abbrev qO : FuncId := 100
abbrev N0 (Q : Exit -> Env -> anV -> Prop) (k : K0) : Prop := ∀ g w, k w -> Q .normal g w
abbrev E0 (Q : Exit -> Env -> anV -> Prop) (k : K0) (x0 : Nat) : Prop := ∀ g w, k w -> Q (.exit x0) g w
abbrev N1 (Q : Exit -> Env -> anV -> Prop) (k : K1) (a_ : Nat) : Prop := ∀ g w, k (g a_) w -> Q .normal g w
abbrev E1 (Q : Exit -> Env -> anV -> Prop) (k : K1) (x0 : Nat) (a_ : Nat) : Prop := ∀ g w, k (g a_) w -> Q (.exit x0) g w
abbrev N2 (Q : Exit -> Env -> anV -> Prop) (k : K2) (a_ b_ : Nat) : Prop := ∀ g w, k (g a_) (g b_) w -> Q .normal g w
abbrev E2 (Q : Exit -> Env -> anV -> Prop) (k : K2) (x0 : Nat) (a_ b_ : Nat) : Prop := ∀ g w, k (g a_) (g b_) w -> Q (.exit x0) g w
abbrev N3 (Q : Exit -> Env -> anV -> Prop) (k : K3) (a_ b_ c_ : Nat) : Prop := ∀ g w, k (g a_) (g b_) (g c_) w -> Q .normal g w
abbrev E3 (Q : Exit -> Env -> anV -> Prop) (k : K3) (x0 : Nat) (a_ b_ c_ : Nat) : Prop := ∀ g w, k (g a_) (g b_) (g c_) w -> Q (.exit x0) g w
abbrev N4 (Q : Exit -> Env -> anV -> Prop) (k : K4) (a_ b_ c_ d_ : Nat) : Prop := ∀ g w, k (g a_) (g b_) (g c_) (g d_) w -> Q .normal g w
abbrev E4 (Q : Exit -> Env -> anV -> Prop) (k : K4) (x0 : Nat) (a_ b_ c_ d_ : Nat) : Prop := ∀ g w, k (g a_) (g b_) (g c_) (g d_) w -> Q (.exit x0) g w
abbrev N5 (Q : Exit -> Env -> anV -> Prop) (k : K5) (a_ b_ c_ d_ e_ : Nat) : Prop := ∀ g w, k (g a_) (g b_) (g c_) (g d_) (g e_) w -> Q .normal g w
abbrev E5 (Q : Exit -> Env -> anV -> Prop) (k : K5) (x0 : Nat) (a_ b_ c_ d_ e_ : Nat) : Prop := ∀ g w, k (g a_) (g b_) (g c_) (g d_) (g e_) w -> Q (.exit x0) g w
abbrev N6 (Q : Exit -> Env -> anV -> Prop) (k : K6) (a_ b_ c_ d_ e_ f_ : Nat) : Prop := ∀ g w, k (g a_) (g b_) (g c_) (g d_) (g e_) (g f_) w -> Q .normal g w
abbrev E6 (Q : Exit -> Env -> anV -> Prop) (k : K6) (x0 : Nat) (a_ b_ c_ d_ e_ f_ : Nat) : Prop := ∀ g w, k (g a_) (g b_) (g c_) (g d_) (g e_) (g f_) w -> Q (.exit x0) g w
abbrev N7 (Q : Exit -> Env -> anV -> Prop) (k : K7) (a_ b_ c_ d_ e_ f_ g_ : Nat) : Prop := ∀ g w, k (g a_) (g b_) (g c_) (g d_) (g e_) (g f_) (g g_) w -> Q .normal g w
abbrev E7 (Q : Exit -> Env -> anV -> Prop) (k : K7) (x0 : Nat) (a_ b_ c_ d_ e_ f_ g_ : Nat) : Prop := ∀ g w, k (g a_) (g b_) (g c_) (g d_) (g e_) (g f_) (g g_) w -> Q (.exit x0) g w
abbrev N8 (Q : Exit -> Env -> anV -> Prop) (k : K8) (a_ b_ c_ d_ e_ f_ g_ h_ : Nat) : Prop := ∀ g w, k (g a_) (g b_) (g c_) (g d_) (g e_) (g f_) (g g_) (g h_) w -> Q .normal g w
abbrev E8 (Q : Exit -> Env -> anV -> Prop) (k : K8) (x0 : Nat) (a_ b_ c_ d_ e_ f_ g_ h_ : Nat) : Prop := ∀ g w, k (g a_) (g b_) (g c_) (g d_) (g e_) (g f_) (g g_) (g h_) w -> Q (.exit x0) g w
abbrev N9 (Q : Exit -> Env -> anV -> Prop) (k : K9) (a_ b_ c_ d_ e_ f_ g_ h_ i_ : Nat) : Prop := ∀ g w, k (g a_) (g b_) (g c_) (g d_) (g e_) (g f_) (g g_) (g h_) (g i_) w -> Q .normal g w
abbrev N10 (Q : Exit -> Env -> anV -> Prop) (k : CH) (a_ b_ c_ d_ e_ f_ g_ h_ i_ j_ : Nat) : Prop := ∀ g w, k (g a_) (g b_) (g c_) (g d_) (g e_) (g f_) (g g_) (g h_) (g i_) (g j_) w -> Q .normal g w
abbrev E10 (Q : Exit -> Env -> anV -> Prop) (k : CH) (x0 : Nat) (a_ b_ c_ d_ e_ f_ g_ h_ i_ j_ : Nat) : Prop := ∀ g w, k (g a_) (g b_) (g c_) (g d_) (g e_) (g f_) (g g_) (g h_) (g i_) (g j_) w -> Q (.exit x0) g w
abbrev N11 (Q : Exit -> Env -> anV -> Prop) (k : K11) (a_ b_ c_ d_ e_ f_ g_ h_ i_ j_ k_ : Nat) : Prop := ∀ g w, k (g a_) (g b_) (g c_) (g d_) (g e_) (g f_) (g g_) (g h_) (g i_) (g j_) (g k_) w -> Q .normal g w
end Go.Proofs.YtaggdjhhmbnhoaaDoor
namespace Go.Proofs.YtaggdjhhmbnhoaaDoor
open Go Go.En
set_option maxRecDepth 20000
attribute [local irreducible] Go.En.bG
variable (Q : Exit -> Env -> anV -> Prop) (g : Env) (w : anV)
def eQ : FA := ⟨lW, fun i => .leaf ([], []) []⟩
def kV : List ResultVar := [.tmp 4]
noncomputable def eK : Code := dC Tryd.f5
def kQ (R : K1) (LB : anW) (w : anV) : Prop :=
 aU pg kC #[LB] w fun t38 w =>
 aC pg (bT t38 0) w fun t39 w =>
 aC pg (bT t38 1) w fun t40 w =>
 aC pg (cA 29 []) w fun t43 w =>
 aU pg oB #[t39, t43] w fun t44 w =>
 aC pg (bT t44 0) w fun t45 w =>
 aC pg (bT t44 1) w fun t46 w =>
 aC pg (bT t44 2) w fun t47 w =>
 aC pg (cM 29) w fun t13 w =>
 aC pg (aR 29 t13 t46) w fun _u w =>
 aC pg (aF .eql 30 (.tmp 48) (.const (.int .i64 0)) t40 (.int .i64 0)) w fun t49 w =>
 Gd (fA t49 true) (fun K => K t47 w) w fun t51 w =>
 Gd (fA t49 true) (fun K => aC pg (aF .eql 30 (.tmp 51) (.const (.int .i64 0)) t51 (.int .i64 0)) w K) w fun t52 w =>
 aC pg (fR t49 t52 (.bool false)) w fun t53 w =>
 Gd (fA t53 true) (fun K => K t45 w) w fun t55 w =>
 Gd (fA t53 true) (fun K => K LB w) w fun t56 w =>
 Gd (fA t53 true) (fun K => aU pg CA #[t55, t56] w K) w fun t57 w =>
 aC pg (fR t53 t57 (.bool false)) w fun t58 w =>
 Gd (fA t58 true) (fun K => aC pg (bB 29 t13 (.int .i64 0)) w K) w fun t60 w =>
 Gd (fA t58 true) (fun K => aC pg (aQ 27 t60 1) w K) w fun t61 w =>
 Gd (fA t58 true) (fun K => aC pg (aJ 25 t61) w K) w fun t62 w =>
 Gd (fA t58 true) (fun K => aC pg (jI .len #[25] 3 [t62]) w K) w fun t63 w =>
 Gd (fA t58 true) (fun K => aC pg (aF .eql 3 (.tmp 63) (.const (.int .i64 1)) t63 (.int .i64 1)) w K) w fun t64 w =>
 aC pg (fR t58 t64 (.bool false)) w fun t65 w =>
 Gd (fA t65 true) (fun K => aC pg (bB 29 t13 (.int .i64 1)) w K) w fun t67 w =>
 Gd (fA t65 true) (fun K => aC pg (aQ 27 t67 1) w K) w fun t68 w =>
 Gd (fA t65 true) (fun K => aC pg (aJ 25 t68) w K) w fun t69 w =>
 Gd (fA t65 true) (fun K => aC pg (jI .len #[25] 3 [t69]) w K) w fun t70 w =>
 Gd (fA t65 true) (fun K => aC pg (aF .eql 3 (.tmp 70) (.const (.int .i64 1)) t70 (.int .i64 1)) w K) w fun t71 w =>
 aC pg (fR t65 t71 (.bool false)) w fun t72 w =>
 Gd (fA t72 true) (fun K => aC pg (bB 29 t13 (.int .i64 2)) w K) w fun t74 w =>
 Gd (fA t72 true) (fun K => aC pg (aQ 27 t74 1) w K) w fun t75 w =>
 Gd (fA t72 true) (fun K => aC pg (aJ 25 t75) w K) w fun t76 w =>
 Gd (fA t72 true) (fun K => aC pg (jI .len #[25] 3 [t76]) w K) w fun t77 w =>
 Gd (fA t72 true) (fun K => aC pg (aF .eql 3 (.tmp 77) (.const (.int .i64 1)) t77 (.int .i64 1)) w K) w fun t78 w =>
 aC pg (fR t72 t78 (.bool false)) w fun t79 w =>
 R t79 w
theorem El (R : K1) (hr : HR kV R Q) (h : kQ R (g 8) w) : bG pg eQ (aB 1 (aB 6 eK)) Q g w :=
 eC (kn := no) (l := []) h fH hr trivial
def kR (kn : K4) (k0 : K1) (TB xI LB Wz : anW) (w : anV) : Prop :=
 aC pg (aF .lss 3 aL aL Wz TB) w fun t27 w =>
 fL t27
  (aC pg (bB 24 xI (.int .i64 0)) w fun t32 w =>
  aC pg (aJ 47 t32) w fun t33 w =>
  aC pg (dB 24 1 [(0, t33)]) w fun t34 w =>
  aC pg (jI .append #[24, 24] 24 [LB, t34]) w fun t35 w =>
  aC pg (aF .add 3 aL aL Wz (.int .i64 1)) w fun t29 w =>
  kn TB xI t35 t29 w)
  (k0 LB w)
theorem Ec (kn : K4) (k0 : K1) (hn : N4 Q kn 6 7 8 9) (h0 : E1 Q k0 0 8) (h : kR kn k0 (g 6) (g 7) (g 8) (g 9) w) : bG pg eQ (bI (bI (aB 1 (aE 1 (aB 6 eK))))) Q g w :=
 eC (kr := no) (l := [(0, fun g w => k0 (g 8) w)]) h hn fH ⟨h0, trivial⟩
def oM (k0 : K1) (TB xI LB Wz : anW) (w : anV) : Prop :=
 cO (fun (X : (anW × anW) -> K0) (t : anW × anW) (w : anV) => kR (fun _ _ LB Wz w => X (LB, Wz) w) k0 TB xI t.1 t.2 w) (LB, Wz) w
theorem Ej (k0 : K1) (h0 : E1 Q k0 0 8) (h : oM k0 (g 6) (g 7) (g 8) (g 9) w) : bG pg eQ (bI (aB 1 (aE 1 (aB 6 eK)))) Q g w := by
 refine JK (fun g : Env => (g 8, g 9)) (fun X t w => kR (fun _ _ LB Wz w => X (LB, Wz) w) k0 (g 6) (g 7) t.1 t.2 w) h (fun X g1 w1 ha hL => ?_)
 rw [<- fM 6 ha, <- fM 7 ha] at hL
 exact (Ec _ g1 w1 (fun _ _ LB Wz w => X (LB, Wz) w) k0 (fun _ _ h => h) h0 hL)
def pJ (kn : K1) (TB xI LB Wz : anW) (w : anV) : Prop :=
 oM kn TB xI LB Wz w
def oP (kn : K4) (TB xI LB : anW) (w : anV) : Prop :=
 kn TB xI LB (.int .i64 0) w
theorem D9 (kn : K4) (hn : N4 Q kn 6 7 8 9) (h : oP kn (g 6) (g 7) (g 8) w) : bG pg eQ (aE 1 (aE 1 (aB 6 eK))) Q g w :=
 eC (kr := no) (l := []) h hn fH trivial
def pW (kn : K1) (TB xI LB : anW) (w : anV) : Prop :=
 oP (fun TB xI LB Wz w => pJ kn TB xI LB Wz w) TB xI LB w
def pX (R : K1) (TB xI LB : anW) (w : anV) : Prop :=
 pW (fun LB w => kQ R LB w) TB xI LB w
theorem Eg (kn : K1) (hn : N1 Q kn 8) (h : pW kn (g 6) (g 7) (g 8) w) : bG pg eQ (aE 1 (aB 6 eK)) Q g w :=
 gM 1 (D9 _ g w (pJ kn) (fun g w h => aK (Ca 0 (Ej _ g w kn hn h))) h)
def pP (kn : K3) (R : K1) (s_0 Hn : anW) (w : anV) : Prop :=
 aC pg (BA 47 s_0) w fun s_2 w =>
 aU pg Bc #[] w fun t15 w =>
 aC pg (sUn .not t15) w fun t17 w =>
 fL t17
  (R (.bool false) w)
  (aC pg (aF .rem 5 aL aL Hn (.int .u8 100)) w fun t19 w =>
  aC pg (fG 5 3 t19) w fun t20 w =>
  aC pg (aF .add 3 aL aL t20 (.int .i64 1)) w fun t21 w =>
  aC pg (aJ 47 s_2) w fun t22 w =>
  aC pg (dB 24 1 [(0, t22)]) w fun t23 w =>
  aU pg xR #[t23] w fun t24 w =>
  kn t21 t24 (.slice none 0 0) w)
theorem Ee (kn : K3) (R : K1) (hn : N3 Q kn 6 7 8) (hr : HR kV R Q) (h : pP kn R (g 0) (g 1) w) : bG pg eQ (aE 6 eK) Q g w :=
 eC (l := []) h hn hr trivial
def pL (R : K1) (s_0 Hn : anW) (w : anV) : Prop :=
 pP (fun TB xI LB w => pX R TB xI LB w) R s_0 Hn w
theorem Ei (R : K1) (hr : HR kV R Q) (h : pL R (g 0) (g 1) w) : bG pg eQ eK Q g w :=
 gM 6 (Ee _ g w (pX R) R (fun g w h => aK (gM 1 (Eg _ g w (kQ R) (fun g w h => aK (El _ g w R hr h)) h))) hr h)
def B8 (a0 a1 : anW) (w : anV) (R : K1) : Prop :=
 pL R a0 a1 w
theorem Fl {a0 a1 : anW} {w : anV} {R : K1} (h : B8 a0 a1 w R) : aU pg lW #[a0, a1] w R := by
 refine xB (ann := eQ) Tryd.f5 eK [a0, a1] kV 80 TrydM.mixed Tryd.func5 ?_
 exact (Ei _ _ _ R (fun _ _ h => h) h)
def IS : FA := ⟨Bc, fun i => .leaf ([], []) []⟩
def Kx : List ResultVar := [.tmp 0]
noncomputable def GF : Code := dC Tryd.f7
def CZ (R : K1)  (w : anV) : Prop :=
 aU pg kC #[(.slice none 0 0)] w fun t9 w =>
 aC pg (bT t9 0) w fun t10 w =>
 aC pg (bT t9 1) w fun t11 w =>
 aC pg (cA 47 [(0, (.int .u32 20)), (1, (.int .u32 3)), (2, (.int .u32 9))]) w fun t13 w =>
 aC pg (cA 47 [(0, (.int .u32 0)), (1, (.int .u32 70)), (2, (.int .u32 1))]) w fun t14 w =>
 aC pg (dB 24 2 [(0, t13), (1, t14)]) w fun t15 w =>
 aU pg kC #[t15] w fun t16 w =>
 aC pg (bT t16 0) w fun t17 w =>
 aC pg (bT t16 1) w fun t18 w =>
 aC pg (cA 29 []) w fun t21 w =>
 aU pg oB #[t17, t21] w fun t22 w =>
 aC pg (bT t22 0) w fun t23 w =>
 aC pg (bT t22 1) w fun t24 w =>
 aC pg (bT t22 2) w fun t25 w =>
 aC pg (cM 29) w fun t6 w =>
 aC pg (aR 29 t6 t24) w fun _u w =>
 aC pg (jI .len #[22] 3 [t10]) w fun t27 w =>
 aC pg (aF .eql 3 (.tmp 27) (.const (.int .i64 1)) t27 (.int .i64 1)) w fun t28 w =>
 Gd (fA t28 true) (fun K => K t10 w) w fun t30 w =>
 Gd (fA t28 true) (fun K => aC pg (bB 22 t30 (.int .i64 0)) w K) w fun t31 w =>
 Gd (fA t28 true) (fun K => aC pg (aJ 5 t31) w K) w fun t32 w =>
 Gd (fA t28 true) (fun K => aC pg (aF .eql 5 (.tmp 32) (.const (.int .u8 0)) t32 (.int .u8 0)) w K) w fun t33 w =>
 aC pg (fR t28 t33 (.bool false)) w fun t34 w =>
 Gd (fA t34 true) (fun K => K t11 w) w fun t36 w =>
 Gd (fA t34 true) (fun K => aC pg (aF .eql 30 (.tmp 36) (.const (.int .i64 0)) t36 (.int .i64 0)) w K) w fun t37 w =>
 aC pg (fR t34 t37 (.bool false)) w fun t38 w =>
 Gd (fA t38 true) (fun K => K t18 w) w fun t40 w =>
 Gd (fA t38 true) (fun K => aC pg (aF .eql 30 (.tmp 40) (.const (.int .i64 0)) t40 (.int .i64 0)) w K) w fun t41 w =>
 aC pg (fR t38 t41 (.bool false)) w fun t42 w =>
 Gd (fA t42 true) (fun K => K t25 w) w fun t44 w =>
 Gd (fA t42 true) (fun K => aC pg (aF .eql 30 (.tmp 44) (.const (.int .i64 0)) t44 (.int .i64 0)) w K) w fun t45 w =>
 aC pg (fR t42 t45 (.bool false)) w fun t46 w =>
 Gd (fA t46 true) (fun K => K t23 w) w fun t48 w =>
 Gd (fA t46 true) (fun K => aC pg (jI .len #[24] 3 [t48]) w K) w fun t49 w =>
 Gd (fA t46 true) (fun K => aC pg (aF .eql 3 (.tmp 49) (.const (.int .i64 2)) t49 (.int .i64 2)) w K) w fun t50 w =>
 aC pg (fR t46 t50 (.bool false)) w fun t51 w =>
 Gd (fA t51 true) (fun K => K t23 w) w fun t53 w =>
 Gd (fA t51 true) (fun K => aC pg (bB 24 t53 (.int .i64 0)) w K) w fun t54 w =>
 Gd (fA t51 true) (fun K => aC pg (aQ 47 t54 0) w K) w fun t55 w =>
 Gd (fA t51 true) (fun K => aC pg (aJ 43 t55) w K) w fun t56 w =>
 Gd (fA t51 true) (fun K => aC pg (aF .eql 43 (.tmp 56) (.const (.int .u32 20)) t56 (.int .u32 20)) w K) w fun t57 w =>
 aC pg (fR t51 t57 (.bool false)) w fun t58 w =>
 Gd (fA t58 true) (fun K => K t23 w) w fun t60 w =>
 Gd (fA t58 true) (fun K => aC pg (bB 24 t60 (.int .i64 0)) w K) w fun t61 w =>
 Gd (fA t58 true) (fun K => aC pg (aQ 47 t61 2) w K) w fun t62 w =>
 Gd (fA t58 true) (fun K => aC pg (aJ 43 t62) w K) w fun t63 w =>
 Gd (fA t58 true) (fun K => aC pg (aF .eql 43 (.tmp 63) (.const (.int .u32 9)) t63 (.int .u32 9)) w K) w fun t64 w =>
 aC pg (fR t58 t64 (.bool false)) w fun t65 w =>
 Gd (fA t65 true) (fun K => K t23 w) w fun t67 w =>
 Gd (fA t65 true) (fun K => aC pg (bB 24 t67 (.int .i64 1)) w K) w fun t68 w =>
 Gd (fA t65 true) (fun K => aC pg (aQ 47 t68 1) w K) w fun t69 w =>
 Gd (fA t65 true) (fun K => aC pg (aJ 43 t69) w K) w fun t70 w =>
 Gd (fA t65 true) (fun K => aC pg (aF .eql 43 (.tmp 70) (.const (.int .u32 70)) t70 (.int .u32 70)) w K) w fun t71 w =>
 aC pg (fR t65 t71 (.bool false)) w fun t72 w =>
 Gd (fA t72 true) (fun K => K t23 w) w fun t74 w =>
 Gd (fA t72 true) (fun K => aC pg (bB 24 t74 (.int .i64 1)) w K) w fun t75 w =>
 Gd (fA t72 true) (fun K => aC pg (aQ 47 t75 2) w K) w fun t76 w =>
 Gd (fA t72 true) (fun K => aC pg (aJ 43 t76) w K) w fun t77 w =>
 Gd (fA t72 true) (fun K => aC pg (aF .eql 43 (.tmp 77) (.const (.int .u32 1)) t77 (.int .u32 1)) w K) w fun t78 w =>
 aC pg (fR t72 t78 (.bool false)) w fun t79 w =>
 Gd (fA t79 true) (fun K => aC pg (bB 29 t6 (.int .i64 0)) w K) w fun t81 w =>
 Gd (fA t79 true) (fun K => aC pg (aQ 27 t81 1) w K) w fun t82 w =>
 Gd (fA t79 true) (fun K => aC pg (aJ 25 t82) w K) w fun t83 w =>
 Gd (fA t79 true) (fun K => aC pg (jI .len #[25] 3 [t83]) w K) w fun t84 w =>
 Gd (fA t79 true) (fun K => aC pg (aF .gtr 3 aL aL t84 (.int .i64 0)) w K) w fun t85 w =>
 aC pg (fR t79 t85 (.bool false)) w fun t86 w =>
 R t86 w
theorem OE (R : K1) (hr : HR Kx R Q) (h : CZ R w) : bG pg IS GF Q g w :=
 eC (kn := no) (l := []) h fH hr trivial
def Qu (w : anV) (R : K1) : Prop :=
 CZ R w
theorem OU {w : anV} {R : K1} (h : Qu w R) : aU pg Bc #[] w R := by
 refine xB (ann := IS) Tryd.f7 GF [] Kx 87 TrydM.mixed Tryd.func7 ?_
 exact (OE _ _ _ R (fun _ _ h => h) h)
def bU : FA := ⟨oB, fun i => match Nat.beq i 8 with | true => .leaf ([2], []) [(false, []), (false, []), (true, []), (false, [])] | false => match Nat.beq i 34 with | true => .leaf ([8, 10], []) [(false, []), (false, []), (false, []), (false, []), (false, []), (false, []), (false, []), (false, []), (true, []), (false, []), (true, [])] | false => match Nat.beq i 41 with | true => .leaf ([3], []) [(false, []), (false, []), (false, []), (true, []), (false, [])] | false => .leaf ([], []) []⟩
def qS : List ResultVar := [.tmp 4, .cell 5 29, .tmp 6]
noncomputable def bP : Code := dC Tryd.f8
def qR (R : K1) (t5 t9 eX cR : anW) (w : anV) : Prop :=
 aU pg jU #[eX] w fun t127 w =>
 aC pg (aF .lss 3 aL aL t127 (.int .i64 0)) w fun t128 w =>
 fL t128
  (aC pg (cA 29 []) w fun t129 w =>
  aC pg (aR 29 t5 t129) w fun _u w =>
  xA pg 29 t5 w fun r1 => R (.tuple #[(.slice none 0 0), r1, (.int .i64 11)]) w)
  (aU pg jU #[eX] w fun t132 w =>
  aC pg (aF .gtr 3 aL aL t132 (.int .i64 0)) w fun t133 w =>
  fL t133
   (aC pg (cA 29 []) w fun t134 w =>
   aC pg (aR 29 t5 t134) w fun _u w =>
   xA pg 29 t5 w fun r1 => R (.tuple #[(.slice none 0 0), r1, (.int .i64 15)]) w)
   ((dr w) = (dr w) /\
   aC pg (aJ 29 t9) (dr w) fun t136 w_ => w_ = (dr w) /\
   (dr w) = (dr w) /\
   aC pg (aR 29 t5 t136) (dr w) fun _u3 XU =>
   XU = XU /\
   xA pg 29 t5 XU fun r1 => R (.tuple #[cR, r1, (.int .i64 0)]) XU))
theorem KP (R : K1) (hr : HR qS R Q) (h : qR R (g 5) (g 9) (g 11) (g 14) w) : bG pg bU (aB 1 (aB 1 (aB 1 (aB 9 bP)))) Q g w :=
 eC (kn := no) (l := []) h fH hr trivial
def rA (kn : K8) (t5 oI t9 eX aO cR t76 t77 : anW) (w : anV) : Prop :=
 aC pg (aF .add 3 aL aL t77 (.int .i64 1)) w fun t124 w =>
 kn t5 oI t9 eX aO cR t76 t124 w
theorem J6 (kn : K8) (hn : N8 Q kn 5 8 9 11 12 14 76 77) (h : rA kn (g 5) (g 8) (g 9) (g 11) (g 12) (g 14) (g 76) (g 77) w) : bG pg bU (aB 1 (aB 2 (bI (bI (aB 1 (aE 1 (aB 1 (aB 1 (aB 9 bP))))))))) Q g w :=
 eC (kr := no) (l := []) h hn fH trivial
def qW (kn : CH) (k5 : K8) (t5 oI t9 eX aO cR t76 t77 t109 t110 : anW) (w : anV) : Prop :=
 aC pg (aF .lss 3 aL aL t110 (.int .i64 3)) w fun t111 w =>
 fL t111
  (aC pg (GH 67 t109 t110) w fun t112 w =>
  (dr w) = (dr w) /\
  (dr w) = (dr w) /\
  aC pg (bB 29 t9 t112) (dr w) fun t115 w_ => w_ = (dr w) /\
  aC pg (aJ 27 t115) (dr w) fun t116 w_ => w_ = (dr w) /\
  (dr w) = (dr w) /\
  aC pg (bB 67 aO t112) (dr w) fun t118 w_ => w_ = (dr w) /\
  aC pg (aJ 3 t118) (dr w) fun t119 w_ => w_ = (dr w) /\
  (dr w) = (dr w) /\
  aU pg Ih #[t116, t119, eX] (dr w) fun t121 aaB =>
  aC pg (bB 67 aO t112) aaB fun t122 w_ => w_ = aaB /\
  aC pg (aR 3 t122 t121) aaB fun _u10 adY =>
  aC pg (aF .add 3 aL aL t110 (.int .i64 1)) adY fun t123 w =>
  kn t5 oI t9 eX aO cR t76 t77 t109 t123 w)
  (k5 t5 oI t9 eX aO cR t76 t77 w)
theorem La (kn : CH) (k5 : K8) (hn : N10 Q kn 5 8 9 11 12 14 76 77 109 110) (h5 : E8 Q k5 5 5 8 9 11 12 14 76 77) (h : qW kn k5 (g 5) (g 8) (g 9) (g 11) (g 12) (g 14) (g 76) (g 77) (g 109) (g 110) w) : bG pg bU (bI (bI (aB 8 (bI (aE 1 (aB 2 (bI (bI (aB 1 (aE 1 (aB 1 (aB 1 (aB 9 bP))))))))))))) Q g w :=
 eC (kr := no) (l := [(5, fun g w => k5 (g 5) (g 8) (g 9) (g 11) (g 12) (g 14) (g 76) (g 77) w)]) h hn fH ⟨h5, trivial⟩
def qN (k5 : K8) (t5 oI t9 eX aO cR t76 t77 t109 t110 : anW) (w : anV) : Prop :=
 cO (fun (X : anW -> K0) (t : anW) (w : anV) => qW (fun _ _ _ _ _ _ _ _ _ t110 w => X t110 w) k5 t5 oI t9 eX aO cR t76 t77 t109 t w) t110 w
theorem JZ (k5 : K8) (h5 : E8 Q k5 5 5 8 9 11 12 14 76 77) (h : qN k5 (g 5) (g 8) (g 9) (g 11) (g 12) (g 14) (g 76) (g 77) (g 109) (g 110) w) : bG pg bU (bI (aB 8 (bI (aE 1 (aB 2 (bI (bI (aB 1 (aE 1 (aB 1 (aB 1 (aB 9 bP)))))))))))) Q g w := by
 refine JK (fun g : Env => g 110) (fun X t w => qW (fun _ _ _ _ _ _ _ _ _ t110 w => X t110 w) k5 (g 5) (g 8) (g 9) (g 11) (g 12) (g 14) (g 76) (g 77) (g 109) t w) h (fun X g1 w1 ha hL => ?_)
 rw [<- fM 5 ha, <- fM 8 ha, <- fM 9 ha, <- fM 11 ha, <- fM 12 ha, <- fM 14 ha, <- fM 76 ha, <- fM 77 ha, <- fM 109 ha] at hL
 exact (La _ g1 w1 (fun _ _ _ _ _ _ _ _ _ t110 w => X t110 w) k5 (fun _ _ h => h) h5 hL)
def yA (kn : K8) (t5 oI t9 eX aO cR t76 t77 t109 t110 : anW) (w : anV) : Prop :=
 qN kn t5 oI t9 eX aO cR t76 t77 t109 t110 w
def zH (kn : CH) (k3 : K4) (t5 oI t9 eX aO cR t76 t77 : anW) (w : anV) : Prop :=
 aC pg (cM 47) w fun acM w =>
 aC pg (bB 29 t9 (.int .i64 1)) w fun t80 w =>
 aC pg (aJ 27 t80) w fun t81 w =>
 aC pg (bB 67 aO (.int .i64 1)) w fun t82 w =>
 aC pg (aJ 3 t82) w fun t83 w =>
 aU pg kL #[(.int .i64 1), t81, t83, eX] w fun t85 w =>
 aC pg (aQ 47 acM 2) w fun t86 w =>
 aC pg (aR 43 t86 t85) w fun _u w =>
 aC pg (bB 29 t9 (.int .i64 2)) w fun t87 w =>
 aC pg (aJ 27 t87) w fun t88 w =>
 aC pg (bB 67 aO (.int .i64 2)) w fun t89 w =>
 aC pg (aJ 3 t89) w fun t90 w =>
 aU pg kL #[(.int .i64 2), t88, t90, eX] w fun t92 w =>
 aC pg (aQ 47 acM 1) w fun t93 w =>
 aC pg (aR 43 t93 t92) w fun _u w =>
 aC pg (bB 29 t9 (.int .i64 0)) w fun t94 w =>
 aC pg (aJ 27 t94) w fun t95 w =>
 aC pg (bB 67 aO (.int .i64 0)) w fun t96 w =>
 aC pg (aJ 3 t96) w fun t97 w =>
 aU pg kL #[(.int .i64 0), t95, t97, eX] w fun t99 w =>
 aC pg (aQ 47 acM 0) w fun t100 w =>
 aC pg (aR 43 t100 t99) w fun _u w =>
 aC pg (aJ 47 acM) w fun t102 w =>
 aC pg (dB 24 1 [(0, t102)]) w fun t103 w =>
 aC pg (jI .append #[24, 24] 24 [cR, t103]) w fun t104 w =>
 aC pg (aF .sub 3 aL aL oI (.int .i64 1)) w fun t107 w =>
 aC pg (aF .eql 3 (.tmp 105) (.tmp 107) t77 t107) w fun t108 w =>
 fL t108
  (k3 t5 t9 eX t104 w)
  (aC pg (cA 67 [(0, (.int .i64 0)), (1, (.int .i64 2)), (2, (.int .i64 1))]) w fun t109 w =>
  kn t5 oI t9 eX aO t104 t76 t77 t109 (.int .i64 0) w)
theorem KQ (kn : CH) (k3 : K4) (hn : N10 Q kn 5 8 9 11 12 14 76 77 109 110) (h3 : E4 Q k3 3 5 9 11 14) (h : zH kn k3 (g 5) (g 8) (g 9) (g 11) (g 12) (g 14) (g 76) (g 77) w) : bG pg bU (aE 8 (bI (aE 1 (aB 2 (bI (bI (aB 1 (aE 1 (aB 1 (aB 1 (aB 9 bP))))))))))) Q g w :=
 eC (kr := no) (l := [(3, fun g w => k3 (g 5) (g 9) (g 11) (g 14) w)]) h hn fH ⟨h3, trivial⟩
def Ez (kn : K8) (k3 : K4) (t5 oI t9 eX aO cR t76 t77 : anW) (w : anV) : Prop :=
 zH (fun t5 oI t9 eX aO cR t76 t77 t109 t110 w => yA kn t5 oI t9 eX aO cR t76 t77 t109 t110 w) k3 t5 oI t9 eX aO cR t76 t77 w
def yZ (kn : K8) (k3 : K4) (t5 oI t9 eX aO cR t76 t77 : anW) (w : anV) : Prop :=
 Ez kn k3 t5 oI t9 eX aO cR t76 t77 w
def xS (kn : K8) (k3 : K4) (t5 oI t9 eX aO cR t76 t77 : anW) (w : anV) : Prop :=
 yZ (fun t5 oI t9 eX aO cR t76 t77 w => rA kn t5 oI t9 eX aO cR t76 t77 w) k3 t5 oI t9 eX aO cR t76 t77 w
theorem JT (kn : K8) (k3 : K4) (hn : N8 Q kn 5 8 9 11 12 14 76 77) (h3 : E4 Q k3 3 5 9 11 14) (h : yZ kn k3 (g 5) (g 8) (g 9) (g 11) (g 12) (g 14) (g 76) (g 77) w) : bG pg bU (aE 1 (aB 2 (bI (bI (aB 1 (aE 1 (aB 1 (aB 1 (aB 9 bP))))))))) Q g w :=
 Ca 4 (gM 8 (KQ _ g w (yA kn) k3 (fun g w h => aK (Ca 5 (JZ _ g w kn hn h))) h3 h))
def wJ (kn : K8) (k3 : K4) (t5 oI t9 eX aO cR t76 t77 : anW) (w : anV) : Prop :=
 aC pg (aF .lss 3 aL aL t77 t76) w fun t78 w =>
 fL t78
  (kn t5 oI t9 eX aO cR t76 t77 w)
  (k3 t5 t9 eX cR w)
theorem Jy (kn : K8) (k3 : K4) (hn : N8 Q kn 5 8 9 11 12 14 76 77) (h3 : E4 Q k3 3 5 9 11 14) (h : wJ kn k3 (g 5) (g 8) (g 9) (g 11) (g 12) (g 14) (g 76) (g 77) w) : bG pg bU (aE 2 (bI (bI (aB 1 (aE 1 (aB 1 (aB 1 (aB 9 bP)))))))) Q g w :=
 eC (kr := no) (l := [(3, fun g w => k3 (g 5) (g 9) (g 11) (g 14) w)]) h hn fH ⟨h3, trivial⟩
def pT (kn : K8) (k3 : K4) (t5 oI t9 eX aO cR t76 t77 : anW) (w : anV) : Prop :=
 wJ (fun t5 oI t9 eX aO cR t76 t77 w => xS kn k3 t5 oI t9 eX aO cR t76 t77 w) k3 t5 oI t9 eX aO cR t76 t77 w
def pK (k3 : K4) (t5 oI t9 eX aO cR t76 t77 : anW) (w : anV) : Prop :=
 cO (fun (X : (anW × anW) -> K0) (t : anW × anW) (w : anV) => pT (fun _ _ _ _ _ cR _ t77 w => X (cR, t77) w) k3 t5 oI t9 eX aO t.1 t76 t.2 w) (cR, t77) w
theorem JG (kn : K8) (k3 : K4) (hn : N8 Q kn 5 8 9 11 12 14 76 77) (h3 : E4 Q k3 3 5 9 11 14) (h : pT kn k3 (g 5) (g 8) (g 9) (g 11) (g 12) (g 14) (g 76) (g 77) w) : bG pg bU (bI (bI (aB 1 (aE 1 (aB 1 (aB 1 (aB 9 bP))))))) Q g w :=
 gM 2 (Jy _ g w (xS kn k3) k3 (fun g w h => aK (gM 1 (JT _ g w (rA kn) k3 (fun g w h => aK (J6 _ g w kn hn h)) h3 h))) h3 h)
theorem JR (k3 : K4) (h3 : E4 Q k3 3 5 9 11 14) (h : pK k3 (g 5) (g 8) (g 9) (g 11) (g 12) (g 14) (g 76) (g 77) w) : bG pg bU (bI (aB 1 (aE 1 (aB 1 (aB 1 (aB 9 bP)))))) Q g w := by
 refine JK (fun g : Env => (g 14, g 77)) (fun X t w => pT (fun _ _ _ _ _ cR _ t77 w => X (cR, t77) w) k3 (g 5) (g 8) (g 9) (g 11) (g 12) t.1 (g 76) t.2 w) h (fun X g1 w1 ha hL => ?_)
 rw [<- fM 5 ha, <- fM 8 ha, <- fM 9 ha, <- fM 11 ha, <- fM 12 ha, <- fM 76 ha] at hL
 exact (JG _ g1 w1 (fun _ _ _ _ _ cR _ t77 w => X (cR, t77) w) k3 (fun _ _ h => h) h3 hL)
def vI (kn : K4) (t5 oI t9 eX aO cR t76 t77 : anW) (w : anV) : Prop :=
 pK kn t5 oI t9 eX aO cR t76 t77 w
def wV (kn : K8) (t5 oI t9 eX aO cR : anW) (w : anV) : Prop :=
 kn t5 oI t9 eX aO cR oI (.int .i64 0) w
theorem Ji (kn : K8) (hn : N8 Q kn 5 8 9 11 12 14 76 77) (h : wV kn (g 5) (g 8) (g 9) (g 11) (g 12) (g 14) w) : bG pg bU (aE 1 (aE 1 (aB 1 (aB 1 (aB 9 bP))))) Q g w :=
 eC (kr := no) (l := []) h hn fH trivial
def vN (kn : K4) (t5 oI t9 eX aO cR : anW) (w : anV) : Prop :=
 wV (fun t5 oI t9 eX aO cR t76 t77 w => vI kn t5 oI t9 eX aO cR t76 t77 w) t5 oI t9 eX aO cR w
def wB (R : K1) (t5 oI t9 eX aO cR : anW) (w : anV) : Prop :=
 vN (fun t5 t9 eX cR w => qR R t5 t9 eX cR w) t5 oI t9 eX aO cR w
theorem Ja (kn : K4) (hn : N4 Q kn 5 9 11 14) (h : vN kn (g 5) (g 8) (g 9) (g 11) (g 12) (g 14) w) : bG pg bU (aE 1 (aB 1 (aB 1 (aB 9 bP)))) Q g w :=
 gM 1 (Ji _ g w (vI kn) (fun g w h => aK (Ca 3 (JR _ g w kn hn h))) h)
def vB (kn : K6) (t5 oI t9 eX aO : anW) (w : anV) : Prop :=
 kn t5 oI t9 eX aO (.slice none 0 0) w
theorem Jw (kn : K6) (hn : N6 Q kn 5 8 9 11 12 14) (h : vB kn (g 5) (g 8) (g 9) (g 11) (g 12) w) : bG pg bU (aE 1 (aB 1 (aB 9 bP))) Q g w :=
 eC (kr := no) (l := []) h hn fH trivial
def vZ (R : K1) (t5 oI t9 eX aO : anW) (w : anV) : Prop :=
 vB (fun t5 oI t9 eX aO cR w => wB R t5 oI t9 eX aO cR w) t5 oI t9 eX aO w
def pD (kn : K6) (k1 : K5) (t5 oI t9 eX aO t65 : anW) (w : anV) : Prop :=
 aC pg (aF .lss 3 aL aL t65 (.int .i64 3)) w fun t66 w =>
 fL t66
  (aC pg (bB 29 t9 t65) w fun t70 w =>
  aC pg (aJ 27 t70) w fun t71 w =>
  aU pg Ey #[t71, eX] w fun t73 w =>
  aC pg (bB 67 aO t65) w fun t74 w =>
  aC pg (aR 3 t74 t73) w fun _u w =>
  aC pg (aF .add 3 aL aL t65 (.int .i64 1)) w fun t75 w =>
  kn t5 oI t9 eX aO t75 w)
  (k1 t5 oI t9 eX aO w)
theorem JI (kn : K6) (k1 : K5) (hn : N6 Q kn 5 8 9 11 12 65) (h1 : E5 Q k1 1 5 8 9 11 12) (h : pD kn k1 (g 5) (g 8) (g 9) (g 11) (g 12) (g 65) w) : bG pg bU (bI (bI (aB 1 (aE 1 (aB 9 bP))))) Q g w :=
 eC (kr := no) (l := [(1, fun g w => k1 (g 5) (g 8) (g 9) (g 11) (g 12) w)]) h hn fH ⟨h1, trivial⟩
def pQ (k1 : K5) (t5 oI t9 eX aO t65 : anW) (w : anV) : Prop :=
 cO (fun (X : anW -> K0) (t : anW) (w : anV) => pD (fun _ _ _ _ _ t65 w => X t65 w) k1 t5 oI t9 eX aO t w) t65 w
theorem Jo (k1 : K5) (h1 : E5 Q k1 1 5 8 9 11 12) (h : pQ k1 (g 5) (g 8) (g 9) (g 11) (g 12) (g 65) w) : bG pg bU (bI (aB 1 (aE 1 (aB 9 bP)))) Q g w := by
 refine JK (fun g : Env => g 65) (fun X t w => pD (fun _ _ _ _ _ t65 w => X t65 w) k1 (g 5) (g 8) (g 9) (g 11) (g 12) t w) h (fun X g1 w1 ha hL => ?_)
 rw [<- fM 5 ha, <- fM 8 ha, <- fM 9 ha, <- fM 11 ha, <- fM 12 ha] at hL
 exact (JI _ g1 w1 (fun _ _ _ _ _ t65 w => X t65 w) k1 (fun _ _ h => h) h1 hL)
def wO (kn : K5) (t5 oI t9 eX aO t65 : anW) (w : anV) : Prop :=
 pQ kn t5 oI t9 eX aO t65 w
def vK (kn : K6) (t5 oI t9 eX aO : anW) (w : anV) : Prop :=
 kn t5 oI t9 eX aO (.int .i64 0) w
theorem I6 (kn : K6) (hn : N6 Q kn 5 8 9 11 12 65) (h : vK kn (g 5) (g 8) (g 9) (g 11) (g 12) w) : bG pg bU (aE 1 (aE 1 (aB 9 bP))) Q g w :=
 eC (kr := no) (l := []) h hn fH trivial
def vP (kn : K5) (t5 oI t9 eX aO : anW) (w : anV) : Prop :=
 vK (fun t5 oI t9 eX aO t65 w => wO kn t5 oI t9 eX aO t65 w) t5 oI t9 eX aO w
def wT (R : K1) (t5 oI t9 eX aO : anW) (w : anV) : Prop :=
 vP (fun t5 oI t9 eX aO w => vZ R t5 oI t9 eX aO w) t5 oI t9 eX aO w
theorem JP (kn : K5) (hn : N5 Q kn 5 8 9 11 12) (h : vP kn (g 5) (g 8) (g 9) (g 11) (g 12) w) : bG pg bU (aE 1 (aB 9 bP)) Q g w :=
 gM 1 (I6 _ g w (wO kn) (fun g w h => aK (Ca 1 (Jo _ g w kn hn h))) h)
def wS (kn : K5) (R : K1) (CK RX : anW) (w : anV) : Prop :=
 aC pg (BA 29 RX) w fun fF w =>
 aC pg (cM 29) w fun t5 w =>
 aU pg lT #[CK] w fun t20 w =>
 aU pg oL #[t20] w fun t22 w =>
 aU pg gS #[t20] w fun t25 w =>
 aC pg (aF .neq 30 (.tmp 25) (.const (.int .i64 0)) t25 (.int .i64 0)) w fun t26 w =>
 fL t26
  (aC pg (cA 29 []) w fun t27 w =>
  aU pg gS #[t20] w fun t29 w =>
  aC pg (aR 29 t5 t27) w fun _u w =>
  xA pg 29 t5 w fun r1 => R (.tuple #[(.slice none 0 0), r1, t29]) w)
  (aC pg (aF .eql 3 (.tmp 31) (.const (.int .i64 0)) t22 (.int .i64 0)) w fun t32 w =>
  Gd (fA t32 true) (fun K => K t20 w) w fun t34 w =>
  Gd (fA t32 true) (fun K => aU pg iE #[t34] w K) w fun t35 w =>
  Gd (fA t32 true) (fun K => aC pg (aF .gtr 3 aL aL t35 (.int .i64 0)) w K) w fun t36 w =>
  aC pg (fR t32 t36 (.bool false)) w fun t37 w =>
  fL t37
   (aC pg (cA 29 []) w fun t38 w =>
   aC pg (aR 29 t5 t38) w fun _u w =>
   xA pg 29 t5 w fun r1 => R (.tuple #[(.slice none 0 0), r1, (.int .i64 15)]) w)
   (aC pg (aF .eql 3 (.tmp 40) (.const (.int .i64 0)) t22 (.int .i64 0)) w fun t41 w =>
   fL t41
    (aC pg (aJ 29 fF) (dr w) fun t42 w_ => w_ = (dr w) /\
    (dr w) = (dr w) /\
    aC pg (aR 29 t5 t42) (dr w) fun _u2 abN =>
    abN = abN /\
    xA pg 29 t5 abN fun r1 => R (.tuple #[(.slice none 0 0), r1, (.int .i64 0)]) abN)
    (aC pg (aJ 29 fF) w fun t45 w =>
    aU pg nU #[t20, t45] w fun t46 w =>
    aC pg (bT t46 0) w fun t47 w =>
    aC pg (bT t46 1) w fun t48 w =>
    aC pg (cM 29) w fun t9 w =>
    aC pg (aR 29 t9 t47) w fun _u w =>
    aC pg (aF .neq 30 (.tmp 49) (.const (.int .i64 0)) t48 (.int .i64 0)) w fun t50 w =>
    fL t50
     (aC pg (cA 29 []) w fun t51 w =>
     aC pg (aR 29 t5 t51) w fun _u w =>
     xA pg 29 t5 w fun r1 => R (.tuple #[(.slice none 0 0), r1, t48]) w)
     (aU pg iE #[t20] w fun t56 w =>
     aU pg jA #[t20, t56] w fun t57 w =>
     aU pg lI #[t57] w fun t58 w =>
     aC pg (bT t58 0) w fun t59 w =>
     aC pg (bT t58 1) w fun t60 w =>
     aC pg (aF .neq 30 (.tmp 61) (.const (.int .i64 0)) t60 (.int .i64 0)) w fun t62 w =>
     fL t62
      (aC pg (cA 29 []) w fun t63 w =>
      aC pg (aR 29 t5 t63) w fun _u w =>
      xA pg 29 t5 w fun r1 => R (.tuple #[(.slice none 0 0), r1, t60]) w)
      (aC pg (cM 67) w fun aO w =>
      kn t5 t22 t9 t59 aO w)))))
theorem JC (kn : K5) (R : K1) (hn : N5 Q kn 5 8 9 11 12) (hr : HR qS R Q) (h : wS kn R (g 0) (g 1) w) : bG pg bU (aE 9 bP) Q g w :=
 eC (l := []) h hn hr trivial
def vW (R : K1) (CK RX : anW) (w : anV) : Prop :=
 wS (fun t5 oI t9 eX aO w => wT R t5 oI t9 eX aO w) R CK RX w
theorem Jp (R : K1) (hr : HR qS R Q) (h : vW R (g 0) (g 1) w) : bG pg bU bP Q g w :=
 gM 9 (JC _ g w (wT R) R (fun g w h => aK (gM 1 (JP _ g w (vZ R) (fun g w h => aK (gM 1 (Jw _ g w (wB R) (fun g w h => aK (gM 1 (Ja _ g w (qR R) (fun g w h => aK (KP _ g w R hr h)) h))) h))) h))) hr h)
def KC (a0 a1 : anW) (w : anV) (R : K1) : Prop :=
 vW R a0 a1 w
theorem LF {a0 a1 : anW} {w : anV} {R : K1} (h : KC a0 a1 w R) : aU pg oB #[a0, a1] w R := by
 refine xB (ann := bU) Tryd.f8 bP [a0, a1] qS 137 TrydM.mixed Tryd.func8 ?_
 exact (Jp _ _ _ R (fun _ _ h => h) h)
def jV : FA := ⟨CA, fun i => match Nat.beq i 6 with | true => .leaf ([], []) [(false, []), (false, []), (false, []), (false, []), (false, []), (false, []), (false, []), (false, []), (false, [])] | false => .leaf ([], []) []⟩
def mX : List ResultVar := [.tmp 4]
noncomputable def iT : Code := dC Tryd.f10
def Bb (R : K1)  (w : anV) : Prop :=
 R (.bool true) w
theorem PS (R : K1) (hr : HR mX R Q) (h : Bb R w) : bG pg jV (aB 1 (aB 2 iT)) Q g w :=
 eC (kn := no) (l := []) h fH hr trivial
def A5 (kn : K3) (k0 : K0) (R : K1) (QC PU U5 : anW) (w : anV) : Prop :=
 aC pg (jI .len #[24] 3 [QC]) w fun t13 w =>
 aC pg (aF .lss 3 aL aL U5 t13) w fun t14 w =>
 fL t14
  ((dr w) = (dr w) /\
  (dr w) = (dr w) /\
  aC pg (bB 24 QC U5) (dr w) fun t19 w_ => w_ = (dr w) /\
  aC pg (aJ 47 t19) (dr w) fun t20 w_ => w_ = (dr w) /\
  (dr w) = (dr w) /\
  (dr w) = (dr w) /\
  aC pg (bB 24 PU U5) (dr w) fun t23 w_ => w_ = (dr w) /\
  aC pg (aJ 47 t23) (dr w) fun t24 w_ => w_ = (dr w) /\
  aC pg (aF .neq 47 (.tmp 20) (.tmp 24) t20 t24) (dr w) fun t25 w_ => w_ = (dr w) /\
  fL t25
   (R (.bool false) (dr w))
   (aC pg (aF .add 3 aL aL U5 (.int .i64 1)) (dr w) fun t16 w =>
   kn QC PU t16 w))
  (k0 w)
theorem Qd (kn : K3) (k0 : K0) (R : K1) (hn : N3 Q kn 0 1 5) (h0 : E0 Q k0 0) (hr : HR mX R Q) (h : A5 kn k0 R (g 0) (g 1) (g 5) w) : bG pg jV (bI (bI (aB 1 (aE 1 (aB 2 iT))))) Q g w :=
 eC (l := [(0, fun g w => k0 w)]) h hn hr ⟨h0, trivial⟩
def FI (k0 : K0) (R : K1) (QC PU U5 : anW) (w : anV) : Prop :=
 cO (fun (X : anW -> K0) (t : anW) (w : anV) => A5 (fun _ _ U5 w => X U5 w) k0 R QC PU t w) U5 w
theorem Qc (k0 : K0) (R : K1) (h0 : E0 Q k0 0) (hr : HR mX R Q) (h : FI k0 R (g 0) (g 1) (g 5) w) : bG pg jV (bI (aB 1 (aE 1 (aB 2 iT)))) Q g w := by
 refine JK (fun g : Env => g 5) (fun X t w => A5 (fun _ _ U5 w => X U5 w) k0 R (g 0) (g 1) t w) h (fun X g1 w1 ha hL => ?_)
 rw [<- fM 0 ha, <- fM 1 ha] at hL
 exact (Qd _ g1 w1 (fun _ _ U5 w => X U5 w) k0 R (fun _ _ h => h) h0 hr hL)
def Fc (kn : K0) (R : K1) (QC PU U5 : anW) (w : anV) : Prop :=
 FI kn R QC PU U5 w
def FR (kn : K3) (QC PU : anW) (w : anV) : Prop :=
 kn QC PU (.int .i64 0) w
theorem OV (kn : K3) (hn : N3 Q kn 0 1 5) (h : FR kn (g 0) (g 1) w) : bG pg jV (aE 1 (aE 1 (aB 2 iT))) Q g w :=
 eC (kr := no) (l := []) h hn fH trivial
def F0 (kn : K0) (R : K1) (QC PU : anW) (w : anV) : Prop :=
 FR (fun QC PU U5 w => Fc kn R QC PU U5 w) QC PU w
def F4 (R : K1) (QC PU : anW) (w : anV) : Prop :=
 F0 (fun  w => Bb R w) R QC PU w
theorem Py (kn : K0) (R : K1) (hn : N0 Q kn) (hr : HR mX R Q) (h : F0 kn R (g 0) (g 1) w) : bG pg jV (aE 1 (aB 2 iT)) Q g w :=
 gM 1 (OV _ g w (Fc kn R) (fun g w h => aK (Ca 0 (Qc _ g w kn R hn hr h))) h)
def FC (kn : K2) (R : K1) (QC PU : anW) (w : anV) : Prop :=
 aC pg (jI .len #[24] 3 [QC]) w fun t7 w =>
 aC pg (jI .len #[24] 3 [PU]) w fun t9 w =>
 aC pg (aF .neq 3 (.tmp 7) (.tmp 9) t7 t9) w fun t10 w =>
 fL t10
  (R (.bool false) w)
  (kn QC PU w)
theorem PJ (kn : K2) (R : K1) (hn : N2 Q kn 0 1) (hr : HR mX R Q) (h : FC kn R (g 0) (g 1) w) : bG pg jV (aE 2 iT) Q g w :=
 eC (l := []) h hn hr trivial
def ES (R : K1) (QC PU : anW) (w : anV) : Prop :=
 FC (fun QC PU w => F4 R QC PU w) R QC PU w
theorem PO (R : K1) (hr : HR mX R Q) (h : ES R (g 0) (g 1) w) : bG pg jV iT Q g w :=
 gM 2 (PJ _ g w (F4 R) R (fun g w h => aK (gM 1 (Py _ g w (fun  w => Bb R w) R (fun g w h => aK (PS _ g w R hr h)) hr h))) hr h)
def So (a0 a1 : anW) (w : anV) (R : K1) : Prop :=
 ES R a0 a1 w
theorem Q5 {a0 a1 : anW} {w : anV} {R : K1} (h : So a0 a1 w R) : aU pg CA #[a0, a1] w R := by
 refine xB (ann := jV) Tryd.f10 iT [a0, a1] mX 26 TrydM.mixed Tryd.func10 ?_
 exact (PO _ _ _ R (fun _ _ h => h) h)
def iB : FA := ⟨xR, fun i => match Nat.beq i 5 with | true => .leaf ([22, 23], []) [(false, []), (false, []), (false, []), (false, []), (false, []), (false, []), (false, []), (false, []), (false, []), (false, []), (false, []), (false, []), (false, []), (false, []), (false, []), (false, []), (false, []), (false, []), (false, []), (false, []), (false, []), (false, []), (true, []), (true, []), (false, [])] | false => .leaf ([], []) []⟩
def BU : List ResultVar := [.tmp 2]
noncomputable def gW : Code := dC Tryd.f11
def uW (R : K1) (kY : anW) (w : anV) : Prop :=
 R kY w
theorem M4 (R : K1) (hr : HR BU R Q) (h : uW R (g 3) w) : bG pg iB (aB 1 (aB 2 gW)) Q g w :=
 eC (kn := no) (l := []) h fH hr trivial
def uS (kn : K3) (k0 : K1) (fE kY Uf : anW) (w : anV) : Prop :=
 aC pg (jI .len #[24] 3 [fE]) w fun t7 w =>
 aC pg (aF .lss 3 aL aL Uf t7) w fun t8 w =>
 fL t8
  ((dr w) = (dr w) /\
  (dr w) = (dr w) /\
  (dr w) = (dr w) /\
  aC pg (bB 24 fE Uf) (dr w) fun t14 w_ => w_ = (dr w) /\
  aC pg (aQ 47 t14 0) (dr w) fun t15 w_ => w_ = (dr w) /\
  aC pg (aJ 43 t15) (dr w) fun t16 w_ => w_ = (dr w) /\
  aC pg (aF .rem 43 aL aL t16 (.int .u32 131072)) (dr w) fun t17 w_ => w_ = (dr w) /\
  (dr w) = (dr w) /\
  (dr w) = (dr w) /\
  aC pg (bB 24 fE Uf) (dr w) fun t20 w_ => w_ = (dr w) /\
  aC pg (aQ 47 t20 1) (dr w) fun t21 w_ => w_ = (dr w) /\
  aC pg (aJ 43 t21) (dr w) fun t22 w_ => w_ = (dr w) /\
  aC pg (aF .rem 43 aL aL t22 (.int .u32 131072)) (dr w) fun t23 w_ => w_ = (dr w) /\
  aC pg (aF .add 43 aL aL (.int .u32 3) t23) (dr w) fun t24 w_ => w_ = (dr w) /\
  (dr w) = (dr w) /\
  (dr w) = (dr w) /\
  aC pg (bB 24 fE Uf) (dr w) fun t27 w_ => w_ = (dr w) /\
  aC pg (aQ 47 t27 2) (dr w) fun t28 w_ => w_ = (dr w) /\
  aC pg (aJ 43 t28) (dr w) fun t29 w_ => w_ = (dr w) /\
  aC pg (aF .rem 43 aL aL t29 (.int .u32 2147483648)) (dr w) fun t30 w_ => w_ = (dr w) /\
  aC pg (aF .add 43 aL aL (.int .u32 1) t30) (dr w) fun t31 w_ => w_ = (dr w) /\
  aC pg (cA 47 [(0, t17), (1, t24), (2, t31)]) (dr w) fun t32 w_ => w_ = (dr w) /\
  aC pg (dB 24 1 [(0, t32)]) (dr w) fun t33 agT =>
  aC pg (jI .append #[24, 24] 24 [kY, t33]) agT fun t34 ZX =>
  ZX = ZX /\
  aC pg (aF .add 3 aL aL Uf (.int .i64 1)) ZX fun t10 w =>
  kn fE t34 t10 w)
  (k0 kY w)
theorem ML (kn : K3) (k0 : K1) (hn : N3 Q kn 0 3 4) (h0 : E1 Q k0 0 3) (h : uS kn k0 (g 0) (g 3) (g 4) w) : bG pg iB (bI (bI (aB 1 (aE 1 (aB 2 gW))))) Q g w :=
 eC (kr := no) (l := [(0, fun g w => k0 (g 3) w)]) h hn fH ⟨h0, trivial⟩
def BX (k0 : K1) (fE kY Uf : anW) (w : anV) : Prop :=
 cO (fun (X : (anW × anW) -> K0) (t : anW × anW) (w : anV) => uS (fun _ kY Uf w => X (kY, Uf) w) k0 fE t.1 t.2 w) (kY, Uf) w
theorem M0 (k0 : K1) (h0 : E1 Q k0 0 3) (h : BX k0 (g 0) (g 3) (g 4) w) : bG pg iB (bI (aB 1 (aE 1 (aB 2 gW)))) Q g w := by
 refine JK (fun g : Env => (g 3, g 4)) (fun X t w => uS (fun _ kY Uf w => X (kY, Uf) w) k0 (g 0) t.1 t.2 w) h (fun X g1 w1 ha hL => ?_)
 rw [<- fM 0 ha] at hL
 exact (ML _ g1 w1 (fun _ kY Uf w => X (kY, Uf) w) k0 (fun _ _ h => h) h0 hL)
def BV (kn : K1) (fE kY Uf : anW) (w : anV) : Prop :=
 BX kn fE kY Uf w
def BN (kn : K3) (fE kY : anW) (w : anV) : Prop :=
 kn fE kY (.int .i64 0) w
theorem Nf (kn : K3) (hn : N3 Q kn 0 3 4) (h : BN kn (g 0) (g 3) w) : bG pg iB (aE 1 (aE 1 (aB 2 gW))) Q g w :=
 eC (kr := no) (l := []) h hn fH trivial
def B3 (kn : K1) (fE kY : anW) (w : anV) : Prop :=
 BN (fun fE kY Uf w => BV kn fE kY Uf w) fE kY w
def BO (R : K1) (fE kY : anW) (w : anV) : Prop :=
 B3 (fun kY w => uW R kY w) fE kY w
theorem MY (kn : K1) (hn : N1 Q kn 3) (h : B3 kn (g 0) (g 3) w) : bG pg iB (aE 1 (aB 2 gW)) Q g w :=
 gM 1 (Nf _ g w (BV kn) (fun g w h => aK (Ca 0 (M0 _ g w kn hn h))) h)
def B4 (kn : K2) (fE : anW) (w : anV) : Prop :=
 kn fE (.slice none 0 0) w
theorem Mw (kn : K2) (hn : N2 Q kn 0 3) (h : B4 kn (g 0) w) : bG pg iB (aE 2 gW) Q g w :=
 eC (kr := no) (l := []) h hn fH trivial
def BQ (R : K1) (fE : anW) (w : anV) : Prop :=
 B4 (fun fE kY w => BO R fE kY w) fE w
theorem M3 (R : K1) (hr : HR BU R Q) (h : BQ R (g 0) w) : bG pg iB gW Q g w :=
 gM 2 (Mw _ g w (BO R) (fun g w h => aK (gM 1 (MY _ g w (uW R) (fun g w h => aK (M4 _ g w R hr h)) h))) h)
def Nt (a0 : anW) (w : anV) (R : K1) : Prop :=
 BQ R a0 w
theorem NV {a0 : anW} {w : anV} {R : K1} (h : Nt a0 w R) : aU pg xR #[a0] w R := by
 refine xB (ann := iB) Tryd.f11 gW [a0] BU 36 TrydM.mixed Tryd.func11 ?_
 exact (M3 _ _ _ R (fun _ _ h => h) h)
def fK : FA := ⟨kC, fun i => .leaf ([], []) []⟩
def gI : List ResultVar := [.tmp 2, .tmp 3]
noncomputable def fB : Code := dC Tryd.f13
def pV (R : K1) (fE gN iG t8 fS t10 : anW) (w : anV) : Prop :=
 aC pg (aJ 98 iG) w fun t95 w =>
 aC pg (aJ 29 t8) w fun t96 w =>
 aU pg pS #[fE, t95, t96] w fun t97 w =>
 aC pg (bT t97 0) w fun t98 w =>
 aC pg (bT t97 1) w fun t99 w =>
 aC pg (aF .neq 30 (.tmp 100) (.const (.int .i64 0)) t99 (.int .i64 0)) w fun t101 w =>
 fL t101
  (R (.tuple #[(.slice none 0 0), t99]) w)
  (aC pg (fG 3 73 fS) w fun t105 w =>
  aU pg eH #[gN, t105, (.int .i64 1)] w fun t106 w =>
  aU pg jB #[gN, t10] w fun t109 w =>
  aU pg jB #[gN, t98] w fun t112 w =>
  aU pg nJ #[gN] w fun t114 w =>
  R (.tuple #[t114, (.int .i64 0)]) w)
theorem Ju (R : K1) (hr : HR gI R Q) (h : pV R (g 0) (g 4) (g 6) (g 8) (g 9) (g 10) w) : bG pg fK (aB 1 (aB 5 (aB 3 fB))) Q g w :=
 eC (kn := no) (l := []) h fH hr trivial
def oK (kn : K7) (k1 : K6) (R : K1) (fE gN iG t8 fS t10 t63 : anW) (w : anV) : Prop :=
 aC pg (aF .lss 3 aL aL t63 (.int .i64 3)) w fun t64 w =>
 fL t64
  (aC pg (bB 98 iG t63) w fun t69 w =>
  aC pg (aJ 77 t69) w fun t70 w =>
  aU pg jM #[t63, t70] w fun t71 w =>
  aC pg (bT t71 0) w fun t72 w =>
  aC pg (bT t71 1) w fun t73 w =>
  aC pg (bT t71 2) w fun t74 w =>
  aC pg (bT t71 3) w fun t75 w =>
  aC pg (cM 27) w fun agX w =>
  aC pg (aR 27 agX t72) w fun _u w =>
  aC pg (aF .neq 30 (.tmp 76) (.const (.int .i64 0)) t75 (.int .i64 0)) w fun t77 w =>
  fL t77
   (R (.tuple #[(.slice none 0 0), t75]) w)
   (aC pg (aJ 27 agX) w fun t80 w =>
   aC pg (bB 29 t8 t63) w fun t81 w =>
   aC pg (aR 27 t81 t80) w fun _u w =>
   aC pg (aF .mul 3 aL aL (.int .i64 2) t63) w fun t85 w =>
   aC pg (aF .sub 3 aL aL (.int .i64 6) t85) w fun t86 w =>
   aC pg (aF .shl 3 aL aL t73 t86) w fun t87 w =>
   aC pg (aF .or 3 aL aL fS t87) w fun t88 w =>
   aC pg (jI .append #[22, 22] 22 [t10, t74]) w fun t91 w =>
   aC pg (aF .add 3 aL aL t63 (.int .i64 1)) w fun t92 w =>
   kn fE gN iG t8 t88 t91 t92 w))
  (k1 fE gN iG t8 fS t10 w)
theorem Jh (kn : K7) (k1 : K6) (R : K1) (hn : N7 Q kn 0 4 6 8 9 10 63) (h1 : E6 Q k1 1 0 4 6 8 9 10) (hr : HR gI R Q) (h : oK kn k1 R (g 0) (g 4) (g 6) (g 8) (g 9) (g 10) (g 63) w) : bG pg fK (bI (bI (aB 1 (aE 1 (aB 5 (aB 3 fB)))))) Q g w :=
 eC (l := [(1, fun g w => k1 (g 0) (g 4) (g 6) (g 8) (g 9) (g 10) w)]) h hn hr ⟨h1, trivial⟩
def pA (k1 : K6) (R : K1) (fE gN iG t8 fS t10 t63 : anW) (w : anV) : Prop :=
 cO (fun (X : (anW × anW × anW) -> K0) (t : anW × anW × anW) (w : anV) => oK (fun _ _ _ _ fS t10 t63 w => X (fS, t10, t63) w) k1 R fE gN iG t8 t.1 t.2.1 t.2.2 w) (fS, t10, t63) w
theorem Jt (k1 : K6) (R : K1) (h1 : E6 Q k1 1 0 4 6 8 9 10) (hr : HR gI R Q) (h : pA k1 R (g 0) (g 4) (g 6) (g 8) (g 9) (g 10) (g 63) w) : bG pg fK (bI (aB 1 (aE 1 (aB 5 (aB 3 fB))))) Q g w := by
 refine JK (fun g : Env => (g 9, g 10, g 63)) (fun X t w => oK (fun _ _ _ _ fS t10 t63 w => X (fS, t10, t63) w) k1 R (g 0) (g 4) (g 6) (g 8) t.1 t.2.1 t.2.2 w) h (fun X g1 w1 ha hL => ?_)
 rw [<- fM 0 ha, <- fM 4 ha, <- fM 6 ha, <- fM 8 ha] at hL
 exact (Jh _ g1 w1 (fun _ _ _ _ fS t10 t63 w => X (fS, t10, t63) w) k1 R (fun _ _ h => h) h1 hr hL)
def wQ (kn : K6) (R : K1) (fE gN iG t8 fS t10 t63 : anW) (w : anV) : Prop :=
 pA kn R fE gN iG t8 fS t10 t63 w
def vV (kn : K7) (fE gN iG t8 fS t10 : anW) (w : anV) : Prop :=
 kn fE gN iG t8 fS t10 (.int .i64 0) w
theorem I7 (kn : K7) (hn : N7 Q kn 0 4 6 8 9 10 63) (h : vV kn (g 0) (g 4) (g 6) (g 8) (g 9) (g 10) w) : bG pg fK (aE 1 (aE 1 (aB 5 (aB 3 fB)))) Q g w :=
 eC (kr := no) (l := []) h hn fH trivial
def vT (kn : K6) (R : K1) (fE gN iG t8 fS t10 : anW) (w : anV) : Prop :=
 vV (fun fE gN iG t8 fS t10 t63 w => wQ kn R fE gN iG t8 fS t10 t63 w) fE gN iG t8 fS t10 w
def wN (R : K1) (fE gN iG t8 fS t10 : anW) (w : anV) : Prop :=
 vT (fun fE gN iG t8 fS t10 w => pV R fE gN iG t8 fS t10 w) R fE gN iG t8 fS t10 w
theorem Jk (kn : K6) (R : K1) (hn : N6 Q kn 0 4 6 8 9 10) (hr : HR gI R Q) (h : vT kn R (g 0) (g 4) (g 6) (g 8) (g 9) (g 10) w) : bG pg fK (aE 1 (aB 5 (aB 3 fB))) Q g w :=
 gM 1 (I7 _ g w (wQ kn R) (fun g w h => aK (Ca 1 (Jt _ g w kn R hn hr h))) h)
def vC (kn : K6) (R : K1) (fE gN : anW) (w : anV) : Prop :=
 aU pg qP #[fE] w fun t57 w =>
 aC pg (bT t57 0) w fun t58 w =>
 aC pg (bT t57 1) w fun t59 w =>
 aC pg (cM 98) w fun iG w =>
 aC pg (aR 98 iG t58) w fun _u w =>
 aC pg (aF .neq 30 (.tmp 60) (.const (.int .i64 0)) t59 (.int .i64 0)) w fun t61 w =>
 fL t61
  (R (.tuple #[(.slice none 0 0), t59]) w)
  (aC pg (cM 29) w fun t8 w =>
  kn fE gN iG t8 (.int .i64 0) (.slice none 0 0) w)
theorem JF (kn : K6) (R : K1) (hn : N6 Q kn 0 4 6 8 9 10) (hr : HR gI R Q) (h : vC kn R (g 0) (g 4) w) : bG pg fK (aE 5 (aB 3 fB)) Q g w :=
 eC (l := []) h hn hr trivial
def oX (R : K1) (fE gN : anW) (w : anV) : Prop :=
 vC (fun fE gN iG t8 fS t10 w => wN R fE gN iG t8 fS t10 w) R fE gN w
def tZ (kn : K2) (R : K1) (fE : anW) (w : anV) : Prop :=
 aU pg oU #[] w fun t17 w =>
 aC pg (jI .len #[24] 3 [fE]) w fun t19 w =>
 aC pg (aF .gtr 3 aL aL t19 (.int .i64 98047)) w fun t29 w =>
 fL t29
  (R (.tuple #[(.slice none 0 0), (.int .i64 1)]) w)
  (aC pg (aF .eql 3 (.tmp 31) (.const (.int .i64 0)) t19 (.int .i64 0)) w fun t32 w =>
  fL t32
   (aC pg (dB 22 1 [(0, (.int .u8 0))]) w fun t33 w =>
   R (.tuple #[t33, (.int .i64 0)]) w)
   (aC pg (aF .lss 3 aL aL t19 (.int .i64 128)) w fun t36 w =>
   fL t36
    (aC pg (fG 3 73 t19) w fun t39 w =>
    aU pg eH #[t17, t39, (.int .i64 1)] w fun t40 w =>
    kn fE t17 w)
    (aC pg (aF .lss 3 aL aL t19 (.int .i64 32512)) w fun t43 w =>
    fL t43
     (aC pg (aF .shr 3 aL aL t19 (.int .u64 8)) w fun t46 w =>
     aC pg (aF .add 3 aL aL t46 (.int .i64 128)) w fun t47 w =>
     aC pg (fG 3 73 t47) w fun t48 w =>
     aU pg eH #[t17, t48, (.int .i64 1)] w fun t49 w =>
     aC pg (aF .and 3 aL aL t19 (.int .i64 255)) w fun t52 w =>
     aC pg (fG 3 73 t52) w fun t53 w =>
     aU pg eH #[t17, t53, (.int .i64 1)] w fun t54 w =>
     kn fE t17 w)
     (aU pg eH #[t17, (.int .u64 255), (.int .i64 1)] w fun t21 w =>
     aC pg (aF .sub 3 aL aL t19 (.int .i64 32512)) w fun t24 w =>
     aC pg (fG 3 73 t24) w fun t25 w =>
     aU pg eH #[t17, t25, (.int .i64 2)] w fun t26 w =>
     kn fE t17 w))))
theorem Iy (kn : K2) (R : K1) (hn : N2 Q kn 0 4) (hr : HR gI R Q) (h : tZ kn R (g 0) w) : bG pg fK (aE 3 fB) Q g w :=
 eC (l := []) h hn hr trivial
def tJ (R : K1) (fE : anW) (w : anV) : Prop :=
 tZ (fun fE gN w => oX R fE gN w) R fE w
theorem HA (R : K1) (hr : HR gI R Q) (h : tJ R (g 0) w) : bG pg fK fB Q g w :=
 gM 3 (Iy _ g w (oX R) R (fun g w h => aK (gM 5 (JF _ g w (wN R) R (fun g w h => aK (gM 1 (Jk _ g w (pV R) R (fun g w h => aK (Ju _ g w R hr h)) hr h))) hr h))) hr h)
def IP (a0 : anW) (w : anV) (R : K1) : Prop :=
 tJ R a0 w
theorem Ky {a0 : anW} {w : anV} {R : K1} (h : IP a0 w R) : aU pg kC #[a0] w R := by
 refine xB (ann := fK) Tryd.f13 fB [a0] gI 115 TrydM.mixed Tryd.func13 ?_
 exact (HA _ _ _ R (fun _ _ h => h) h)
def Bw : FA := ⟨lT, fun i => .leaf ([], []) []⟩
def Ck : List ResultVar := [.tmp 2]
noncomputable def zL : Code := dC Tryd.f16
def tM (R : K1) (CK : anW) (w : anV) : Prop :=
 aU pg fJ #[CK] w fun t4 w =>
 aC pg (cA 112 [(0, t4)]) w fun t5 w =>
 aC pg (BA 112 t5) w fun t6 w =>
 R t6 w
theorem H8 (R : K1) (hr : HR Ck R Q) (h : tM R (g 0) w) : bG pg Bw zL Q g w :=
 eC (kn := no) (l := []) h fH hr trivial
def G6 (a0 : anW) (w : anV) (R : K1) : Prop :=
 tM R a0 w
theorem JQ {a0 : anW} {w : anV} {R : K1} (h : G6 a0 w R) : aU pg lT #[a0] w R := by
 refine xB (ann := Bw) Tryd.f16 zL [a0] Ck 7 TrydM.mixed Tryd.func16 ?_
 exact (H8 _ _ _ R (fun _ _ h => h) h)
def Be : FA := ⟨oL, fun i => .leaf ([], []) []⟩
def Ch : List ResultVar := [.tmp 2]
noncomputable def zW : Code := dC Tryd.f17
def tR (R : K1) (jL : anW) (w : anV) : Prop :=
 aU pg fX #[jL, (.int .i64 1)] w fun t5 w =>
 aC pg (fG 73 3 t5) w fun t6 w =>
 aC pg (aF .lss 3 aL aL t6 (.int .i64 128)) w fun t9 w =>
 fL t9
  (R t6 w)
  (aC pg (aF .lss 3 aL aL t6 (.int .i64 255)) w fun t13 w =>
  fL t13
   (aC pg (aF .sub 3 aL aL t6 (.int .i64 128)) w fun t15 w =>
   aC pg (aF .shl 3 aL aL t15 (.int .u64 8)) w fun t16 w =>
   aU pg fX #[jL, (.int .i64 1)] w fun t18 w =>
   aC pg (fG 73 3 t18) w fun t19 w =>
   aC pg (aF .or 3 aL aL t16 t19) w fun t20 w =>
   R t20 w)
   (aU pg fX #[jL, (.int .i64 2)] w fun t22 w =>
   aC pg (fG 73 3 t22) w fun t23 w =>
   aC pg (aF .add 3 aL aL t23 (.int .i64 32512)) w fun t24 w =>
   R t24 w))
theorem H9 (R : K1) (hr : HR Ch R Q) (h : tR R (g 0) w) : bG pg Be zW Q g w :=
 eC (kn := no) (l := []) h fH hr trivial
def Gg (a0 : anW) (w : anV) (R : K1) : Prop :=
 tR R a0 w
theorem I8 {a0 : anW} {w : anV} {R : K1} (h : Gg a0 w R) : aU pg oL #[a0] w R := by
 refine xB (ann := Be) Tryd.f17 zW [a0] Ch 25 TrydM.mixed Tryd.func17 ?_
 exact (H9 _ _ _ R (fun _ _ h => h) h)
def zQ : FA := ⟨gS, fun i => .leaf ([], []) []⟩
def Br : List ResultVar := [.tmp 2]
noncomputable def yO : Code := dC Tryd.f18
def sL (R : K1) (jL : anW) (w : anV) : Prop :=
 aC pg (aF .eql 56 (.tmp 3) (.const (.pointer none)) jL (.pointer none)) w fun t4 w =>
 fL t4
  (R (.int .i64 1) w)
  (aC pg (lE jL) w fun t6 w =>
  aC pg (aQ 112 t6 1) w fun t7 w =>
  aC pg (aJ 30 t7) w fun t8 w =>
  R t8 w)
theorem Gv (R : K1) (hr : HR Br R Q) (h : sL R (g 0) w) : bG pg zQ yO Q g w :=
 eC (kn := no) (l := []) h fH hr trivial
def EK (a0 : anW) (w : anV) (R : K1) : Prop :=
 sL R a0 w
theorem HO {a0 : anW} {w : anV} {R : K1} (h : EK a0 w R) : aU pg gS #[a0] w R := by
 refine xB (ann := zQ) Tryd.f18 yO [a0] Br 9 TrydM.mixed Tryd.func18 ?_
 exact (Gv _ _ _ R (fun _ _ h => h) h)
def yK : FA := ⟨iE, fun i => .leaf ([], []) []⟩
def zO : List ResultVar := [.tmp 2]
noncomputable def wW : Code := dC Tryd.f19
def qL (R : K1) (jL : anW) (w : anV) : Prop :=
 aC pg (aF .eql 56 (.tmp 3) (.const (.pointer none)) jL (.pointer none)) w fun t4 w =>
 fL t4
  (R (.int .i64 0) w)
  (aC pg (lE jL) w fun t6 w =>
  aC pg (aQ 112 t6 0) w fun t7 w =>
  aC pg (aJ 22 t7) w fun t8 w =>
  aC pg (jI .len #[22] 3 [t8]) w fun t9 w =>
  R t9 w)
theorem EO (R : K1) (hr : HR zO R Q) (h : qL R (g 0) w) : bG pg yK wW Q g w :=
 eC (kn := no) (l := []) h fH hr trivial
def C6 (a0 : anW) (w : anV) (R : K1) : Prop :=
 qL R a0 w
theorem Gp {a0 : anW} {w : anV} {R : K1} (h : C6 a0 w R) : aU pg iE #[a0] w R := by
 refine xB (ann := yK) Tryd.f19 wW [a0] zO 10 TrydM.mixed Tryd.func19 ?_
 exact (EO _ _ _ R (fun _ _ h => h) h)
def dL : FA := ⟨nU, fun i => match Nat.beq i 11 with | true => .split 11 16 (.perm [0, 1, 2, 3, 4, 5, 6, 7, 8, 9, 10, 11, 12, 13, 14, 15, 16, 17, 18, 19] [(11, 16)] ([11, 16, 17], [(13, 16), (14, 16), (14, 17), (15, 16), (15, 17)]) [(false, []), (false, []), (false, []), (false, []), (false, []), (false, []), (false, []), (false, []), (false, []), (false, []), (false, []), (true, []), (false, []), (false, []), (false, []), (false, []), (true, [0, 1, 2]), (true, [1, 2]), (false, []), (false, [])]) (.perm [0, 1, 2, 3, 4, 5, 6, 7, 8, 9, 10, 16, 11, 12, 13, 14, 15, 17, 18, 19] [(16, 11)] ([11, 12, 17], [(3, 11), (4, 11), (5, 11), (6, 11), (9, 11), (10, 11), (15, 17), (16, 17)]) [(false, []), (false, []), (false, []), (false, []), (false, []), (false, []), (false, []), (false, []), (false, []), (false, []), (false, []), (true, [0, 1, 4, 5, 6, 7]), (true, []), (false, []), (false, []), (false, []), (false, []), (true, [0, 1]), (false, []), (false, [])]) | false => match Nat.beq i 14 with | true => .leaf ([6], [(4, 6)]) [(false, []), (false, []), (false, []), (false, []), (false, []), (false, []), (true, [1]), (false, [])] | false => .leaf ([], []) []⟩
def gG : List ResultVar := [.cell 4 29, .tmp 5]
noncomputable def cX : Code := dC Tryd.f20
def qT (R : K1) (jL t4 xG t8 : anW) (w : anV) : Prop :=
 aU pg lT #[xG] w fun t65 w =>
 aC pg (lE t65) w fun t66 w =>
 aC pg (aJ 112 t66) w fun t67 w =>
 aC pg (lE jL) w fun t68 w =>
 aC pg (aR 112 t68 t67) w fun _u w =>
 aC pg (aJ 29 t8) w fun t69 w =>
 aC pg (aR 29 t4 t69) w fun _u w =>
 xA pg 29 t4 w fun r0 => R (.tuple #[r0, (.int .i64 0)]) w
theorem Lb (R : K1) (hr : HR gG R Q) (h : qT R (g 0) (g 4) (g 7) (g 8) w) : bG pg dL (aB 1 (aB 5 cX)) Q g w :=
 eC (kn := no) (l := []) h fH hr trivial
def mM (kn : K7) (jL fF t4 dE xG t8 t33 : anW) (w : anV) : Prop :=
 aC pg (aF .add 3 aL aL t33 (.int .i64 1)) w fun t62 w =>
 kn jL fF t4 dE xG t8 t62 w
theorem J9 (kn : K7) (hn : N7 Q kn 0 3 4 6 7 8 33) (h : mM kn (g 0) (g 3) (g 4) (g 6) (g 7) (g 8) (g 33) w) : bG pg dL (aB 1 (aB 2 (bI (bI (aB 1 (aE 1 (aB 5 cX))))))) Q g w :=
 eC (kr := no) (l := []) h hn fH trivial
def iJ (kn : K7) (R : K1) (jL fF t4 dE xG t8 SS SF Yl YJ t33 : anW) (w : anV) : Prop :=
 aC pg (aF .neq 30 (.tmp 52) (.const (.int .i64 0)) YJ (.int .i64 0)) w fun t53 w =>
 fL t53
  (aC pg (cA 29 []) w fun t54 w =>
  aC pg (aR 29 t4 t54) w fun _u w =>
  xA pg 29 t4 w fun r0 => R (.tuple #[r0, YJ]) w)
  ((dr w) = (dr w) /\
  aC pg (aJ 27 SF) (dr w) fun t57 w_ => w_ = (dr w) /\
  (dr w) = (dr w) /\
  (dr w) = (dr w) /\
  aC pg (fW 22 xG (some Yl) none none) (dr w) fun t60 w_ => w_ = (dr w) /\
  aC pg (bB 29 t8 SS) (dr w) fun t61 w_ => w_ = (dr w) /\
  aC pg (aR 27 t61 t57) (dr w) fun _u6 XY =>
  (eE pg (fW 22 xG (some Yl) none none) t60 XY /\ True) /\
  XY = XY /\
  kn jL fF t4 dE t60 t8 t33 XY)
theorem KZ (kn : K7) (R : K1) (hn : N7 Q kn 0 3 4 6 7 8 33) (hr : HR gG R Q) (h : iJ kn R (g 0) (g 3) (g 4) (g 6) (g 7) (g 8) (g 9) (g 10) (g 11) (g 12) (g 33) w) : bG pg dL (aB 2 (bI (aE 1 (aB 2 (bI (bI (aB 1 (aE 1 (aB 5 cX))))))))) Q g w :=
 eC (l := []) h hn hr trivial
def yN (kn : K11) (jL fF t4 dE xG t8 t33 : anW) (w : anV) : Prop :=
 Ord (Ua nU 11 (Dz 11 cX) 11 16 w)
  ((dr w) = (dr w) /\
  (dr w) = (dr w) /\
  (dr w) = (dr w) /\
  aC pg (aF .mul 3 aL aL (.int .i64 2) t33) (dr w) fun t40 w_ => w_ = (dr w) /\
  aC pg (aF .sub 3 aL aL (.int .i64 6) t40) (dr w) fun t41 w_ => w_ = (dr w) /\
  aC pg (aF .shr 3 aL aL dE t41) (dr w) fun t42 w_ => w_ = (dr w) /\
  aC pg (aF .and 3 aL aL t42 (.int .i64 3)) (dr w) fun t43 w_ => w_ = (dr w) /\
  (dr w) = (dr w) /\
  (dr w) = (dr w) /\
  aC pg (bB 29 fF t33) (dr w) fun t46 w_ => w_ = (dr w) /\
  aC pg (aJ 27 t46) (dr w) fun t47 w_ => w_ = (dr w) /\
  aU pg uN #[t33, t43, xG, t47] (dr w) fun t48 sP =>
  sP = sP /\
  aC pg (bT t48 0) sP fun t49 w_ => w_ = sP /\
  aC pg (bT t48 1) sP fun t50 w_ => w_ = sP /\
  aC pg (bT t48 2) sP fun t51 w_ => w_ = sP /\
  aC pg (cM 27) sP fun SF UG =>
  (eE pg (bT t48 2) t51 UG /\ eE pg (bT t48 1) t50 UG /\ eE pg (bT t48 0) t49 UG /\ True) /\
  aC pg (aR 27 SF t49) UG fun _u17 wM =>
  (eE pg (bT t48 2) t51 wM /\ eE pg (bT t48 1) t50 wM /\ True) /\
  wM = wM /\
  wM = wM /\
  kn jL fF t4 dE xG t8 t33 SF t50 t51 t33 wM)
  ((dr w) = (dr w) /\
  (dr w) = (dr w) /\
  (dr w) = (dr w) /\
  aC pg (aF .mul 3 aL aL (.int .i64 2) t33) (dr w) fun t40 w_ => w_ = (dr w) /\
  aC pg (aF .sub 3 aL aL (.int .i64 6) t40) (dr w) fun t41 w_ => w_ = (dr w) /\
  aC pg (aF .shr 3 aL aL dE t41) (dr w) fun t42 w_ => w_ = (dr w) /\
  aC pg (aF .and 3 aL aL t42 (.int .i64 3)) (dr w) fun t43 w_ => w_ = (dr w) /\
  (dr w) = (dr w) /\
  (dr w) = (dr w) /\
  aC pg (bB 29 fF t33) (dr w) fun t46 w_ => w_ = (dr w) /\
  aC pg (aJ 27 t46) (dr w) fun t47 w_ => w_ = (dr w) /\
  aC pg (cM 27) (dr w) fun SF sP =>
  (eE pg (aJ 27 t46) t47 sP /\ eE pg (bB 29 fF t33) t46 sP /\ eE pg (aF .and 3 aL aL t42 (.int .i64 3)) t43 sP /\ eE pg (aF .shr 3 aL aL dE t41) t42 sP /\ eE pg (aF .sub 3 aL aL (.int .i64 6) t40) t41 sP /\ eE pg (aF .mul 3 aL aL (.int .i64 2) t33) t40 sP /\ True) /\
  aU pg uN #[t33, t43, xG, t47] sP fun t48 IB =>
  IB = IB /\
  aC pg (bT t48 0) IB fun t49 w_ => w_ = IB /\
  aC pg (bT t48 1) IB fun t50 w_ => w_ = IB /\
  aC pg (bT t48 2) IB fun t51 w_ => w_ = IB /\
  aC pg (aR 27 SF t49) IB fun _u17 wM =>
  (eE pg (bT t48 2) t51 wM /\ eE pg (bT t48 1) t50 wM /\ True) /\
  wM = wM /\
  wM = wM /\
  kn jL fF t4 dE xG t8 t33 SF t50 t51 t33 wM)
theorem KX (kn : K11) (hn : N11 Q kn 0 3 4 6 7 8 9 10 11 12 33) (h : yN kn (g 0) (g 3) (g 4) (g 6) (g 7) (g 8) (g 33) w) : bG pg dL (aE 2 (bI (aE 1 (aB 2 (bI (bI (aB 1 (aE 1 (aB 5 cX))))))))) Q g w :=
 eC (kr := no) (l := []) h hn fH trivial
def ED (kn : K7) (R : K1) (jL fF t4 dE xG t8 t33 : anW) (w : anV) : Prop :=
 yN (fun jL fF t4 dE xG t8 SS SF Yl YJ t33 w => iJ kn R jL fF t4 dE xG t8 SS SF Yl YJ t33 w) jL fF t4 dE xG t8 t33 w
def yL (kn : K7) (R : K1) (jL fF t4 dE xG t8 t33 : anW) (w : anV) : Prop :=
 ED kn R jL fF t4 dE xG t8 t33 w
def zB (kn : K7) (R : K1) (jL fF t4 dE xG t8 t33 : anW) (w : anV) : Prop :=
 yL (fun jL fF t4 dE xG t8 t33 w => mM kn jL fF t4 dE xG t8 t33 w) R jL fF t4 dE xG t8 t33 w
theorem Kv (kn : K7) (R : K1) (hn : N7 Q kn 0 3 4 6 7 8 33) (hr : HR gG R Q) (h : yL kn R (g 0) (g 3) (g 4) (g 6) (g 7) (g 8) (g 33) w) : bG pg dL (aE 1 (aB 2 (bI (bI (aB 1 (aE 1 (aB 5 cX))))))) Q g w :=
 Ca 2 (gM 2 (KX _ g w (iJ kn R) (fun g w h => aK (KZ _ g w kn R hn hr h)) h))
def xP (kn : K7) (k1 : K4) (jL fF t4 dE xG t8 t33 : anW) (w : anV) : Prop :=
 aC pg (aF .lss 3 aL aL t33 (.int .i64 3)) w fun t34 w =>
 fL t34
  (kn jL fF t4 dE xG t8 t33 w)
  (k1 jL t4 xG t8 w)
theorem Kp (kn : K7) (k1 : K4) (hn : N7 Q kn 0 3 4 6 7 8 33) (h1 : E4 Q k1 1 0 4 7 8) (h : xP kn k1 (g 0) (g 3) (g 4) (g 6) (g 7) (g 8) (g 33) w) : bG pg dL (aE 2 (bI (bI (aB 1 (aE 1 (aB 5 cX)))))) Q g w :=
 eC (kr := no) (l := [(1, fun g w => k1 (g 0) (g 4) (g 7) (g 8) w)]) h hn fH ⟨h1, trivial⟩
def qV (kn : K7) (k1 : K4) (R : K1) (jL fF t4 dE xG t8 t33 : anW) (w : anV) : Prop :=
 xP (fun jL fF t4 dE xG t8 t33 w => zB kn R jL fF t4 dE xG t8 t33 w) k1 jL fF t4 dE xG t8 t33 w
def vH (k1 : K4) (R : K1) (jL fF t4 dE xG t8 t33 : anW) (w : anV) : Prop :=
 cO (fun (X : (anW × anW) -> K0) (t : anW × anW) (w : anV) => qV (fun _ _ _ _ xG _ t33 w => X (xG, t33) w) k1 R jL fF t4 dE t.1 t8 t.2 w) (xG, t33) w
theorem JU (kn : K7) (k1 : K4) (R : K1) (hn : N7 Q kn 0 3 4 6 7 8 33) (h1 : E4 Q k1 1 0 4 7 8) (hr : HR gG R Q) (h : qV kn k1 R (g 0) (g 3) (g 4) (g 6) (g 7) (g 8) (g 33) w) : bG pg dL (bI (bI (aB 1 (aE 1 (aB 5 cX))))) Q g w :=
 gM 2 (Kp _ g w (zB kn R) k1 (fun g w h => aK (gM 1 (Kv _ g w (mM kn) R (fun g w h => aK (J9 _ g w kn hn h)) hr h))) h1 h)
theorem JD (k1 : K4) (R : K1) (h1 : E4 Q k1 1 0 4 7 8) (hr : HR gG R Q) (h : vH k1 R (g 0) (g 3) (g 4) (g 6) (g 7) (g 8) (g 33) w) : bG pg dL (bI (aB 1 (aE 1 (aB 5 cX)))) Q g w := by
 refine JK (fun g : Env => (g 7, g 33)) (fun X t w => qV (fun _ _ _ _ xG _ t33 w => X (xG, t33) w) k1 R (g 0) (g 3) (g 4) (g 6) t.1 (g 8) t.2 w) h (fun X g1 w1 ha hL => ?_)
 rw [<- fM 0 ha, <- fM 3 ha, <- fM 4 ha, <- fM 6 ha, <- fM 8 ha] at hL
 exact (JU _ g1 w1 (fun _ _ _ _ xG _ t33 w => X (xG, t33) w) k1 R (fun _ _ h => h) h1 hr hL)
def wD (kn : K4) (R : K1) (jL fF t4 dE xG t8 t33 : anW) (w : anV) : Prop :=
 vH kn R jL fF t4 dE xG t8 t33 w
def vQ (kn : K7) (jL fF t4 dE xG t8 : anW) (w : anV) : Prop :=
 kn jL fF t4 dE xG t8 (.int .i64 0) w
theorem JS (kn : K7) (hn : N7 Q kn 0 3 4 6 7 8 33) (h : vQ kn (g 0) (g 3) (g 4) (g 6) (g 7) (g 8) w) : bG pg dL (aE 1 (aE 1 (aB 5 cX))) Q g w :=
 eC (kr := no) (l := []) h hn fH trivial
def wP (kn : K4) (R : K1) (jL fF t4 dE xG t8 : anW) (w : anV) : Prop :=
 vQ (fun jL fF t4 dE xG t8 t33 w => wD kn R jL fF t4 dE xG t8 t33 w) jL fF t4 dE xG t8 w
def wU (R : K1) (jL fF t4 dE xG t8 : anW) (w : anV) : Prop :=
 wP (fun jL t4 xG t8 w => qT R jL t4 xG t8 w) R jL fF t4 dE xG t8 w
theorem Js (kn : K4) (R : K1) (hn : N4 Q kn 0 4 7 8) (hr : HR gG R Q) (h : wP kn R (g 0) (g 3) (g 4) (g 6) (g 7) (g 8) w) : bG pg dL (aE 1 (aB 5 cX)) Q g w :=
 gM 1 (JS _ g w (wD kn R) (fun g w h => aK (Ca 1 (JD _ g w kn R hn hr h))) h)
def wI (kn : K6) (R : K1) (jL RX : anW) (w : anV) : Prop :=
 aC pg (BA 29 RX) w fun fF w =>
 aC pg (cM 29) w fun t4 w =>
 aU pg fX #[jL, (.int .i64 1)] w fun t14 w =>
 aC pg (fG 73 3 t14) w fun t15 w =>
 aU pg gS #[jL] w fun t18 w =>
 aC pg (aF .neq 30 (.tmp 18) (.const (.int .i64 0)) t18 (.int .i64 0)) w fun t19 w =>
 fL t19
  (aC pg (cA 29 []) w fun t20 w =>
  aU pg gS #[jL] w fun t22 w =>
  aC pg (aR 29 t4 t20) w fun _u w =>
  xA pg 29 t4 w fun r0 => R (.tuple #[r0, t22]) w)
  (aC pg (aF .and 3 aL aL t15 (.int .i64 3)) w fun t25 w =>
  aC pg (aF .neq 3 (.tmp 25) (.const (.int .i64 0)) t25 (.int .i64 0)) w fun t26 w =>
  fL t26
   (aC pg (cA 29 []) w fun t27 w =>
   aC pg (aR 29 t4 t27) w fun _u w =>
   xA pg 29 t4 w fun r0 => R (.tuple #[r0, (.int .i64 11)]) w)
   (aU pg iE #[jL] w fun t30 w =>
   aU pg jA #[jL, t30] w fun t31 w =>
   aC pg (aJ 29 fF) w fun t32 w =>
   aC pg (cM 29) w fun t8 w =>
   aC pg (aR 29 t8 t32) w fun _u w =>
   kn jL fF t4 t15 t31 t8 w))
theorem Jm (kn : K6) (R : K1) (hn : N6 Q kn 0 3 4 6 7 8) (hr : HR gG R Q) (h : wI kn R (g 0) (g 1) w) : bG pg dL (aE 5 cX) Q g w :=
 eC (l := []) h hn hr trivial
def vE (R : K1) (jL RX : anW) (w : anV) : Prop :=
 wI (fun jL fF t4 dE xG t8 w => wU R jL fF t4 dE xG t8 w) R jL RX w
theorem JN (R : K1) (hr : HR gG R Q) (h : vE R (g 0) (g 1) w) : bG pg dL cX Q g w :=
 gM 5 (Jm _ g w (wU R) R (fun g w h => aK (gM 1 (Js _ g w (qT R) R (fun g w h => aK (Lb _ g w R hr h)) hr h))) hr h)
def JW (a0 a1 : anW) (w : anV) (R : K1) : Prop :=
 vE R a0 a1 w
theorem LY {a0 a1 : anW} {w : anV} {R : K1} (h : JW a0 a1 w R) : aU pg nU #[a0, a1] w R := by
 refine xB (ann := dL) Tryd.f20 cX [a0, a1] gG 70 TrydM.mixed Tryd.func20 ?_
 exact (JN _ _ _ R (fun _ _ h => h) h)
def Bh : FA := ⟨lI, fun i => match Nat.beq i 3 with | true => .leaf ([1, 12, 16], [(1, 3), (1, 4), (1, 5), (1, 8), (1, 9), (1, 10), (1, 11), (3, 12), (4, 12), (5, 12)]) [(false, []), (true, []), (false, []), (false, [1]), (false, [2]), (false, [3]), (false, []), (false, []), (false, [6]), (false, [7]), (false, [8]), (false, [9]), (true, [6, 7, 8]), (false, []), (false, []), (false, []), (true, []), (false, []), (false, [])] | false => .leaf ([], []) []⟩
def Cc : List ResultVar := [.tmp 2, .tmp 3]
noncomputable def zP : Code := dC Tryd.f21
def nF (R : K1) (CK : anW) (w : anV) : Prop :=
 aC pg (jI .len #[22] 3 [CK]) w fun t5 w =>
 aC pg (aF .eql 3 (.tmp 5) (.const (.int .i64 0)) t5 (.int .i64 0)) w fun t6 w =>
 Gd (fA t6 false) (fun K => K CK w) w fun t8 w =>
 Gd (fA t6 false) (fun K => K CK w) w fun t9 w =>
 Gd (fA t6 false) (fun K => aC pg (jI .len #[22] 3 [t9]) w K) w fun t10 w =>
 Gd (fA t6 false) (fun K => aC pg (aF .sub 3 aL aL t10 (.int .i64 1)) w K) w fun t11 w =>
 Gd (fA t6 false) (fun K => aC pg (bB 22 t8 t11) w K) w fun t12 w =>
 Gd (fA t6 false) (fun K => aC pg (aJ 5 t12) w K) w fun t13 w =>
 Gd (fA t6 false) (fun K => aC pg (aF .eql 5 (.tmp 13) (.const (.int .u8 0)) t13 (.int .u8 0)) w K) w fun t14 w =>
 aC pg (fR t6 (.bool true) t14) w fun t15 w =>
 fL t15
  (R (.tuple #[(.pointer none), (.int .i64 11)]) w)
  ((dr w) = (dr w) /\
  aU pg fJ #[CK] (dr w) fun t17 F3 =>
  F3 = F3 /\
  aC pg (jI .len #[22] 3 [CK]) F3 fun t19 w_ => w_ = F3 /\
  (eE pg (jI .len #[22] 3 [CK]) t19 (dr w) /\ True) /\
  aC pg (aF .sub 3 aL aL t19 (.int .i64 1)) F3 fun t20 w_ => w_ = F3 /\
  (eE pg (aF .sub 3 aL aL t19 (.int .i64 1)) t20 (dr w) /\ True) /\
  aC pg (aF .mul 3 aL aL (.int .i64 8) t20) F3 fun t21 w_ => w_ = F3 /\
  (eE pg (aF .mul 3 aL aL (.int .i64 8) t20) t21 (dr w) /\ True) /\
  F3 = F3 /\
  F3 = F3 /\
  aC pg (jI .len #[22] 3 [CK]) F3 fun t24 w_ => w_ = F3 /\
  (eE pg (jI .len #[22] 3 [CK]) t24 (dr w) /\ True) /\
  aC pg (aF .sub 3 aL aL t24 (.int .i64 1)) F3 fun t25 w_ => w_ = F3 /\
  (eE pg (aF .sub 3 aL aL t24 (.int .i64 1)) t25 (dr w) /\ True) /\
  aC pg (bB 22 CK t25) F3 fun t26 w_ => w_ = F3 /\
  (eE pg (bB 22 CK t25) t26 (dr w) /\ True) /\
  aC pg (aJ 5 t26) F3 fun t27 w_ => w_ = F3 /\
  (eE pg (aJ 5 t26) t27 (dr w) /\ True) /\
  aU pg tF #[t27] F3 fun t28 Mh =>
  (eE pg (aF .mul 3 aL aL (.int .i64 8) t20) t21 Mh /\ eE pg (aF .sub 3 aL aL t19 (.int .i64 1)) t20 Mh /\ eE pg (jI .len #[22] 3 [CK]) t19 Mh /\ True) /\
  aC pg (aF .add 3 aL aL t21 t28) Mh fun t29 w_ => w_ = Mh /\
  aC pg (aF .sub 3 aL aL t29 (.int .i64 1)) Mh fun t30 w_ => w_ = Mh /\
  aC pg (cA 118 [(0, t17), (1, t30)]) Mh fun t31 w_ => w_ = Mh /\
  aC pg (BA 118 t31) Mh fun t32 V4 =>
  V4 = V4 /\
  V4 = V4 /\
  R (.tuple #[t32, (.int .i64 0)]) V4)
theorem HV (R : K1) (hr : HR Cc R Q) (h : nF R (g 0) w) : bG pg Bh zP Q g w :=
 eC (kn := no) (l := []) h fH hr trivial
def AL (a0 : anW) (w : anV) (R : K1) : Prop :=
 nF R a0 w
theorem Ab {a0 : anW} {w : anV} {R : K1} (h : AL a0 w R) : aU pg lI #[a0] w R := by
 refine xB (ann := Bh) Tryd.f21 zP [a0] Cc 33 TrydM.mixed Tryd.func21 ?_
 exact (HV _ _ _ R (fun _ _ h => h) h)
def xJ : FA := ⟨jA, fun i => .leaf ([], []) []⟩
def xQ : List ResultVar := [.tmp 4]
noncomputable def uF : Code := dC Tryd.f22
def pF (R : K1) (jL Hn : anW) (w : anV) : Prop :=
 aC pg (aF .eql 56 (.tmp 5) (.const (.pointer none)) jL (.pointer none)) w fun t6 w =>
 fL t6
  (R (.slice none 0 0) w)
  (aC pg (aF .geq 3 aL aL Hn (.int .i64 0)) w fun t10 w =>
  aU pg jP #[jL, Hn, t10] w fun t11 w =>
  R t11 w)
theorem Ea (R : K1) (hr : HR xQ R Q) (h : pF R (g 0) (g 1) w) : bG pg xJ uF Q g w :=
 eC (kn := no) (l := []) h fH hr trivial
def Cd (a0 a1 : anW) (w : anV) (R : K1) : Prop :=
 pF R a0 a1 w
theorem F6 {a0 a1 : anW} {w : anV} {R : K1} (h : Cd a0 a1 w R) : aU pg jA #[a0, a1] w R := by
 refine xB (ann := xJ) Tryd.f22 uF [a0, a1] xQ 12 TrydM.mixed Tryd.func22 ?_
 exact (Ea _ _ _ R (fun _ _ h => h) h)
def Mo : FA := ⟨Ey, fun i => .leaf ([], []) []⟩
def NK : List ResultVar := [.tmp 4]
noncomputable def KD : Code := dC Tryd.f23
def HB (R : K1) (t0 r_1 : anW) (w : anV) : Prop :=
 aC pg (BA 27 t0) w fun t2 w =>
 aC pg (aQ 27 t2 0) w fun t6 w =>
 aC pg (aJ 3 t6) w fun t7 w =>
 aU pg iA #[r_1, t7] w fun t8 w =>
 aC pg (fG 73 3 t8) w fun t9 w =>
 R t9 w
theorem Rh (R : K1) (hr : HR NK R Q) (h : HB R (g 0) (g 1) w) : bG pg Mo KD Q g w :=
 eC (kn := no) (l := []) h fH hr trivial
def Tr (a0 a1 : anW) (w : anV) (R : K1) : Prop :=
 HB R a0 a1 w
theorem SX {a0 a1 : anW} {w : anV} {R : K1} (h : Tr a0 a1 w R) : aU pg Ey #[a0, a1] w R := by
 refine xB (ann := Mo) Tryd.f23 KD [a0, a1] NK 10 TrydM.mixed Tryd.func23 ?_
 exact (Rh _ _ _ R (fun _ _ h => h) h)
def Cf : FA := ⟨kL, fun i => .leaf ([], []) []⟩
def CO : List ResultVar := [.tmp 8]
noncomputable def Bj : Code := dC Tryd.f24
def vM (R : K1) (aT t1 U1 r_3 : anW) (w : anV) : Prop :=
 aC pg (BA 27 t1) w fun t5 w =>
 aC pg (aF .lss 3 aL aL U1 (.int .i64 0)) w fun t13 w =>
 Gd (fA t13 false) (fun K => K U1 w) w fun t15 w =>
 Gd (fA t13 false) (fun K => aC pg (aQ 27 t5 1) w K) w fun t16 w =>
 Gd (fA t13 false) (fun K => aC pg (aJ 25 t16) w K) w fun t17 w =>
 Gd (fA t13 false) (fun K => aC pg (jI .len #[25] 3 [t17]) w K) w fun t18 w =>
 Gd (fA t13 false) (fun K => aC pg (aF .geq 3 aL aL t15 t18) w K) w fun t19 w =>
 aC pg (fR t13 (.bool true) t19) w fun t20 w =>
 fL t20
  (R (.int .u32 0) w)
  (aC pg (aQ 27 t5 1) w fun t23 w =>
  aC pg (aJ 25 t23) w fun t24 w =>
  aC pg (bB 25 t24 U1) w fun t26 w =>
  aC pg (aQ 123 t26 0) w fun t27 w =>
  aC pg (aJ 5 t27) w fun t28 w =>
  aC pg (fG 5 3 t28) w fun t29 w =>
  aU pg yP #[aT, t29] w fun t30 w =>
  aC pg (bT t30 0) w fun t31 w =>
  aC pg (bT t30 1) w fun t32 w =>
  aC pg (bT t30 2) w fun t33 w =>
  aU pg iA #[r_3, t32] w fun t37 w =>
  aC pg (fG 73 43 t37) w fun t38 w =>
  aC pg (aF .add 43 aL aL t31 t38) w fun t39 w =>
  R t39 w)
theorem JM (R : K1) (hr : HR CO R Q) (h : vM R (g 0) (g 1) (g 2) (g 3) w) : bG pg Cf Bj Q g w :=
 eC (kn := no) (l := []) h fH hr trivial
def IW (a0 a1 a2 a3 : anW) (w : anV) (R : K1) : Prop :=
 vM R a0 a1 a2 a3 w
theorem Kn {a0 a1 a2 a3 : anW} {w : anV} {R : K1} (h : IW a0 a1 a2 a3 w R) : aU pg kL #[a0, a1, a2, a3] w R := by
 refine xB (ann := Cf) Tryd.f24 Bj [a0, a1, a2, a3] CO 40 TrydM.mixed Tryd.func24 ?_
 exact (JM _ _ _ R (fun _ _ h => h) h)
def OI : FA := ⟨Ih, fun i => match Nat.beq i 4 with | true => .leaf ([5], [(0, 5), (1, 5)]) [(false, []), (false, []), (false, []), (false, []), (false, []), (true, [3, 4]), (false, []), (false, []), (false, [])] | false => .leaf ([], []) []⟩
def Qs : List ResultVar := [.tmp 6]
noncomputable def Mn : Code := dC Tryd.f25
def J4 (R : K1) (t0 fZ r_2 : anW) (w : anV) : Prop :=
 aC pg (BA 27 t0) w fun t3 w =>
 aC pg (aF .lss 3 aL aL fZ (.int .i64 0)) w fun t9 w =>
 Gd (fA t9 false) (fun K => K fZ w) w fun t11 w =>
 Gd (fA t9 false) (fun K => aC pg (aQ 27 t3 1) w K) w fun t12 w =>
 Gd (fA t9 false) (fun K => aC pg (aJ 25 t12) w K) w fun t13 w =>
 Gd (fA t9 false) (fun K => aC pg (jI .len #[25] 3 [t13]) w K) w fun t14 w =>
 Gd (fA t9 false) (fun K => aC pg (aF .geq 3 aL aL t11 t14) w K) w fun t15 w =>
 aC pg (fR t9 (.bool true) t15) w fun t16 w =>
 fL t16
  (R (.int .i64 0) w)
  (aC pg (aQ 27 t3 1) w fun t17 w =>
  aC pg (aJ 25 t17) w fun t18 w =>
  aC pg (bB 25 t18 fZ) w fun t20 w =>
  aC pg (aJ 123 t20) w fun t21 w =>
  aC pg (cM 123) w fun Hp w =>
  aC pg (aR 123 Hp t21) w fun _u w =>
  aC pg (aQ 123 Hp 2) (dr w) fun t22 w_ => w_ = (dr w) /\
  aC pg (aJ 3 t22) (dr w) fun t23 w_ => w_ = (dr w) /\
  (dr w) = (dr w) /\
  aC pg (aQ 123 Hp 1) (dr w) fun t25 w_ => w_ = (dr w) /\
  aC pg (aJ 3 t25) (dr w) fun t26 w_ => w_ = (dr w) /\
  aU pg iA #[r_2, t26] (dr w) fun t27 Um =>
  (eE pg (aJ 3 t22) t23 Um /\ eE pg (aQ 123 Hp 2) t22 Um /\ True) /\
  aC pg (fG 73 3 t27) Um fun t28 w_ => w_ = Um /\
  aC pg (aF .add 3 aL aL t23 t28) Um fun t29 w_ => w_ = Um /\
  Um = Um /\
  R t29 Um)
theorem RW (R : K1) (hr : HR Qs R Q) (h : J4 R (g 0) (g 1) (g 2) w) : bG pg OI Mn Q g w :=
 eC (kn := no) (l := []) h fH hr trivial
def VX (a0 a1 a2 : anW) (w : anV) (R : K1) : Prop :=
 J4 R a0 a1 a2 w
theorem Tf {a0 a1 a2 : anW} {w : anV} {R : K1} (h : VX a0 a1 a2 w R) : aU pg Ih #[a0, a1, a2] w R := by
 refine xB (ann := OI) Tryd.f25 Mn [a0, a1, a2] Qs 30 TrydM.mixed Tryd.func25 ?_
 exact (RW _ _ _ R (fun _ _ h => h) h)
def zF : FA := ⟨jU, fun i => .leaf ([], []) []⟩
def zK : List ResultVar := [.tmp 2]
noncomputable def xH : Code := dC Tryd.f26
def qK (R : K1) (jL : anW) (w : anV) : Prop :=
 aC pg (aF .eql 63 (.tmp 3) (.const (.pointer none)) jL (.pointer none)) w fun t4 w =>
 fL t4
  (R (.int .i64 0) w)
  (aC pg (lE jL) w fun t6 w =>
  aC pg (aQ 118 t6 1) w fun t7 w =>
  aC pg (aJ 3 t7) w fun t8 w =>
  R t8 w)
theorem Fj (R : K1) (hr : HR zK R Q) (h : qK R (g 0) w) : bG pg zF xH Q g w :=
 eC (kn := no) (l := []) h fH hr trivial
def Dy (a0 : anW) (w : anV) (R : K1) : Prop :=
 qK R a0 w
theorem Hi {a0 : anW} {w : anV} {R : K1} (h : Dy a0 w R) : aU pg jU #[a0] w R := by
 refine xB (ann := zF) Tryd.f26 xH [a0] zK 9 TrydM.mixed Tryd.func26 ?_
 exact (Fj _ _ _ R (fun _ _ h => h) h)
def Bn : FA := ⟨oU, fun i => .leaf ([], []) []⟩
def B9 : List ResultVar := [.tmp 0]
noncomputable def zS : Code := dC Tryd.f37
def tT (R : K1)  (w : anV) : Prop :=
 aC pg (cA 141 []) w fun t1 w =>
 aC pg (BA 141 t1) w fun t2 w =>
 R t2 w
theorem IC (R : K1) (hr : HR B9 R Q) (h : tT R w) : bG pg Bn zS Q g w :=
 eC (kn := no) (l := []) h fH hr trivial
def Hl (w : anV) (R : K1) : Prop :=
 tT R w
theorem I5 {w : anV} {R : K1} (h : Hl w R) : aU pg oU #[] w R := by
 refine xB (ann := Bn) Tryd.f37 zS [] B9 3 TrydM.mixed Tryd.func37 ?_
 exact (IC _ _ _ R (fun _ _ h => h) h)
def hJ : FA := ⟨eH, fun i => .leaf ([], []) []⟩
def nP : List ResultVar := []
noncomputable def gR : Code := dC Tryd.f38
def kI (kn : K4) (k0 : K0) (oF zV t17 t18 : anW) (w : anV) : Prop :=
 aC pg (aF .lss 3 aL aL t18 t17) w fun t19 w =>
 fL t19
  (aC pg (lE oF) w fun t23 w =>
  aC pg (aQ 141 t23 0) w fun t24 w =>
  aC pg (aJ 22 t24) w fun t25 w =>
  aC pg (aF .mul 3 aL aL (.int .i64 8) t18) w fun t28 w =>
  aC pg (fG 3 94 t28) w fun t29 w =>
  aC pg (aF .shr 73 aL aL zV t29) w fun t30 w =>
  aC pg (fG 73 5 t30) w fun t31 w =>
  aC pg (dB 22 1 [(0, t31)]) w fun t32 w =>
  aC pg (jI .append #[22, 22] 22 [t25, t32]) w fun t33 w =>
  aC pg (lE oF) w fun t34 w =>
  aC pg (aQ 141 t34 0) w fun t35 w =>
  aC pg (aR 22 t35 t33) w fun _u w =>
  aC pg (aF .add 3 aL aL t18 (.int .i64 1)) w fun t36 w =>
  kn oF zV t17 t36 w)
  (k0 w)
theorem C4 (kn : K4) (k0 : K0) (hn : N4 Q kn 0 1 17 18) (h0 : E0 Q k0 0) (h : kI kn k0 (g 0) (g 1) (g 17) (g 18) w) : bG pg hJ (bI (bI (aB 2 gR))) Q g w :=
 eC (kr := no) (l := [(0, fun g w => k0 w)]) h hn fH ⟨h0, trivial⟩
def oD (k0 : K0) (oF zV t17 t18 : anW) (w : anV) : Prop :=
 cO (fun (X : anW -> K0) (t : anW) (w : anV) => kI (fun _ _ _ t18 w => X t18 w) k0 oF zV t17 t w) t18 w
theorem C5 (k0 : K0) (h0 : E0 Q k0 0) (h : oD k0 (g 0) (g 1) (g 17) (g 18) w) : bG pg hJ (bI (aB 2 gR)) Q g w := by
 refine JK (fun g : Env => g 18) (fun X t w => kI (fun _ _ _ t18 w => X t18 w) k0 (g 0) (g 1) (g 17) t w) h (fun X g1 w1 ha hL => ?_)
 rw [<- fM 0 ha, <- fM 1 ha, <- fM 17 ha] at hL
 exact (C4 _ g1 w1 (fun _ _ _ t18 w => X t18 w) k0 (fun _ _ h => h) h0 hL)
def nT (kn : K0) (oF zV t17 t18 : anW) (w : anV) : Prop :=
 oD kn oF zV t17 t18 w
def nQ (kn : K4) (R : K1) (oF zV uR : anW) (w : anV) : Prop :=
 aC pg (aF .eql 95 (.tmp 7) (.const (.pointer none)) oF (.pointer none)) w fun t8 w =>
 Gd (fA t8 false) (fun K => K uR w) w fun t10 w =>
 Gd (fA t8 false) (fun K => aC pg (aF .lss 3 aL aL t10 (.int .i64 1)) w K) w fun t11 w =>
 aC pg (fR t8 (.bool true) t11) w fun t12 w =>
 Gd (fA t12 false) (fun K => K uR w) w fun t14 w =>
 Gd (fA t12 false) (fun K => aC pg (aF .gtr 3 aL aL t14 (.int .i64 8)) w K) w fun t15 w =>
 aC pg (fR t12 (.bool true) t15) w fun t16 w =>
 fL t16
  (R (.tuple #[]) w)
  (kn oF zV uR (.int .i64 0) w)
theorem DM (kn : K4) (R : K1) (hn : N4 Q kn 0 1 17 18) (hr : HR nP R Q) (h : nQ kn R (g 0) (g 1) (g 2) w) : bG pg hJ (aE 2 gR) Q g w :=
 eC (l := []) h hn hr trivial
def nN (kn : K0) (R : K1) (oF zV uR : anW) (w : anV) : Prop :=
 nQ (fun oF zV t17 t18 w => nT kn oF zV t17 t18 w) R oF zV uR w
theorem DH (kn : K0) (R : K1) (hn : N0 Q kn) (hr : HR nP R Q) (h : nN kn R (g 0) (g 1) (g 2) w) : bG pg hJ gR Q g w :=
 gM 2 (DM _ g w (nT kn) R (fun g w h => aK (Ca 0 (C5 _ g w kn hn h))) hr h)
def Bk (a0 a1 a2 : anW) (w : anV) (R : K1) : Prop :=
 nN (fun  w => R (.tuple #[]) w) R a0 a1 a2 w
theorem Eb {a0 a1 a2 : anW} {w : anV} {R : K1} (h : Bk a0 a1 a2 w R) : aU pg eH #[a0, a1, a2] w R := by
 refine xB (ann := hJ) Tryd.f38 gR [a0, a1, a2] nP 37 TrydM.mixed Tryd.func38 ?_
 exact (DH _ _ _ (fun  w => R (.tuple #[]) w) R (fun _ _ h => h) (fun _ _ h => h) h)
def cU : FA := ⟨qP, fun i => .leaf ([], []) []⟩
def fY : List ResultVar := [.cell 2 98, .tmp 3]
noncomputable def cJ : Code := dC Tryd.f39
def pR (R : K1) (t2 aP : anW) (w : anV) : Prop :=
 aC pg (aJ 98 aP) w fun t44 w =>
 aC pg (aR 98 t2 t44) w fun _u w =>
 xA pg 98 t2 w fun r0 => R (.tuple #[r0, (.int .i64 0)]) w
theorem Jv (R : K1) (hr : HR fY R Q) (h : pR R (g 2) (g 4) w) : bG pg cU (aB 1 (aB 2 cJ)) Q g w :=
 eC (kn := no) (l := []) h fH hr trivial
def pO (kn : K5) (t2 aP t12 t13 t14 : anW) (w : anV) : Prop :=
 aC pg (aF .add 3 aL aL t14 (.int .i64 1)) w fun t43 w =>
 kn t2 aP t12 t13 t43 w
theorem Jj (kn : K5) (hn : N5 Q kn 2 4 12 13 14) (h : pO kn (g 2) (g 4) (g 12) (g 13) (g 14) w) : bG pg cU (aB 1 (aB 2 (bI (bI (aB 1 (aE 1 (aB 2 cJ))))))) Q g w :=
 eC (kr := no) (l := []) h hn fH trivial
def oR (kn : K7) (k2 : K5) (R : K1) (t2 aP t12 t13 t14 t19 t20 : anW) (w : anV) : Prop :=
 aC pg (aF .lss 3 aL aL t20 (.int .i64 3)) w fun t21 w =>
 fL t21
  (aC pg (GH 142 t19 t20) w fun t23 w =>
  aU pg Ii #[t20, t23] w fun t27 w =>
  aC pg (bT t27 0) w fun t28 w =>
  aC pg (bT t27 1) w fun t29 w =>
  aC pg (bT t27 2) w fun t30 w =>
  aC pg (aF .neq 30 (.tmp 31) (.const (.int .i64 0)) t30 (.int .i64 0)) w fun t32 w =>
  fL t32
   (aC pg (aJ 98 aP) w fun t33 w =>
   aC pg (aR 98 t2 t33) w fun _u w =>
   xA pg 98 t2 w fun r0 => R (.tuple #[r0, (.int .i64 1)]) w)
   (aC pg (bB 98 aP t20) w fun t36 w =>
   aC pg (aJ 77 t36) w fun t37 w =>
   aC pg (dB 77 1 [(0, t28)]) w fun t39 w =>
   aC pg (jI .append #[77, 77] 77 [t37, t39]) w fun t40 w =>
   aC pg (bB 98 aP t20) w fun t41 w =>
   aC pg (aR 77 t41 t40) w fun _u w =>
   aC pg (aF .add 3 aL aL t20 (.int .i64 1)) w fun t42 w =>
   kn t2 aP t12 t13 t14 t19 t42 w))
  (k2 t2 aP t12 t13 t14 w)
theorem JA (kn : K7) (k2 : K5) (R : K1) (hn : N7 Q kn 2 4 12 13 14 19 20) (h2 : E5 Q k2 2 2 4 12 13 14) (hr : HR fY R Q) (h : oR kn k2 R (g 2) (g 4) (g 12) (g 13) (g 14) (g 19) (g 20) w) : bG pg cU (bI (bI (aB 2 (bI (aE 1 (aB 2 (bI (bI (aB 1 (aE 1 (aB 2 cJ))))))))))) Q g w :=
 eC (l := [(2, fun g w => k2 (g 2) (g 4) (g 12) (g 13) (g 14) w)]) h hn hr ⟨h2, trivial⟩
def vU (k2 : K5) (R : K1) (t2 aP t12 t13 t14 t19 t20 : anW) (w : anV) : Prop :=
 cO (fun (X : anW -> K0) (t : anW) (w : anV) => oR (fun _ _ _ _ _ _ t20 w => X t20 w) k2 R t2 aP t12 t13 t14 t19 t w) t20 w
theorem Jg (k2 : K5) (R : K1) (h2 : E5 Q k2 2 2 4 12 13 14) (hr : HR fY R Q) (h : vU k2 R (g 2) (g 4) (g 12) (g 13) (g 14) (g 19) (g 20) w) : bG pg cU (bI (aB 2 (bI (aE 1 (aB 2 (bI (bI (aB 1 (aE 1 (aB 2 cJ)))))))))) Q g w := by
 refine JK (fun g : Env => g 20) (fun X t w => oR (fun _ _ _ _ _ _ t20 w => X t20 w) k2 R (g 2) (g 4) (g 12) (g 13) (g 14) (g 19) t w) h (fun X g1 w1 ha hL => ?_)
 rw [<- fM 2 ha, <- fM 4 ha, <- fM 12 ha, <- fM 13 ha, <- fM 14 ha, <- fM 19 ha] at hL
 exact (JA _ g1 w1 (fun _ _ _ _ _ _ t20 w => X t20 w) k2 R (fun _ _ h => h) h2 hr hL)
def vS (kn : K5) (R : K1) (t2 aP t12 t13 t14 t19 t20 : anW) (w : anV) : Prop :=
 vU kn R t2 aP t12 t13 t14 t19 t20 w
def wE (kn : K7) (t2 aP t12 t13 t14 : anW) (w : anV) : Prop :=
 aC pg (bB 24 t12 t14) w fun t16 w =>
 aC pg (aJ 47 t16) w fun t17 w =>
 aC pg (cM 47) w fun s_6 w =>
 aC pg (aR 47 s_6 t17) w fun _u w =>
 aC pg (aJ 47 s_6) w fun t18 w =>
 aU pg lL #[t18] w fun t19 w =>
 kn t2 aP t12 t13 t14 t19 (.int .i64 0) w
theorem Jf (kn : K7) (hn : N7 Q kn 2 4 12 13 14 19 20) (h : wE kn (g 2) (g 4) (g 12) (g 13) (g 14) w) : bG pg cU (aE 2 (bI (aE 1 (aB 2 (bI (bI (aB 1 (aE 1 (aB 2 cJ))))))))) Q g w :=
 eC (kr := no) (l := []) h hn fH trivial
def Dk (kn : K5) (R : K1) (t2 aP t12 t13 t14 : anW) (w : anV) : Prop :=
 wE (fun t2 aP t12 t13 t14 t19 t20 w => vS kn R t2 aP t12 t13 t14 t19 t20 w) t2 aP t12 t13 t14 w
def vJ (kn : K5) (R : K1) (t2 aP t12 t13 t14 : anW) (w : anV) : Prop :=
 Dk kn R t2 aP t12 t13 t14 w
def vF (kn : K5) (R : K1) (t2 aP t12 t13 t14 : anW) (w : anV) : Prop :=
 vJ (fun t2 aP t12 t13 t14 w => pO kn t2 aP t12 t13 t14 w) R t2 aP t12 t13 t14 w
theorem JL (kn : K5) (R : K1) (hn : N5 Q kn 2 4 12 13 14) (hr : HR fY R Q) (h : vJ kn R (g 2) (g 4) (g 12) (g 13) (g 14) w) : bG pg cU (aE 1 (aB 2 (bI (bI (aB 1 (aE 1 (aB 2 cJ))))))) Q g w :=
 Ca 1 (gM 2 (Jf _ g w (vS kn R) (fun g w h => aK (Ca 2 (Jg _ g w kn R hn hr h))) h))
def tI (kn : K5) (k0 : K2) (t2 aP t12 t13 t14 : anW) (w : anV) : Prop :=
 aC pg (aF .lss 3 aL aL t14 t13) w fun t15 w =>
 fL t15
  (kn t2 aP t12 t13 t14 w)
  (k0 t2 aP w)
theorem IF (kn : K5) (k0 : K2) (hn : N5 Q kn 2 4 12 13 14) (h0 : E2 Q k0 0 2 4) (h : tI kn k0 (g 2) (g 4) (g 12) (g 13) (g 14) w) : bG pg cU (aE 2 (bI (bI (aB 1 (aE 1 (aB 2 cJ)))))) Q g w :=
 eC (kr := no) (l := [(0, fun g w => k0 (g 2) (g 4) w)]) h hn fH ⟨h0, trivial⟩
def nK (kn : K5) (k0 : K2) (R : K1) (t2 aP t12 t13 t14 : anW) (w : anV) : Prop :=
 tI (fun t2 aP t12 t13 t14 w => vF kn R t2 aP t12 t13 t14 w) k0 t2 aP t12 t13 t14 w
def tK (k0 : K2) (R : K1) (t2 aP t12 t13 t14 : anW) (w : anV) : Prop :=
 cO (fun (X : anW -> K0) (t : anW) (w : anV) => nK (fun _ _ _ _ t14 w => X t14 w) k0 R t2 aP t12 t13 t w) t14 w
theorem HK (kn : K5) (k0 : K2) (R : K1) (hn : N5 Q kn 2 4 12 13 14) (h0 : E2 Q k0 0 2 4) (hr : HR fY R Q) (h : nK kn k0 R (g 2) (g 4) (g 12) (g 13) (g 14) w) : bG pg cU (bI (bI (aB 1 (aE 1 (aB 2 cJ))))) Q g w :=
 gM 2 (IF _ g w (vF kn R) k0 (fun g w h => aK (gM 1 (JL _ g w (pO kn) R (fun g w h => aK (Jj _ g w kn hn h)) hr h))) h0 h)
theorem Ik (k0 : K2) (R : K1) (h0 : E2 Q k0 0 2 4) (hr : HR fY R Q) (h : tK k0 R (g 2) (g 4) (g 12) (g 13) (g 14) w) : bG pg cU (bI (aB 1 (aE 1 (aB 2 cJ)))) Q g w := by
 refine JK (fun g : Env => g 14) (fun X t w => nK (fun _ _ _ _ t14 w => X t14 w) k0 R (g 2) (g 4) (g 12) (g 13) t w) h (fun X g1 w1 ha hL => ?_)
 rw [<- fM 2 ha, <- fM 4 ha, <- fM 12 ha, <- fM 13 ha] at hL
 exact (HK _ g1 w1 (fun _ _ _ _ t14 w => X t14 w) k0 R (fun _ _ h => h) h0 hr hL)
def uA (kn : K2) (R : K1) (t2 aP t12 t13 t14 : anW) (w : anV) : Prop :=
 tK kn R t2 aP t12 t13 t14 w
def tQ (kn : K5) (fE t2 aP : anW) (w : anV) : Prop :=
 aC pg (jI .len #[24] 3 [fE]) w fun t13 w =>
 kn t2 aP fE t13 (.int .i64 0) w
theorem Ig (kn : K5) (hn : N5 Q kn 2 4 12 13 14) (h : tQ kn (g 0) (g 2) (g 4) w) : bG pg cU (aE 1 (aE 1 (aB 2 cJ))) Q g w :=
 eC (kr := no) (l := []) h hn fH trivial
def tN (kn : K2) (R : K1) (fE t2 aP : anW) (w : anV) : Prop :=
 tQ (fun t2 aP t12 t13 t14 w => uA kn R t2 aP t12 t13 t14 w) fE t2 aP w
def tV (R : K1) (fE t2 aP : anW) (w : anV) : Prop :=
 tN (fun t2 aP w => pR R t2 aP w) R fE t2 aP w
theorem HS (kn : K2) (R : K1) (hn : N2 Q kn 2 4) (hr : HR fY R Q) (h : tN kn R (g 0) (g 2) (g 4) w) : bG pg cU (aE 1 (aB 2 cJ)) Q g w :=
 gM 1 (Ig _ g w (uA kn R) (fun g w h => aK (Ca 0 (Ik _ g w kn R hn hr h))) h)
def tO (kn : K3) (fE : anW) (w : anV) : Prop :=
 aC pg (cM 98) w fun t2 w =>
 aC pg (cM 98) w fun aP w =>
 kn fE t2 aP w
theorem Il (kn : K3) (hn : N3 Q kn 0 2 4) (h : tO kn (g 0) w) : bG pg cU (aE 2 cJ) Q g w :=
 eC (kr := no) (l := []) h hn fH trivial
def tU (R : K1) (fE : anW) (w : anV) : Prop :=
 tO (fun fE t2 aP w => tV R fE t2 aP w) fE w
theorem ID (R : K1) (hr : HR fY R Q) (h : tU R (g 0) w) : bG pg cU cJ Q g w :=
 gM 2 (Il _ g w (tV R) (fun g w h => aK (gM 1 (HS _ g w (pR R) R (fun g w h => aK (Jv _ g w R hr h)) hr h))) h)
def IN (a0 : anW) (w : anV) (R : K1) : Prop :=
 tU R a0 w
theorem Kg {a0 : anW} {w : anV} {R : K1} (h : IN a0 w R) : aU pg qP #[a0] w R := by
 refine xB (ann := cU) Tryd.f39 cJ [a0] fY 45 TrydM.mixed Tryd.func39 ?_
 exact (ID _ _ _ R (fun _ _ h => h) h)
def cC : FA := ⟨jM, fun i => match Nat.beq i 18 with | true => .split 4 9 (.split 9 10 (.perm [0, 1, 2, 3, 4, 5, 6, 7, 8, 9, 10, 11, 12, 13] [(9, 10), (4, 9)] ([4, 9, 10], [(4, 6), (4, 7), (4, 8)]) [(false, []), (false, []), (false, []), (false, []), (true, []), (false, []), (false, [1]), (false, [2]), (false, [3]), (true, []), (true, []), (false, []), (false, []), (false, [])]) (.perm [0, 1, 2, 3, 4, 5, 6, 7, 8, 10, 9, 11, 12, 13] [(10, 9), (4, 9)] ([4, 9, 10], [(4, 6), (4, 7), (4, 8), (6, 9), (7, 9), (8, 9)]) [(false, []), (false, []), (false, []), (false, []), (true, []), (false, []), (false, [1]), (false, [2]), (false, [3]), (true, [0, 1, 2]), (true, []), (false, []), (false, []), (false, [])])) (.perm [0, 1, 2, 3, 5, 6, 7, 8, 9, 4, 10, 11, 12, 13] [(9, 4)] ([8, 9, 10], [(1, 8), (2, 8), (3, 8)]) [(false, []), (false, []), (false, []), (false, []), (false, []), (false, []), (false, []), (false, []), (true, [4, 5, 6]), (true, []), (true, []), (false, []), (false, []), (false, [])]) | false => match Nat.beq i 22 with | true => .split 4 9 (.split 5 9 (.perm [0, 1, 2, 3, 4, 5, 6, 7, 8, 9, 10, 11] [(5, 9), (4, 9)] ([4, 5, 9, 10], [(1, 4), (2, 4), (7, 9), (8, 9), (8, 10)]) [(false, []), (false, []), (false, []), (false, []), (true, [1, 2]), (true, []), (false, []), (false, []), (false, []), (true, [0, 1]), (true, [1]), (false, [])]) (.perm [0, 1, 2, 3, 4, 9, 5, 6, 7, 8, 10, 11] [(9, 5), (4, 9)] ([4, 5, 6, 10], [(1, 4), (1, 5), (2, 4), (2, 5), (9, 10)]) [(false, []), (false, []), (false, []), (false, []), (true, [1, 2]), (true, [2, 3]), (true, []), (false, []), (false, []), (false, []), (true, [0]), (false, [])])) (.perm [0, 1, 2, 3, 9, 4, 5, 6, 7, 8, 10, 11] [(9, 4)] ([4, 5, 6, 10], [(1, 4), (1, 5), (2, 4), (2, 5), (9, 10)]) [(false, []), (false, []), (false, []), (false, []), (true, [1, 2]), (true, [2, 3]), (true, []), (false, []), (false, []), (false, []), (true, [0]), (false, [])]) | false => .leaf ([], []) []⟩
def fN : List ResultVar := [.cell 4 27, .tmp 5, .tmp 6, .tmp 7]
noncomputable def bM : Code := dC Tryd.f40
def qC (R : K1) (t4 MZ YH : anW) (w : anV) : Prop :=
 aC pg (aF .neq 30 (.tmp 107) (.const (.int .i64 0)) YH (.int .i64 0)) w fun t108 w =>
 fL t108
  (aC pg (cA 27 []) w fun t109 w =>
  aC pg (aR 27 t4 t109) w fun _u w =>
  xA pg 27 t4 w fun r0 => R (.tuple #[r0, (.int .i64 0), (.slice none 0 0), YH]) w)
  (aC pg (aJ 145 MZ) w fun t112 w =>
  aU pg yD #[t112] w fun t113 w =>
  aC pg (bT t113 0) w fun t114 w =>
  aC pg (bT t113 1) w fun t115 w =>
  aC pg (aF .neq 30 (.tmp 116) (.const (.int .i64 0)) t115 (.int .i64 0)) w fun t117 w =>
  fL t117
   (aC pg (cA 27 []) w fun t118 w =>
   aC pg (aR 27 t4 t118) w fun _u w =>
   xA pg 27 t4 w fun r0 => R (.tuple #[r0, (.int .i64 0), (.slice none 0 0), t115]) w)
   (aC pg (aJ 145 MZ) w fun t121 w =>
   aU pg mE #[t121] w fun t122 w =>
   aC pg (bT t122 0) w fun t123 w =>
   aC pg (bT t122 1) w fun t124 w =>
   aC pg (cM 27) w fun t20 w =>
   aC pg (aR 27 t20 t123) w fun _u w =>
   aC pg (aJ 27 t20) w fun t125 w =>
   aC pg (aR 27 t4 t125) w fun _u w =>
   xA pg 27 t4 w fun r0 => R (.tuple #[r0, (.int .i64 2), t114, t124]) w))
theorem MR (R : K1) (hr : HR fN R Q) (h : qC R (g 4) (g 17) (g 18) w) : bG pg cC (aB 1 (aB 1 (aB 1 (aB 1 (aB 5 bM))))) Q g w :=
 eC (kn := no) (l := []) h fH hr trivial
def B0 (kn : K3) (aT t4 aZ aH : anW) (w : anV) : Prop :=
 Ord (Ua jM 22 (Dz 22 bM) 4 9 w)
  (Ord (Ua jM 22 (Dz 22 bM) 5 9 w)
   ((dr w) = (dr w) /\
   aC pg (aF .add 3 aL aL aH (.int .i64 1)) (dr w) fun t100 w_ => w_ = (dr w) /\
   aC pg (fW 144 aZ none (some t100) none) (dr w) fun t101 w_ => w_ = (dr w) /\
   (dr w) = (dr w) /\
   aU pg mV #[aT] (dr w) fun t103 Ks =>
   (eE pg (fW 144 aZ none (some t100) none) t101 Ks /\ eE pg (aF .add 3 aL aL aH (.int .i64 1)) t100 Ks /\ True) /\
   aU pg xE #[t101, t103] Ks fun t104 DP =>
   DP = DP /\
   aC pg (bT t104 0) DP fun t105 w_ => w_ = DP /\
   aC pg (bT t104 1) DP fun t106 w_ => w_ = DP /\
   aC pg (cM 145) DP fun MZ aaV =>
   (eE pg (bT t104 1) t106 aaV /\ eE pg (bT t104 0) t105 aaV /\ True) /\
   aC pg (aR 145 MZ t105) aaV fun _u10 xX =>
   (eE pg (bT t104 1) t106 xX /\ True) /\
   xX = xX /\
   kn t4 MZ t106 xX)
   ((dr w) = (dr w) /\
   aC pg (aF .add 3 aL aL aH (.int .i64 1)) (dr w) fun t100 w_ => w_ = (dr w) /\
   aC pg (fW 144 aZ none (some t100) none) (dr w) fun t101 w_ => w_ = (dr w) /\
   (dr w) = (dr w) /\
   aU pg mV #[aT] (dr w) fun t103 Ks =>
   (eE pg (fW 144 aZ none (some t100) none) t101 Ks /\ eE pg (aF .add 3 aL aL aH (.int .i64 1)) t100 Ks /\ True) /\
   aC pg (cM 145) Ks fun MZ DP =>
   (eE pg (fW 144 aZ none (some t100) none) t101 DP /\ eE pg (aF .add 3 aL aL aH (.int .i64 1)) t100 DP /\ True) /\
   aU pg xE #[t101, t103] DP fun t104 D0 =>
   D0 = D0 /\
   aC pg (bT t104 0) D0 fun t105 w_ => w_ = D0 /\
   aC pg (bT t104 1) D0 fun t106 w_ => w_ = D0 /\
   aC pg (aR 145 MZ t105) D0 fun _u10 xX =>
   (eE pg (bT t104 1) t106 xX /\ True) /\
   xX = xX /\
   kn t4 MZ t106 xX))
  ((dr w) = (dr w) /\
  aC pg (aF .add 3 aL aL aH (.int .i64 1)) (dr w) fun t100 w_ => w_ = (dr w) /\
  aC pg (fW 144 aZ none (some t100) none) (dr w) fun t101 w_ => w_ = (dr w) /\
  (dr w) = (dr w) /\
  aC pg (cM 145) (dr w) fun MZ Ks =>
  (eE pg (fW 144 aZ none (some t100) none) t101 Ks /\ eE pg (aF .add 3 aL aL aH (.int .i64 1)) t100 Ks /\ True) /\
  aU pg mV #[aT] Ks fun t103 DP =>
  (eE pg (fW 144 aZ none (some t100) none) t101 DP /\ eE pg (aF .add 3 aL aL aH (.int .i64 1)) t100 DP /\ True) /\
  aU pg xE #[t101, t103] DP fun t104 D0 =>
  D0 = D0 /\
  aC pg (bT t104 0) D0 fun t105 w_ => w_ = D0 /\
  aC pg (bT t104 1) D0 fun t106 w_ => w_ = D0 /\
  aC pg (aR 145 MZ t105) D0 fun _u10 xX =>
  (eE pg (bT t104 1) t106 xX /\ True) /\
  xX = xX /\
  kn t4 MZ t106 xX)
theorem MI (kn : K3) (hn : N3 Q kn 4 17 18) (h : B0 kn (g 0) (g 4) (g 9) (g 11) w) : bG pg cC (aE 1 (aB 1 (aB 1 (aB 1 (aB 5 bM))))) Q g w :=
 eC (kr := no) (l := []) h hn fH trivial
def pY (R : K1) (aT t4 aZ aH : anW) (w : anV) : Prop :=
 B0 (fun t4 MZ YH w => qC R t4 MZ YH w) aT t4 aZ aH w
def qD (R : K1) (t4 t5 t6 t7 : anW) (w : anV) : Prop :=
 xA pg 27 t4 w fun r0 => R (.tuple #[r0, t5, t6, t7]) w
theorem Nh (R : K1) (hr : HR fN R Q) (h : qD R (g 4) (g 5) (g 6) (g 7) w) : bG pg cC (aB 1 (cT (aB 1 (bI (aE 1 (aB 1 (aB 1 (aB 5 bM)))))))) Q g w :=
 eC (kn := no) (l := []) h fH hr trivial
def B1 (kn : K4) (lD t4 : anW) (w : anV) : Prop :=
 Ord (Ua jM 18 (Dz 18 bM) 4 9 w)
  (Ord (Ua jM 18 (Dz 18 bM) 9 10 w)
   ((dr w) = (dr w) /\
   aC pg (bB 77 lD (.int .i64 0)) (dr w) fun t71 w_ => w_ = (dr w) /\
   aC pg (aJ 3 t71) (dr w) fun t72 w_ => w_ = (dr w) /\
   aC pg (fG 3 5 t72) (dr w) fun t73 w_ => w_ = (dr w) /\
   aU pg AH #[t73] (dr w) fun t74 yR =>
   yR = yR /\
   aC pg (bB 77 lD (.int .i64 0)) yR fun t76 w_ => w_ = yR /\
   (eE pg (bB 77 lD (.int .i64 0)) t76 (dr w) /\ True) /\
   aC pg (aJ 3 t76) yR fun t77 w_ => w_ = yR /\
   (eE pg (aJ 3 t76) t77 (dr w) /\ True) /\
   aC pg (fG 3 5 t77) yR fun t78 w_ => w_ = yR /\
   (eE pg (fG 3 5 t77) t78 (dr w) /\ True) /\
   aC pg (dB 22 1 [(0, t78)]) yR fun t79 Qt =>
   aC pg (aR 27 t4 t74) Qt fun _u10 lR =>
   lR = lR /\
   lR = lR /\
   lR = lR /\
   kn t4 (.int .i64 1) t79 (.int .i64 0) lR)
   ((dr w) = (dr w) /\
   aC pg (bB 77 lD (.int .i64 0)) (dr w) fun t71 w_ => w_ = (dr w) /\
   aC pg (aJ 3 t71) (dr w) fun t72 w_ => w_ = (dr w) /\
   aC pg (fG 3 5 t72) (dr w) fun t73 w_ => w_ = (dr w) /\
   aU pg AH #[t73] (dr w) fun t74 yR =>
   yR = yR /\
   aC pg (bB 77 lD (.int .i64 0)) yR fun t76 w_ => w_ = yR /\
   (eE pg (bB 77 lD (.int .i64 0)) t76 (dr w) /\ True) /\
   aC pg (aJ 3 t76) yR fun t77 w_ => w_ = yR /\
   (eE pg (aJ 3 t76) t77 (dr w) /\ True) /\
   aC pg (fG 3 5 t77) yR fun t78 w_ => w_ = yR /\
   (eE pg (fG 3 5 t77) t78 (dr w) /\ True) /\
   aC pg (aR 27 t4 t74) yR fun _u9 Qt =>
   (eE pg (fG 3 5 t77) t78 Qt /\ eE pg (aJ 3 t76) t77 Qt /\ eE pg (bB 77 lD (.int .i64 0)) t76 Qt /\ True) /\
   aC pg (dB 22 1 [(0, t78)]) Qt fun t79 lR =>
   lR = lR /\
   lR = lR /\
   lR = lR /\
   kn t4 (.int .i64 1) t79 (.int .i64 0) lR))
  ((dr w) = (dr w) /\
  aC pg (bB 77 lD (.int .i64 0)) (dr w) fun t71 w_ => w_ = (dr w) /\
  aC pg (aJ 3 t71) (dr w) fun t72 w_ => w_ = (dr w) /\
  aC pg (fG 3 5 t72) (dr w) fun t73 w_ => w_ = (dr w) /\
  (dr w) = (dr w) /\
  aC pg (bB 77 lD (.int .i64 0)) (dr w) fun t76 w_ => w_ = (dr w) /\
  aC pg (aJ 3 t76) (dr w) fun t77 w_ => w_ = (dr w) /\
  aC pg (fG 3 5 t77) (dr w) fun t78 w_ => w_ = (dr w) /\
  aC pg (dB 22 1 [(0, t78)]) (dr w) fun t79 XX =>
  (eE pg (fG 3 5 t72) t73 XX /\ eE pg (aJ 3 t71) t72 XX /\ eE pg (bB 77 lD (.int .i64 0)) t71 XX /\ True) /\
  aU pg AH #[t73] XX fun t74 Qt =>
  aC pg (aR 27 t4 t74) Qt fun _u10 lR =>
  lR = lR /\
  lR = lR /\
  lR = lR /\
  kn t4 (.int .i64 1) t79 (.int .i64 0) lR)
theorem MB (kn : K4) (hn : N4 Q kn 4 5 6 7) (h : B1 kn (g 1) (g 4) w) : bG pg cC (aE 1 (cT (aB 1 (bI (aE 1 (aB 1 (aB 1 (aB 5 bM)))))))) Q g w :=
 eC (kr := no) (l := []) h hn fH trivial
def BW (R : K1) (lD t4 : anW) (w : anV) : Prop :=
 B1 (fun t4 t5 t6 t7 w => qD R t4 t5 t6 t7 w) lD t4 w
def BZ (kn : K4) (R : K1) (aT lD t4 aZ aH Dl : anW) (w : anV) : Prop :=
 aC pg (jI .len #[77] 3 [lD]) w fun t82 w =>
 aC pg (aF .lss 3 aL aL t82 (.int .i64 64)) w fun t83 w =>
 Gd (fA t83 true) (fun K => K aH w) w fun t85 w =>
 Gd (fA t83 true) (fun K => aC pg (aQ 145 Dl 1) w K) w fun t86 w =>
 Gd (fA t83 true) (fun K => aC pg (aJ 77 t86) w K) w fun t87 w =>
 Gd (fA t83 true) (fun K => aC pg (jI .len #[77] 3 [t87]) w K) w fun t88 w =>
 Gd (fA t83 true) (fun K => aC pg (aF .lss 3 aL aL t85 t88) w K) w fun t89 w =>
 aC pg (fR t83 t89 (.bool false)) w fun t90 w =>
 fL t90
  (aC pg (aJ 145 Dl) w fun t92 w =>
  aU pg mE #[t92] w fun t93 w =>
  aC pg (bT t93 0) w fun t94 w =>
  aC pg (bT t93 1) w fun t95 w =>
  aC pg (cM 27) w fun t15 w =>
  aC pg (aR 27 t15 t94) w fun _u w =>
  aC pg (aJ 27 t15) w fun t96 w =>
  aC pg (aR 27 t4 t96) w fun _u w =>
  xA pg 27 t4 w fun r0 => R (.tuple #[r0, (.int .i64 0), (.slice none 0 0), t95]) w)
  (kn aT t4 aZ aH w)
theorem MF (kn : K4) (R : K1) (hn : N4 Q kn 0 4 9 11) (hr : HR fN R Q) (h : BZ kn R (g 0) (g 1) (g 4) (g 9) (g 11) (g 14) w) : bG pg cC (cE (aB 1 (bI (aE 1 (aB 1 (aB 1 (aB 5 bM))))))) Q g w :=
 eC (l := []) h hn hr trivial
def BK (kn : K4) (R : K1) (aT lD t4 aZ aH Dl t67 : anW) (w : anV) : Prop :=
 fL t67 (BW R lD t4 w) (BZ kn R aT lD t4 aZ aH Dl w)
def BT (kn : K7) (aT lD t4 aZ t10 aH Dl : anW) (w : anV) : Prop :=
 aC pg (aF .eql 3 (.tmp 68) (.const (.int .i64 1)) t10 (.int .i64 1)) w fun t69 w =>
 kn aT lD t4 aZ aH Dl t69 w
theorem MV (kn : K7) (hn : N7 Q kn 0 1 4 9 11 14 67) (h : BT kn (g 0) (g 1) (g 4) (g 9) (g 10) (g 11) (g 14) w) : bG pg cC (aE 1 (bI (aE 1 (aB 1 (aB 1 (aB 5 bM)))))) Q g w :=
 eC (kr := no) (l := []) h hn fH trivial
def GZ (kn : K4) (R : K1) (aT lD t4 aZ t10 aH Dl : anW) (w : anV) : Prop :=
 BT (fun aT lD t4 aZ aH Dl t67 w => BK kn R aT lD t4 aZ aH Dl t67 w) aT lD t4 aZ t10 aH Dl w
def As (kn : K4) (R : K1) (aT lD t4 aZ t10 aH Dl : anW) (w : anV) : Prop :=
 GZ kn R aT lD t4 aZ t10 aH Dl w
def Af (R : K1) (aT lD t4 aZ t10 aH Dl : anW) (w : anV) : Prop :=
 As (fun aT t4 aZ aH w => pY R aT t4 aZ aH w) R aT lD t4 aZ t10 aH Dl w
theorem L4 (kn : K4) (R : K1) (hn : N4 Q kn 0 4 9 11) (hr : HR fN R Q) (h : As kn R (g 0) (g 1) (g 4) (g 9) (g 10) (g 11) (g 14) w) : bG pg cC (aE 1 (aB 1 (aB 1 (aB 5 bM)))) Q g w :=
 Ca 2 (gM 1 (MV _ g w (BK kn R) (fun g w h => aK (cdD (.tmp 67) (fun h => (gM 1 (MB _ g w (qD R) (fun g w h => aK (Nh _ g w R hr h)) h))) (fun h => (MF _ g w kn R hn hr h)) h)) h))
def AO (kn : K7) (aT lD t4 aZ t10 aH : anW) (w : anV) : Prop :=
 aU pg rD #[aT] w fun t66 w =>
 aC pg (cM 145) w fun Dl w =>
 aC pg (aR 145 Dl t66) w fun _u w =>
 kn aT lD t4 aZ t10 aH Dl w
theorem LZ (kn : K7) (hn : N7 Q kn 0 1 4 9 10 11 14) (h : AO kn (g 0) (g 1) (g 4) (g 9) (g 10) (g 11) w) : bG pg cC (aE 1 (aB 1 (aB 5 bM))) Q g w :=
 eC (kr := no) (l := []) h hn fH trivial
def Ay (R : K1) (aT lD t4 aZ t10 aH : anW) (w : anV) : Prop :=
 AO (fun aT lD t4 aZ t10 aH Dl w => Af R aT lD t4 aZ t10 aH Dl w) aT lD t4 aZ t10 aH w
def sW (kn : CH) (aT lD t4 bF aZ t10 aH t36 t37 t38 : anW) (w : anV) : Prop :=
 aC pg (aF .add 3 aL aL t38 (.int .i64 1)) w fun t64 w =>
 kn aT lD t4 bF aZ t10 aH t36 t37 t64 w
theorem Mb (kn : CH) (hn : N10 Q kn 0 1 4 8 9 10 11 36 37 38) (h : sW kn (g 0) (g 1) (g 4) (g 8) (g 9) (g 10) (g 11) (g 36) (g 37) (g 38) w) : bG pg cC (aB 1 (aB 2 (bI (bI (aB 1 (aE 1 (aB 5 bM))))))) Q g w :=
 eC (kr := no) (l := []) h hn fH trivial
def sY (kn : CH) (aT lD t4 bF aZ t10 aH Zd t36 t37 t38 : anW) (w : anV) : Prop :=
 aC pg (jI .max #[3, 3] 3 [aH, Zd]) w fun t63 w =>
 kn aT lD t4 bF aZ t10 t63 t36 t37 t38 w
theorem LJ (kn : CH) (hn : N10 Q kn 0 1 4 8 9 10 11 36 37 38) (h : sY kn (g 0) (g 1) (g 4) (g 8) (g 9) (g 10) (g 11) (g 13) (g 36) (g 37) (g 38) w) : bG pg cC (aB 3 (bI (aE 1 (aB 2 (bI (bI (aB 1 (aE 1 (aB 5 bM))))))))) Q g w :=
 eC (kr := no) (l := []) h hn fH trivial
def Aq (kn : K11) (R : K1) (aT lD t4 bF aZ t10 aH t36 t37 t38 : anW) (w : anV) : Prop :=
 aC pg (bB 77 t36 t38) w fun t40 w =>
 aC pg (aJ 3 t40) w fun t41 w =>
 aC pg (aF .lss 3 aL aL t41 (.int .i64 0)) w fun t43 w =>
 Gd (fA t43 false) (fun K => K t41 w) w fun t45 w =>
 Gd (fA t43 false) (fun K => K bF w) w fun t46 w =>
 Gd (fA t43 false) (fun K => aC pg (aF .gtr 3 aL aL t45 t46) w K) w fun t47 w =>
 aC pg (fR t43 (.bool true) t47) w fun t48 w =>
 fL t48
  (aC pg (cA 27 []) w fun t49 w =>
  aC pg (aR 27 t4 t49) w fun _u w =>
  xA pg 27 t4 w fun r0 => R (.tuple #[r0, (.int .i64 0), (.slice none 0 0), (.int .i64 1)]) w)
  (aC pg (bB 144 aZ t41) w fun t51 w =>
  aC pg (aJ 43 t51) w fun t52 w =>
  aC pg (aF .add 43 aL aL t52 (.int .u32 1)) w fun t53 w =>
  aC pg (bB 144 aZ t41) w fun t54 w =>
  aC pg (aR 43 t54 t53) w fun _u w =>
  aC pg (bB 144 aZ t41) w fun t56 w =>
  aC pg (aJ 43 t56) w fun t57 w =>
  aC pg (aF .eql 43 (.tmp 57) (.const (.int .u32 1)) t57 (.int .u32 1)) w fun t58 w =>
  fL t58
   (aC pg (aF .add 3 aL aL t10 (.int .i64 1)) w fun t60 w =>
   kn aT lD t4 bF aZ t60 aH t41 t36 t37 t38 w)
   (kn aT lD t4 bF aZ t10 aH t41 t36 t37 t38 w))
theorem Mc (kn : K11) (R : K1) (hn : N11 Q kn 0 1 4 8 9 10 11 13 36 37 38) (hr : HR fN R Q) (h : Aq kn R (g 0) (g 1) (g 4) (g 8) (g 9) (g 10) (g 11) (g 36) (g 37) (g 38) w) : bG pg cC (aE 3 (bI (aE 1 (aB 2 (bI (bI (aB 1 (aE 1 (aB 5 bM))))))))) Q g w :=
 eC (l := []) h hn hr trivial
def Gy (kn : CH) (R : K1) (aT lD t4 bF aZ t10 aH t36 t37 t38 : anW) (w : anV) : Prop :=
 Aq (fun aT lD t4 bF aZ t10 aH Zd t36 t37 t38 w => sY kn aT lD t4 bF aZ t10 aH Zd t36 t37 t38 w) R aT lD t4 bF aZ t10 aH t36 t37 t38 w
def Ae (kn : CH) (R : K1) (aT lD t4 bF aZ t10 aH t36 t37 t38 : anW) (w : anV) : Prop :=
 Gy kn R aT lD t4 bF aZ t10 aH t36 t37 t38 w
def AA (kn : CH) (R : K1) (aT lD t4 bF aZ t10 aH t36 t37 t38 : anW) (w : anV) : Prop :=
 Ae (fun aT lD t4 bF aZ t10 aH t36 t37 t38 w => sW kn aT lD t4 bF aZ t10 aH t36 t37 t38 w) R aT lD t4 bF aZ t10 aH t36 t37 t38 w
theorem LP (kn : CH) (R : K1) (hn : N10 Q kn 0 1 4 8 9 10 11 36 37 38) (hr : HR fN R Q) (h : Ae kn R (g 0) (g 1) (g 4) (g 8) (g 9) (g 10) (g 11) (g 36) (g 37) (g 38) w) : bG pg cC (aE 1 (aB 2 (bI (bI (aB 1 (aE 1 (aB 5 bM))))))) Q g w :=
 Ca 1 (gM 3 (Mc _ g w (sY kn) R (fun g w h => aK (LJ _ g w kn hn h)) hr h))
def AG (kn : CH) (k0 : K6) (aT lD t4 bF aZ t10 aH t36 t37 t38 : anW) (w : anV) : Prop :=
 aC pg (aF .lss 3 aL aL t38 t37) w fun t39 w =>
 fL t39
  (kn aT lD t4 bF aZ t10 aH t36 t37 t38 w)
  (k0 aT lD t4 aZ t10 aH w)
theorem L3 (kn : CH) (k0 : K6) (hn : N10 Q kn 0 1 4 8 9 10 11 36 37 38) (h0 : E6 Q k0 0 0 1 4 9 10 11) (h : AG kn k0 (g 0) (g 1) (g 4) (g 8) (g 9) (g 10) (g 11) (g 36) (g 37) (g 38) w) : bG pg cC (aE 2 (bI (bI (aB 1 (aE 1 (aB 5 bM)))))) Q g w :=
 eC (kr := no) (l := [(0, fun g w => k0 (g 0) (g 1) (g 4) (g 9) (g 10) (g 11) w)]) h hn fH ⟨h0, trivial⟩
def sR (kn : CH) (k0 : K6) (R : K1) (aT lD t4 bF aZ t10 aH t36 t37 t38 : anW) (w : anV) : Prop :=
 AG (fun aT lD t4 bF aZ t10 aH t36 t37 t38 w => AA kn R aT lD t4 bF aZ t10 aH t36 t37 t38 w) k0 aT lD t4 bF aZ t10 aH t36 t37 t38 w
def An (k0 : K6) (R : K1) (aT lD t4 bF aZ t10 aH t36 t37 t38 : anW) (w : anV) : Prop :=
 cO (fun (X : (anW × anW × anW) -> K0) (t : anW × anW × anW) (w : anV) => sR (fun _ _ _ _ _ t10 aH _ _ t38 w => X (t10, aH, t38) w) k0 R aT lD t4 bF aZ t.1 t.2.1 t36 t37 t.2.2 w) (t10, aH, t38) w
theorem LU (kn : CH) (k0 : K6) (R : K1) (hn : N10 Q kn 0 1 4 8 9 10 11 36 37 38) (h0 : E6 Q k0 0 0 1 4 9 10 11) (hr : HR fN R Q) (h : sR kn k0 R (g 0) (g 1) (g 4) (g 8) (g 9) (g 10) (g 11) (g 36) (g 37) (g 38) w) : bG pg cC (bI (bI (aB 1 (aE 1 (aB 5 bM))))) Q g w :=
 gM 2 (L3 _ g w (AA kn R) k0 (fun g w h => aK (gM 1 (LP _ g w (sW kn) R (fun g w h => aK (Mb _ g w kn hn h)) hr h))) h0 h)
theorem LS (k0 : K6) (R : K1) (h0 : E6 Q k0 0 0 1 4 9 10 11) (hr : HR fN R Q) (h : An k0 R (g 0) (g 1) (g 4) (g 8) (g 9) (g 10) (g 11) (g 36) (g 37) (g 38) w) : bG pg cC (bI (aB 1 (aE 1 (aB 5 bM)))) Q g w := by
 refine JK (fun g : Env => (g 10, g 11, g 38)) (fun X t w => sR (fun _ _ _ _ _ t10 aH _ _ t38 w => X (t10, aH, t38) w) k0 R (g 0) (g 1) (g 4) (g 8) (g 9) t.1 t.2.1 (g 36) (g 37) t.2.2 w) h (fun X g1 w1 ha hL => ?_)
 rw [<- fM 0 ha, <- fM 1 ha, <- fM 4 ha, <- fM 8 ha, <- fM 9 ha, <- fM 36 ha, <- fM 37 ha] at hL
 exact (LU _ g1 w1 (fun _ _ _ _ _ t10 aH _ _ t38 w => X (t10, aH, t38) w) k0 R (fun _ _ h => h) h0 hr hL)
def Aj (kn : K6) (R : K1) (aT lD t4 bF aZ t10 aH t36 t37 t38 : anW) (w : anV) : Prop :=
 An kn R aT lD t4 bF aZ t10 aH t36 t37 t38 w
def Ac (kn : CH) (aT lD t4 bF aZ t10 aH : anW) (w : anV) : Prop :=
 aC pg (jI .len #[77] 3 [lD]) w fun t37 w =>
 kn aT lD t4 bF aZ t10 aH lD t37 (.int .i64 0) w
theorem L8 (kn : CH) (hn : N10 Q kn 0 1 4 8 9 10 11 36 37 38) (h : Ac kn (g 0) (g 1) (g 4) (g 8) (g 9) (g 10) (g 11) w) : bG pg cC (aE 1 (aE 1 (aB 5 bM))) Q g w :=
 eC (kr := no) (l := []) h hn fH trivial
def tD (kn : K6) (R : K1) (aT lD t4 bF aZ t10 aH : anW) (w : anV) : Prop :=
 Ac (fun aT lD t4 bF aZ t10 aH t36 t37 t38 w => Aj kn R aT lD t4 bF aZ t10 aH t36 t37 t38 w) aT lD t4 bF aZ t10 aH w
def Am (R : K1) (aT lD t4 bF aZ t10 aH : anW) (w : anV) : Prop :=
 tD (fun aT lD t4 aZ t10 aH w => Ay R aT lD t4 aZ t10 aH w) R aT lD t4 bF aZ t10 aH w
theorem L9 (kn : K6) (R : K1) (hn : N6 Q kn 0 1 4 9 10 11) (hr : HR fN R Q) (h : tD kn R (g 0) (g 1) (g 4) (g 8) (g 9) (g 10) (g 11) w) : bG pg cC (aE 1 (aB 5 bM)) Q g w :=
 gM 1 (L8 _ g w (Aj kn R) (fun g w h => aK (Ca 0 (LS _ g w kn R hn hr h))) h)
def Ax (kn : K7) (R : K1) (aT lD : anW) (w : anV) : Prop :=
 aC pg (cM 27) w fun t4 w =>
 aU pg pN #[aT] w fun t22 w =>
 aC pg (aF .lss 3 aL aL t22 (.int .i64 0)) w fun t24 w =>
 Gd (fA t24 false) (fun K => K lD w) w fun t26 w =>
 Gd (fA t24 false) (fun K => aC pg (jI .len #[77] 3 [t26]) w K) w fun t27 w =>
 Gd (fA t24 false) (fun K => aC pg (aF .eql 3 (.tmp 27) (.const (.int .i64 0)) t27 (.int .i64 0)) w K) w fun t28 w =>
 aC pg (fR t24 (.bool true) t28) w fun t29 w =>
 Gd (fA t29 false) (fun K => K lD w) w fun t31 w =>
 Gd (fA t29 false) (fun K => aC pg (jI .len #[77] 3 [t31]) w K) w fun t32 w =>
 Gd (fA t29 false) (fun K => aC pg (aF .gtr 3 aL aL t32 (.int .i64 131072)) w K) w fun t33 w =>
 aC pg (fR t29 (.bool true) t33) w fun t34 w =>
 fL t34
  (aC pg (cA 27 []) w fun t35 w =>
  aC pg (aR 27 t4 t35) w fun _u w =>
  xA pg 27 t4 w fun r0 => R (.tuple #[r0, (.int .i64 0), (.slice none 0 0), (.int .i64 1)]) w)
  (aC pg (cM 144) w fun aZ w =>
  kn aT lD t4 t22 aZ (.int .i64 0) (.int .i64 0) w)
theorem Lz (kn : K7) (R : K1) (hn : N7 Q kn 0 1 4 8 9 10 11) (hr : HR fN R Q) (h : Ax kn R (g 0) (g 1) w) : bG pg cC (aE 5 bM) Q g w :=
 eC (l := []) h hn hr trivial
def Ag (R : K1) (aT lD : anW) (w : anV) : Prop :=
 Ax (fun aT lD t4 bF aZ t10 aH w => Am R aT lD t4 bF aZ t10 aH w) R aT lD w
theorem LI (R : K1) (hr : HR fN R Q) (h : Ag R (g 0) (g 1) w) : bG pg cC bM Q g w :=
 gM 5 (Lz _ g w (Am R) R (fun g w h => aK (gM 1 (L9 _ g w (Ay R) R (fun g w h => aK (gM 1 (LZ _ g w (Af R) (fun g w h => aK (gM 1 (L4 _ g w (pY R) R (fun g w h => aK (gM 1 (MI _ g w (qC R) (fun g w h => aK (MR _ g w R hr h)) h))) hr h))) h))) hr h))) hr h)
def Oi (a0 a1 : anW) (w : anV) (R : K1) : Prop :=
 Ag R a0 a1 w
theorem OP {a0 a1 : anW} {w : anV} {R : K1} (h : Oi a0 a1 w R) : aU pg jM #[a0, a1] w R := by
 refine xB (ann := cC) Tryd.f40 bM [a0, a1] fN 128 TrydM.mixed Tryd.func40 ?_
 exact (LI _ _ _ R (fun _ _ h => h) h)
def bC : FA := ⟨pS, fun i => match Nat.beq i 15 with | true => .leaf ([7], []) [(false, []), (false, []), (false, []), (false, []), (false, []), (false, []), (false, []), (true, []), (false, []), (false, []), (false, []), (false, []), (false, []), (false, []), (false, []), (false, []), (false, [])] | false => match Nat.beq i 31 with | true => .leaf ([9], []) [(false, []), (false, []), (false, []), (false, []), (false, []), (false, []), (false, []), (false, []), (false, []), (true, [])] | false => .leaf ([], []) []⟩
def eB : List ResultVar := [.tmp 6, .tmp 7]
noncomputable def bA : Code := dC Tryd.f41
def nI (R : K1) (jD : anW) (w : anV) : Prop :=
 aU pg mS #[jD] w fun t137 w =>
 R (.tuple #[t137, (.int .i64 0)]) w
theorem Hu (R : K1) (hr : HR eB R Q) (h : nI R (g 8) w) : bG pg bC (aB 1 (aB 1 (aB 3 bA))) Q g w :=
 eC (kn := no) (l := []) h fH hr trivial
def nH (kn : K5) (k6 : K1) (t5 jD aM t121 t122 : anW) (w : anV) : Prop :=
 aC pg (aF .lss 3 aL aL t122 (.int .i64 3)) w fun t123 w =>
 fL t123
  (aC pg (GH 67 t121 t122) w fun t124 w =>
  (dr w) = (dr w) /\
  (dr w) = (dr w) /\
  aC pg (bB 67 aM t124) (dr w) fun t127 w_ => w_ = (dr w) /\
  aC pg (aJ 3 t127) (dr w) fun t128 w_ => w_ = (dr w) /\
  aC pg (fG 3 73 t128) (dr w) fun t129 w_ => w_ = (dr w) /\
  (dr w) = (dr w) /\
  aC pg (bB 29 t5 t124) (dr w) fun t131 w_ => w_ = (dr w) /\
  aC pg (aQ 27 t131 0) (dr w) fun t132 w_ => w_ = (dr w) /\
  aC pg (aJ 3 t132) (dr w) fun t133 w_ => w_ = (dr w) /\
  aU pg cZ #[jD, t129, t133] (dr w) fun t134 agQ =>
  aC pg (aF .add 3 aL aL t122 (.int .i64 1)) agQ fun t135 w =>
  kn t5 jD aM t121 t135 w)
  (k6 jD w)
theorem HI (kn : K5) (k6 : K1) (hn : N5 Q kn 5 8 9 121 122) (h6 : E1 Q k6 6 8) (h : nH kn k6 (g 5) (g 8) (g 9) (g 121) (g 122) w) : bG pg bC (bI (bI (aB 1 (aE 1 (aB 1 (aB 3 bA)))))) Q g w :=
 eC (kr := no) (l := [(6, fun g w => k6 (g 8) w)]) h hn fH ⟨h6, trivial⟩
def nC (k6 : K1) (t5 jD aM t121 t122 : anW) (w : anV) : Prop :=
 cO (fun (X : anW -> K0) (t : anW) (w : anV) => nH (fun _ _ _ _ t122 w => X t122 w) k6 t5 jD aM t121 t w) t122 w
theorem HC (k6 : K1) (h6 : E1 Q k6 6 8) (h : nC k6 (g 5) (g 8) (g 9) (g 121) (g 122) w) : bG pg bC (bI (aB 1 (aE 1 (aB 1 (aB 3 bA))))) Q g w := by
 refine JK (fun g : Env => g 122) (fun X t w => nH (fun _ _ _ _ t122 w => X t122 w) k6 (g 5) (g 8) (g 9) (g 121) t w) h (fun X g1 w1 ha hL => ?_)
 rw [<- fM 5 ha, <- fM 8 ha, <- fM 9 ha, <- fM 121 ha] at hL
 exact (HI _ g1 w1 (fun _ _ _ _ t122 w => X t122 w) k6 (fun _ _ h => h) h6 hL)
def tS (kn : K1) (t5 jD aM t121 t122 : anW) (w : anV) : Prop :=
 nC kn t5 jD aM t121 t122 w
def tY (kn : K5) (t5 jD aM : anW) (w : anV) : Prop :=
 aC pg (cA 67 [(0, (.int .i64 2)), (1, (.int .i64 1)), (2, (.int .i64 0))]) w fun t121 w =>
 kn t5 jD aM t121 (.int .i64 0) w
theorem HU (kn : K5) (hn : N5 Q kn 5 8 9 121 122) (h : tY kn (g 5) (g 8) (g 9) w) : bG pg bC (aE 1 (aE 1 (aB 1 (aB 3 bA)))) Q g w :=
 eC (kr := no) (l := []) h hn fH trivial
def tW (kn : K1) (t5 jD aM : anW) (w : anV) : Prop :=
 tY (fun t5 jD aM t121 t122 w => tS kn t5 jD aM t121 t122 w) t5 jD aM w
def tP (R : K1) (t5 jD aM : anW) (w : anV) : Prop :=
 tW (fun jD w => nI R jD w) t5 jD aM w
theorem HJ (kn : K1) (hn : N1 Q kn 8) (h : tW kn (g 5) (g 8) (g 9) w) : bG pg bC (aE 1 (aB 1 (aB 3 bA))) Q g w :=
 gM 1 (HU _ g w (tS kn) (fun g w h => aK (Ca 6 (HC _ g w kn hn h))) h)
def nD (kn : K6) (fE bO t5 jD aM fT : anW) (w : anV) : Prop :=
 aC pg (aF .sub 3 aL aL fT (.int .i64 1)) w fun t35 w =>
 kn fE bO t5 jD aM t35 w
theorem HX (kn : K6) (hn : N6 Q kn 0 4 5 8 9 10) (h : nD kn (g 0) (g 4) (g 5) (g 8) (g 9) (g 10) w) : bG pg bC (aB 1 (aB 1 (bI (bI (aB 1 (aE 1 (aB 3 bA))))))) Q g w :=
 eC (kr := no) (l := []) h hn fH trivial
def nG (kn : K9) (k4 : K6) (fE bO t5 jD aM fT Qi t95 t96 : anW) (w : anV) : Prop :=
 aC pg (aF .lss 3 aL aL t96 (.int .i64 3)) w fun t97 w =>
 fL t97
  (aC pg (GH 67 t95 t96) w fun t98 w =>
  aC pg (bB 98 bO t98) w fun t102 w =>
  aC pg (aJ 77 t102) w fun t103 w =>
  aC pg (bB 77 t103 fT) w fun t105 w =>
  aC pg (aJ 3 t105) w fun t106 w =>
  aU pg yP #[t98, t106] w fun t107 w =>
  aC pg (bT t107 0) w fun t108 w =>
  aC pg (bT t107 1) w fun t109 w =>
  aC pg (bT t107 2) w fun t110 w =>
  aC pg (bB 142 Qi t98) w fun t113 w =>
  aC pg (aJ 43 t113) w fun t114 w =>
  aC pg (aF .sub 43 aL aL t114 t108) w fun t116 w =>
  aC pg (fG 43 73 t116) w fun t117 w =>
  aU pg cZ #[jD, t117, t109] w fun t119 w =>
  aC pg (aF .add 3 aL aL t96 (.int .i64 1)) w fun t120 w =>
  kn fE bO t5 jD aM fT Qi t95 t120 w)
  (k4 fE bO t5 jD aM fT w)
theorem H3 (kn : K9) (k4 : K6) (hn : N9 Q kn 0 4 5 8 9 10 20 95 96) (h4 : E6 Q k4 4 0 4 5 8 9 10) (h : nG kn k4 (g 0) (g 4) (g 5) (g 8) (g 9) (g 10) (g 20) (g 95) (g 96) w) : bG pg bC (bI (bI (aB 2 (aB 1 (bI (aE 1 (aB 1 (bI (bI (aB 1 (aE 1 (aB 3 bA)))))))))))) Q g w :=
 eC (kr := no) (l := [(4, fun g w => k4 (g 0) (g 4) (g 5) (g 8) (g 9) (g 10) w)]) h hn fH ⟨h4, trivial⟩
def mT (k4 : K6) (fE bO t5 jD aM fT Qi t95 t96 : anW) (w : anV) : Prop :=
 cO (fun (X : anW -> K0) (t : anW) (w : anV) => nG (fun _ _ _ _ _ _ _ _ t96 w => X t96 w) k4 fE bO t5 jD aM fT Qi t95 t w) t96 w
theorem G1 (k4 : K6) (h4 : E6 Q k4 4 0 4 5 8 9 10) (h : mT k4 (g 0) (g 4) (g 5) (g 8) (g 9) (g 10) (g 20) (g 95) (g 96) w) : bG pg bC (bI (aB 2 (aB 1 (bI (aE 1 (aB 1 (bI (bI (aB 1 (aE 1 (aB 3 bA))))))))))) Q g w := by
 refine JK (fun g : Env => g 96) (fun X t w => nG (fun _ _ _ _ _ _ _ _ t96 w => X t96 w) k4 (g 0) (g 4) (g 5) (g 8) (g 9) (g 10) (g 20) (g 95) t w) h (fun X g1 w1 ha hL => ?_)
 rw [<- fM 0 ha, <- fM 4 ha, <- fM 5 ha, <- fM 8 ha, <- fM 9 ha, <- fM 10 ha, <- fM 20 ha, <- fM 95 ha] at hL
 exact (H3 _ g1 w1 (fun _ _ _ _ _ _ _ _ t96 w => X t96 w) k4 (fun _ _ h => h) h4 hL)
def rG (kn : K6) (fE bO t5 jD aM fT Qi t95 t96 : anW) (w : anV) : Prop :=
 mT kn fE bO t5 jD aM fT Qi t95 t96 w
def rT (kn : K9) (fE bO t5 jD aM fT : anW) (w : anV) : Prop :=
 aC pg (bB 24 fE fT) w fun t92 w =>
 aC pg (aJ 47 t92) w fun t93 w =>
 aU pg lL #[t93] w fun t94 w =>
 aC pg (cM 142) w fun Qi w =>
 aC pg (aR 142 Qi t94) w fun _u w =>
 aC pg (cA 67 [(0, (.int .i64 0)), (1, (.int .i64 2)), (2, (.int .i64 1))]) w fun t95 w =>
 kn fE bO t5 jD aM fT Qi t95 (.int .i64 0) w
theorem Hm (kn : K9) (hn : N9 Q kn 0 4 5 8 9 10 20 95 96) (h : rT kn (g 0) (g 4) (g 5) (g 8) (g 9) (g 10) w) : bG pg bC (aE 2 (aB 1 (bI (aE 1 (aB 1 (bI (bI (aB 1 (aE 1 (aB 3 bA)))))))))) Q g w :=
 eC (kr := no) (l := []) h hn fH trivial
def rH (kn : K6) (fE bO t5 jD aM fT : anW) (w : anV) : Prop :=
 rT (fun fE bO t5 jD aM fT Qi t95 t96 w => rG kn fE bO t5 jD aM fT Qi t95 t96 w) fE bO t5 jD aM fT w
def jN (kn : K8) (fE bO t5 jD aM fT t36 t37 : anW) (w : anV) : Prop :=
 aC pg (aF .add 3 aL aL t37 (.int .i64 1)) w fun t89 w =>
 kn fE bO t5 jD aM fT t36 t89 w
theorem G5 (kn : K8) (hn : N8 Q kn 0 4 5 8 9 10 36 37) (h : jN kn (g 0) (g 4) (g 5) (g 8) (g 9) (g 10) (g 36) (g 37) w) : bG pg bC (aB 3 (bI (bI (aB 1 (aE 1 (bI (aE 1 (aB 1 (bI (bI (aB 1 (aE 1 (aB 3 bA))))))))))))) Q g w :=
 eC (kr := no) (l := []) h hn fH trivial
def rK (kn : K8) (k2 : K6) (R : K1) (fE bO t5 jD aM fT t36 t37 : anW) (w : anV) : Prop :=
 aC pg (aF .lss 3 aL aL t37 (.int .i64 3)) w fun t38 w =>
 fL t38
  (aC pg (GH 67 t36 t37) w fun t39 w =>
  aC pg (bB 98 bO t39) w fun t41 w =>
  aC pg (aJ 77 t41) w fun t42 w =>
  aC pg (bB 77 t42 fT) w fun t44 w =>
  aC pg (aJ 3 t44) w fun t45 w =>
  aC pg (fG 3 5 t45) w fun t46 w =>
  aC pg (jI .len #[24] 3 [fE]) w fun t49 w =>
  aC pg (aF .sub 3 aL aL t49 (.int .i64 1)) w fun t50 w =>
  aC pg (aF .eql 3 (.tmp 47) (.tmp 50) fT t50) w fun t51 w =>
  fL t51
   (aC pg (bB 29 t5 t39) w fun t54 w =>
   aC pg (aJ 27 t54) w fun t55 w =>
   aU pg Eu #[t55, t46] w fun t57 w =>
   aC pg (bT t57 0) w fun t58 w =>
   aC pg (bT t57 1) w fun t59 w =>
   aC pg (aF .neq 30 (.tmp 60) (.const (.int .i64 0)) t59 (.int .i64 0)) w fun t61 w =>
   fL t61
    (R (.tuple #[(.slice none 0 0), t59]) w)
    (aC pg (bB 67 aM t39) w fun t65 w =>
    aC pg (aR 3 t65 t58) w fun _u w =>
    kn fE bO t5 jD aM fT t36 t37 w))
   ((dr w) = (dr w) /\
   aC pg (bB 29 t5 t39) (dr w) fun t68 w_ => w_ = (dr w) /\
   aC pg (aJ 27 t68) (dr w) fun t69 w_ => w_ = (dr w) /\
   (dr w) = (dr w) /\
   aC pg (bB 67 aM t39) (dr w) fun t71 w_ => w_ = (dr w) /\
   aC pg (aJ 3 t71) (dr w) fun t72 w_ => w_ = (dr w) /\
   (dr w) = (dr w) /\
   aU pg Cx #[t69, t72, t46] (dr w) fun t74 xO =>
   xO = xO /\
   aC pg (bT t74 0) xO fun t75 w_ => w_ = xO /\
   aC pg (bT t74 1) xO fun t76 w_ => w_ = xO /\
   aC pg (bT t74 2) xO fun t77 w_ => w_ = xO /\
   aC pg (bT t74 3) xO fun t78 w_ => w_ = xO /\
   xO = xO /\
   xO = xO /\
   xO = xO /\
   xO = xO /\
   aC pg (aF .neq 30 (.tmp 79) (.const (.int .i64 0)) t78 (.int .i64 0)) xO fun t80 w =>
   fL t80
    (R (.tuple #[(.slice none 0 0), t78]) w)
    (aU pg cZ #[jD, t76, t77] w fun t85 w =>
    aC pg (bB 67 aM t39) w fun t88 w =>
    aC pg (aR 3 t88 t75) w fun _u w =>
    kn fE bO t5 jD aM fT t36 t37 w)))
  (k2 fE bO t5 jD aM fT w)
theorem Gf (kn : K8) (k2 : K6) (R : K1) (hn : N8 Q kn 0 4 5 8 9 10 36 37) (h2 : E6 Q k2 2 0 4 5 8 9 10) (hr : HR eB R Q) (h : rK kn k2 R (g 0) (g 4) (g 5) (g 8) (g 9) (g 10) (g 36) (g 37) w) : bG pg bC (aE 3 (bI (bI (aB 1 (aE 1 (bI (aE 1 (aB 1 (bI (bI (aB 1 (aE 1 (aB 3 bA))))))))))))) Q g w :=
 eC (l := [(2, fun g w => k2 (g 0) (g 4) (g 5) (g 8) (g 9) (g 10) w)]) h hn hr ⟨h2, trivial⟩
def mP (kn : K8) (k2 : K6) (R : K1) (fE bO t5 jD aM fT t36 t37 : anW) (w : anV) : Prop :=
 rK (fun fE bO t5 jD aM fT t36 t37 w => jN kn fE bO t5 jD aM fT t36 t37 w) k2 R fE bO t5 jD aM fT t36 t37 w
def mL (k2 : K6) (R : K1) (fE bO t5 jD aM fT t36 t37 : anW) (w : anV) : Prop :=
 cO (fun (X : anW -> K0) (t : anW) (w : anV) => mP (fun _ _ _ _ _ _ _ t37 w => X t37 w) k2 R fE bO t5 jD aM fT t36 t w) t37 w
theorem GW (kn : K8) (k2 : K6) (R : K1) (hn : N8 Q kn 0 4 5 8 9 10 36 37) (h2 : E6 Q k2 2 0 4 5 8 9 10) (hr : HR eB R Q) (h : mP kn k2 R (g 0) (g 4) (g 5) (g 8) (g 9) (g 10) (g 36) (g 37) w) : bG pg bC (bI (bI (aB 1 (aE 1 (bI (aE 1 (aB 1 (bI (bI (aB 1 (aE 1 (aB 3 bA)))))))))))) Q g w :=
 gM 3 (Gf _ g w (jN kn) k2 R (fun g w h => aK (G5 _ g w kn hn h)) h2 hr h)
theorem GG (k2 : K6) (R : K1) (h2 : E6 Q k2 2 0 4 5 8 9 10) (hr : HR eB R Q) (h : mL k2 R (g 0) (g 4) (g 5) (g 8) (g 9) (g 10) (g 36) (g 37) w) : bG pg bC (bI (aB 1 (aE 1 (bI (aE 1 (aB 1 (bI (bI (aB 1 (aE 1 (aB 3 bA))))))))))) Q g w := by
 refine JK (fun g : Env => g 37) (fun X t w => mP (fun _ _ _ _ _ _ _ t37 w => X t37 w) k2 R (g 0) (g 4) (g 5) (g 8) (g 9) (g 10) (g 36) t w) h (fun X g1 w1 ha hL => ?_)
 rw [<- fM 0 ha, <- fM 4 ha, <- fM 5 ha, <- fM 8 ha, <- fM 9 ha, <- fM 10 ha, <- fM 36 ha] at hL
 exact (GW _ g1 w1 (fun _ _ _ _ _ _ _ t37 w => X t37 w) k2 R (fun _ _ h => h) h2 hr hL)
def sH (kn : K6) (R : K1) (fE bO t5 jD aM fT t36 t37 : anW) (w : anV) : Prop :=
 mL kn R fE bO t5 jD aM fT t36 t37 w
def rZ (kn : K8) (fE bO t5 jD aM fT : anW) (w : anV) : Prop :=
 aC pg (cA 67 [(0, (.int .i64 1)), (1, (.int .i64 2)), (2, (.int .i64 0))]) w fun t36 w =>
 kn fE bO t5 jD aM fT t36 (.int .i64 0) w
theorem He (kn : K8) (hn : N8 Q kn 0 4 5 8 9 10 36 37) (h : rZ kn (g 0) (g 4) (g 5) (g 8) (g 9) (g 10) w) : bG pg bC (aE 1 (aE 1 (bI (aE 1 (aB 1 (bI (bI (aB 1 (aE 1 (aB 3 bA)))))))))) Q g w :=
 eC (kr := no) (l := []) h hn fH trivial
def rR (kn : K6) (R : K1) (fE bO t5 jD aM fT : anW) (w : anV) : Prop :=
 rZ (fun fE bO t5 jD aM fT t36 t37 w => sH kn R fE bO t5 jD aM fT t36 t37 w) fE bO t5 jD aM fT w
def BB (kn : K6) (R : K1) (fE bO t5 jD aM fT : anW) (w : anV) : Prop :=
 rR (fun fE bO t5 jD aM fT w => rH kn fE bO t5 jD aM fT w) R fE bO t5 jD aM fT w
theorem Hk (kn : K6) (R : K1) (hn : N6 Q kn 0 4 5 8 9 10) (hr : HR eB R Q) (h : rR kn R (g 0) (g 4) (g 5) (g 8) (g 9) (g 10) w) : bG pg bC (aE 1 (bI (aE 1 (aB 1 (bI (bI (aB 1 (aE 1 (aB 3 bA))))))))) Q g w :=
 gM 1 (He _ g w (sH kn R) (fun g w h => aK (Ca 2 (GG _ g w kn R hn hr h))) h)
def sG (kn : K6) (R : K1) (fE bO t5 jD aM fT : anW) (w : anV) : Prop :=
 BB kn R fE bO t5 jD aM fT w
def sJ (kn : K6) (R : K1) (fE bO t5 jD aM fT : anW) (w : anV) : Prop :=
 sG (fun fE bO t5 jD aM fT w => nD kn fE bO t5 jD aM fT w) R fE bO t5 jD aM fT w
theorem Gu (kn : K6) (R : K1) (hn : N6 Q kn 0 4 5 8 9 10) (hr : HR eB R Q) (h : sG kn R (g 0) (g 4) (g 5) (g 8) (g 9) (g 10) w) : bG pg bC (aE 1 (aB 1 (bI (bI (aB 1 (aE 1 (aB 3 bA))))))) Q g w :=
 Ca 1 (gM 1 (Hk _ g w (rH kn) R (fun g w h => aK (gM 2 (Hm _ g w (rG kn) (fun g w h => aK (Ca 4 (G1 _ g w kn hn h))) h))) hr h))
def sK (kn : K6) (k0 : K3) (fE bO t5 jD aM fT : anW) (w : anV) : Prop :=
 aC pg (aF .geq 3 aL aL fT (.int .i64 0)) w fun t33 w =>
 fL t33
  (kn fE bO t5 jD aM fT w)
  (k0 t5 jD aM w)
theorem Ge (kn : K6) (k0 : K3) (hn : N6 Q kn 0 4 5 8 9 10) (h0 : E3 Q k0 0 5 8 9) (h : sK kn k0 (g 0) (g 4) (g 5) (g 8) (g 9) (g 10) w) : bG pg bC (aE 1 (bI (bI (aB 1 (aE 1 (aB 3 bA)))))) Q g w :=
 eC (kr := no) (l := [(0, fun g w => k0 (g 5) (g 8) (g 9) w)]) h hn fH ⟨h0, trivial⟩
def mF (kn : K6) (k0 : K3) (R : K1) (fE bO t5 jD aM fT : anW) (w : anV) : Prop :=
 sK (fun fE bO t5 jD aM fT w => sJ kn R fE bO t5 jD aM fT w) k0 fE bO t5 jD aM fT w
def sE (k0 : K3) (R : K1) (fE bO t5 jD aM fT : anW) (w : anV) : Prop :=
 cO (fun (X : anW -> K0) (t : anW) (w : anV) => mF (fun _ _ _ _ _ fT w => X fT w) k0 R fE bO t5 jD aM t w) fT w
theorem Hf (kn : K6) (k0 : K3) (R : K1) (hn : N6 Q kn 0 4 5 8 9 10) (h0 : E3 Q k0 0 5 8 9) (hr : HR eB R Q) (h : mF kn k0 R (g 0) (g 4) (g 5) (g 8) (g 9) (g 10) w) : bG pg bC (bI (bI (aB 1 (aE 1 (aB 3 bA))))) Q g w :=
 gM 1 (Ge _ g w (sJ kn R) k0 (fun g w h => aK (gM 1 (Gu _ g w (nD kn) R (fun g w h => aK (HX _ g w kn hn h)) hr h))) h0 h)
theorem GS (k0 : K3) (R : K1) (h0 : E3 Q k0 0 5 8 9) (hr : HR eB R Q) (h : sE k0 R (g 0) (g 4) (g 5) (g 8) (g 9) (g 10) w) : bG pg bC (bI (aB 1 (aE 1 (aB 3 bA)))) Q g w := by
 refine JK (fun g : Env => g 10) (fun X t w => mF (fun _ _ _ _ _ fT w => X fT w) k0 R (g 0) (g 4) (g 5) (g 8) (g 9) t w) h (fun X g1 w1 ha hL => ?_)
 rw [<- fM 0 ha, <- fM 4 ha, <- fM 5 ha, <- fM 8 ha, <- fM 9 ha] at hL
 exact (Hf _ g1 w1 (fun _ _ _ _ _ fT w => X fT w) k0 R (fun _ _ h => h) h0 hr hL)
def rO (kn : K3) (R : K1) (fE bO t5 jD aM fT : anW) (w : anV) : Prop :=
 sE kn R fE bO t5 jD aM fT w
def sF (kn : K6) (fE bO t5 jD aM : anW) (w : anV) : Prop :=
 aC pg (jI .len #[24] 3 [fE]) w fun t30 w =>
 aC pg (aF .sub 3 aL aL t30 (.int .i64 1)) w fun t31 w =>
 kn fE bO t5 jD aM t31 w
theorem GX (kn : K6) (hn : N6 Q kn 0 4 5 8 9 10) (h : sF kn (g 0) (g 4) (g 5) (g 8) (g 9) w) : bG pg bC (aE 1 (aE 1 (aB 3 bA))) Q g w :=
 eC (kr := no) (l := []) h hn fH trivial
def rP (kn : K3) (R : K1) (fE bO t5 jD aM : anW) (w : anV) : Prop :=
 sF (fun fE bO t5 jD aM fT w => rO kn R fE bO t5 jD aM fT w) fE bO t5 jD aM w
def sB (R : K1) (fE bO t5 jD aM : anW) (w : anV) : Prop :=
 rP (fun t5 jD aM w => tP R t5 jD aM w) R fE bO t5 jD aM w
theorem G4 (kn : K3) (R : K1) (hn : N3 Q kn 5 8 9) (hr : HR eB R Q) (h : rP kn R (g 0) (g 4) (g 5) (g 8) (g 9) w) : bG pg bC (aE 1 (aB 3 bA)) Q g w :=
 gM 1 (GX _ g w (rO kn R) (fun g w h => aK (Ca 0 (GS _ g w kn R hn hr h))) h)
def rC (kn : K5) (fE W3 t2 : anW) (w : anV) : Prop :=
 aC pg (BA 98 W3) w fun bO w =>
 aC pg (BA 29 t2) w fun t5 w =>
 aU pg lG #[] w fun t28 w =>
 aC pg (cM 67) w fun aM w =>
 kn fE bO t5 t28 aM w
theorem G8 (kn : K5) (hn : N5 Q kn 0 4 5 8 9) (h : rC kn (g 0) (g 1) (g 2) w) : bG pg bC (aE 3 bA) Q g w :=
 eC (kr := no) (l := []) h hn fH trivial
def rQ (R : K1) (fE W3 t2 : anW) (w : anV) : Prop :=
 rC (fun fE bO t5 jD aM w => sB R fE bO t5 jD aM w) fE W3 t2 w
theorem Gw (R : K1) (hr : HR eB R Q) (h : rQ R (g 0) (g 1) (g 2) w) : bG pg bC bA Q g w :=
 gM 3 (G8 _ g w (sB R) (fun g w h => aK (gM 1 (G4 _ g w (tP R) R (fun g w h => aK (gM 1 (HJ _ g w (nI R) (fun g w h => aK (Hu _ g w R hr h)) h))) hr h))) h)
def G0 (a0 a1 a2 : anW) (w : anV) (R : K1) : Prop :=
 rQ R a0 a1 a2 w
theorem Jl {a0 a1 a2 : anW} {w : anV} {R : K1} (h : G0 a0 a1 a2 w R) : aU pg pS #[a0, a1, a2] w R := by
 refine xB (ann := bC) Tryd.f41 bA [a0, a1, a2] eB 138 TrydM.mixed Tryd.func41 ?_
 exact (Gw _ _ _ R (fun _ _ h => h) h)
def wZ : FA := ⟨jB, fun i => .leaf ([], []) []⟩
def HL : List ResultVar := []
noncomputable def uD : Code := dC Tryd.f42
def oQ (kn : K0) (oF PU : anW) (w : anV) : Prop :=
 aC pg (aF .neq 95 (.tmp 4) (.const (.pointer none)) oF (.pointer none)) w fun t5 w =>
 fL t5
  (aC pg (lE oF) w fun t8 w =>
  aC pg (aQ 141 t8 0) w fun t9 w =>
  aC pg (aJ 22 t9) w fun t10 w =>
  aC pg (jI .append #[22, 22] 22 [t10, PU]) w fun t12 w =>
  aC pg (lE oF) w fun t13 w =>
  aC pg (aQ 141 t13 0) w fun t14 w =>
  aC pg (aR 22 t14 t12) w fun _u w =>
  kn w)
  (kn w)
theorem Ek (kn : K0) (hn : N0 Q kn) (h : oQ kn (g 0) (g 1) w) : bG pg wZ uD Q g w :=
 eC (kr := no) (l := []) h hn fH trivial
def B5 (a0 a1 : anW) (w : anV) (R : K1) : Prop :=
 oQ (fun  w => R (.tuple #[]) w) a0 a1 w
theorem F5 {a0 a1 : anW} {w : anV} {R : K1} (h : B5 a0 a1 w R) : aU pg jB #[a0, a1] w R := by
 refine xB (ann := wZ) Tryd.f42 uD [a0, a1] HL 15 TrydM.mixed Tryd.func42 ?_
 exact (Ek _ _ _ (fun  w => R (.tuple #[]) w) (fun _ _ h => h) h)
def Aa : FA := ⟨nJ, fun i => .leaf ([], []) []⟩
def Bp : List ResultVar := [.tmp 2]
noncomputable def yU : Code := dC Tryd.f43
def rL (R : K1) (oF : anW) (w : anV) : Prop :=
 aC pg (aF .eql 95 (.tmp 3) (.const (.pointer none)) oF (.pointer none)) w fun t4 w =>
 fL t4
  (R (.slice none 0 0) w)
  (aC pg (lE oF) w fun t6 w =>
  aC pg (aQ 141 t6 0) w fun t7 w =>
  aC pg (aJ 22 t7) w fun t8 w =>
  aU pg fJ #[t8] w fun t9 w =>
  R t9 w)
theorem Gt (R : K1) (hr : HR Bp R Q) (h : rL R (g 0) w) : bG pg Aa yU Q g w :=
 eC (kn := no) (l := []) h fH hr trivial
def Ep (a0 : anW) (w : anV) (R : K1) : Prop :=
 rL R a0 w
theorem Hz {a0 : anW} {w : anV} {R : K1} (h : Ep a0 w R) : aU pg nJ #[a0] w R := by
 refine xB (ann := Aa) Tryd.f43 yU [a0] Bp 10 TrydM.mixed Tryd.func43 ?_
 exact (Gt _ _ _ R (fun _ _ h => h) h)
def Df : FA := ⟨sZ, fun i => .leaf ([], []) []⟩
def Et : List ResultVar := [.cell 2 27, .tmp 3]
noncomputable def Ce : Code := dC Tryd.f44
def xM (R : K1) (aT : anW) (w : anV) : Prop :=
 aC pg (cM 27) w fun t2 w =>
 aU pg rD #[aT] w fun t5 w =>
 aU pg mE #[t5] w fun t6 w =>
 aC pg (bT t6 0) w fun t7 w =>
 aC pg (bT t6 1) w fun t8 w =>
 aC pg (aR 27 t2 t7) w fun _u w =>
 xA pg 27 t2 w fun r0 => R (.tuple #[r0, t8]) w
theorem Kz (R : K1) (hr : HR Et R Q) (h : xM R (g 0) w) : bG pg Df Ce Q g w :=
 eC (kn := no) (l := []) h fH hr trivial
def KO (a0 : anW) (w : anV) (R : K1) : Prop :=
 xM R a0 w
theorem LG {a0 : anW} {w : anV} {R : K1} (h : KO a0 w R) : aU pg sZ #[a0] w R := by
 refine xB (ann := Df) Tryd.f44 Ce [a0] Et 9 TrydM.mixed Tryd.func44 ?_
 exact (Kz _ _ _ R (fun _ _ h => h) h)
def Qp : FA := ⟨AH, fun i => .leaf ([], []) []⟩
def R5 : List ResultVar := [.cell 2 27]
noncomputable def Oh : Code := dC Tryd.f45
def My (R : K1) (Zw : anW) (w : anV) : Prop :=
 aC pg (cM 27) w fun t2 w =>
 aC pg (cA 123 [(0, Zw)]) w fun t4 w =>
 aC pg (dB 25 1 [(0, t4)]) w fun t5 w =>
 aC pg (cA 27 [(1, t5)]) w fun t6 w =>
 aC pg (aR 27 t2 t6) w fun _u w =>
 xA pg 27 t2 w fun r0 => R r0 w
theorem S8 (R : K1) (hr : HR R5 R Q) (h : My R (g 0) w) : bG pg Qp Oh Q g w :=
 eC (kn := no) (l := []) h fH hr trivial
def XV (a0 : anW) (w : anV) (R : K1) : Prop :=
 My R a0 w
theorem UR {a0 : anW} {w : anV} {R : K1} (h : XV a0 w R) : aU pg AH #[a0] w R := by
 refine xB (ann := Qp) Tryd.f45 Oh [a0] R5 7 TrydM.mixed Tryd.func45 ?_
 exact (S8 _ _ _ R (fun _ _ h => h) h)
def zM : FA := ⟨fJ, fun i => .leaf ([], []) []⟩
def BD : List ResultVar := [.tmp 2]
noncomputable def yQ : Code := dC Tryd.f47
def rE (R : K1) (s_0 : anW) (w : anV) : Prop :=
 aC pg (aF .eql 22 (.tmp 3) (.const (.slice none 0 0)) s_0 (.slice none 0 0)) w fun t4 w =>
 fL t4
  (R (.slice none 0 0) w)
  (aC pg (dB 22 0 []) w fun t5 w =>
  aC pg (jI .append #[22, 22] 22 [t5, s_0]) w fun t7 w =>
  R t7 w)
theorem G3 (R : K1) (hr : HR BD R Q) (h : rE R (g 0) w) : bG pg zM yQ Q g w :=
 eC (kn := no) (l := []) h fH hr trivial
def Ew (a0 : anW) (w : anV) (R : K1) : Prop :=
 rE R a0 w
theorem HY {a0 : anW} {w : anV} {R : K1} (h : Ew a0 w R) : aU pg fJ #[a0] w R := by
 refine xB (ann := zM) Tryd.f47 yQ [a0] BD 8 TrydM.mixed Tryd.func47 ?_
 exact (G3 _ _ _ R (fun _ _ h => h) h)
def eJ : FA := ⟨fX, fun i => .leaf ([], []) []⟩
def kF : List ResultVar := [.tmp 4]
noncomputable def dY : Code := dC Tryd.f48
def kK (R : K1) (Mq : anW) (w : anV) : Prop :=
 R Mq w
theorem DE (R : K1) (hr : HR kF R Q) (h : kK R (g 5) w) : bG pg eJ (aB 1 (aB 3 dY)) Q g w :=
 eC (kn := no) (l := []) h fH hr trivial
def kJ (kn : K4) (k0 : K1) (Mq t18 t19 t20 : anW) (w : anV) : Prop :=
 aC pg (aF .lss 3 aL aL t20 t19) w fun t21 w =>
 fL t21
  (aC pg (bB 22 t18 t20) w fun t23 w =>
  aC pg (aJ 5 t23) w fun t24 w =>
  aC pg (fG 5 73 t24) w fun t27 w =>
  aC pg (aF .mul 3 aL aL (.int .i64 8) t20) w fun t29 w =>
  aC pg (fG 3 94 t29) w fun t30 w =>
  aC pg (aF .shl 73 aL aL t27 t30) w fun t31 w =>
  aC pg (aF .or 73 aL aL Mq t31) w fun t32 w =>
  aC pg (aF .add 3 aL aL t20 (.int .i64 1)) w fun t33 w =>
  kn t32 t18 t19 t33 w)
  (k0 Mq w)
theorem Ds (kn : K4) (k0 : K1) (hn : N4 Q kn 5 18 19 20) (h0 : E1 Q k0 0 5) (h : kJ kn k0 (g 5) (g 18) (g 19) (g 20) w) : bG pg eJ (bI (bI (aB 1 (aE 1 (aB 3 dY))))) Q g w :=
 eC (kr := no) (l := [(0, fun g w => k0 (g 5) w)]) h hn fH ⟨h0, trivial⟩
def oA (k0 : K1) (Mq t18 t19 t20 : anW) (w : anV) : Prop :=
 cO (fun (X : (anW × anW) -> K0) (t : anW × anW) (w : anV) => kJ (fun Mq _ _ t20 w => X (Mq, t20) w) k0 t.1 t18 t19 t.2 w) (Mq, t20) w
theorem C7 (k0 : K1) (h0 : E1 Q k0 0 5) (h : oA k0 (g 5) (g 18) (g 19) (g 20) w) : bG pg eJ (bI (aB 1 (aE 1 (aB 3 dY)))) Q g w := by
 refine JK (fun g : Env => (g 5, g 20)) (fun X t w => kJ (fun Mq _ _ t20 w => X (Mq, t20) w) k0 t.1 (g 18) (g 19) t.2 w) h (fun X g1 w1 ha hL => ?_)
 rw [<- fM 18 ha, <- fM 19 ha] at hL
 exact (Ds _ g1 w1 (fun Mq _ _ t20 w => X (Mq, t20) w) k0 (fun _ _ h => h) h0 hL)
def nZ (kn : K1) (Mq t18 t19 t20 : anW) (w : anV) : Prop :=
 oA kn Mq t18 t19 t20 w
def nM (kn : K4) (jL Hn Mq : anW) (w : anV) : Prop :=
 aC pg (aF .geq 3 aL aL Hn (.int .i64 1)) w fun t13 w =>
 Gd (fA t13 true) (fun K => K Hn w) w fun t15 w =>
 Gd (fA t13 true) (fun K => aC pg (aF .leq 3 aL aL t15 (.int .i64 8)) w K) w fun t16 w =>
 aC pg (fR t13 t16 (.bool false)) w fun t17 w =>
 aU pg jP #[jL, Hn, t17] w fun t18 w =>
 aC pg (jI .len #[22] 3 [t18]) w fun t19 w =>
 kn Mq t18 t19 (.int .i64 0) w
theorem DV (kn : K4) (hn : N4 Q kn 5 18 19 20) (h : nM kn (g 0) (g 1) (g 5) w) : bG pg eJ (aE 1 (aE 1 (aB 3 dY))) Q g w :=
 eC (kr := no) (l := []) h hn fH trivial
def oC (kn : K1) (jL Hn Mq : anW) (w : anV) : Prop :=
 nM (fun Mq t18 t19 t20 w => nZ kn Mq t18 t19 t20 w) jL Hn Mq w
def nW (R : K1) (jL Hn Mq : anW) (w : anV) : Prop :=
 oC (fun Mq w => kK R Mq w) jL Hn Mq w
theorem D3 (kn : K1) (hn : N1 Q kn 5) (h : oC kn (g 0) (g 1) (g 5) w) : bG pg eJ (aE 1 (aB 3 dY)) Q g w :=
 gM 1 (DV _ g w (nZ kn) (fun g w h => aK (Ca 0 (C7 _ g w kn hn h))) h)
def nS (kn : K3) (R : K1) (jL Hn : anW) (w : anV) : Prop :=
 aC pg (aF .eql 56 (.tmp 8) (.const (.pointer none)) jL (.pointer none)) w fun t9 w =>
 fL t9
  (R (.int .u64 0) w)
  (kn jL Hn (.int .u64 0) w)
theorem Dn (kn : K3) (R : K1) (hn : N3 Q kn 0 1 5) (hr : HR kF R Q) (h : nS kn R (g 0) (g 1) w) : bG pg eJ (aE 3 dY) Q g w :=
 eC (l := []) h hn hr trivial
def nY (R : K1) (jL Hn : anW) (w : anV) : Prop :=
 nS (fun jL Hn Mq w => nW R jL Hn Mq w) R jL Hn w
theorem Dx (R : K1) (hr : HR kF R Q) (h : nY R (g 0) (g 1) w) : bG pg eJ dY Q g w :=
 gM 3 (Dn _ g w (nW R) R (fun g w h => aK (gM 1 (D3 _ g w (kK R) (fun g w h => aK (DE _ g w R hr h)) h))) hr h)
def Bu (a0 a1 : anW) (w : anV) (R : K1) : Prop :=
 nY R a0 a1 w
theorem Ed {a0 a1 : anW} {w : anV} {R : K1} (h : Bu a0 a1 w R) : aU pg fX #[a0, a1] w R := by
 refine xB (ann := eJ) Tryd.f48 dY [a0, a1] kF 35 TrydM.mixed Tryd.func48 ?_
 exact (Dx _ _ _ R (fun _ _ h => h) h)
def I3 : FA := ⟨uN, fun i => .leaf ([], []) []⟩
def KG : List ResultVar := [.cell 8 27, .tmp 9, .tmp 10]
noncomputable def Gz : Code := dC Tryd.f49
def DR (R : K1) (aT RN b_2 fF : anW) (w : anV) : Prop :=
 aC pg (BA 27 fF) w fun acV w =>
 aC pg (cM 27) w fun t8 w =>
 aU pg pN #[aT] w fun t19 w =>
 aC pg (aF .lss 3 aL aL t19 (.int .i64 0)) w fun t21 w =>
 Gd (fA t21 false) (fun K => K RN w) w fun t23 w =>
 Gd (fA t21 false) (fun K => aC pg (aF .lss 3 aL aL t23 (.int .i64 0)) w K) w fun t24 w =>
 aC pg (fR t21 (.bool true) t24) w fun t25 w =>
 Gd (fA t25 false) (fun K => K RN w) w fun t27 w =>
 Gd (fA t25 false) (fun K => aC pg (aF .gtr 3 aL aL t27 (.int .i64 3)) w K) w fun t28 w =>
 aC pg (fR t25 (.bool true) t28) w fun t29 w =>
 fL t29
  (aC pg (cA 27 []) w fun t30 w =>
  aC pg (aR 27 t8 t30) w fun _u w =>
  xA pg 27 t8 w fun r0 => R (.tuple #[r0, (.int .i64 0), (.int .i64 1)]) w)
  (aC pg (aF .eql 3 (.tmp 31) (.const (.int .i64 0)) RN (.int .i64 0)) w fun t33 w =>
  fL t33
   (aU pg sZ #[aT] w fun t36 w =>
   aC pg (bT t36 0) w fun t37 w =>
   aC pg (bT t36 1) w fun t38 w =>
   aC pg (cM 27) w fun t12 w =>
   aC pg (aR 27 t12 t37) w fun _u w =>
   aC pg (aJ 27 t12) w fun t39 w =>
   aC pg (aR 27 t8 t39) w fun _u w =>
   xA pg 27 t8 w fun r0 => R (.tuple #[r0, (.int .i64 0), t38]) w)
   (aC pg (aF .eql 3 (.tmp 31) (.const (.int .i64 1)) RN (.int .i64 1)) w fun t42 w =>
   fL t42
    (aC pg (jI .len #[22] 3 [b_2]) w fun t45 w =>
    aC pg (aF .eql 3 (.tmp 45) (.const (.int .i64 0)) t45 (.int .i64 0)) w fun t46 w =>
    fL t46
     (aC pg (cA 27 []) w fun t47 w =>
     aC pg (aR 27 t8 t47) w fun _u w =>
     xA pg 27 t8 w fun r0 => R (.tuple #[r0, (.int .i64 0), (.int .i64 10)]) w)
     (aC pg (bB 22 b_2 (.int .i64 0)) w fun t50 w =>
     aC pg (aJ 5 t50) w fun t51 w =>
     aC pg (fG 5 3 t51) w fun t52 w =>
     aC pg (aF .gtr 3 aL aL t52 t19) w fun t54 w =>
     fL t54
      (aC pg (cA 27 []) w fun t55 w =>
      aC pg (aR 27 t8 t55) w fun _u w =>
      xA pg 27 t8 w fun r0 => R (.tuple #[r0, (.int .i64 0), (.int .i64 11)]) w)
      (aC pg (bB 22 b_2 (.int .i64 0)) w fun t57 w =>
      aC pg (aJ 5 t57) w fun t58 w =>
      aU pg AH #[t58] w fun t59 w =>
      aC pg (aR 27 t8 t59) w fun _u w =>
      xA pg 27 t8 w fun r0 => R (.tuple #[r0, (.int .i64 1), (.int .i64 0)]) w)))
    (aC pg (aF .eql 3 (.tmp 31) (.const (.int .i64 3)) RN (.int .i64 3)) w fun t61 w =>
    fL t61
     (aC pg (aQ 27 acV 1) w fun t62 w =>
     aC pg (aJ 25 t62) w fun t63 w =>
     aC pg (jI .len #[25] 3 [t63]) w fun t64 w =>
     aC pg (aF .eql 3 (.tmp 64) (.const (.int .i64 0)) t64 (.int .i64 0)) w fun t65 w =>
     fL t65
      (aC pg (cA 27 []) w fun t66 w =>
      aC pg (aR 27 t8 t66) w fun _u w =>
      xA pg 27 t8 w fun r0 => R (.tuple #[r0, (.int .i64 0), (.int .i64 11)]) w)
      (aC pg (aJ 27 acV) w fun t67 w =>
      aC pg (aR 27 t8 t67) w fun _u w =>
      xA pg 27 t8 w fun r0 => R (.tuple #[r0, (.int .i64 0), (.int .i64 0)]) w))
     (aU pg mV #[aT] w fun t71 w =>
     aC pg (aF .add 3 aL aL t19 (.int .i64 1)) w fun t73 w =>
     aU pg A0 #[b_2, t71, t73] w fun t74 w =>
     aC pg (bT t74 0) w fun t75 w =>
     aC pg (bT t74 1) w fun t76 w =>
     aC pg (bT t74 2) w fun t77 w =>
     aC pg (cM 145) w fun agP w =>
     aC pg (aR 145 agP t75) w fun _u w =>
     aC pg (aF .neq 30 (.tmp 78) (.const (.int .i64 0)) t77 (.int .i64 0)) w fun t79 w =>
     fL t79
      (aC pg (cA 27 []) w fun t80 w =>
      aC pg (aR 27 t8 t80) w fun _u w =>
      xA pg 27 t8 w fun r0 => R (.tuple #[r0, (.int .i64 0), t77]) w)
      (aC pg (aJ 145 agP) w fun t83 w =>
      aU pg mE #[t83] w fun t84 w =>
      aC pg (bT t84 0) w fun t85 w =>
      aC pg (bT t84 1) w fun t86 w =>
      aC pg (cM 27) w fun t17 w =>
      aC pg (aR 27 t17 t85) w fun _u w =>
      aC pg (aF .neq 30 (.tmp 87) (.const (.int .i64 0)) t86 (.int .i64 0)) w fun t88 w =>
      fL t88
       (aC pg (cA 27 []) w fun t89 w =>
       aC pg (aR 27 t8 t89) w fun _u w =>
       xA pg 27 t8 w fun r0 => R (.tuple #[r0, (.int .i64 0), t86]) w)
       (aC pg (aJ 27 t17) w fun t91 w =>
       aC pg (aR 27 t8 t91) w fun _u w =>
       xA pg 27 t8 w fun r0 => R (.tuple #[r0, t76, (.int .i64 0)]) w))))))
theorem Ns (R : K1) (hr : HR KG R Q) (h : DR R (g 0) (g 1) (g 2) (g 3) w) : bG pg I3 Gz Q g w :=
 eC (kn := no) (l := []) h fH hr trivial
def Qo (a0 a1 a2 a3 : anW) (w : anV) (R : K1) : Prop :=
 DR R a0 a1 a2 a3 w
theorem Pe {a0 a1 a2 a3 : anW} {w : anV} {R : K1} (h : Qo a0 a1 a2 a3 w R) : aU pg uN #[a0, a1, a2, a3] w R := by
 refine xB (ann := I3) Tryd.f49 Gz [a0, a1, a2, a3] KG 93 TrydM.mixed Tryd.func49 ?_
 exact (Ns _ _ _ R (fun _ _ h => h) h)
def C1 : FA := ⟨tF, fun i => .leaf ([], []) []⟩
def EI : List ResultVar := [.tmp 2]
noncomputable def Cb : Code := dC Tryd.f50
def yJ (R : K1) (zJ : anW) (w : anV) : Prop :=
 aC pg (GH 9 (.string ⟨#[0, 1, 2, 2, 3, 3, 3, 3, 4, 4, 4, 4, 4, 4, 4, 4, 5, 5, 5, 5, 5, 5, 5, 5, 5, 5, 5, 5, 5, 5, 5, 5, 6, 6, 6, 6, 6, 6, 6, 6, 6, 6, 6, 6, 6, 6, 6, 6, 6, 6, 6, 6, 6, 6, 6, 6, 6, 6, 6, 6, 6, 6, 6, 6, 7, 7, 7, 7, 7, 7, 7, 7, 7, 7, 7, 7, 7, 7, 7, 7, 7, 7, 7, 7, 7, 7, 7, 7, 7, 7, 7, 7, 7, 7, 7, 7, 7, 7, 7, 7, 7, 7, 7, 7, 7, 7, 7, 7, 7, 7, 7, 7, 7, 7, 7, 7, 7, 7, 7, 7, 7, 7, 7, 7, 7, 7, 7, 7, 8, 8, 8, 8, 8, 8, 8, 8, 8, 8, 8, 8, 8, 8, 8, 8, 8, 8, 8, 8, 8, 8, 8, 8, 8, 8, 8, 8, 8, 8, 8, 8, 8, 8, 8, 8, 8, 8, 8, 8, 8, 8, 8, 8, 8, 8, 8, 8, 8, 8, 8, 8, 8, 8, 8, 8, 8, 8, 8, 8, 8, 8, 8, 8, 8, 8, 8, 8, 8, 8, 8, 8, 8, 8, 8, 8, 8, 8, 8, 8, 8, 8, 8, 8, 8, 8, 8, 8, 8, 8, 8, 8, 8, 8, 8, 8, 8, 8, 8, 8, 8, 8, 8, 8, 8, 8, 8, 8, 8, 8, 8, 8, 8, 8, 8, 8, 8, 8, 8, 8, 8, 8, 8, 8, 8, 8, 8, 8]⟩) zJ) w fun t4 w =>
 aC pg (fG 5 3 t4) w fun t5 w =>
 R t5 w
theorem Lf (R : K1) (hr : HR EI R Q) (h : yJ R (g 0) w) : bG pg C1 Cb Q g w :=
 eC (kn := no) (l := []) h fH hr trivial
def Ke (a0 : anW) (w : anV) (R : K1) : Prop :=
 yJ R a0 w
theorem LD {a0 : anW} {w : anV} {R : K1} (h : Ke a0 w R) : aU pg tF #[a0] w R := by
 refine xB (ann := C1) Tryd.f50 Cb [a0] EI 6 TrydM.mixed Tryd.func50 ?_
 exact (Lf _ _ _ R (fun _ _ h => h) h)
def zC : FA := ⟨jP, fun i => .leaf ([], []) []⟩
def zN : List ResultVar := [.tmp 6]
noncomputable def xC : Code := dC Tryd.f51
def qI (R : K1) (jL Hn agI : anW) (w : anV) : Prop :=
 aC pg (lE jL) w fun t10 w =>
 aC pg (aQ 112 t10 1) w fun t11 w =>
 aC pg (aJ 30 t11) w fun t12 w =>
 aC pg (aF .neq 30 (.tmp 12) (.const (.int .i64 0)) t12 (.int .i64 0)) w fun t13 w =>
 fL t13
  (R (.slice none 0 0) w)
  (aC pg (sUn .not agI) w fun t16 w =>
  fL t16
   (aC pg (lE jL) w fun t18 w =>
   aC pg (aQ 112 t18 1) w fun t19 w =>
   aC pg (aR 30 t19 (.int .i64 1)) w fun _u w =>
   R (.slice none 0 0) w)
   (aC pg (lE jL) w fun t23 w =>
   aC pg (aQ 112 t23 0) w fun t24 w =>
   aC pg (aJ 22 t24) w fun t25 w =>
   aC pg (jI .len #[22] 3 [t25]) w fun t26 w =>
   aC pg (aF .gtr 3 aL aL Hn t26) w fun t27 w =>
   fL t27
    (aC pg (lE jL) w fun t29 w =>
    aC pg (aQ 112 t29 1) w fun t30 w =>
    aC pg (aR 30 t30 (.int .i64 10)) w fun _u w =>
    R (.slice none 0 0) w)
    (aC pg (lE jL) w fun t32 w =>
    aC pg (aQ 112 t32 0) w fun t33 w =>
    aC pg (aJ 22 t33) w fun t34 w =>
    aC pg (fW 22 t34 none (some Hn) (some Hn)) w fun t37 w =>
    aC pg (lE jL) w fun t40 w =>
    aC pg (aQ 112 t40 0) w fun t41 w =>
    aC pg (aJ 22 t41) w fun t42 w =>
    aC pg (fW 22 t42 (some Hn) none none) w fun t44 w =>
    aC pg (lE jL) w fun t45 w =>
    aC pg (aQ 112 t45 0) w fun t46 w =>
    aC pg (aR 22 t46 t44) w fun _u w =>
    R t37 w)))
theorem Fi (R : K1) (hr : HR zN R Q) (h : qI R (g 0) (g 1) (g 2) w) : bG pg zC xC Q g w :=
 eC (kn := no) (l := []) h fH hr trivial
def CS (a0 a1 a2 : anW) (w : anV) (R : K1) : Prop :=
 qI R a0 a1 a2 w
theorem GQ {a0 a1 a2 : anW} {w : anV} {R : K1} (h : CS a0 a1 a2 w R) : aU pg jP #[a0, a1, a2] w R := by
 refine xB (ann := zC) Tryd.f51 xC [a0, a1, a2] zN 48 TrydM.mixed Tryd.func51 ?_
 exact (Fi _ _ _ R (fun _ _ h => h) h)
def xY : FA := ⟨iA, fun i => match Nat.beq i 4 with | true => .leaf ([12], [(12, 15), (12, 16)]) [(false, []), (false, []), (false, []), (false, []), (false, []), (false, []), (false, []), (false, []), (false, []), (false, []), (false, []), (false, []), (true, []), (false, []), (false, []), (false, [2]), (false, [3]), (false, []), (false, [])] | false => .leaf ([], []) []⟩
def zX : List ResultVar := [.tmp 4]
noncomputable def wY : Code := dC Tryd.f52
def qJ (R : K1) (jL Hn : anW) (w : anV) : Prop :=
 aC pg (aF .eql 63 (.tmp 7) (.const (.pointer none)) jL (.pointer none)) w fun t8 w =>
 Gd (fA t8 false) (fun K => K Hn w) w fun t10 w =>
 Gd (fA t8 false) (fun K => aC pg (aF .lss 3 aL aL t10 (.int .i64 1)) w K) w fun t11 w =>
 aC pg (fR t8 (.bool true) t11) w fun t12 w =>
 Gd (fA t12 false) (fun K => K Hn w) w fun t14 w =>
 Gd (fA t12 false) (fun K => aC pg (aF .gtr 3 aL aL t14 (.int .i64 56)) w K) w fun t15 w =>
 aC pg (fR t12 (.bool true) t15) w fun t16 w =>
 fL t16
  (R (.int .u64 0) w)
  (aC pg (lE jL) w fun t18 w =>
  aC pg (aQ 118 t18 1) w fun t19 w =>
  aC pg (aJ 3 t19) w fun t20 w =>
  aC pg (jI .max #[3, 3] 3 [t20, (.int .i64 0)]) w fun t21 w =>
  aC pg (jI .min #[3, 3] 3 [t21, Hn]) w fun t23 w =>
  (dr w) = (dr w) /\
  aC pg (lE jL) (dr w) fun t25 w_ => w_ = (dr w) /\
  aC pg (aQ 118 t25 0) (dr w) fun t26 w_ => w_ = (dr w) /\
  aC pg (aJ 22 t26) (dr w) fun t27 w_ => w_ = (dr w) /\
  (dr w) = (dr w) /\
  aC pg (lE jL) (dr w) fun t29 w_ => w_ = (dr w) /\
  aC pg (aQ 118 t29 1) (dr w) fun t30 w_ => w_ = (dr w) /\
  aC pg (aJ 3 t30) (dr w) fun t31 w_ => w_ = (dr w) /\
  aC pg (jI .max #[3, 3] 3 [t31, (.int .i64 0)]) (dr w) fun t32 w_ => w_ = (dr w) /\
  (dr w) = (dr w) /\
  aC pg (aF .sub 3 aL aL t32 t23) (dr w) fun t34 w_ => w_ = (dr w) /\
  (dr w) = (dr w) /\
  aU pg Bx #[t27, t34, t23] (dr w) fun t36 Ha =>
  Ha = Ha /\
  Ha = Ha /\
  aC pg (aF .sub 3 aL aL Hn t23) Ha fun t39 w_ => w_ = Ha /\
  (eE pg (aF .sub 3 aL aL Hn t23) t39 (dr w) /\ True) /\
  aC pg (fG 3 94 t39) Ha fun t40 w_ => w_ = Ha /\
  (eE pg (fG 3 94 t39) t40 (dr w) /\ True) /\
  aC pg (aF .shl 73 aL aL t36 t40) Ha fun t41 w_ => w_ = Ha /\
  Ha = Ha /\
  aC pg (lE jL) Ha fun t43 w =>
  aC pg (aQ 118 t43 1) w fun t44 w =>
  aC pg (aJ 3 t44) w fun t45 w =>
  aC pg (aF .sub 3 aL aL t45 Hn) w fun t47 w =>
  aC pg (lE jL) w fun t48 w =>
  aC pg (aQ 118 t48 1) w fun t49 w =>
  aC pg (aR 3 t49 t47) w fun _u w =>
  R t41 w)
theorem EP (R : K1) (hr : HR zX R Q) (h : qJ R (g 0) (g 1) w) : bG pg xY wY Q g w :=
 eC (kn := no) (l := []) h fH hr trivial
def Di (a0 a1 : anW) (w : anV) (R : K1) : Prop :=
 qJ R a0 a1 w
theorem GM {a0 a1 : anW} {w : anV} {R : K1} (h : Di a0 a1 w R) : aU pg iA #[a0, a1] w R := by
 refine xB (ann := xY) Tryd.f52 wY [a0, a1] zX 51 TrydM.mixed Tryd.func52 ?_
 exact (EP _ _ _ R (fun _ _ h => h) h)
def kA : FA := ⟨yP, fun i => match Nat.beq i 17 with | true => .leaf ([], []) [(false, []), (false, []), (false, []), (false, []), (false, []), (false, []), (false, []), (false, []), (false, []), (false, [])] | false => .leaf ([], []) []⟩
def AY : List ResultVar := [.tmp 4, .tmp 5, .tmp 6]
noncomputable def iW : Code := dC Tryd.f53
def A1 (R : K1) (gD gP uL gO : anW) (w : anV) : Prop :=
 (dr w) = (dr w) /\
 (dr w) = (dr w) /\
 (dr w) = (dr w) /\
 (dr w) = (dr w) /\
 aC pg (aF .sub 3 aL aL gD gP) (dr w) fun t68 w_ => w_ = (dr w) /\
 aC pg (bB 77 gO t68) (dr w) fun t69 w_ => w_ = (dr w) /\
 aC pg (aJ 3 t69) (dr w) fun t70 w_ => w_ = (dr w) /\
 (dr w) = (dr w) /\
 (dr w) = (dr w) /\
 (dr w) = (dr w) /\
 R (.tuple #[uL, t70, (.int .i64 0)]) (dr w)
theorem PT (R : K1) (hr : HR AY R Q) (h : A1 R (g 1) (g 8) (g 9) (g 10) w) : bG pg kA (aB 1 (aB 5 iW)) Q g w :=
 eC (kn := no) (l := []) h fH hr trivial
def AP (kn : K7) (k1 : K4) (gD gP uL gO t53 t54 t55 : anW) (w : anV) : Prop :=
 aC pg (aF .lss 3 aL aL t55 t54) w fun t56 w =>
 fL t56
  (aC pg (bB 77 t53 t55) w fun t57 w =>
  aC pg (aJ 3 t57) w fun t58 w =>
  aC pg (aF .shl 43 aL aL (.int .u32 1) t58) w fun t61 w =>
  aC pg (aF .add 43 aL aL uL t61) w fun t62 w =>
  aC pg (aF .add 3 aL aL t55 (.int .i64 1)) w fun t63 w =>
  kn gD gP t62 gO t53 t54 t63 w)
  (k1 gD gP uL gO w)
theorem Qm (kn : K7) (k1 : K4) (hn : N7 Q kn 1 8 9 10 53 54 55) (h1 : E4 Q k1 1 1 8 9 10) (h : AP kn k1 (g 1) (g 8) (g 9) (g 10) (g 53) (g 54) (g 55) w) : bG pg kA (bI (bI (aB 1 (aE 1 (aB 5 iW))))) Q g w :=
 eC (kr := no) (l := [(1, fun g w => k1 (g 1) (g 8) (g 9) (g 10) w)]) h hn fH ⟨h1, trivial⟩
def FW (k1 : K4) (gD gP uL gO t53 t54 t55 : anW) (w : anV) : Prop :=
 cO (fun (X : (anW × anW) -> K0) (t : anW × anW) (w : anV) => AP (fun _ _ uL _ _ _ t55 w => X (uL, t55) w) k1 gD gP t.1 gO t53 t54 t.2 w) (uL, t55) w
theorem PA (k1 : K4) (h1 : E4 Q k1 1 1 8 9 10) (h : FW k1 (g 1) (g 8) (g 9) (g 10) (g 53) (g 54) (g 55) w) : bG pg kA (bI (aB 1 (aE 1 (aB 5 iW)))) Q g w := by
 refine JK (fun g : Env => (g 9, g 55)) (fun X t w => AP (fun _ _ uL _ _ _ t55 w => X (uL, t55) w) k1 (g 1) (g 8) t.1 (g 10) (g 53) (g 54) t.2 w) h (fun X g1 w1 ha hL => ?_)
 rw [<- fM 1 ha, <- fM 8 ha, <- fM 10 ha, <- fM 53 ha, <- fM 54 ha] at hL
 exact (Qm _ g1 w1 (fun _ _ uL _ _ _ t55 w => X (uL, t55) w) k1 (fun _ _ h => h) h1 hL)
def Fw (kn : K4) (gD gP uL gO t53 t54 t55 : anW) (w : anV) : Prop :=
 FW kn gD gP uL gO t53 t54 t55 w
def Ga (kn : K7) (gD gP uL gO : anW) (w : anV) : Prop :=
 aC pg (aF .sub 3 aL aL gD gP) w fun t52 w =>
 aC pg (fW 77 gO none (some t52) none) w fun t53 w =>
 aC pg (jI .len #[77] 3 [t53]) w fun t54 w =>
 kn gD gP uL gO t53 t54 (.int .i64 0) w
theorem Po (kn : K7) (hn : N7 Q kn 1 8 9 10 53 54 55) (h : Ga kn (g 1) (g 8) (g 9) (g 10) w) : bG pg kA (aE 1 (aE 1 (aB 5 iW))) Q g w :=
 eC (kr := no) (l := []) h hn fH trivial
def Fa (kn : K4) (gD gP uL gO : anW) (w : anV) : Prop :=
 Ga (fun gD gP uL gO t53 t54 t55 w => Fw kn gD gP uL gO t53 t54 t55 w) gD gP uL gO w
def Fe (R : K1) (gD gP uL gO : anW) (w : anV) : Prop :=
 Fa (fun gD gP uL gO w => A1 R gD gP uL gO w) gD gP uL gO w
theorem PE (kn : K4) (hn : N4 Q kn 1 8 9 10) (h : Fa kn (g 1) (g 8) (g 9) (g 10) w) : bG pg kA (aE 1 (aB 5 iW)) Q g w :=
 gM 1 (Po _ g w (Fw kn) (fun g w h => aK (Ca 1 (PA _ g w kn hn h))) h)
def Fy (kn : K4) (R : K1) (aT gD : anW) (w : anV) : Prop :=
 aU pg pN #[aT] w fun t14 w =>
 aC pg (aF .lss 3 aL aL t14 (.int .i64 0)) w fun t17 w =>
 fL t17
  (R (.tuple #[(.int .u32 0), (.int .i64 0), (.int .i64 1)]) w)
  (aC pg (aF .lss 3 aL aL gD (.int .i64 0)) w fun t20 w =>
  Gd (fA t20 false) (fun K => K gD w) w fun t22 w =>
  Gd (fA t20 false) (fun K => K t14 w) w fun t23 w =>
  Gd (fA t20 false) (fun K => aC pg (aF .gtr 3 aL aL t22 t23) w K) w fun t24 w =>
  aC pg (fR t20 (.bool true) t24) w fun t25 w =>
  fL t25
   (R (.tuple #[(.int .u32 0), (.int .i64 0), (.int .i64 17)]) w)
   (aC pg (aF .eql 3 (.tmp 27) (.const (.int .i64 1)) aT (.int .i64 1)) w fun t28 w =>
   fL t28
    (aC pg (aF .shl 43 aL aL (.int .u32 1) gD) w fun t30 w =>
    R (.tuple #[t30, gD, (.int .i64 0)]) w)
    (aU pg wX #[aT] w fun t34 w =>
    aC pg (bT t34 0) w fun t35 w =>
    aC pg (bT t34 1) w fun t36 w =>
    aC pg (bT t34 2) w fun t37 w =>
    aC pg (aF .lss 3 aL aL gD t35) w fun t40 w =>
    fL t40
     (aC pg (fG 3 43 gD) w fun t43 w =>
     aC pg (aF .add 43 aL aL t36 t43) w fun t44 w =>
     R (.tuple #[t44, (.int .i64 0), (.int .i64 0)]) w)
     (aC pg (fG 3 43 t35) w fun t47 w =>
     aC pg (aF .add 43 aL aL t36 t47) w fun t48 w =>
     kn gD t35 t48 t37 w))))
theorem PY (kn : K4) (R : K1) (hn : N4 Q kn 1 8 9 10) (hr : HR AY R Q) (h : Fy kn R (g 0) (g 1) w) : bG pg kA (aE 5 iW) Q g w :=
 eC (l := []) h hn hr trivial
def FH (R : K1) (aT gD : anW) (w : anV) : Prop :=
 Fy (fun gD gP uL gO w => Fe R gD gP uL gO w) R aT gD w
theorem Pt (R : K1) (hr : HR AY R Q) (h : FH R (g 0) (g 1) w) : bG pg kA iW Q g w :=
 gM 5 (PY _ g w (Fe R) R (fun g w h => aK (gM 1 (PE _ g w (A1 R) (fun g w h => aK (PT _ g w R hr h)) h))) hr h)
def S1 (a0 a1 : anW) (w : anV) (R : K1) : Prop :=
 FH R a0 a1 w
theorem QR {a0 a1 : anW} {w : anV} {R : K1} (h : S1 a0 a1 w R) : aU pg yP #[a0, a1] w R := by
 refine xB (ann := kA) Tryd.f53 iW [a0, a1] AY 71 TrydM.mixed Tryd.func53 ?_
 exact (Pt _ _ _ R (fun _ _ h => h) h)
end Go.Proofs.YtaggdjhhmbnhoaaDoor

/- Parts of the proof of SequencesWrites: merged and given short names by a program of ours. -/
import Derived.Orders
import Derived.Below
import Derived.KernelRfl
import Derived.Eval
import Derived.Laws.Sem
import Derived.Scope
import Derived.Test.YtaggdjhhmbnhoaaDoorRows
set_option linter.unusedVariables false
set_option linter.unusedSimpArgs false
open Array renaming getElem?_setIfInBounds_self_of_lt → aJ0, getElem?_setIfInBounds_ne → aJ5, getElem?_eq_getElem → aJD, getD_eq_getD_getElem? → aJf, getElem?_eq_none → aKN, all_eq_true' → aKd, length_toList → aKh, mem_of_getElem? → aLh
open Bool renaming false_eq_true → aI5, and_eq_true → aJn, not_true → aJx, not_eq_true' → aKG, or_eq_false_iff → aKV, or_eq_true → aKi
open List renaming getElem?_cons_succ → aI1, getElem?_eq_getElem → aI7, all_eq_true → aJ1, mem_cons_self → aJ6, drop_eq_getElem_cons → aJC, mem_range → aJN, mem_map → aJO, mem_cons → aJQ, mem_of_getElem? → aJX, getD_eq_getElem?_getD → aJe, mem_cons_of_mem → aJi, getElem?_eq_none → aJk, length_cons → aJo, length_eq_zero_iff → aJr, getElem_of_mem → aJy, length_erase_of_mem → aK4, mem_append_right → aKR, mem_append → aKk, map_congr_left → aKp, toList_toArray → aKq, mem_append_left → aKv, map_cons → aKz, mem_filter → aLi
open Nat renaming le_refl → aI9, zero_add → aIZ, le_trans → aJ7, eq_of_beq_eq_true → aJI, lt_or_ge → aJl, blt_eq → aK8, mod_lt → aKj, add_assoc → aKn, lt_trichotomy → aKy
open Option renaming map_some → aJL, getD_some → aLg
open Option.some renaming inj → aJj
namespace Go.En
open Go
abbrev aLl := World
abbrev aLm := Value
abbrev Env := Nat -> aLm
def put (g : Env) (d : Option Tmp) (v : aLm) : Env :=
 match d with
 | some d => fun i => match Nat.beq i d with | true => v | false => g i
 | none => g
def ev (g : Env) : Operand -> aLm
 | .tmp t => g t
 | .const v => v
 | .global b => .pointer (some ⟨b, 0, none⟩)
 | .func f => .func (.func f) #[] #[]
def Ret (P : Program) (f : FuncId) (args : Array aLm) (w : aLl) (v : aLm) (w' : aLl) : Prop :=
 Calls P f args w fun e w'' => e = .returned v /\ w'' = w'
def aR (P : Program) (f : FuncId) (args : Array aLm) (w : aLl) (R : aLm -> aLl -> Prop) : Prop :=
 ∃ v w', Ret P f args w v w' /\ R v w'
theorem aR.mono {P : Program} {f : FuncId} {args : Array aLm} {w : aLl} {R R' : aLm -> aLl -> Prop} (h : aR P f args w R)
 (hr : ∀ v w', R v w' -> R' v w') : aR P f args w R' :=
 let ⟨v, w', a, b⟩ := h; ⟨v, w', a, hr _ _ b⟩
def aEe (P : Program) (r : Result Next) (K : aLm -> aLl -> Prop) : Prop :=
 match r with
 | .ok (.value v) w => K v w
 | .ok .skip w => K undef w
 | .ok (.enter f args) w => aR P f args w K
 | _ => False
theorem aA (P : Program) (v : aLm) (w : aLl) (K : aLm -> aLl -> Prop) : aEe P (.ok (.value v) w) K = K v w := Eq.trans rfl rfl
theorem stepR_skip (P : Program) (w : aLl) (K : aLm -> aLl -> Prop) : aEe P (.ok .skip w) K = K undef w := Eq.trans rfl rfl
def aC (P : Program) (s : Sem Next) (w : aLl) (K : aLm -> aLl -> Prop) : Prop := aEe P (s.run P w) K
def dS (P : Program) (s : Sem Next) (v : aLm) (w : aLl) : Prop := s.run P w = .ok (.value v) w
def Gd (b : Bool) (s : (aLm -> aLl -> Prop) -> Prop) (w : aLl) (K : aLm -> aLl -> Prop) : Prop :=
 match b with
 | true => s K
 | false => K undef w
def asB (v : aLm) : Option Bool := match v with | .bool b => some b | _ => none
def eZ (v : aLm) (want : Bool) : Bool := asB v == some want
def fE (v : aLm) (A B : Prop) : Prop :=
 match v with
 | .bool b => (match b with | true => A | false => B)
 | _ => False
def Gr (ops : Array Oper) (j : Nat) : Option Tmp := (ops[j]?).bind (·.dst)
def Cg (g : Env) (t : Option Tmp) (want : Bool) : Bool := match t with | some t => eZ (g t) want | none => false
def V (s : Sem aLm) : Sem Next := do pure (.value (<- s))
def U (s : Sem Unit) : Sem Next := do s; pure .skip
def L8 (op : BinOp) : Bool := match op with | .eql | .neq => true | _ => false
def aH (op : BinOp) (t : TypeId) (ox oy : Operand) (x y : aLm) : Sem Next :=
 match L8 op with
 | true => V (do eqGuard op t ox oy x y; binOp op t x y)
 | false => V (binOp op t x y)
def lF (b : Builtin) (ats : Array TypeId) (ty : TypeId) (args : List aLm) : Sem Next := builtin b ats ty #[] args.toArray
def bX (t : TypeId) (ps : List (Nat × aLm)) : Sem Next := V (Instr.build t ps.toArray)
def cD (t : TypeId) (n : Nat) (ps : List (Nat × aLm)) : Sem Next := V (Instr.buildSlice t n ps.toArray)
def PL (g : Env) (o : Oper) : Sem Next :=
 match o.op with
 | .binOp op t x y _ => aH op t x y (ev g x) (ev g y)
 | .build t ps => bX t (ps.toList.map fun p => (p.1, ev g p.2))
 | .buildSlice t n ps => cD t n (ps.toList.map fun p => (p.1, ev g p.2))
 | .call c => (match c.callee with
   | .builtin b => lF b c.argTypes o.type (c.args.toList.map (ev g))
   | _ => execOp (ev g) o)
 | _ => execOp (ev g) o
def M7 (P : Program) (g : Env) (o : Oper) (w : aLl) (K : aLm -> aLl -> Prop) : Prop :=
 match o.op with
 | .move x => K (ev g x) w
 | .assign x => K (ev g x) w
 | .call c => (match c.callee with
   | .value (.func f) => aR P f (c.args.toList.map (ev g)).toArray w K
   | _ => aC P (PL g o) w K)
 | _ => aC P (PL g o) w K
def KG (P : Program) (ops : Array Oper) (g : Env) (o : Oper) (w : aLl) (K : aLm -> aLl -> Prop) : Prop :=
 match o.guard with
 | none => M7 P g o w K
 | some (j, want) => Gd (Cg g (Gr ops j) want) (M7 P g o w) w K
def apX (P : Program) (ops : Array Oper) : List Oper -> Env -> aLl -> (Env -> aLl -> Prop) -> Prop
 | [], g, w, K => K g w
 | o :: rest, g, w, K => KG P ops g o w fun v w' => apX P ops rest (put g o.dst v) w' K
structure Rec where
 heavy : Bool
 o : Oper
 g : Env
 w : aLl
 v : aLm
def gOf (ops : Array Oper) (o : Oper) (g : Env) : Bool := match o.guard with | none => true | some (j, want) => Cg g (Gr ops j) want
def Gs (b : Bool) (p : Prop) : Prop := match b with | true => p | false => True
def Za (P : Program) (ops : Array Oper) (q : Rec) (o : Oper) (g : Env) (w' : aLl) (v : aLm) : Prop :=
 match q.heavy with
 | true => Gs (gOf ops o g) (dS P (PL g o) v q.w)
 | false => Gs (gOf ops q.o q.g) (dS P (PL q.g q.o) q.v w')
def arY (i j : Nat) : List (Nat × Nat) -> Bool
 | [] => false
 | (a, b) :: r => match Nat.beq a i with
   | true => (match Nat.beq b j with | true => true | false => arY i j r)
   | false => arY i j r
def tZ (i : Nat) : List Nat -> Bool
 | [] => false
 | a :: r => match Nat.beq a i with | true => true | false => tZ i r
def ayH : List Rec -> Nat -> Option Rec
 | [], _ => none
 | q :: _, 0 => some q
 | _ :: r, n + 1 => ayH r n
def aF4 (P : Program) (ops : Array Oper) (o : Oper) (g : Env) (w' : aLl) (v : aLm) (hist : List Rec) : List Nat -> Prop
 | [] => True
 | k :: ks => (match ayH hist k with
   | some q => Za P ops q o g w' v
   | none => False) /\ aF4 P ops o g w' v hist ks
abbrev Ann := List Nat × List (Nat × Nat)
abbrev azT := List (Bool × List Nat)
def wE (P : Program) (ops : Array Oper) : List Oper -> azT -> List Rec -> Env -> aLl -> (Env -> aLl -> Prop) -> Prop
 | [], _, _, g, w, K => K g w
 | _ :: _, [], _, _, _, _ => False
 | o :: rest, (hv, ks) :: pl, hist, g, w, K =>
   KG P ops g o w fun v w' =>
    match hv, ks with
    | true, [] => wE P ops rest pl (⟨true, o, g, w, v⟩ :: hist) (put g o.dst v) w' K
    | true, k :: ks => aF4 P ops o g w' v hist (k :: ks) /\ wE P ops rest pl (⟨true, o, g, w, v⟩ :: hist) (put g o.dst v) w' K
    | false, [] => w' = w /\ wE P ops rest pl (⟨false, o, g, w, v⟩ :: hist) (put g o.dst v) w K
    | false, k :: ks => w' = w /\ aF4 P ops o g w v hist (k :: ks) /\ wE P ops rest pl (⟨false, o, g, w, v⟩ :: hist) (put g o.dst v) w K
def cC {α : Type} (F : (α -> aLl -> Prop) -> α -> aLl -> Prop) (g : α) (w : aLl) : Prop :=
 ∃ I : Nat -> α -> aLl -> Prop, (∃ n, I n g w) /\ ∀ n g w, I n g w -> F (fun g' w' => ∃ m, m < n /\ I m g' w') g w
def Dk (K : Env -> aLl -> Prop) (Q : Exit -> Env -> aLl -> Prop) : Exit -> Env -> aLl -> Prop :=
 fun e g w => (fun (_ : Program -> Sem Next -> aLl -> (aLm -> aLl -> Prop) -> Prop) => match e with | .normal => K g w | e => Q e g w) aC
def blk (id : Nat) (Q : Exit -> Env -> aLl -> Prop) : Exit -> Env -> aLl -> Prop :=
 fun e g w => (fun (_ : Program -> Sem Next -> aLl -> (aLm -> aLl -> Prop) -> Prop) => match e with | .exit i => (match Nat.beq i id with | true => Q .normal g w | false => Q (.exit i) g w) | e => Q e g w) aC
inductive HT where
 | leaf (an : Ann) (pl : azT)
 | perm (π : List Nat) (es : List (Nat × Nat)) (an : Ann) (pl : azT)
 | split (a b : Nat) (x y : HT)
structure FA where
 f : FuncId
 t : Nat -> HT
def AB : List Nat -> Nat -> Nat
 | [], _ => 0
 | a :: r, i => match Nat.beq a i with | true => 0 | false => AB r i + 1
def Kq (π : List Nat) (i : Nat) : List (Nat × Nat) -> List Edge
 | [] => []
 | (a, b) :: r => match Nat.beq b i with | true => ⟨AB π a, .data⟩ :: Kq π i r | false => Kq π i r
def Lj (π : List Nat) (es : List (Nat × Nat)) (i : Nat) (o : Oper) : Oper :=
 { dst := o.dst, op := o.op, type := o.type, pos := o.pos, after := (o.after.toList.map (fun e => (⟨AB π e.on, e.ground⟩ : Edge)) ++ Kq π i es).toArray,
   guard := match o.guard with | none => none | some (j, b) => some (AB π j, b) }
def adO (π : List Nat) (es : List (Nat × Nat)) (l : List Oper) : List Nat -> List Oper
 | [] => []
 | i :: r => match l[i]? with | some o => Lj π es i o :: adO π es l r | none => adO π es l r
def tS (π : List Nat) (es : List (Nat × Nat)) (ops : Array Oper) : Array Oper := (adO π es ops.toList π).toArray
def anA (f : FuncId) (id : Nat) (ops : Array Oper) (a b : Nat) (w : aLl) : Bool :=
 Nat.ble ((Region.schedule true ops (w.tape w.drawn (.order f id))).idxOf a) ((Region.schedule true ops (w.tape w.drawn (.order f id))).idxOf b)
def Ord (b : Bool) (A B : Prop) : Prop := match b with | true => A | false => B
def ayO (P : Program) (f : FuncId) (id : Nat) (ops : Array Oper) : HT -> Env -> aLl -> aLl -> (Env -> aLl -> Prop) -> Prop
 | .leaf _ pl, g, _, w, K => wE P ops ops.toList pl [] g w K
 | .perm π es _ pl, g, _, w, K => wE P (tS π es ops) (tS π es ops).toList pl [] g w K
 | .split a b x y, g, w0, w, K => Ord (anA f id ops a b w0) (ayO P f id ops x g w0 w K) (ayO P f id ops y g w0 w K)
def bH (P : Program) (ann : FA) : Code -> (Exit -> Env -> aLl -> Prop) -> Env -> aLl -> Prop
 | .skip, Q, g, w => Q .normal g w
 | .region id ops draw, Q, g, w => match draw with
   | false => apX P ops ops.toList g w (Q .normal)
   | true => ayO P ann.f id ops (ann.t id) g w { w with drawn := w.drawn + 1 } (Q .normal)
 | .seq x y, Q, g, w => bH P ann x (Dk (fun g w => bH P ann y Q g w) Q) g w
 | .cond c x y, Q, g, w => fE (ev g c) (bH P ann x Q g w) (bH P ann y Q g w)
 | .block id c, Q, g, w => bH P ann c (blk id Q) g w
 | .loop c, Q, g, w => cC (fun X g w => bH P ann c (Dk X Q) g w) g w
 | .scope c, Q, g, w => bH P ann c Q g w
 | .label _, Q, g, w => Q .normal g w
 | .exit id, Q, g, w => Q (.exit id) g w
 | .ret, Q, g, w => Q .ret g w
 | _, _, _, _ => False
def aCo (N : Nat) (o : Oper) : Bool := match o.dst with | some d => Nat.blt d N | none => true
def bef (b : Array Nat) (i j : Nat) : Bool := (b.getD j 0).testBit i
def looks (ops : Array Oper) (o : Oper) : List Tmp :=
 (o.op.operands.toList.filterMap fun | .tmp t => some t | _ => none) ++ (match o.guard with | some (j, _) => (Gr ops j).toList | none => [])
def aEk (ops : Array Oper) (x y : Oper) : Bool :=
 (match x.dst with | some d => (looks ops y).contains d || y.dst == some d | none => false) ||
 (match y.dst with | some d => (looks ops x).contains d | none => false)
def ayC (o : Oper) : Bool := match o.op with | .select .. => true | _ => false
def aEw (o : Oper) : Bool := match o.op with | .call { callee := .value (.func _), .. } => true | _ => false
def UK (P : Program) (o : Oper) : Bool :=
 match o.op with
 | .call c => (match c.callee with
   | .value (.func f) => (match P.funcs[f]? with | some fn => fn.body.isSome && !(fn.name == "runtime.NumGoroutine") | none => false)
   | .builtin b => (match b with | .print | .println => false | _ => true)
   | _ => true)
 | _ => true
def Q1 (o : Oper) : Bool := match o.op with | .move _ | .assign _ => true | _ => false
def Vt (ops : Array Oper) (b : Array Nat) (an : Ann) (i j : Nat) (x y : Oper) : Bool :=
 bef b i j ||
 (!aEk ops x y &&
   match tZ i an.1, tZ j an.1 with
   | true, true => false
   | false, false => true
   | true, false => Q1 y || arY i j an.2
   | false, true => Q1 x || arY i j an.2)
def azY (ops : Array Oper) (b : Array Nat) (an : Ann) : Bool :=
 (List.range ops.size).all fun j => (List.range j).all fun i =>
  match ops[i]?, ops[j]? with
  | some x, some y => Vt ops b an i j x y
  | _, _ => false
def atL (ops : Array Oper) : Bool :=
 (List.range ops.size).all fun i => match ops[i]? with
  | some o => o.after.all fun e => !Region.binds .any e || Nat.blt e.on i
  | none => false
def avC (ops : Array Oper) (b : Array Nat) : Bool :=
 (List.range ops.size).all fun j => (List.range ops.size).all fun i =>
  !bef b i j || (match ops[j]? with
   | some o => o.after.any fun e => Region.binds .any e && (Nat.beq e.on i || bef b i e.on)
   | none => false)
def apA (ops : Array Oper) (an : Ann) : Bool :=
 atL ops && avC ops (Region.before ops) && azY ops (Region.before ops) an && (ops.all fun o => !ayC o) &&
  (List.range ops.size).all fun i => match ops[i]? with | some o => !aEw o || tZ i an.1 | none => false
def asH (n : Nat) (an : Ann) (pl : azT) : Bool :=
 (List.range n).all fun i => match pl[i]? with
  | some (h, ks) => h == tZ i an.1 && an.2.all fun p => !Nat.beq p.2 i || (Nat.blt p.1 i && ks.contains (i - 1 - p.1))
  | none => false
def aAT (π : List Nat) (ops : Array Oper) : Bool :=
 Nat.beq π.length ops.size && ((List.range ops.size).all fun k => match π[k]? with | some i => Nat.beq (AB π i) k && Nat.blt i ops.size | none => false) &&
  ((List.range ops.size).all fun i => match π[AB π i]? with | some j => Nat.beq j i | none => false) &&
  ((List.range ops.size).all fun i => match ops[i]? with
    | some o => (o.after.all fun e => Nat.blt e.on ops.size) && (match o.guard with | some (j, _) => Nat.blt j ops.size | none => true)
    | none => false)
def YE (P : Program) (N : Nat) (ops : Array Oper) : List (Nat × Nat) -> HT -> Bool
 | _, .leaf an pl => apA ops an && asH ops.size an pl
 | path, .perm π es an pl => (es.all fun p => arY p.1 p.2 path && Nat.blt p.1 ops.size) && aAT π ops && (tS π es ops).all (aCo N) && (tS π es ops).all (UK P) &&
  apA (tS π es ops) an && asH (tS π es ops).size an pl
 | path, .split a b x y => !Nat.beq a b && YE P N ops ((a, b) :: path) x && YE P N ops ((b, a) :: path) y
def codeOk (P : Program) (N : Nat) (ann : FA) : Code -> Bool
 | .skip | .exit _ | .ret | .label _ => true
 | .scope c => codeOk P N ann c
 | .region id ops draw => ops.all (aCo N) && ops.all (UK P) && (!draw || YE P N ops [] (ann.t id))
 | .seq x y => codeOk P N ann x && codeOk P N ann y
 | .cond _ x y => codeOk P N ann x && codeOk P N ann y
 | .block _ c => codeOk P N ann c
 | .loop c => codeOk P N ann c
 | _ => false
theorem aqE (g : Env) (d i : Nat) (v : aLm) : put g (some d) v i = if i = d then v else g i := by
 unfold put
 by_cases h : i = d
 .subst h; simp
 .have : Nat.beq i d = false := by
   cases hb : Nat.beq i d
   .rfl
   .exact absurd (aJI hb) h
  simp [this, h]
def VY (N : Nat) (g : Env) (a : Act) : Prop := a.defers = [] /\ a.tmps.size = N /\ ∀ i, a.tmps.getD i undef = g i
theorem VY.ev {N : Nat} {g : Env} {a : Act} (h : VY N g a) (x : Operand) : a.eval x = ev g x := by
 cases x <;> simp [Act.eval, En.ev, <- h.2.2]
theorem VY.evs {N : Nat} {g : Env} {a : Act} (h : VY N g a) : a.eval = En.ev g := funext h.ev
theorem VY.put {N : Nat} {g : Env} {a : Act} (h : VY N g a) (d : Option Tmp) (v : aLm) (hd : ∀ t, d = some t -> t < N) :
 VY N (put g d v) (a.put d v) := by
 cases d with
 | none => exact h
 | some t =>
   obtain ⟨h1, h2, h3⟩ := h
   have ht := hd t rfl
   refine ⟨h1, by simp [Act.put, h2], fun i => ?_⟩
   rw [aqE, <- h3 i]
   by_cases hi : i = t
   .subst hi; simp [Act.put, h2, ht]
   .have hi' : t ≠ i := fun e => hi e.symm
    simp [Act.put, hi, aJ5 hi']
theorem VY.wanted {N : Nat} {g : Env} {a : Act} (h : VY N g a) (ops : Array Oper) (o : Oper) :
 Region.wanted o (yielded ops a.tmps) = match o.guard with | none => true | some (j, want) => Cg g (Gr ops j) want := by
 unfold Region.wanted
 cases o.guard with
 | none => rfl
 | some p =>
   obtain ⟨j, want⟩ := p
   simp only [yielded, Cg, Gr]
   cases (ops[j]?).bind (·.dst) with
   | none => simp
   | some t =>
     have h3 := h.2.2 t
     simp only [Option.bind_some, eZ, asB, <- h3]
     simp only [aJf]
     cases ht : a.tmps[t]? with
     | none => simp [undef]
     | some v => cases v <;> simp
section
variable {P : Program} {ops : Array Oper}
def akC (P : Program) (ops : Array Oper) (g : Env) (o : Oper) (w : aLl) (v : aLm) (w' : aLl) : Prop :=
 ∀ K : aLm -> aLl -> Prop, K v w' -> KG P ops g o w K
theorem aCq {s : Sem Next} {w : aLl} {K : aLm -> aLl -> Prop} (h : aC P s w K) :
 ∃ v w', (∀ K' : aLm -> aLl -> Prop, K' v w' -> aC P s w K') /\ K v w' := by
 unfold aC at *
 generalize s.run P w = r at *
 match r, h with
 | .ok (.value v) w1, h => exact ⟨v, w1, fun _ h' => h', h⟩
 | .ok .skip w1, h => exact ⟨undef, w1, fun _ h' => h', h⟩
 | .ok (.enter f args) w1, h =>
   obtain ⟨v, w', hr, hk⟩ := h
   exact ⟨v, w', fun _ h' => ⟨v, w', hr, h'⟩, hk⟩
theorem auG {g : Env} {o : Oper} {w : aLl} {K : aLm -> aLl -> Prop} (h : M7 P g o w K) :
 ∃ v w', (∀ K' : aLm -> aLl -> Prop, K' v w' -> M7 P g o w K') /\ K v w' := by
 unfold M7 at *
 split at h
 .exact ⟨_, _, fun _ h' => h', h⟩
 .exact ⟨_, _, fun _ h' => h', h⟩
 .split at h
  .obtain ⟨v, w', a, b⟩ := h
   exact ⟨v, w', fun _ h' => ⟨v, w', a, h'⟩, b⟩
  .exact aCq h
 .exact aCq h
theorem aGj (op : BinOp) (t : TypeId) (ox oy : Operand) (x y : aLm) : aH op t ox oy x y = V (do eqGuard op t ox oy x y; binOp op t x y) := by
 cases op <;> simp [aH, L8, eqGuard]
theorem aFh {g : Env} {o : Oper} (ho : UK P o = true) : PL g o = execOp (ev g) o := by
 unfold PL
 split
 .rename_i op t x y yt hx
  simp only [execOp, hx, aGj, V]
 .rename_i t ps hx
  have e : (List.map (fun p : Nat × Operand => (p.1, ev g p.2)) ps.toList).toArray = ps.map (fun p => (p.1, ev g p.2)) := by obtain ⟨l⟩ := ps; simp
  simp only [execOp, hx, bX, V, e]
 .rename_i t n ps hx
  have e : (List.map (fun p : Nat × Operand => (p.1, ev g p.2)) ps.toList).toArray = ps.map (fun p => (p.1, ev g p.2)) := by obtain ⟨l⟩ := ps; simp
  simp only [execOp, hx, cD, V, e]
 .rename_i c hx
  split
  .rename_i b hb
   simp only [execOp, hx, resolve, hb, pure_bind, invoke, lF]
   unfold UK at ho
   simp only [hx, hb] at ho
   have e : (List.map (ev g) c.args.toList).toArray = c.args.map (ev g) := by obtain ⟨l⟩ := c.args; simp
   rw [e]
   cases b <;> first | rfl | (cases ho)
  .rfl
 .rfl
theorem awU {f : FuncId} {fn : Func} (hf : P.funcs[f]? = some fn) (hb : fn.body.isSome = true) (hn : (fn.name == "runtime.NumGoroutine") = false)
 (args : Array aLm) (w : aLl) : (callFunc f args).run P w = .ok (.enter f args) w := by
 unfold callFunc
 have hb' : fn.body.isNone = false := by cases h : fn.body <;> simp_all
 show Sem.run P (Sem.program fun p => _) w = _
 simp only [Sem.run]
 simp only [bind, Sem.bind, hf, hn, hb', aI5, if_false]
 rfl
theorem QY {g : Env} {o : Oper} {w : aLl} {K : aLm -> aLl -> Prop} (h : KG P ops g o w K) :
 ∃ v w', akC P ops g o w v w' /\ K v w' := by
 unfold akC
 unfold KG at *
 split at h
 .obtain ⟨v, w', h1, h2⟩ := auG h
  exact ⟨v, w', h1, h2⟩
 .rename_i j want hg
  unfold Gd at *
  cases hb : Cg g (Gr ops j) want with
  | true =>
    simp only [hb] at h
    obtain ⟨v, w', h1, h2⟩ := auG h
    exact ⟨v, w', fun K hk => h1 K hk, h2⟩
  | false =>
    simp only [hb] at h
    exact ⟨_, _, fun K hk => hk, h⟩
theorem akR {N i : Nat} {g : Env} {a : Act} {o : Oper} {w w' : aLl} {v : aLm} {Q : Exit -> Act -> aLl -> Prop} {next : Act -> aLl -> Prop}
 (hi : ops[i]? = some o) (hc : UK P o = true) (hr : VY N g a) (hy : akC P ops g o w v w') (hn : next (a.put o.dst v) w') : wpOp P ops Q i next a w := by
 have h := hy (fun v2 w2 => v2 = v /\ w2 = w') ⟨rfl, rfl⟩
 unfold wpOp
 rw [hi]
 simp only [hr.wanted]
 have run : M7 P g o w (fun v2 w2 => v2 = v /\ w2 = w') -> o.wp P a w next Q := by
  intro h
  have stp : aC P (PL g o) w (fun v2 w2 => v2 = v /\ w2 = w') -> o.upon P a next Q ((execOp (ev g) o).run P w) := by
   intro h
   rw [aFh hc] at h
   unfold aC at h
   generalize (execOp (ev g) o).run P w = r at *
   match r, h with
   | .ok (.value v) w1, h => obtain ⟨rfl, rfl⟩ := h; exact hn
   | .ok .skip w1, h => obtain ⟨rfl, rfl⟩ := h; exact hn
   | .ok (.enter f args) w1, h =>
     obtain ⟨v2, w2, hret, rfl, rfl⟩ := h
     simp only [Oper.upon_enter]
     refine Calls.mono hret ?_
     rintro e w'' ⟨rfl, rfl⟩
     exact hn
  unfold Oper.wp
  rw [hr.evs]
  unfold M7 at h
  split at h
  .rename_i x hx
   obtain ⟨rfl, rfl⟩ := h
   simp only [execOp, hx]; exact hn
  .rename_i x hx
   obtain ⟨rfl, rfl⟩ := h
   simp only [execOp, hx]; exact hn
  .rename_i c hx
   split at h
   .rename_i f hcal
    obtain ⟨v2, w2, hret, rfl, rfl⟩ := h
    have e : (execOp (ev g) o).run P w = .ok (.enter f (List.map (ev g) c.args.toList).toArray) w := by
     unfold UK at hc
     simp only [hx, hcal] at hc
     cases hfn : P.funcs[f]? with
     | none => rw [hfn] at hc; cases hc
     | some fn =>
       rw [hfn] at hc
       simp only [aJn, aKG] at hc
       have ea : (List.map (ev g) c.args.toList).toArray = c.args.map (ev g) := by obtain ⟨l⟩ := c.args; simp
       rw [ea]
       simp only [execOp, hx, resolve, hcal, ev, Deferred.ofValue, pure_bind, invoke]
       simp only [Array.empty_append, Array.append_empty]
       exact awU hfn hc.1 hc.2 _ w
    rw [e]
    simp only [Oper.upon_enter]
    refine Calls.mono hret ?_
    rintro e w'' ⟨rfl, rfl⟩
    exact hn
   .exact stp h
  .exact stp h
 unfold KG at h
 cases hg : o.guard with
 | none =>
   rw [hg] at h
   simp only [if_true]
   exact .inl (run h)
 | some p =>
   obtain ⟨j, want⟩ := p
   simp only [hg] at h
   simp only
   by_cases hb : Cg g (Gr ops j) want = true
   .rw [if_pos hb]
    simp only [hb, Gd] at h
    exact .inl (run h)
   .rw [if_neg hb]
    have hb' : Cg g (Gr ops j) want = false := by simpa using hb
    simp only [hb', Gd] at h
    obtain ⟨rfl, rfl⟩ := h
    exact hn
def arQ (N : Nat) (ops : Array Oper) : Prop := ∀ (i : Nat) (o : Oper), ops[i]? = some o -> ∀ t, o.dst = some t -> t < N
def acK (P : Program) (ops : Array Oper) : Prop := ∀ (i : Nat) (o : Oper), ops[i]? = some o -> UK P o = true
theorem aDw {N : Nat} (hd : arQ N ops) (hca : acK P ops) {Q : Exit -> Act -> aLl -> Prop} {K : Env -> aLl -> Prop}
 (hQ : ∀ g a w, VY N g a -> K g w -> Q .normal a w) :
 ∀ (l : List Oper) (k : Nat) (g : Env) (a : Act) (w : aLl), (∀ j, l[j]? = ops[k + j]?) -> VY N g a -> apX P ops l g w K →
   wpOps P ops Q (List.range' k l.length) a w := by
 intro l
 induction l with
 | nil => intro k g a w _ hr h; exact hQ _ _ _ hr h
 | cons o l ih =>
   intro k g a w hl hr h
   have h0 : ops[k]? = some o := by have := hl 0; simpa using this.symm
   obtain ⟨v, w', hy, hk⟩ := QY h
   rw [aJo, List.range'_succ, wpOps_cons]
   refine akR h0 (hca k o h0) hr hy ?_
   refine ih (k + 1) _ _ _ (fun j => ?_) (hr.put _ _ (hd k o h0)) hk
   have := hl (j + 1)
   simp only [aI1] at this
   rw [this]; congr 1; omega
def akF (an : Ann) (O : Nat -> Oper) (G : Nat -> Env) (W : Nat -> aLl) (V : Nat -> aLm) (i : Nat) : Rec :=
 ⟨tZ i an.1, O i, G i, W i, V i⟩
def aCu (P : Program) (ops : Array Oper) (an : Ann) (O : Nat -> Oper) (G : Nat -> Env) (W : Nat -> aLl) (V : Nat -> aLm) (i j : Nat) : Prop :=
 Za P ops (akF an O G W V i) (O j) (G j) (W (j + 1)) (V j)
structure Run (P : Program) (ops : Array Oper) (an : Ann) (g0 : Env) (w0 : aLl) (n : Nat) (O : Nat -> Oper) (G : Nat -> Env) (W : Nat -> aLl) (V : Nat -> aLm) : Prop where
 g0 : G 0 = g0
 w0 : W 0 = w0
 op : ∀ i, i < n -> ops[i]? = some (O i)
 yld : ∀ i, i < n -> akC P ops (G i) (O i) (W i) (V i) (W (i + 1))
 light : ∀ i, i < n -> tZ i an.1 = false -> W (i + 1) = W i
 env : ∀ i, i < n -> G (i + 1) = put (G i) (O i).dst (V i)
 chk : ∀ i j, i < j -> j < n -> arY i j an.2 = true -> aCu P ops an O G W V i j
theorem ayU {o : Oper} {g : Env} {w' : aLl} {v : aLm} {hist : List Rec} : ∀ {ks : List Nat}, aF4 P ops o g w' v hist ks -> ∀ k ∈ ks, ∃ q, ayH hist k = some q /\ Za P ops q o g w' v := by
 intro ks
 induction ks with
 | nil => intro _ k hk; cases hk
 | cons a ks ih =>
   rintro ⟨h1, h2⟩ k hk
   rcases aJQ.1 hk with rfl | hk
   .cases hn : ayH hist k with
    | none => rw [hn] at h1; exact h1.elim
    | some q => rw [hn] at h1; exact ⟨q, rfl, h1⟩
   .exact ih h2 k hk
theorem aDi {n : Nat} {an : Ann} {pl : azT} (h : asH n an pl = true) {i : Nat} (hi : i < n) :
 ∃ ks, pl[i]? = some (tZ i an.1, ks) /\ ∀ j, arY j i an.2 = true -> j < i /\ (i - 1 - j) ∈ ks := by
 have := aJ1.1 h i (aJN.2 hi)
 cases hp : pl[i]? with
 | none => rw [hp] at this; cases this
 | some p =>
   obtain ⟨hv, ks⟩ := p
   rw [hp] at this
   simp only [aJn] at this
   obtain ⟨h1, h2⟩ := this
   have h1 : hv = tZ i an.1 := by simpa using h1
   refine ⟨ks, by rw [h1], fun j hj => ?_⟩
   have mm : ∀ (l : List (Nat × Nat)), arY j i l = true -> (j, i) ∈ l := by
    intro l
    induction l with
    | nil => intro h; cases h
    | cons q r ih =>
      obtain ⟨a, b⟩ := q
      intro h
      unfold arY at h
      cases ha : Nat.beq a j with
      | true =>
        simp only [ha] at h
        cases hb : Nat.beq b i with
        | true =>
          obtain rfl := aJI ha
          obtain rfl := aJI hb
          exact aJ6
        | false => simp only [hb] at h; exact aJi _ (ih h)
      | false => simp only [ha] at h; exact aJi _ (ih h)
   have := aJ1.1 h2 (j, i) (mm _ hj)
   simp only [Nat.beq_refl, aJx, Bool.false_or, aJn] at this
   refine ⟨?_, by simpa using this.2⟩
   have hlt := this.1
   exact (aK8 (x := j) (y := i)) ▸ hlt
theorem azD {an : Ann} {pl : azT} {g0 : Env} {w0 : aLl} {K : Env -> aLl -> Prop} (hpl : asH ops.size an pl = true) :
 ∀ (l : List Oper) (m : Nat) (hist : List Rec) (O : Nat -> Oper) (G : Nat -> Env) (W : Nat -> aLl) (V : Nat -> aLm),
   (∀ j, l[j]? = ops[m + j]?) -> m + l.length = ops.size -> Run P ops an g0 w0 m O G W V -> (∀ i, i < m -> ayH hist (m - 1 - i) = some (akF an O G W V i)) →
   wE P ops l (pl.drop m) hist (G m) (W m) K →
   ∃ (O : Nat -> Oper) (G : Nat -> Env) (W : Nat -> aLl) (V : Nat -> aLm), Run P ops an g0 w0 (m + l.length) O G W V /\ K (G (m + l.length)) (W (m + l.length)) := by
 intro l
 induction l with
 | nil => intro m hist O G W V _ _ hr _ h; exact ⟨O, G, W, V, hr, by unfold wE at h; exact h⟩
 | cons o l ih =>
   intro m hist O G W V hl hlen hr hh h
   have h0 : ops[m]? = some o := by have := hl 0; simpa using this.symm
   have hmn : m < ops.size := by rw [aJo] at hlen; omega
   obtain ⟨ks, hk1, hk2⟩ := aDi hpl hmn
   have hdrop : pl.drop m = (tZ m an.1, ks) :: pl.drop (m + 1) := by
    have hlt : m < pl.length := by
     rcases aJl m pl.length with h | h
     .exact h
     .rw [aJk h] at hk1; cases hk1
    rw [aJC hlt]
    rw [aI7 hlt] at hk1
    rw [aJj hk1]
   rw [hdrop] at h
   obtain ⟨v, w', hy, hk⟩ := QY h
   have key : (tZ m an.1 = false -> w' = W m) /\ (∀ k ∈ ks, ∃ q, ayH hist k = some q /\ Za P ops q o (G m) w' v) /\
       (wE P ops l (pl.drop (m + 1)) (⟨tZ m an.1, o, G m, W m, v⟩ :: hist) (put (G m) o.dst v) w' K) := by
    have nil : ∀ w', ∀ k ∈ ([] : List Nat), ∃ q, ayH hist k = some q /\ Za P ops q o (G m) w' v := fun _ k hk => (by cases hk)
    cases hm : tZ m an.1 with
    | true =>
      rw [hm] at hk
      cases ks with
      | nil => exact ⟨fun e => (by cases e), nil _, hk⟩
      | cons k ks => exact ⟨fun e => (by cases e), ayU hk.1, hk.2⟩
    | false =>
      rw [hm] at hk
      cases ks with
      | nil => obtain ⟨rfl, hk⟩ := hk; exact ⟨fun _ => rfl, nil _, hk⟩
      | cons k ks => obtain ⟨rfl, hc, hk⟩ := hk; exact ⟨fun _ => rfl, ayU hc, hk⟩
   obtain ⟨kl, c1, c2⟩ := key
   let O' : Nat -> Oper := fun i => if i = m then o else O i
   let V' : Nat -> aLm := fun i => if i = m then v else V i
   let G' : Nat -> Env := fun i => if i = m + 1 then put (G m) o.dst v else G i
   let W' : Nat -> aLl := fun i => if i = m + 1 then w' else W i
   have eO : ∀ i, i < m -> O' i = O i := fun i hi => if_neg (by omega)
   have eV : ∀ i, i < m -> V' i = V i := fun i hi => if_neg (by omega)
   have eG : ∀ i, i <= m -> G' i = G i := fun i hi => if_neg (by omega)
   have eW : ∀ i, i <= m -> W' i = W i := fun i hi => if_neg (by omega)
   have oO : O' m = o := if_pos rfl
   have oV : V' m = v := if_pos rfl
   have oG : G' (m + 1) = put (G m) o.dst v := if_pos rfl
   have oW : W' (m + 1) = w' := if_pos rfl
   have eR : ∀ i, i < m -> akF an O' G' W' V' i = akF an O G W V i := fun i hi => by
    simp only [akF, eO i hi, eV i hi, eG i (by omega), eW i (by omega)]
   have hr' : Run P ops an g0 w0 (m + 1) O' G' W' V' := by
    refine ⟨by rw [eG 0 (by omega)]; exact hr.g0, by rw [eW 0 (by omega)]; exact hr.w0, fun i hi => ?_, fun i hi => ?_, fun i hi hm => ?_, fun i hi => ?_, fun i j hij hj hm => ?_⟩
    .by_cases hi' : i = m
     .subst hi'; rw [oO]; exact h0
     .rw [eO i (by omega)]; exact hr.op i (by omega)
    .by_cases hi' : i = m
     .subst hi'; rw [oO, oV, oW, eG i (by omega), eW i (by omega)]; exact hy
     .rw [eO i (by omega), eV i (by omega), eG i (by omega), eW i (by omega), eW (i + 1) (by omega)]; exact hr.yld i (by omega)
    .by_cases hi' : i = m
     .subst hi'; rw [oW, eW i (by omega)]; exact kl hm
     .rw [eW i (by omega), eW (i + 1) (by omega)]; exact hr.light i (by omega) hm
    .by_cases hi' : i = m
     .subst hi'; rw [oO, oV, oG, eG i (by omega)]
     .rw [eO i (by omega), eV i (by omega), eG i (by omega), eG (i + 1) (by omega)]; exact hr.env i (by omega)
    .unfold aCu
     by_cases hj' : j = m
     .subst hj'
      rw [eR i (by omega), oO, oV, oW, eG j (by omega)]
      obtain ⟨q, hq, hc⟩ := c1 _ (hk2 i hm).2
      rw [hh i hij] at hq
      obtain rfl := aJj hq
      exact hc
     .rw [eR i (by omega), eO j (by omega), eV j (by omega), eG j (by omega), eW (j + 1) (by omega)]
      exact hr.chk i j hij (by omega) hm
   have := ih (m + 1) (⟨tZ m an.1, o, G m, W m, v⟩ :: hist) O' G' W' V' (fun j => by
       have := hl (j + 1)
       simp only [aI1] at this
       rw [this]; congr 1; omega) (by rw [aJo] at hlen; omega) hr' (fun i hi => by
       by_cases hi' : i = m
       .subst hi'
        rw [show i + 1 - 1 - i = 0 from by omega]
        simp only [ayH, akF, oO, oV, eG i (by omega), eW i (by omega)]
       .rw [eR i (by omega), show m + 1 - 1 - i = (m - 1 - i) + 1 from by omega]
        exact hh i (by omega)) (by rw [oG, oW]; exact c2)
   rw [aJo, show m + (l.length + 1) = m + 1 + l.length from by omega]
   exact this
end
section
variable {P : Program} {ops : Array Oper} {an : Ann} {g0 : Env} {w0 : aLl} {O : Nat -> Oper} {G : Nat -> Env} {W : Nat -> aLl} {V : Nat -> aLm}
def Ri (n : Nat) (O : Nat -> Oper) (V : Nat -> aLm) (g0 : Env) (S : Nat -> Prop) (g : Env) : Prop :=
 ∀ s, (∃ j, j < n /\ S j /\ (O j).dst = some s /\ (∀ k, k < n -> S k -> (O k).dst = some s -> k <= j) /\ g s = V j) ∨
   ((∀ j, j < n -> S j -> (O j).dst ≠ some s) /\ g s = g0 s)
theorem Ri.agree {n : Nat} {S T : Nat -> Prop} {g g' : Env} (h : Ri n O V g0 S g) (h' : Ri n O V g0 T g') (s : Nat)
 (hs : ∀ j, j < n -> (O j).dst = some s -> (S j ↔ T j)) : g s = g' s := by
 rcases h s with ⟨j, h1, h2, h3, h4, h5⟩ | ⟨h1, h2⟩ <;> rcases h' s with ⟨k, k1, k2, k3, k4, k5⟩ | ⟨k1, k2⟩
 .have a := h4 k k1 ((hs k k1 k3).2 k2) k3
  have b := k4 j h1 ((hs j h1 h3).1 h2) h3
  have : j = k := by omega
  subst this; rw [h5, k5]
 .exact absurd h3 (k1 j h1 ((hs j h1 h3).1 h2))
 .exact absurd k3 (h1 k k1 ((hs k k1 k3).2 k2))
 .rw [h2, k2]
theorem Ri.step {n : Nat} {S : Nat -> Prop} {g : Env} (h : Ri n O V g0 S g) (i : Nat) (hi : i < n)
 (hw : ∀ s, (O i).dst = some s -> ∀ j, j < n -> j ≠ i -> (O j).dst = some s -> S j -> j < i) :
 Ri n O V g0 (fun j => S j ∨ j = i) (put g (O i).dst (V i)) := by
 intro s
 cases hd : (O i).dst with
 | none =>
   rcases h s with ⟨j, h1, h2, h3, h4, h5⟩ | ⟨h1, h2⟩
   .refine .inl ⟨j, h1, .inl h2, h3, fun k k1 k2 k3 => ?_, h5⟩
    rcases k2 with k2 | rfl
    .exact h4 k k1 k2 k3
    .rw [hd] at k3; cases k3
   .refine .inr ⟨fun j h3 h4 h5 => ?_, h2⟩
    rcases h4 with h4 | rfl
    .exact h1 j h3 h4 h5
    .rw [hd] at h5; cases h5
 | some t =>
   rw [aqE]
   by_cases hst : s = t
   .subst hst
    rw [if_pos rfl]
    refine .inl ⟨i, hi, .inr rfl, hd, fun k k1 k2 k3 => ?_, rfl⟩
    rcases k2 with k2 | rfl
    .by_cases hk : k = i
     .omega
     .have := hw s hd k k1 hk k3 k2; omega
    .omega
   .rw [if_neg hst]
    rcases h s with ⟨j, h1, h2, h3, h4, h5⟩ | ⟨h1, h2⟩
    .refine .inl ⟨j, h1, .inl h2, h3, fun k k1 k2 k3 => ?_, h5⟩
     rcases k2 with k2 | rfl
     .exact h4 k k1 k2 k3
     .rw [hd] at k3; exact absurd (aJj k3).symm hst
    .refine .inr ⟨fun j h3 h4 h5 => ?_, h2⟩
     rcases h4 with h4 | rfl
     .exact h1 j h3 h4 h5
     .rw [hd] at h5; exact absurd (aJj h5).symm hst
theorem Run.envFor {n : Nat} (r : Run P ops an g0 w0 n O G W V) : ∀ i, i <= n -> Ri n O V g0 (fun j => j < i) (G i) := by
 intro i
 induction i with
 | zero => intro _ s; exact .inr ⟨fun j _ h => absurd h (by omega), by rw [r.g0]⟩
 | succ i ih =>
   intro hi
   have h := ih (by omega)
   have := h.step (V := V) i (by omega) (fun s _ j _ _ _ hj => hj)
   rw [<- r.env i (by omega)] at this
   intro s
   rcases this s with ⟨j, h1, h2, h3, h4, h5⟩ | ⟨h1, h2⟩
   .exact .inl ⟨j, h1, by omega, h3, fun k k1 k2 k3 => h4 k k1 (by omega) k3, h5⟩
   .exact .inr ⟨fun j a b => h1 j a (by omega), h2⟩
theorem Run.still {n : Nat} (r : Run P ops an g0 w0 n O G W V) (i : Nat) : ∀ d, i + d <= n -> (∀ h, i <= h -> h < i + d -> tZ h an.1 = false) -> W (i + d) = W i := by
 intro d
 induction d with
 | zero => intro _ _; rfl
 | succ d ih =>
   intro h1 h2
   rw [<- aKn, r.light (i + d) (by omega) (h2 _ (by omega) (by omega))]
   exact ih (by omega) (fun h a b => h2 h a (by omega))
theorem Run.still' {n : Nat} (r : Run P ops an g0 w0 n O G W V) {i k : Nat} (hik : i <= k) (hk : k <= n) (hh : ∀ h, i <= h -> h < k -> tZ h an.1 = false) : W k = W i := by
 have := r.still i (k - i) (by omega) (fun h a b => hh h a (by omega))
 rwa [show i + (k - i) = k from by omega] at this
theorem ayX {i k : Nat} : (∃ h, i <= h /\ h < k /\ tZ h an.1 = true) -> ∃ h, i <= h /\ h < k /\ tZ h an.1 = true /\ ∀ h', i <= h' -> h' < h -> tZ h' an.1 = false := by
 rintro ⟨h, h1, h2, h3⟩
 induction h using Nat.strongRecOn with
 | _ h ih =>
   by_cases hx : ∃ h', i <= h' /\ h' < h /\ tZ h' an.1 = true
   .obtain ⟨h', a, b, c⟩ := hx
    exact ih h' b a (by omega) c
   .refine ⟨h, h1, h2, h3, fun h' a b => ?_⟩
    cases hm : tZ h' an.1
    .rfl
    .exact absurd ⟨h', a, b, hm⟩ hx
theorem apT {i k : Nat} : (∃ h, i <= h /\ h < k /\ tZ h an.1 = true) -> ∃ h, i <= h /\ h < k /\ tZ h an.1 = true /\ ∀ h', h < h' -> h' < k -> tZ h' an.1 = false := by
 rintro ⟨h, h1, h2, h3⟩
 induction hd : k - h using Nat.strongRecOn generalizing h with
 | _ d ih =>
   by_cases hx : ∃ h', h < h' /\ h' < k /\ tZ h' an.1 = true
   .obtain ⟨h', a, b, c⟩ := hx
    exact ih (k - h') (by omega) h' (by omega) b c rfl
   .refine ⟨h, h1, h2, h3, fun h' a b => ?_⟩
    cases hm : tZ h' an.1
    .rfl
    .exact absurd ⟨h', a, b, hm⟩ hx
structure aqP (ops : Array Oper) (an : Ann) (O : Nat -> Oper) (b : Array Nat) : Prop where
 back : ∀ i, i < ops.size -> ∀ e ∈ (O i).after, Region.binds .any e = true -> e.on < i
 closed : ∀ i j, i < ops.size -> j < ops.size -> bef b i j = true -> ∃ e ∈ (O j).after, Region.binds .any e = true /\ (e.on = i ∨ bef b i e.on = true)
 pair : ∀ i j, i < j -> j < ops.size -> Vt ops b an i j (O i) (O j) = true
 sel : ∀ i, i < ops.size -> ayC (O i) = false
 fn : ∀ i, i < ops.size -> aEw (O i) = true -> tZ i an.1 = true
theorem aCH (h : apA ops an = true) (ho : ∀ i, i < ops.size -> ops[i]? = some (O i)) : aqP ops an O (Region.before ops) := by
 unfold apA at h
 simp only [aJn] at h
 obtain ⟨⟨⟨⟨h1, h2⟩, h3⟩, h5⟩, h6⟩ := h
 refine ⟨fun i hi e he hb => ?_, fun i j hi hj hb => ?_, fun i j hij hj => ?_, fun i hi => ?_, fun i hi hf => ?_⟩
 .unfold atL at h1
  have := aJ1.1 h1 i (aJN.2 hi)
  rw [ho i hi] at this
  have := aKd.1 this e he
  simp only [hb, aJx, Bool.false_or] at this
  exact (aK8 (x := e.on) (y := i)) ▸ this
 .unfold avC at h2
  have := aJ1.1 (aJ1.1 h2 j (aJN.2 hj)) i (aJN.2 hi)
  rw [ho j hj] at this
  simp only [hb, aJx, Bool.false_or] at this
  obtain ⟨e, he, h⟩ := Array.any_eq_true'.1 this
  simp only [aJn, aKi] at h
  refine ⟨e, he, h.1, h.2.imp (fun h => aJI h) id⟩
 .unfold azY at h3
  have := aJ1.1 (aJ1.1 h3 j (aJN.2 hj)) i (aJN.2 hij)
  rw [ho i (by omega), ho j hj] at this
  exact this
 .have := aKd.1 h5 (O i) (aLh (ho i hi))
  simpa using this
 .have := aJ1.1 h6 i (aJN.2 hi)
  rw [ho i hi] at this
  simpa [hf] using this
theorem aFd {i j : Nat} : ∀ {l : List (Nat × Nat)}, arY i j l = true -> (i, j) ∈ l := by
 intro l
 induction l with
 | nil => intro h; cases h
 | cons p r ih =>
   obtain ⟨a, b⟩ := p
   intro h
   unfold arY at h
   cases ha : Nat.beq a i with
   | true =>
     simp only [ha] at h
     cases hb : Nat.beq b j with
     | true =>
       obtain rfl := aJI ha
       obtain rfl := aJI hb
       exact aJ6
     | false => simp only [hb] at h; exact aJi _ (ih h)
   | false => simp only [ha] at h; exact aJi _ (ih h)
theorem aqP.order {b : Array Nat} (st : aqP ops an O b) {S : Nat -> Prop} {i : Nat} (hi : i < ops.size)
 (hdown : ∀ j k, j < ops.size -> k < ops.size -> S k -> bef b j k = true -> S j) (hbi : ∀ j, j < ops.size -> bef b j i = true -> S j) (hni : ¬ S i)
 {s : Nat} (hs : s ∈ looks ops (O i) ∨ (O i).dst = some s) {j : Nat} (hj : j < ops.size) (hji : j ≠ i) (hd : (O j).dst = some s) : S j ↔ j < i := by
 rcases aJl j i with h | h
 .refine ⟨fun _ => h, fun _ => ?_⟩
  have p := st.pair j i h hi
  unfold Vt at p
  simp only [aKi, aJn, aKG] at p
  rcases p with p | p
  .exact hbi j hj p
  .exfalso
   have p1 := p.1
   unfold aEk at p1
   simp only [hd, aKV] at p1
   rcases hs with hs | hs
   .have := p1.1.1; simp [hs] at this
   .have := p1.1.2; simp [hs] at this
 .have h' : i < j := by omega
  refine ⟨fun hS => ?_, fun hh => by omega⟩
  exfalso
  have p := st.pair i j h' hj
  unfold Vt at p
  simp only [aKi, aJn, aKG] at p
  rcases p with p | p
  .exact hni (hdown i j hi hj hS p)
  .have p1 := p.1
   unfold aEk at p1
   simp only [hd, aKV] at p1
   rcases hs with hs | hs
   .have := p1.2; simp [hs] at this
   .have := p1.1; rw [hs] at this; simp at this
theorem P1 {g g' : Env} {o : Oper} (h : ∀ s ∈ looks ops o, g s = g' s) : ∀ x ∈ o.op.operands, ev g x = ev g' x := by
 intro x hx
 cases x with
 | tmp t => exact h t (aKv _ (List.mem_filterMap.2 ⟨.tmp t, by simpa using hx, rfl⟩))
 | _ => rfl
theorem azM {g g' : Env} {o : Oper} (hs : ayC o = false) (h : ∀ s ∈ looks ops o, g s = g' s) : PL g o = PL g' o := by
 have e := execOp_congr o (fun cs b he => by simp [ayC, he] at hs) (P1 h)
 have k := P1 h
 unfold PL
 split
 .rename_i op t x y yt hx
  rw [k x (by simp [hx, Op.operands]), k y (by simp [hx, Op.operands])]
 .rename_i t ps hx
  congr 1
  refine aKp fun p hp => ?_
  rw [k p.2 (by simp [hx, Op.operands]; exact ⟨p.1, by simpa using hp⟩)]
 .rename_i t n ps hx
  congr 1
  refine aKp fun p hp => ?_
  rw [k p.2 (by simp [hx, Op.operands]; exact ⟨p.1, by simpa using hp⟩)]
 .rename_i c hx
  split
  .rename_i b hb
   congr 1
   refine aKp fun p hp => ?_
   exact k p (by simp [hx, Op.operands, Call.operands, hb]; simpa using hp)
  .exact e
 .exact e
theorem asT {g g' : Env} {o : Oper} {j : Nat} {want : Bool} (hg : o.guard = some (j, want)) (h : ∀ s ∈ looks ops o, g s = g' s) :
 Cg g (Gr ops j) want = Cg g' (Gr ops j) want := by
 cases hs : Gr ops j with
 | none => rfl
 | some t =>
   have := h t (aKR _ (by simp [hg, hs]))
   simp [Cg, this]
theorem Zs {g g' : Env} {o : Oper} {w : aLl} {K : aLm -> aLl -> Prop} (hs : ayC o = false) (h : ∀ s ∈ looks ops o, g s = g' s)
 (hk : KG P ops g o w K) : KG P ops g' o w K := by
 have e := azM (ops := ops) hs h
 have run : M7 P g o w = M7 P g' o w := by
  funext K
  unfold M7
  split
  .rename_i x hx
   have := P1 (ops := ops) h x (by simp [hx, Op.operands])
   rw [this]
  .rename_i x hx
   have := P1 (ops := ops) h x (by simp [hx, Op.operands])
   rw [this]
  .rename_i c hx
   have k := P1 h
   have : List.map (ev g) c.args.toList = List.map (ev g') c.args.toList := aKp fun p hp => k p (by simp [hx, Op.operands, Call.operands]; exact .inr (by simpa using hp))
   rw [this, e]
  .rw [e]
 unfold KG at *
 cases hg : o.guard with
 | none => rw [hg] at hk; simp only at hk ⊢; rwa [<- run]
 | some p =>
   obtain ⟨j, want⟩ := p
   simp only [hg] at hk ⊢
   rw [<- run, <- asT hg h]
   exact hk
theorem azR {n : Nat} (hn : n = ops.size) {b : Array Nat} (r : Run P ops an g0 w0 n O G W V) (st : aqP ops an O b) {S : Nat -> Prop} {i k : Nat} (hi : i < n) (hk : k <= n)
 (hdown : ∀ j k, j < ops.size -> k < ops.size -> S k -> bef b j k = true -> S j) (hbi : ∀ j, j < ops.size -> bef b j i = true -> S j) (hni : ¬ S i)
 (hS : ∀ h, h < n -> tZ h an.1 = true -> (S h ↔ h < k)) (hl : tZ i an.1 = false) :
 akC P ops (G i) (O i) (W k) (V i) (W k) := by
 subst hn
 have same : Gs (gOf ops (O i) (G i)) (dS P (PL (G i) (O i)) (V i) (W k)) -> Q1 (O i) = false -> akC P ops (G i) (O i) (W k) (V i) (W k) := by
  intro hs hm K hK
  have run : dS P (PL (G i) (O i)) (V i) (W k) -> M7 P (G i) (O i) (W k) K := by
   intro hs
   unfold dS at hs
   have stp : aC P (PL (G i) (O i)) (W k) K := by unfold aC; rw [hs]; exact hK
   unfold M7
   split
   .rename_i x hx; simp [Q1, hx] at hm
   .rename_i x hx; simp [Q1, hx] at hm
   .rename_i c hx
    have hf : aEw (O i) = false := by
     cases hh : aEw (O i)
     .rfl
     .rw [st.fn i hi hh] at hl; cases hl
    obtain ⟨cal, cargs, cats⟩ := c
    cases cal with
    | value f =>
      cases f with
      | func f => simp [aEw, hx] at hf
      | _ => exact stp
    | _ => exact stp
   .exact stp
  have hy := r.yld i hi (fun v _ => v = V i) rfl
  unfold KG at hy ⊢
  unfold gOf at hs
  cases hg : (O i).guard with
  | none => rw [hg] at hs; exact run hs
  | some p =>
    obtain ⟨j, want⟩ := p
    rw [hg] at hs
    simp only [hg] at hs hy ⊢
    cases hb : Cg (G i) (Gr ops j) want with
    | true => rw [hb] at hs; exact run hs
    | false =>
      rw [hb] at hy
      have : undef = V i := hy
      show K undef (W k)
      rw [this]; exact hK
 have moved : Q1 (O i) = true -> akC P ops (G i) (O i) (W k) (V i) (W k) := by
  intro hm K hK
  have hy := r.yld i hi (fun v _ => v = V i) rfl
  unfold KG at hy ⊢
  have mv : ∀ (K' : aLm -> aLl -> Prop) w, M7 P (G i) (O i) w K' ↔ ∃ x, ((O i).op = .move x ∨ (O i).op = .assign x) /\ K' (ev (G i) x) w := by
   intro K' w
   unfold M7
   unfold Q1 at hm
   split
   .rename_i x hx; constructor
    .intro h; exact ⟨x, .inl hx, h⟩
    .rintro ⟨y, h | h, h'⟩
     .rw [hx] at h; cases h; exact h'
     .rw [hx] at h; cases h
   .rename_i x hx; constructor
    .intro h; exact ⟨x, .inr hx, h⟩
    .rintro ⟨y, h | h, h'⟩
     .rw [hx] at h; cases h
     .rw [hx] at h; cases h; exact h'
   .rename_i c hx; simp [hx] at hm
   .rename_i h1 h2 _; split at hm
    .rename_i x hx; exact absurd hx (h1 x)
    .rename_i x hx; exact absurd hx (h2 x)
    .cases hm
  cases hg : (O i).guard with
  | none =>
    rw [hg] at hy
    simp only at hy ⊢
    rw [mv] at hy ⊢
    obtain ⟨x, hx, h⟩ := hy
    exact ⟨x, hx, h ▸ hK⟩
  | some p =>
    obtain ⟨j, want⟩ := p
    simp only [hg] at hy ⊢
    unfold Gd at *
    cases hb : Cg (G i) (Gr ops j) want with
    | true =>
      simp only [hb] at hy ⊢
      rw [mv] at hy ⊢
      obtain ⟨x, hx, h⟩ := hy
      exact ⟨x, hx, h ▸ hK⟩
    | false =>
      simp only [hb] at hy ⊢
      rwa [hy]
 rcases Nat.le_total k i with hki | hki
 .by_cases hx : ∃ h, k <= h /\ h < i /\ tZ h an.1 = true
  .obtain ⟨h, h1, h2, h3, h4⟩ := ayX hx
   have e : W h = W k := r.still' h1 (by omega) h4
   have p := st.pair h i h2 hi
   unfold Vt at p
   simp only [aKi, aJn, aKG] at p
   rcases p with p | p
   .have := hbi h (by omega) p
    have := (hS h (by omega) h3).1 this
    omega
   .have p2 := p.2
    rw [h3, hl] at p2
    simp only [aKi] at p2
    cases hmv : Q1 (O i) with
    | true => exact moved hmv
    | false =>
      rcases p2 with p2 | p2
      .rw [hmv] at p2; cases p2
      .refine same ?_ hmv
       have c := r.chk h i h2 hi p2
       unfold aCu Za akF at c
       simp only [h3] at c
       rw [<- e]; exact c
  .have e : W i = W k := r.still' hki (by omega) (fun h a b => by
    cases hm : tZ h an.1
    .rfl
    .exact absurd ⟨h, a, b, hm⟩ hx)
   have hy := r.yld i hi
   rw [r.light i hi hl, e] at hy
   exact hy
 .by_cases hx : ∃ h, i <= h /\ h < k /\ tZ h an.1 = true
  .obtain ⟨h, h1, h2, h3, h4⟩ := apT hx
   have hne : h ≠ i := fun e => by rw [e, hl] at h3; cases h3
   have e : W k = W (h + 1) := r.still' (by omega) hk (fun h' a b => h4 h' (by omega) b)
   have p := st.pair i h (by omega) (by omega)
   unfold Vt at p
   simp only [aKi, aJn, aKG] at p
   rcases p with p | p
   .exact absurd (hdown i h (by omega) (by omega) ((hS h (by omega) h3).2 h2) p) hni
   .have p2 := p.2
    rw [h3, hl] at p2
    simp only [aKi] at p2
    cases hmv : Q1 (O i) with
    | true => exact moved hmv
    | false =>
      rcases p2 with p2 | p2
      .rw [hmv] at p2; cases p2
      .refine same ?_ hmv
       have c := r.chk i h (by omega) (by omega) p2
       unfold aCu Za akF at c
       simp only [hl] at c
       rw [e]; exact c
  .have e : W k = W i := r.still' hki hk (fun h a b => by
    cases hm : tZ h an.1
    .rfl
    .exact absurd ⟨h, a, b, hm⟩ hx)
   have hy := r.yld i hi
   rw [r.light i hi hl, <- e] at hy
   exact hy
def pU (listed : Array Bool) (i : Nat) : Prop := listed.getD i false = true
theorem aEI {N n : Nat} (hn : n = ops.size) (hd : arQ N ops) (hca : acK P ops) {b : Array Nat} (r : Run P ops an g0 w0 n O G W V) (st : aqP ops an O b)
 {Q : Exit -> Act -> aLl -> Prop} (hQ : ∀ a, VY N (G n) a -> Q .normal a (W n)) :
 ∀ (fuel : Nat) (listed : Array Bool) (g : Env) (a : Act) (k : Nat), listed.size = n -> VY N g a -> k <= n →
   (∀ j, j < n -> pU listed j -> ∀ e ∈ (O j).after, Region.binds .any e = true -> pU listed e.on) →
   Ri n O V g0 (pU listed) g -> (∀ h, h < n -> tZ h an.1 = true -> (pU listed h ↔ h < k)) →
   ((List.range n).filter fun i => !listed.getD i false).length <= fuel →
   wpAny P .any ops Q fuel listed a (W k) := by
 subst hn
 have ready_iff : ∀ (listed : Array Bool), listed.size = ops.size -> ∀ i, i ∈ Region.ready .any ops listed ↔ (i < ops.size /\ ¬ pU listed i /\ ∀ e ∈ (O i).after, Region.binds .any e = true -> pU listed e.on) := by
  intro listed hsz i
  unfold Region.ready pU
  rw [aLi, aJN]
  constructor
  .rintro ⟨h1, h2⟩
   rw [r.op i h1] at h2
   simp only [aJn, aJL, aLg] at h2
   refine ⟨h1, ?_, fun e he hb => ?_⟩
   .have := h2.1
    rw [aJf] at this ⊢
    rw [aJD (by omega)] at this ⊢
    simpa using this
   .have := aKd.1 h2.2 e he
    simpa [hb] using this
  .rintro ⟨h1, h2, h3⟩
   refine ⟨h1, ?_⟩
   rw [r.op i h1]
   simp only [aJn, aJL, aLg]
   refine ⟨?_, aKd.2 fun e he => ?_⟩
   .rw [aJf] at h2 ⊢
    rw [aJD (by omega)] at h2 ⊢
    simpa using h2
   .by_cases hb : Region.binds .any e = true
    .simp [hb, h3 e he hb]
    .simp [hb]
 have none_ready : ∀ (listed : Array Bool), listed.size = ops.size -> Region.ready .any ops listed = [] -> ∀ i, i < ops.size -> pU listed i := by
  intro listed hsz hr i
  induction i using Nat.strongRecOn with
  | _ i ih =>
    intro hi
    refine Classical.byContradiction fun hl => ?_
    have : i ∈ Region.ready .any ops listed := (ready_iff listed hsz i).2 ⟨hi, hl, fun e he hb => by
     have := st.back i hi e he hb
     exact ih e.on this (by omega)⟩
    rw [hr] at this; cases this
 have all_done : ∀ (listed : Array Bool) (g : Env) (a : Act) (k : Nat), VY N g a -> k <= ops.size -> Ri ops.size O V g0 (pU listed) g →
     (∀ h, h < ops.size -> tZ h an.1 = true -> (pU listed h ↔ h < k)) -> (∀ i, i < ops.size -> pU listed i) -> Q .normal a (W k) := by
  intro listed g a k hr hk he hh hall
  have e : W ops.size = W k := r.still' hk (aI9 _) (fun h h1 h2 => by
   cases hm : tZ h an.1
   .rfl
   .have := (hh h h2 hm).1 (hall h h2); omega)
  have eg : g = G ops.size := funext fun s => he.agree (r.envFor ops.size (aI9 _)) s (fun j hj _ => ⟨fun _ => hj, fun _ => hall j hj⟩)
  rw [<- e]; exact hQ a (eg ▸ hr)
 intro fuel
 induction fuel with
 | zero =>
   intro listed g a k hsz hr hk hdep henv hh hc
   have hall : ∀ i, i < ops.size -> pU listed i := by
    intro i hi
    have hnil : ((List.range ops.size).filter fun i => !listed.getD i false) = [] := aJr.1 (by omega)
    have := List.filter_eq_nil_iff.1 hnil i (aJN.2 hi)
    unfold pU; simpa using this
   refine ⟨?_, all_done listed g a k hr hk henv hh hall⟩
   rw [List.eq_nil_iff_forall_not_mem]
   intro i hi
   have := (ready_iff listed hsz i).1 hi
   exact this.2.1 (hall i this.1)
 | succ fuel ih =>
   intro listed g a k hsz hr hk hdep henv hh hc
   refine ⟨fun hn => all_done listed g a k hr hk henv hh (none_ready listed hsz hn), fun i hi => ?_⟩
   obtain ⟨h1, h2, h3⟩ := (ready_iff listed hsz i).1 hi
   have hdown : ∀ k j, j < ops.size -> k < ops.size -> pU listed k -> bef b j k = true -> pU listed j := by
    intro k
    induction k using Nat.strongRecOn with
    | _ k ihk =>
      intro j hj hk hl hb
      obtain ⟨e, he, hbi, h⟩ := st.closed j k hj hk hb
      have hle := hdep k hk hl e he hbi
      rcases h with h | h
      .exact h ▸ hle
      .have hlt := st.back k hk e he hbi
       exact ihk e.on hlt j hj (by omega) hle h
   have hbi : ∀ j, j < ops.size -> bef b j i = true -> pU listed j := by
    intro j hj hb
    obtain ⟨e, he, hbi, h⟩ := st.closed j i hj h1 hb
    have hle := h3 e he hbi
    rcases h with h | h
    .exact h ▸ hle
    .have hlt := st.back i h1 e he hbi
     exact hdown e.on j hj (by omega) hle h
   have hdown' : ∀ j k, j < ops.size -> k < ops.size -> pU listed k -> bef b j k = true -> pU listed j := fun j k => hdown k j
   have hlooks : ∀ s ∈ looks ops (O i), (G i) s = g s := fun s hs =>
    (r.envFor i (by omega)).agree henv s (fun j hj hd => by
      by_cases hji : j = i
      .subst hji
       exact ⟨fun h => absurd h (by omega), fun h => absurd h h2⟩
      .exact (st.order h1 hdown' hbi h2 (.inl hs) hj hji hd).symm)
   have hl' : ∀ j, pU (listed.setIfInBounds i true) j ↔ (pU listed j ∨ j = i) := by
    intro j
    unfold pU
    rw [aJf, aJf]
    by_cases hji : j = i
    .subst hji
     rw [aJ0 (by omega)]
     simp
    .rw [aJ5 (fun e => hji e.symm)]
     simp [hji]
   have next : ∀ k', k' <= ops.size -> (∀ h, h < ops.size -> tZ h an.1 = true -> ((pU listed h ∨ h = i) ↔ h < k')) -> akC P ops g (O i) (W k) (V i) (W k') →
       wpOp P ops Q i (wpAny P .any ops Q fuel (listed.setIfInBounds i true)) a (W k) := by
    intro k' hk' hh' hy
    refine akR (r.op i h1) (hca i _ (r.op i h1)) hr hy ?_
    refine ih _ (put g (O i).dst (V i)) _ k' (by simp [hsz]) (hr.put _ _ (hd i _ (r.op i h1))) hk' ?_ ?_ ?_ ?_
    .intro j hj hlj e he hb
     rw [hl'] at hlj ⊢
     rcases hlj with hlj | rfl
     .exact .inl (hdep j hj hlj e he hb)
     .exact .inl (h3 e he hb)
    .have := henv.step i h1 (fun s hs j hj hji hd hlj => (st.order h1 hdown' hbi h2 (.inr hs) hj hji hd).1 hlj)
     intro s
     rcases this s with ⟨j, j1, j2, j3, j4, j5⟩ | ⟨j1, j2⟩
     .exact .inl ⟨j, j1, (hl' j).2 j2, j3, fun k k1 k2 k3 => j4 k k1 ((hl' k).1 k2) k3, j5⟩
     .exact .inr ⟨fun j a b => j1 j a ((hl' j).1 b), j2⟩
    .intro h a b; rw [hl']; exact hh' h a b
    .have hin : i ∈ (List.range ops.size).filter fun i => !listed.getD i false :=
      aLi.2 ⟨aJN.2 h1, by unfold pU at h2; simpa using h2⟩
     have e1 : ((List.range ops.size).filter fun j => !(listed.setIfInBounds i true).getD j false) = ((List.range ops.size).filter fun j => !listed.getD j false).filter fun j => j != i := by
      rw [List.filter_filter]
      refine List.filter_congr fun j _ => ?_
      have := hl' j
      unfold pU at this
      by_cases hji : j = i
      .have hh : (listed.setIfInBounds i true).getD j false = true := this.2 (.inr hji)
       rw [hh, hji]; simp
      .have hne : (j != i) = true := by simpa using hji
       rw [hne, Bool.true_and]
       cases ha : listed.getD j false with
       | true => rw [this.2 (.inl ha)]
       | false =>
         cases hb : (listed.setIfInBounds i true).getD j false with
         | false => rfl
         | true => rcases this.1 hb with h | h
                   .rw [ha] at h; cases h
                   .exact absurd h hji
     have hnd : ((List.range ops.size).filter fun j => !listed.getD j false).Nodup := List.nodup_range.filter _
     rw [e1, <- List.Nodup.erase_eq_filter hnd, aK4 hin]
     omega
   cases hm : tZ i an.1 with
   | true =>
     have hS : ∀ h, h < ops.size -> tZ h an.1 = true -> (pU listed h ↔ h < i) := by
      intro h hh1 hhm
      rcases aKy h i with hlt | heq | hgt
      .refine ⟨fun _ => hlt, fun _ => ?_⟩
       have p := st.pair h i hlt h1
       unfold Vt at p
       rw [hhm, hm] at p
       simp only [aKi, aJn, aI5, and_false, or_false] at p
       exact hbi h hh1 p
      .subst heq; exact ⟨fun hh => absurd hh h2, fun hh => absurd hh (by omega)⟩
      .refine ⟨fun hl => ?_, fun hh => absurd hh (by omega)⟩
       have p := st.pair i h hgt hh1
       unfold Vt at p
       rw [hhm, hm] at p
       simp only [aKi, aJn, aI5, and_false, or_false] at p
       exact absurd (hdown h i h1 hh1 hl p) h2
     have eW : W k = W i := by
      rcases Nat.le_total k i with hki | hki
      .exact (r.still' hki (by omega) (fun h a b => by
        cases hx : tZ h an.1
        .rfl
        .have := (hh h (by omega) hx).1 ((hS h (by omega) hx).2 b); omega)).symm
      .exact r.still' hki hk (fun h a b => by
        cases hx : tZ h an.1
        .rfl
        .have := (hS h (by omega) hx).1 ((hh h (by omega) hx).2 b); omega)
     refine next (i + 1) (by omega) (fun h a b => ?_) ?_
     .rw [hS h a b]; omega
     .rw [eW]
      intro K hK
      exact Zs (ops := ops) (st.sel i h1) hlooks (r.yld i h1 K hK)
   | false =>
     refine next k hk (fun h a b => ?_) ?_
     .rw [<- hh h a b]
      constructor
      .rintro (h' | rfl)
       .exact h'
       .rw [hm] at b; cases b
      .exact .inl
     .intro K hK
      exact Zs (ops := ops) (st.sel i h1) hlooks (azR rfl r st h1 hk hdown' hbi h2 hh hm K hK)
end
def wpF (P : Program) (f : FuncId) (c : Code) (Q : Exit -> Act -> aLl -> Prop) (a : Act) (w : aLl) : Prop :=
 ∀ (b : Frame) (k : List Item) (cs : List Frame), b.fn = f -> ∃ e a' w', Q e a' w' /\ Arrives P (lone (b.at a (.code c :: k)) cs w) b k cs e a' w'
section
variable {P : Program} {f : FuncId} {Q : Exit -> Act -> aLl -> Prop} {a : Act} {w : aLl}
theorem apQ {c : Code} (h : c.wp P Q a w) : wpF P f c Q a w := fun b k cs _ => h b k cs
theorem aFO {x y : Code} (h : wpF P f x (Exit.then (wpF P f y Q) Q) a w) : wpF P f (.seq x y) Q a w := by
 intro b k cs hb
 obtain ⟨e, a1, w1, hq, har⟩ := h b (.code y :: k) cs hb
 cases e with
 | normal =>
   obtain ⟨e2, a2, w2, hq2, har2⟩ := hq b k cs hb
   exact ⟨e2, a2, w2, hq2, .of_steps (.head step_seq har) har2⟩
 | _ => exact ⟨_, a1, w1, hq, .of_steps (.one step_seq) (.pass (x := .code y) rfl (fun _ _ => .inl (by simp)) har)⟩
theorem aEY {c : Operand} {x y : Code} {t : Bool} (hc : a.eval c = .bool t) (h : wpF P f (if t then x else y) Q a w) : wpF P f (.cond c x y) Q a w :=
 fun b k cs hb => let ⟨e, a1, w1, q, r⟩ := h b k cs hb; ⟨e, a1, w1, q, .of_steps (.one (step_cond hc)) r⟩
theorem aDm {id : Nat} {c : Code} (h : wpF P f c (Exit.inBlock id Q) a w) : wpF P f (.block id c) Q a w := by
 intro b k cs hb
 obtain ⟨e, a1, w1, hq, har⟩ := h b (.inBlock id :: k) cs hb
 cases e with
 | normal => exact ⟨.normal, a1, w1, hq, .head step_block (Steps.trans har (.one step_inBlock))⟩
 | exit i =>
   by_cases hid : i = id
   .simp only [Exit.inBlock, hid, if_true] at hq
    exact ⟨.normal, a1, w1, hq, .head step_block (har k (by simp [exitTo, hid]))⟩
   .simp only [Exit.inBlock, hid, if_false] at hq
    refine ⟨.exit i, a1, w1, hq, fun k' hk => .head step_block (har k' ?_)⟩
    have : (id == i) = false := by simp; exact fun h => hid h.symm
    simp [exitTo, this, hk]
 | goto l => exact ⟨_, a1, w1, hq, fun k' hk => .head step_block (har k' (by simp [gotoIn, hk]))⟩
 | outgrown => exact ⟨_, a1, w1, hq, .of_steps (b := b) (k := k) (cs := cs) (e := .outgrown) (.one step_block) har⟩
 | _ => exact ⟨_, a1, w1, hq, .of_steps (.one step_block) har⟩
theorem aDu {c : Code} (h : wpF P f c (Exit.noGoto Q) a w) : wpF P f (.scope c) Q a w := by
 intro b k cs hb
 obtain ⟨e, a1, w1, hq, har⟩ := h b (.inScope c :: k) cs hb
 cases e with
 | normal => exact ⟨.normal, a1, w1, hq, .head step_scope (Steps.trans har (.one step_inScope))⟩
 | exit id => exact ⟨.exit id, a1, w1, hq, fun k' hk => .head step_scope (har k' (by simp [exitTo, hk]))⟩
 | goto l => exact hq.elim
 | _ => exact ⟨_, a1, w1, hq, .of_steps (.one step_scope) har⟩
theorem aD7 {c : Code} (I : Act -> aLl -> Prop) (μ : Act -> aLl -> Nat) (h0 : I a w)
 (round : ∀ a w, I a w -> wpF P f c (Exit.then (fun a' w' => I a' w' /\ μ a' w' < μ a w) Q) a w) : wpF P f (.loop c) Q a w := by
 intro b k cs hb
 have key : ∀ n a w, μ a w = n -> I a w →
     ∃ e a' w', Q e a' w' /\ Arrives P (lone (b.at a (.code c :: .inLoop c :: k)) cs w) b k cs e a' w' := by
  intro n
  induction n using Nat.strongRecOn with
  | _ n ih =>
    intro a w hn hI
    obtain ⟨e, a1, w1, hq, har⟩ := round a w hI b (.inLoop c :: k) cs hb
    cases e with
    | normal =>
      obtain ⟨hI1, hlt⟩ := hq
      obtain ⟨e2, a2, w2, hq2, har2⟩ := ih (μ a1 w1) (hn ▸ hlt) a1 w1 rfl hI1
      exact ⟨e2, a2, w2, hq2, .of_steps (Steps.trans har (.one step_inLoop)) har2⟩
    | _ => exact ⟨_, a1, w1, hq, .pass (x := .inLoop c) rfl (fun _ _ => .inl (by simp)) har⟩
 obtain ⟨e, a', w', hq, har⟩ := key _ a w rfl h0
 exact ⟨e, a', w', hq, .of_steps (.one step_loop) har⟩
theorem amG (hm : P.follows .mixedOrders = true) {id : Nat} {ops : Array Oper}
 (h : wpOps P ops Q (Region.schedule true ops (w.tape w.drawn (.order f id))) a { w with drawn := w.drawn + 1 }) : wpF P f (.region id ops true) Q a w := by
 intro b k cs hb
 obtain ⟨e, a1, w1, q, r⟩ := wp_ops _ a _ h b k cs
 refine ⟨e, a1, w1, q, .of_steps (.one ?_) r⟩
 have := @step_region_draw P b a k cs w ops id
 rw [hm, hb] at this
 exact this
theorem awO {fn : Func} {c : Code} {args : Array aLm} {w : aLl} {R : Ending -> aLl -> Prop}
 (hf : P.funcs[f]? = some fn) (hb : fn.body = some c)
 (h : wpF P f c (bodyPost P fn R) { tmps := args ++ Array.replicate (fn.ntmps - args.size) undef, defers := [] } w) : Calls P f args w R := by
 intro cs
 let b : Frame := { (default : Frame) with fn := f, kind := .normal }
 have henter : Frame.enter P f args .normal = b.at { tmps := args ++ Array.replicate (fn.ntmps - args.size) undef, defers := [] } [.code c] := by
  simp [Frame.enter, Frame.at, hf, hb, b]
 obtain ⟨e, a', w', hq, har⟩ := h b [] cs rfl
 rw [<- henter] at har
 cases e with
 | normal =>
   obtain ⟨hd, v, hr, hR⟩ := hq
   exact ⟨.returned v, w', _, hR, Steps.trans har (.one step_end), rfl, rfl, hd, rfl, fn, hf, hr⟩
 | ret =>
   obtain ⟨hd, v, hr, hR⟩ := hq
   obtain ⟨todo, hs⟩ := har
   exact ⟨.returned v, w', _, hR, hs, rfl, rfl, hd, rfl, fn, hf, hr⟩
 | panic chain =>
   obtain ⟨hd, hR⟩ := hq
   obtain ⟨todo, hs⟩ := har
   exact ⟨.panicked chain, w', _, hR, hs, rfl, rfl, hd, fn, hf⟩
 | exit id => exact hq.elim
 | goto l => exact hq.elim
 | outgrown => exact ⟨.outgrown, w', b, hq, har.resolve_left (by simp [b]), rfl, trivial⟩
end
def avM (ops : Array Oper) : Nat -> Array Bool -> List Nat -> Prop
 | 0, _, L => L = []
 | _ + 1, listed, [] => Region.ready .any ops listed = []
 | n + 1, listed, i :: L => i ∈ Region.ready .any ops listed /\ avM ops n (listed.setIfInBounds i true) L
section
variable {P : Program} {ops : Array Oper} {Q : Exit -> Act -> aLl -> Prop}
theorem aGg : ∀ (fuel t : Nat) (listed : Array Bool), avM ops fuel listed (Region.linearise.go .any ops fuel t listed []) := by
 intro fuel
 induction fuel with
 | zero => intro t listed; simp [Region.linearise.go, avM]
 | succ fuel ih =>
   intro t listed
   simp only [Region.linearise.go]
   change avM ops (fuel + 1) listed (match (Region.ready .any ops listed)[t % (Region.ready .any ops listed).length]? with
    | some i => Region.linearise.go .any ops fuel (t / (Region.ready .any ops listed).length) (listed.setIfInBounds i true) [i]
    | none => [].reverse)
   cases hi : (Region.ready .any ops listed)[t % (Region.ready .any ops listed).length]? with
   | none =>
     have : Region.ready .any ops listed = [] := by
      cases hr : Region.ready .any ops listed with
      | nil => rfl
      | cons x xs =>
        rw [hr] at hi
        have hlt : t % (x :: xs).length < (x :: xs).length := aKj _ (by simp)
        rw [aI7 hlt] at hi
        cases hi
     simpa [avM] using this
   | some i =>
     simp only []
     rw [linearise_go_acc]
     exact ⟨aJX hi, ih _ _⟩
theorem aaN : ∀ (fuel : Nat) (listed : Array Bool) (L : List Nat) (a : Act) (w : aLl), wpAny P .any ops Q fuel listed a w -> avM ops fuel listed L -> wpOps P ops Q L a w := by
 intro fuel
 induction fuel with
 | zero => intro listed L a w h hL; obtain rfl : L = [] := hL; exact h.2
 | succ fuel ih =>
   intro listed L a w h hL
   cases L with
   | nil => exact h.1 hL
   | cons i L =>
     rw [wpOps_cons]
     exact wpOp_mono (fun a w hh => ih _ _ a w hh hL.2) (h.2 i hL.1)
end
structure Perm (π : List Nat) (ops : Array Oper) : Prop where
 len : π.length = ops.size
 to : ∀ i, i < ops.size -> AB π i < ops.size /\ π[AB π i]? = some i
 back : ∀ k, k < ops.size -> ∃ i, π[k]? = some i /\ AB π i = k /\ i < ops.size
 after : ∀ (i : Nat) (o : Oper), ops[i]? = some o -> ∀ e ∈ o.after, e.on < ops.size
 guard : ∀ (i : Nat) (o : Oper) (j : Nat) (b : Bool), ops[i]? = some o -> o.guard = some (j, b) -> j < ops.size
theorem aFR {π : List Nat} {ops : Array Oper} (h : aAT π ops = true) : Perm π ops := by
 unfold aAT at h
 simp only [aJn] at h
 obtain ⟨⟨⟨h1, h2⟩, h3⟩, h4⟩ := h
 have h1 := aJI h1
 have at4 : ∀ (i : Nat) (o : Oper), ops[i]? = some o -> (o.after.all fun e => Nat.blt e.on ops.size) = true /\ (match o.guard with | some (j, _) => Nat.blt j ops.size | none => true) = true := by
  intro i o ho
  have hi : i < ops.size := by
   rcases aJl i ops.size with h | h
   .exact h
   .rw [aKN h] at ho; cases ho
  have := aJ1.1 h4 i (aJN.2 hi)
  rw [ho] at this
  simp only [aJn] at this
  refine ⟨this.1, ?_⟩
  have h := this.2
  revert h
  cases o.guard <;> exact id
 refine ⟨h1, fun i hi => ?_, fun k hk => ?_, fun i o ho e he => ?_, fun i o j b ho hg => ?_⟩
 .have := aJ1.1 h3 i (aJN.2 hi)
  cases hp : π[AB π i]? with
  | none => rw [hp] at this; cases this
  | some j =>
    rw [hp] at this
    obtain rfl := aJI this
    refine ⟨?_, rfl⟩
    rcases aJl (AB π j) π.length with h | h
    .omega
    .rw [aJk h] at hp; cases hp
 .have := aJ1.1 h2 k (aJN.2 hk)
  cases hp : π[k]? with
  | none => rw [hp] at this; cases this
  | some i =>
    rw [hp] at this
    simp only [aJn] at this
    exact ⟨i, rfl, aJI this.1, (aK8 (x := i) (y := ops.size)) ▸ this.2⟩
 .have := aKd.1 (at4 i o ho).1 e he
  exact (aK8 (x := e.on) (y := ops.size)) ▸ this
 .have := (at4 i o ho).2
  rw [hg] at this
  exact (aK8 (x := j) (y := ops.size)) ▸ this
theorem atM {π : List Nat} {es : List (Nat × Nat)} {l : List Oper} : ∀ (r : List Nat), (∀ i ∈ r, i < l.length) -> (adO π es l r).length = r.length /\ ∀ k i : Nat, r[k]? = some i -> (adO π es l r)[k]? = (l[i]?).map (Lj π es i) := by
 intro r
 induction r with
 | nil => intro _; exact ⟨rfl, fun k i h => by simp at h⟩
 | cons j r ih =>
   intro h
   obtain ⟨h1, h2⟩ := ih fun i hi => h i (aJi _ hi)
   have hj : j < l.length := h j (by simp)
   simp only [adO, aI7 hj]
   refine ⟨by simp [h1], fun k i hk => ?_⟩
   cases k with
   | zero => simp at hk; subst hk; simp [aI7 hj]
   | succ k => simp at hk ⊢; exact h2 k i hk
section
variable {P : Program} {ops : Array Oper} {Q : Exit -> Act -> aLl -> Prop} {π : List Nat} {es : List (Nat × Nat)}
theorem Perm.mem (p : Perm π ops) : ∀ i ∈ π, i < ops.toList.length := by
 intro i hi
 obtain ⟨k, hk, e⟩ := aJy hi
 obtain ⟨j, h1, _, h2⟩ := p.back k (by rw [<- p.len]; exact hk)
 rw [aI7 hk] at h1
 cases h1
 rw [<- e]; simpa using h2
theorem Perm.size (p : Perm π ops) : (tS π es ops).size = ops.size := by
 unfold tS
 rw [List.size_toArray, (atM (es := es) (π := π) π p.mem).1, p.len]
theorem Perm.get (p : Perm π ops) {i : Nat} (hi : i < ops.size) : (tS π es ops)[AB π i]? = (ops[i]?).map (Lj π es i) := by
 unfold tS
 have := (atM (es := es) (π := π) π p.mem).2 (AB π i) i (p.to i hi).2
 rw [Array.getElem?_toList] at this
 simpa using this
theorem aDx {i : Nat} {o : Oper} {a : Act} {w : aLl} {K : Act -> aLl -> Prop} : (Lj π es i o).wp P a w K Q = o.wp P a w K Q := by
 unfold Oper.wp
 have : execOp a.eval (Lj π es i o) = execOp a.eval o := by
  obtain ⟨d, op, ty, ps, af, g⟩ := o
  cases op <;> rfl
 rw [this]
 generalize (execOp a.eval o).run P w = r
 cases r with
 | ok n w => cases n <;> rfl
 | halt x w => cases x <;> rfl
theorem aAw {i : Nat} {o : Oper} {a : Act} {w : aLl} : (Lj π es i o).asks P a w = o.asks P a w := by
 unfold Oper.asks
 have : execOp a.eval (Lj π es i o) = execOp a.eval o := by
  obtain ⟨d, op, ty, ps, af, g⟩ := o
  cases op <;> rfl
 rw [this]
theorem axY (p : Perm π ops) {i : Nat} {o : Oper} (ho : ops[i]? = some o) (tmps : Array aLm) :
 Region.wanted (Lj π es i o) (yielded (tS π es ops) tmps) = Region.wanted o (yielded ops tmps) := by
 unfold Region.wanted Lj
 simp only
 cases hg : o.guard with
 | none => rfl
 | some q =>
   obtain ⟨j, b⟩ := q
   simp only
   have hj := p.guard i o j b ho hg
   have : (tS π es ops)[AB π j]?.bind (·.dst) = (ops[j]?).bind (·.dst) := by
    rw [p.get hj]
    cases ops[j]? <;> rfl
   unfold yielded
   rw [this]
theorem aBF (p : Perm π ops) : ∀ (L : List Nat), (∀ i ∈ L, i < ops.size) -> ∀ (a : Act) (w : aLl), wpOps P (tS π es ops) Q (L.map (AB π)) a w -> wpOps P ops Q L a w := by
 intro L
 induction L with
 | nil => intro _ a w h; exact h
 | cons i L ih =>
   intro hL a w h
   rw [aKz, wpOps_cons] at h
   rw [wpOps_cons]
   have hi := hL i (by simp)
   have ih := ih fun i hi => hL i (aJi _ hi)
   unfold wpOp at h ⊢
   rw [p.get hi] at h
   rw [aJD hi] at h ⊢
   simp only [aJL] at h
   rw [axY p (aJD hi)] at h
   simp only
   split
   .rename_i hw
    rw [if_pos hw, aDx, aAw] at h
    exact h.imp (Oper.wp_mono fun a w => ih a w) id
   .rename_i hw
    rw [if_neg hw] at h
    exact ih _ _ h
theorem VV {ops : Array Oper} {listed : Array Bool} (hsz : listed.size = ops.size) (i : Nat) :
 i ∈ Region.ready .any ops listed ↔ (i < ops.size /\ listed.getD i false = false /\ ∀ o, ops[i]? = some o -> ∀ e ∈ o.after, Region.binds .any e = true -> listed.getD e.on false = true) := by
 unfold Region.ready
 rw [aLi, aJN]
 constructor
 .rintro ⟨h1, h2⟩
  rw [aJD h1] at h2
  simp only [aJn, aJL, aLg] at h2
  refine ⟨h1, ?_, fun o ho e he hb => ?_⟩
  .have := h2.1
   rw [aJf] at this ⊢
   rw [aJD (by omega)] at this ⊢
   simpa using this
  .rw [aJD h1] at ho
   cases ho
   have := aKd.1 h2.2 e he
   simpa [hb] using this
 .rintro ⟨h1, h2, h3⟩
  refine ⟨h1, ?_⟩
  rw [aJD h1]
  simp only [aJn, aJL, aLg]
  refine ⟨?_, aKd.2 fun e he => ?_⟩
  .rw [aJf] at h2 ⊢
   rw [aJD (by omega)] at h2 ⊢
   simpa using h2
  .by_cases hb : Region.binds .any e = true
   .simp [hb, h3 _ (aJD h1) e he hb]
   .simp [hb]
theorem aEX {π : List Nat} {i : Nat} : ∀ {es : List (Nat × Nat)} {e : Edge}, e ∈ Kq π i es -> ∃ a, (a, i) ∈ es /\ e.on = AB π a := by
 intro es
 induction es with
 | nil => intro e h; simp [Kq] at h
 | cons q r ih =>
   obtain ⟨a, b⟩ := q
   intro e h
   simp only [Kq] at h
   cases hb : Nat.beq b i with
   | true =>
     rw [hb] at h
     obtain rfl := aJI hb
     rcases aJQ.1 h with rfl | h
     .exact ⟨a, by simp, rfl⟩
     .obtain ⟨a, h1, h2⟩ := ih h; exact ⟨a, aJi _ h1, h2⟩
   | false => rw [hb] at h; obtain ⟨a, h1, h2⟩ := ih h; exact ⟨a, aJi _ h1, h2⟩
theorem aDd (p : Perm π ops) {L0 : List Nat} (hes : ∀ q ∈ es, L0.idxOf q.1 <= L0.idxOf q.2 /\ q.1 ≠ q.2 /\ q.1 < ops.size) :
 ∀ (fuel : Nat) (listed listed' : Array Bool) (pre L : List Nat), L0 = pre ++ L -> listed.size = ops.size -> listed'.size = ops.size →
   (∀ j, j < ops.size -> listed'.getD (AB π j) false = listed.getD j false) -> (∀ j ∈ pre, listed.getD j false = true) -> (∀ j, listed.getD j false = true -> j ∈ pre) →
   avM ops fuel listed L -> avM (tS π es ops) fuel listed' (L.map (AB π)) /\ ∀ i ∈ L, i < ops.size := by
 intro fuel
 induction fuel with
 | zero => intro listed listed' pre L _ _ _ _ _ _ h; obtain rfl : L = [] := h; exact ⟨rfl, by simp⟩
 | succ fuel ih =>
   intro listed listed' pre L hL0 hs hs' hrel hpre hpre' h
   have hsz : (tS π es ops).size = ops.size := p.size
   cases L with
   | nil =>
     refine ⟨?_, by simp⟩
     show Region.ready .any (tS π es ops) listed' = []
     rw [List.eq_nil_iff_forall_not_mem]
     intro k hk
     obtain ⟨h1, h2, h3⟩ := (VV (by omega) k).1 hk
     obtain ⟨i, hi1, hi2, hi3⟩ := p.back k (by omega)
     have : i ∈ Region.ready .any ops listed := by
      refine (VV hs i).2 ⟨hi3, ?_, fun o ho e he hb => ?_⟩
      .rw [<- hrel i hi3, hi2]; exact h2
      .have g := p.get (es := es) hi3
       rw [hi2, ho] at g
       have hon := p.after i o ho e he
       have := h3 _ g ⟨AB π e.on, e.ground⟩ (by
        simp only [Lj, List.mem_toArray, aKk, aJO]
        exact .inl ⟨e, by simpa using he, rfl⟩) (by unfold Region.binds at hb ⊢; exact hb)
       rw [<- hrel e.on hon]; exact this
     rw [show Region.ready .any ops listed = [] from h] at this
     cases this
   | cons i L =>
     obtain ⟨h1, h2⟩ := h
     obtain ⟨r1, r2, r3⟩ := (VV hs i).1 h1
     have hnot : i ∉ pre := fun hm => by rw [hpre i hm] at r2; cases r2
     have hidx : L0.idxOf i = pre.length := by
      rw [hL0, List.idxOf_append, if_neg hnot]; simp
     have ready' : AB π i ∈ Region.ready .any (tS π es ops) listed' := by
      refine (VV (by omega) _).2 ⟨by rw [hsz]; exact (p.to i r1).1, by rw [hrel i r1]; exact r2, fun o' ho' e' he' hb => ?_⟩
      rw [p.get r1, aJD r1] at ho'
      simp only [aJL, Option.some.injEq] at ho'
      subst ho'
      simp only [Lj, List.mem_toArray, aKk, aJO] at he'
      rcases he' with ⟨e, he, rfl⟩ | he'
      .have ho := aJD r1
       have he2 : e ∈ ops[i].after := by simpa using he
       rw [hrel e.on (p.after i _ ho e he2)]
       exact r3 _ ho e he2 (by unfold Region.binds at hb ⊢; exact hb)
      .obtain ⟨a, ha, hon⟩ := aEX he'
       obtain ⟨q1, q2, q3⟩ := hes _ ha
       simp only at q1 q2 q3
       rw [hon, hrel a q3]
       refine hpre a ?_
       rw [hidx] at q1
       rw [hL0, List.idxOf_append] at q1
       by_cases hm : a ∈ pre
       .exact hm
       .rw [if_neg hm] at q1
        exfalso
        have hz : (i :: L).idxOf a = 0 := by omega
        rw [List.idxOf_cons] at hz
        cases hb : (i == a) with
        | true => exact q2 (by simpa using (beq_iff_eq.1 hb).symm)
        | false => rw [hb] at hz; simp at hz
     have hlen' : listed'.size = ops.size := hs'
     obtain ⟨k1, k2⟩ := ih (listed.setIfInBounds i true) (listed'.setIfInBounds (AB π i) true) (pre ++ [i]) L (by rw [hL0]; simp) (by simp [hs]) (by simp [hs'])
      (fun j hj => by
       by_cases hji : j = i
       .subst hji
        rw [aJf, aJf, aJ0 (by rw [hs']; exact (p.to j hj).1), aJ0 (by omega)]
       .have hne : AB π i ≠ AB π j := fun e => by
         have a1 := (p.to i r1).2
         have a2 := (p.to j hj).2
         rw [e] at a1
         rw [a1] at a2
         exact hji (aJj a2).symm
        have := hrel j hj
        rw [aJf, aJf] at this ⊢
        rw [aJ5 hne, aJ5 (fun e => hji e.symm)]
        exact this)
      (fun j hj => by
       rw [aJf]
       rcases aKk.1 hj with hj | hj
       .by_cases hji : j = i
        .subst hji; rw [aJ0 (by omega)] <;> rfl
        .rw [aJ5 (fun e => hji e.symm), <- aJf]; exact hpre j hj
       .have : j = i := by simpa using hj
        subst this
        rw [aJ0 (by omega)] <;> rfl)
      (fun j hj => by
       by_cases hji : j = i
       .subst hji; simp
       .rw [aJf, aJ5 (fun e => hji e.symm), <- aJf] at hj
        exact aKv _ (hpre' j hj))
      h2
     exact ⟨⟨ready', k1⟩, fun j hj => (aJQ.1 hj).elim (fun e => e ▸ r1) (k2 j)⟩
end
section
variable {P : Program} {ops : Array Oper}
theorem akT {N : Nat} {an : Ann} {pl : azT} (hok : apA ops an = true) (hpl : asH ops.size an pl = true) (hd : arQ N ops) (hca : acK P ops)
 {K : Env -> aLl -> Prop} {Q : Exit -> Act -> aLl -> Prop} (hQ : ∀ g a w, VY N g a -> K g w -> Q .normal a w) {g : Env} {a : Act} {w : aLl} (hr : VY N g a)
 (h : wE P ops ops.toList pl [] g w K) : wpAny P .any ops Q ops.size (Array.replicate ops.size false) a w := by
 have r0 : Run P ops an g w 0 (fun _ => default) (fun _ => g) (fun _ => w) (fun _ => undef) :=
  ⟨rfl, rfl, fun i hi => by omega, fun i hi => by omega, fun i hi => by omega, fun i hi => by omega, fun i j _ hj => by omega⟩
 obtain ⟨O, G, W, V, r, hk⟩ := azD hpl ops.toList 0 [] _ _ _ _ (fun j => by simp) (by simp) r0 (fun i hi => by omega) h
 simp only [aIZ, aKh] at r hk
 have st := aCH hok r.op
 have := aEI (Q := Q) (n := ops.size) rfl hd hca r st (fun a hra => hQ _ a _ hra hk) ops.size (Array.replicate ops.size false) g a 0 (by simp) hr (by omega)
  (fun j hj hl => by unfold pU at hl; simp [aJf, hj] at hl)
  (fun s => .inr ⟨fun j hj hl => by unfold pU at hl; simp [aJf, hj] at hl, rfl⟩)
  (fun h hh _ => ⟨fun hl => by unfold pU at hl; simp [aJf, hh] at hl, fun hl => by omega⟩)
  (aJ7 (List.length_filter_le _ _) (by simp))
 rw [r.w0] at this
 exact this
theorem auR {N : Nat} {ops : Array Oper} (h : ops.all (aCo N) = true) : arQ N ops := by
 intro i o ho t ht
 have := aKd.1 h o (aLh ho)
 unfold aCo at this
 rw [ht] at this
 exact (aK8 (x := t) (y := N)) ▸ this
theorem arK {ops : Array Oper} (h : ops.all (UK P) = true) : acK P ops :=
 fun _ o ho => aKd.1 h o (aLh ho)
theorem aBE {N : Nat} {f : FuncId} {id : Nat} (hd : arQ N ops) (hca : acK P ops)
 {K : Env -> aLl -> Prop} {Q : Exit -> Act -> aLl -> Prop} (hQ : ∀ g a w, VY N g a -> K g w -> Q .normal a w) {g : Env} {a : Act} {w0 w : aLl} (hr : VY N g a) :
 ∀ (T : HT) (path : List (Nat × Nat)), YE P N ops path T = true →
   (∀ q ∈ path, (Region.schedule true ops (w0.tape w0.drawn (.order f id))).idxOf q.1 <= (Region.schedule true ops (w0.tape w0.drawn (.order f id))).idxOf q.2 /\ q.1 ≠ q.2) →
   ayO P f id ops T g w0 w K -> wpOps P ops Q (Region.schedule true ops (w0.tape w0.drawn (.order f id))) a w := by
 have lin : avM ops ops.size (Array.replicate ops.size false) (Region.schedule true ops (w0.tape w0.drawn (.order f id))) := by
  unfold Region.schedule
  simp only [Bool.true_or, if_true]
  exact aGg _ _ _
 generalize hL : Region.schedule true ops (w0.tape w0.drawn (.order f id)) = L at lin ⊢
 intro T
 induction T with
 | leaf an pl =>
   intro path hok _ h
   simp only [YE, aJn] at hok
   exact aaN _ _ _ _ _ (akT hok.1 hok.2 hd hca hQ hr h) lin
 | perm π es an pl =>
   intro path hok hpath h
   simp only [YE, aJn] at hok
   obtain ⟨⟨⟨⟨⟨h1, h2⟩, h3⟩, h4⟩, h5⟩, h6⟩ := hok
   have p := aFR h2
   have hes : ∀ q ∈ es, L.idxOf q.1 <= L.idxOf q.2 /\ q.1 ≠ q.2 /\ q.1 < ops.size := fun q hq => by
    have := aJ1.1 h1 q hq
    simp only [aJn] at this
    have hp := hpath q (aFd this.1)
    exact ⟨hp.1, hp.2, (aK8 (x := q.1) (y := ops.size)) ▸ this.2⟩
   obtain ⟨k1, k2⟩ := aDd (es := es) p hes ops.size (Array.replicate ops.size false) (Array.replicate ops.size false) [] L rfl (by simp) (by simp)
    (fun j hj => by simp [aJf, hj, (p.to j hj).1]) (by simp)
    (fun j hj => by rw [aJf] at hj; by_cases hh : j < ops.size <;> simp [hh] at hj) lin
   have hw := akT h5 h6 (auR h3) (arK h4) hQ hr h
   rw [p.size] at hw
   exact aBF (es := es) p L k2 a w (aaN _ _ _ _ _ hw k1)
 | split x y A B ihA ihB =>
   intro path hok hpath h
   simp only [YE, aJn] at hok
   have hne : x ≠ y := by
    intro e
    have := hok.1.1
    rw [e] at this
    simp at this
   simp only [ayO] at h
   unfold Ord anA at h
   rw [hL] at h
   cases hb : Nat.ble (L.idxOf x) (L.idxOf y) with
   | true =>
     rw [hb] at h
     refine ihA _ hok.1.2 (fun q hq => ?_) h
     rcases aJQ.1 hq with rfl | hq
     .exact ⟨Nat.le_of_ble_eq_true hb, hne⟩
     .exact hpath q hq
   | false =>
     rw [hb] at h
     refine ihB _ hok.2 (fun q hq => ?_) h
     rcases aJQ.1 hq with rfl | hq
     .refine ⟨?_, hne.symm⟩
      simp only
      rcases aJl (L.idxOf y) (L.idxOf x) with hh | hh
      .omega
      .have := Nat.ble_eq_true_of_le hh; rw [this] at hb; cases hb
     .exact hpath q hq
end
section
variable {P : Program} {ann : FA}
def sE : List Oper -> List Nat
 | [] => []
 | o :: r => match o.dst with | some d => d :: sE r | none => sE r
def aaL : Code -> List Nat
 | .region _ ops _ => sE ops.toList
 | .seq x y => aaL x ++ aaL y
 | .cond _ x y => aaL x ++ aaL y
 | .block _ c => aaL c
 | .scope c => aaL c
 | .loop c => aaL c
 | _ => []
def qZ (l : List Nat) (g g' : Env) : Prop := ∀ s, s ∉ l -> g' s = g s
theorem qZ.refl (l : List Nat) (g : Env) : qZ l g g := fun _ _ => rfl
theorem qZ.trans {l l1 l2 : List Nat} {a b c : Env} (h : qZ l1 a b) (k : qZ l2 b c) (h1 : ∀ s, s ∈ l1 -> s ∈ l) (h2 : ∀ s, s ∈ l2 -> s ∈ l) : qZ l a c :=
 fun s hs => (k s fun h => hs (h2 s h)).trans (h s fun h => hs (h1 s h))
theorem qZ.mono {l l1 : List Nat} {a b : Env} (h : qZ l1 a b) (h1 : ∀ s, s ∈ l1 -> s ∈ l) : qZ l a b := fun s hs => h s fun hh => hs (h1 s hh)
theorem qZ.put {l : List Nat} {a : Env} (d : Option Tmp) (v : aLm) (h : ∀ t, d = some t -> t ∈ l) : qZ l a (put a d v) := by
 intro s hs
 cases d with
 | none => rfl
 | some t =>
   rw [aqE, if_neg (fun e => hs (by rw [e]; exact h t rfl))]
theorem aBM {ops : Array Oper} {K : Env -> aLl -> Prop} : ∀ (l : List Oper) (g : Env) (w : aLl), apX P ops l g w K →
 ∃ g' w', K g' w' /\ qZ (sE l) g g' /\ ∀ K' : Env -> aLl -> Prop, K' g' w' -> apX P ops l g w K' := by
 intro l
 induction l with
 | nil => intro g w h; exact ⟨g, w, h, qZ.refl _ _, fun _ h => h⟩
 | cons o l ih =>
   intro g w h
   obtain ⟨v, w1, hy, h1⟩ := QY h
   obtain ⟨g', w', hk, ha, hall⟩ := ih _ _ h1
   refine ⟨g', w', hk, ?_, fun K' hk' => hy _ (hall K' hk')⟩
   refine qZ.trans (qZ.put o.dst v (l := sE (o :: l)) fun t ht => by simp [sE, ht]) ha (fun _ h => h) (fun s hs => ?_)
   unfold sE
   split
   .exact aJi _ hs
   .exact hs
theorem akK {ops : Array Oper} {K : Env -> aLl -> Prop} : ∀ (l : List Oper) (pl : azT) (hist : List Rec) (g : Env) (w : aLl), wE P ops l pl hist g w K →
 ∃ g' w', K g' w' /\ qZ (sE l) g g' /\ ∀ K' : Env -> aLl -> Prop, K' g' w' -> wE P ops l pl hist g w K' := by
 intro l
 induction l with
 | nil => intro pl hist g w h; unfold wE at h; exact ⟨g, w, h, qZ.refl _ _, fun _ h => (by unfold wE; exact h)⟩
 | cons o l ih =>
   intro pl hist g w h
   cases pl with
   | nil => exact h.elim
   | cons p pl =>
     obtain ⟨hv, ks⟩ := p
     obtain ⟨v, w1, hy, h1⟩ := QY h
     have tail : ∀ (w2 : aLl) (hist' : List Rec), wE P ops l pl hist' (put g o.dst v) w2 K →
         ∃ g' w', K g' w' /\ qZ (sE (o :: l)) g g' /\ ∀ K' : Env -> aLl -> Prop, K' g' w' -> wE P ops l pl hist' (put g o.dst v) w2 K' := by
      intro w2 hist' c2
      obtain ⟨g', w', hk, ha, hall⟩ := ih _ _ _ _ c2
      refine ⟨g', w', hk, ?_, hall⟩
      refine qZ.trans (qZ.put o.dst v (l := sE (o :: l)) fun t ht => by simp [sE, ht]) ha (fun _ h => h) (fun s hs => ?_)
      unfold sE
      split
      .exact aJi _ hs
      .exact hs
     cases hv with
     | true =>
       cases ks with
       | nil =>
         obtain ⟨g', w', hk, ha, hall⟩ := tail w1 _ h1
         exact ⟨g', w', hk, ha, fun K' hk' => hy _ (hall K' hk')⟩
       | cons k ks =>
         obtain ⟨hc, h1⟩ := h1
         obtain ⟨g', w', hk, ha, hall⟩ := tail w1 _ h1
         exact ⟨g', w', hk, ha, fun K' hk' => hy _ ⟨hc, hall K' hk'⟩⟩
     | false =>
       cases ks with
       | nil =>
         obtain ⟨rfl, h1⟩ := h1
         obtain ⟨g', w', hk, ha, hall⟩ := tail w1 _ h1
         exact ⟨g', w', hk, ha, fun K' hk' => hy _ ⟨rfl, hall K' hk'⟩⟩
       | cons k ks =>
         obtain ⟨rfl, hc, h1⟩ := h1
         obtain ⟨g', w', hk, ha, hall⟩ := tail w1 _ h1
         exact ⟨g', w', hk, ha, fun K' hk' => hy _ ⟨rfl, hc, hall K' hk'⟩⟩
theorem Ve {l : List Oper} {s : Nat} : s ∈ sE l ↔ ∃ o ∈ l, o.dst = some s := by
 induction l with
 | nil => simp [sE]
 | cons o l ih =>
   unfold sE
   cases hd : o.dst with
   | none => simp [ih, hd]
   | some d => simp [ih, hd, eq_comm]
theorem aBj {π : List Nat} {es : List (Nat × Nat)} {l : List Oper} {s : Nat} : ∀ (r : List Nat), s ∈ sE (adO π es l r) -> s ∈ sE l := by
 intro r
 induction r with
 | nil => intro h; simp [adO, sE] at h
 | cons i r ih =>
   intro h
   simp only [adO] at h
   cases ho : l[i]? with
   | none => rw [ho] at h; exact ih h
   | some o =>
     rw [ho] at h
     obtain ⟨o', h1, h2⟩ := Ve.1 h
     rcases aJQ.1 h1 with rfl | h1
     .exact Ve.2 ⟨o, aJX ho, h2⟩
     .exact ih (Ve.2 ⟨o', h1, h2⟩)
theorem aFj {f : FuncId} {id : Nat} {ops : Array Oper} {K : Env -> aLl -> Prop} {g : Env} {w0 : aLl} : ∀ (T : HT) (w : aLl), ayO P f id ops T g w0 w K →
 ∃ g' w', K g' w' /\ qZ (sE ops.toList) g g' /\ ∀ K' : Env -> aLl -> Prop, K' g' w' -> ayO P f id ops T g w0 w K' := by
 intro T
 induction T with
 | leaf an pl => intro w h; exact akK _ _ _ _ _ h
 | perm π es an pl =>
   intro w h
   obtain ⟨g', w', a, b, c⟩ := akK _ _ _ _ _ h
   exact ⟨g', w', a, b.mono (fun s hs => aBj π (by simpa [tS] using hs)), c⟩
 | split x y A B ihA ihB =>
   intro w h
   simp only [ayO, Ord] at h ⊢
   cases hb : anA f id ops x y w0 with
   | true => rw [hb] at h; exact ihA w h
   | false => rw [hb] at h; exact ihB w h
theorem cC.head {α : Type} {F : (α -> aLl -> Prop) -> α -> aLl -> Prop} (hmono : ∀ X Y g w, (∀ g w, X g w -> Y g w) -> F X g w -> F Y g w)
 {g : α} {w : aLl} (h : F (fun g' w' => cC F g' w') g w) (hdet : ∃ g' w', cC F g' w' /\ ∀ X : α -> aLl -> Prop, X g' w' -> F X g w) : cC F g w := by
 obtain ⟨g1, w1, ⟨I, ⟨n1, h1⟩, hI⟩, hF⟩ := hdet
 refine ⟨fun n g' w' => I n g' w' ∨ (n = n1 + 1 /\ g' = g /\ w' = w), ⟨n1 + 1, .inr ⟨rfl, rfl, rfl⟩⟩, ?_⟩
 rintro n g' w' (h | ⟨rfl, rfl, rfl⟩)
 .exact hmono _ _ _ _ (fun _ _ ⟨m, hm, hh⟩ => ⟨m, hm, .inl hh⟩) (hI _ _ _ h)
 .exact hF _ ⟨n1, by omega, .inl h1⟩
theorem aCv : ∀ (c : Code) (Q : Exit -> Env -> aLl -> Prop) (g : Env) (w : aLl), bH P ann c Q g w →
 ∃ e g' w', Q e g' w' /\ qZ (aaL c) g g' /\ ∀ Q' : Exit -> Env -> aLl -> Prop, Q' e g' w' -> bH P ann c Q' g w := by
 intro c
 induction c with
 | skip => intro Q g w h; exact ⟨_, _, _, h, qZ.refl _ _, fun _ h => h⟩
 | region id ops draw =>
   intro Q g w h
   cases draw with
   | false =>
     obtain ⟨g', w', a, b, c⟩ := aBM _ _ _ h
     exact ⟨.normal, g', w', a, b, fun Q' h => c _ h⟩
   | true =>
     obtain ⟨g', w', a, b, c⟩ := aFj _ _ h
     exact ⟨.normal, g', w', a, b, fun Q' h => c _ h⟩
 | seq x y ihx ihy =>
   intro Q g w h
   obtain ⟨e, g1, w1, a, b, c⟩ := ihx _ _ _ h
   cases e with
   | normal =>
     obtain ⟨e2, g2, w2, a2, b2, c2⟩ := ihy _ _ _ a
     exact ⟨e2, g2, w2, a2, b.trans b2 (fun s h => aKv _ h) (fun s h => aKR _ h), fun Q' h => c _ (c2 _ h)⟩
   | _ => exact ⟨_, g1, w1, a, b.mono (fun s h => aKv _ h), fun Q' h => c _ h⟩
 | cond c x y ihx ihy =>
   intro Q g w h
   simp only [bH] at h ⊢
   unfold fE at h ⊢
   cases hc : ev g c with
   | bool b =>
     rw [hc] at h
     cases b with
     | true =>
       obtain ⟨e, g', w', a, b, c⟩ := ihx _ _ _ h
       exact ⟨e, g', w', a, b.mono (fun s h => aKv _ h), c⟩
     | false =>
       obtain ⟨e, g', w', a, b, c⟩ := ihy _ _ _ h
       exact ⟨e, g', w', a, b.mono (fun s h => aKR _ h), c⟩
   | _ => rw [hc] at h; exact h.elim
 | block id c ih =>
   intro Q g w h
   obtain ⟨e, g', w', a, b, c⟩ := ih _ _ _ h
   cases e with
   | exit i =>
     simp only [blk] at a
     cases hb : Nat.beq i id with
     | true =>
       simp only [hb] at a
       refine ⟨.normal, g', w', a, b, fun Q' h => c _ ?_⟩
       simp only [blk, hb]; exact h
     | false =>
       simp only [hb] at a
       refine ⟨.exit i, g', w', a, b, fun Q' h => c _ ?_⟩
       simp only [blk, hb]; exact h
   | _ => exact ⟨_, g', w', a, b, fun Q' h => c _ h⟩
 | loop c ih =>
   intro Q g w h
   have hmono : ∀ (Q : Exit -> Env -> aLl -> Prop) (X Y : Env -> aLl -> Prop) g w, (∀ g w, X g w -> Y g w) -> bH P ann c (Dk X Q) g w -> bH P ann c (Dk Y Q) g w := by
    intro Q X Y g w hxy h
    obtain ⟨e, g', w', a, _, k⟩ := ih _ _ _ h
    refine k _ ?_
    cases e with
    | normal => exact hxy _ _ a
    | _ => exact a
   obtain ⟨I, ⟨n, h0⟩, hI⟩ := h
   have key : ∀ n g w, I n g w -> ∃ e g' w', Q e g' w' /\ qZ (aaL c) g g' /\ ∀ Q' : Exit -> Env -> aLl -> Prop, Q' e g' w' -> cC (fun X g w => bH P ann c (Dk X Q') g w) g w := by
    intro n
    induction n using Nat.strongRecOn with
    | _ n ih2 =>
      intro g w hg
      obtain ⟨e, g1, w1, a, b, k⟩ := ih _ _ _ (hI n g w hg)
      have once : ∀ (Q' : Exit -> Env -> aLl -> Prop), (∀ X : Env -> aLl -> Prop, bH P ann c (Dk X Q') g w) -> cC (fun X g w => bH P ann c (Dk X Q') g w) g w := by
       intro Q' h
       refine ⟨fun n g' w' => g' = g /\ w' = w, ⟨0, rfl, rfl⟩, ?_⟩
       rintro _ g' w' ⟨rfl, rfl⟩
       exact h _
      cases e with
      | normal =>
        obtain ⟨m, hm, hIm⟩ := a
        obtain ⟨e2, g2, w2, a2, b2, k2⟩ := ih2 m hm g1 w1 hIm
        refine ⟨e2, g2, w2, a2, b.trans b2 (fun _ h => h) (fun _ h => h), fun Q' h => ?_⟩
        have hl := k2 Q' h
        exact cC.head (hmono Q') (k _ hl) ⟨g1, w1, hl, fun X hx => k _ hx⟩
      | _ => exact ⟨_, g1, w1, a, b, fun Q' h => once Q' fun X => k _ h⟩
   exact key n g w h0
 | exit id => intro Q g w h; exact ⟨_, _, _, h, qZ.refl _ _, fun _ h => h⟩
 | label l => intro Q g w h; exact ⟨_, _, _, h, qZ.refl _ _, fun _ h => h⟩
 | scope c ih => intro Q g w h; exact ih Q g w h
 | ret => intro Q g w h; exact ⟨_, _, _, h, qZ.refl _ _, fun _ h => h⟩
 | _ => intro Q g w h; exact h.elim
theorem MH {c : Code} {Q Q' : Exit -> Env -> aLl -> Prop} {g : Env} {w : aLl} (h : bH P ann c Q g w)
 (hq : ∀ e g' w', qZ (aaL c) g g' -> Q e g' w' -> Q' e g' w') : bH P ann c Q' g w :=
 let ⟨_, _, _, a, b, k⟩ := aCv c Q g w h
 k _ (hq _ _ _ b a)
def noG (Q : Exit -> Env -> aLl -> Prop) : Exit -> Env -> aLl -> Prop
 | .goto _, _, _ => False
 | e, g, w => Q e g w
theorem aBG : ∀ (c : Code) (Q : Exit -> Env -> aLl -> Prop) (g : Env) (w : aLl), bH P ann c Q g w -> bH P ann c (noG Q) g w := by
 intro c
 induction c with
 | skip => intro Q g w h; exact h
 | region id ops draw => intro Q g w h; cases draw <;> exact h
 | seq x y ihx ihy =>
   intro Q g w h
   show bH P ann x (Dk (fun g w => bH P ann y (noG Q) g w) (noG Q)) g w
   refine MH (ihx _ _ _ h) (fun e g' w' _ hq => ?_)
   cases e with
   | normal => exact ihy _ _ _ hq
   | goto l => exact hq.elim
   | _ => exact hq
 | cond c x y ihx ihy =>
   intro Q g w h
   simp only [bH] at h ⊢
   unfold fE at h ⊢
   cases hc : ev g c with
   | bool b =>
     rw [hc] at h
     cases b with
     | true => exact ihx _ _ _ h
     | false => exact ihy _ _ _ h
   | _ => rw [hc] at h; exact h.elim
 | block id c ih =>
   intro Q g w h
   show bH P ann c (blk id (noG Q)) g w
   refine MH (ih _ _ _ h) (fun e g' w' _ hq => ?_)
   cases e with
   | exit i =>
     simp only [noG, blk] at hq ⊢
     cases hb : Nat.beq i id with
     | true => rw [hb] at hq; exact hq
     | false => rw [hb] at hq; exact hq
   | goto l => exact hq.elim
   | _ => exact hq
 | loop c ih =>
   intro Q g w h
   obtain ⟨I, h0, hI⟩ := h
   refine ⟨I, h0, fun n g w hi => ?_⟩
   refine MH (ih _ _ _ (hI n g w hi)) (fun e g' w' _ hq => ?_)
   cases e with
   | normal => exact hq
   | goto l => exact hq.elim
   | _ => exact hq
 | exit id => intro Q g w h; exact h
 | label l => intro Q g w h; exact h
 | scope c ih => intro Q g w h; exact ih Q g w h
 | ret => intro Q g w h; exact h
 | _ => intro Q g w h; exact h.elim
theorem aCK {N : Nat} (hm : P.follows .mixedOrders = true) : ∀ (c : Code), codeOk P N ann c = true →
 ∀ (Q : Exit -> Env -> aLl -> Prop) (QA : Exit -> Act -> aLl -> Prop) (g : Env) (a : Act) (w : aLl), VY N g a →
   (∀ e g a w, VY N g a -> Q e g w -> QA e a w) -> bH P ann c Q g w -> wpF P ann.f c QA a w := by
 intro c
 induction c with
 | skip => intro _ Q QA g a w hr hq h; exact apQ (wp_skip (hq _ _ _ _ hr h))
 | region id ops draw =>
   intro hok Q QA g a w hr hq h
   simp only [codeOk, aJn, aKi, aKG] at hok
   have hd := auR hok.1.1
   have hca := arK hok.1.2
   cases draw with
   | false =>
     refine apQ (wp_region ?_)
     have := aDw hd hca (P := P) (Q := QA) (K := Q .normal) (fun g a w => hq .normal g a w) ops.toList 0 g a w (fun j => by simp) hr h
     rw [List.range_eq_range']
     simpa using this
   | true =>
     rcases hok.2 with h1 | h1
     .cases h1
     .exact amG hm (aBE hd hca (fun g a w => hq .normal g a w) hr _ [] h1 (by simp) h)
 | seq x y ihx ihy =>
   intro hok Q QA g a w hr hq h
   simp only [codeOk, aJn] at hok
   refine aFO (ihx hok.1 _ _ g a w hr (fun e g a w hr h => ?_) h)
   cases e with
   | normal => exact ihy hok.2 _ _ g a w hr hq h
   | _ => exact hq _ _ _ _ hr h
 | cond c x y ihx ihy =>
   intro hok Q QA g a w hr hq h
   simp only [codeOk, aJn] at hok
   simp only [bH] at h
   unfold fE at h
   have he := hr.ev c
   cases hc : ev g c with
   | bool b =>
     rw [hc] at h he
     refine aEY he ?_
     cases b with
     | true => exact ihx hok.1 _ _ g a w hr hq h
     | false => exact ihy hok.2 _ _ g a w hr hq h
   | _ => rw [hc] at h; exact h.elim
 | block id c ih =>
   intro hok Q QA g a w hr hq h
   refine aDm (ih hok _ _ g a w hr (fun e g a w hr h => ?_) h)
   cases e with
   | exit i =>
     unfold Exit.inBlock
     simp only [blk] at h
     by_cases hi : i = id
     .subst hi
      simp only [if_true]
      simp only [Nat.beq_refl] at h
      exact hq _ _ _ _ hr h
     .simp only [hi, if_false]
      have : Nat.beq i id = false := by
       cases hb : Nat.beq i id
       .rfl
       .exact absurd (aJI hb) hi
      simp only [this] at h
      exact hq _ _ _ _ hr h
   | _ => exact hq _ _ _ _ hr h
 | loop c ih =>
   intro hok Q QA g a w hr hq h
   obtain ⟨I, h0, hround⟩ := h
   have hex : ∀ a w, (∃ n g, VY N g a /\ I n g w) -> ∃ n, (∃ g, VY N g a /\ I n g w) /\ ∀ m, (∃ g, VY N g a /\ I m g w) -> n <= m := by
    rintro a w ⟨n, hn⟩
    induction n using Nat.strongRecOn with
    | _ n ih2 =>
      by_cases hx : ∃ m, m < n /\ ∃ g, VY N g a /\ I m g w
      .obtain ⟨m, hm, h⟩ := hx; exact ih2 m hm h
      .exact ⟨n, hn, fun m hm => Nat.le_of_not_lt fun hlt => hx ⟨m, hlt, hm⟩⟩
   have hdec : ∀ a w, Decidable (∃ n g, VY N g a /\ I n g w) := fun a w => Classical.propDecidable _
   let μ : Act -> aLl -> Nat := fun a w => if hh : ∃ n g, VY N g a /\ I n g w then Classical.choose (hex a w hh) else 0
   have hμ : ∀ a w n g, VY N g a -> I n g w -> μ a w <= n /\ ∃ g, VY N g a /\ I (μ a w) g w := by
    intro a w n g hr hI
    have hh : ∃ n g, VY N g a /\ I n g w := ⟨n, g, hr, hI⟩
    have e : μ a w = Classical.choose (hex a w hh) := dif_pos hh
    have s := Classical.choose_spec (hex a w hh)
    rw [e]
    exact ⟨s.2 n ⟨g, hr, hI⟩, s.1⟩
   obtain ⟨n0, h0⟩ := h0
   refine aD7 (fun a w => ∃ n g, VY N g a /\ I n g w) μ ⟨n0, g, hr, h0⟩ ?_
   rintro a w ⟨n, g, hr, hI⟩
   obtain ⟨_, g', hr', hI'⟩ := hμ a w n g hr hI
   refine ih hok _ _ g' a w hr' (fun e g1 a1 w1 hr1 h => ?_) (hround _ _ _ hI')
   cases e with
   | normal =>
     obtain ⟨m, hm, hIm⟩ := h
     have := hμ a1 w1 m g1 hr1 hIm
     exact ⟨⟨m, g1, hr1, hIm⟩, by omega⟩
   | _ => exact hq _ _ _ _ hr1 h
 | label l => intro _ Q QA g a w hr hq h; exact apQ (wp_label (hq _ _ _ _ hr h))
 | scope c ih =>
   intro hok Q QA g a w hr hq h
   refine aDu (ih hok (noG Q) _ g a w hr (fun e g a w hr h => ?_) (aBG c _ g w h))
   cases e with
   | goto l => exact h.elim
   | _ => exact hq _ _ _ _ hr h
 | exit id => intro _ Q QA g a w hr hq h; exact apQ (wp_exit (hq _ _ _ _ hr h))
 | ret => intro _ Q QA g a w hr hq h; exact apQ (wp_ret (hq _ _ _ _ hr h))
 | _ => intro hok; simp [codeOk] at hok
def B7 (P : Program) : List ResultVar -> Env -> aLl -> (List aLm -> Prop) -> Prop
 | [], _, _, K => K []
 | .tmp t :: r, g, w, K => B7 P r g w fun vs => K (g t :: vs)
 | .cell a t :: r, g, w, K => ∃ v, (do loadVar t (<- asAddr (g a)) : Sem aLm).run P w = .ok v w /\ B7 P r g w fun vs => K (v :: vs)
def tup : List aLm -> aLm
 | [v] => v
 | vs => .tuple vs.toArray
def aG3 (P : Program) (rs : List ResultVar) (R : aLm -> aLl -> Prop) : Exit -> Env -> aLl -> Prop
 | .normal, g, w => B7 P rs g w fun vs => R (tup vs) w
 | .ret, g, w => B7 P rs g w fun vs => R (tup vs) w
 | _, _, _ => False
theorem aAh {N : Nat} {g : Env} {a : Act} {w : aLl} (hr : VY N g a) : ∀ (rs : List ResultVar) (K : List aLm -> Prop), B7 P rs g w K →
 ∃ vs, K vs /\ (rs.mapM fun | .tmp t => pure (a.tmps.getD t undef) | .cell b t => do loadVar t (<- asAddr (a.tmps.getD b undef)) : Sem (List aLm)).run P w = .ok vs w := by
 intro rs
 induction rs with
 | nil => intro K h; exact ⟨[], h, by simp⟩
 | cons r rs ih =>
   intro K h
   cases r with
   | tmp t =>
     obtain ⟨vs, h1, h2⟩ := ih _ h
     refine ⟨_, h1, ?_⟩
     rw [List.mapM_cons]
     rw [pure_bind, Sem.run_bind]
     simp only [h2, Result.andThen, Sem.run_pure, hr.2.2 t]
   | cell b t =>
     obtain ⟨v, hv, h⟩ := h
     obtain ⟨vs, h1, h2⟩ := ih _ h
     refine ⟨_, h1, ?_⟩
     rw [List.mapM_cons]
     rw [<- hr.2.2 b] at hv
     rw [Sem.run_bind]
     simp only [hv, Result.andThen]
     rw [Sem.run_bind]
     simp only [h2, Result.andThen]
     rfl
theorem aHk (vs : Array aLm) : (if h : vs.size = 1 then vs[0] else Value.tuple vs) = tup vs.toList := by
 obtain ⟨l⟩ := vs
 match l with
 | [] => rfl
 | [v] => rfl
 | a :: b :: r => simp [tup]
theorem azX {N : Nat} {g : Env} {a : Act} {w : aLl} (fn : Func) {rs : List ResultVar} (hrs : fn.results = rs.toArray) (hr : VY N g a) {R : aLm -> aLl -> Prop}
 (h : B7 P rs g w fun vs => R (tup vs) w) : ∃ v, (results fn a.tmps).run P w = .ok v w /\ R v w := by
 obtain ⟨vs, h1, h2⟩ := aAh hr rs _ h
 refine ⟨tup vs, ?_, h1⟩
 unfold results
 rw [hrs, Array.mapM_eq_mapM_toList, aKq]
 simp only [bind_assoc, map_eq_pure_bind]
 rw [Sem.run_bind]
 refine Eq.trans (congrArg (fun r => Result.andThen r _) h2) ?_
 simp only [Result.andThen]
 simp only [pure_bind, Sem.run_pure, aHk]
def aB9 (args : List aLm) : Env := fun i => args.getD i undef
theorem aAD {f : FuncId} {fn : Func} {c : Code} {args : List aLm} {w : aLl} {rs : List ResultVar} {R : aLm -> aLl -> Prop} (hm : P.follows .mixedOrders = true) (hAf : ann.f = f)
 (hf : P.funcs[f]? = some fn) (hb : fn.body = some c) (hrs : fn.results = rs.toArray) {N : Nat} (hN : fn.ntmps = N) (hle : args.length <= N)
 (hok : codeOk P N ann c = true) (h : bH P ann c (aG3 P rs R) (aB9 args) w) : aR P f args.toArray w R := by
 obtain ⟨e, g', w', hq, _, hall⟩ := aCv _ _ _ _ h
 have hrv : B7 P rs g' w' fun vs => R (tup vs) w' := by cases e <;> first | exact hq | exact hq.elim
 have hex : ∃ v, R v w' /\ ∀ R' : aLm -> aLl -> Prop, R' v w' -> B7 P rs g' w' fun vs => R' (tup vs) w' := by
  have gen : ∀ (rs : List ResultVar) (K : List aLm -> Prop), B7 P rs g' w' K -> ∃ vs, K vs /\ ∀ K' : List aLm -> Prop, K' vs -> B7 P rs g' w' K' := by
   intro rs
   induction rs with
   | nil => intro K h; exact ⟨_, h, fun _ h => h⟩
   | cons r rs ih =>
     intro K h
     cases r with
     | tmp t =>
       obtain ⟨vs, a, b⟩ := ih _ h
       exact ⟨_, a, fun K' h => b _ h⟩
     | cell b t =>
       obtain ⟨v, hv, h⟩ := h
       obtain ⟨vs, a, b⟩ := ih _ h
       exact ⟨_, a, fun K' h => ⟨v, hv, b _ h⟩⟩
  obtain ⟨vs, a, b⟩ := gen _ _ hrv
  exact ⟨_, a, fun R' h => b _ h⟩
 obtain ⟨v, hv, hrest⟩ := hex
 refine ⟨v, w', ?_, hv⟩
 have hrel : VY N (aB9 args) { tmps := args.toArray ++ Array.replicate (fn.ntmps - args.toArray.size) undef, defers := [] } := by
  refine ⟨rfl, by simp [hN]; omega, fun i => ?_⟩
  simp only [aB9, aJf, aJe]
  by_cases hi : i < args.length
  .simp [Array.getElem?_append, hi]
  .simp only [Array.getElem?_append, List.size_toArray, hi, if_false, Array.getElem?_replicate]
   rw [aJk (by omega)]
   split <;> rfl
 refine awO (f := f) hf hb ?_
 refine hAf ▸ aCK hm c hok (aG3 P rs fun v2 w2 => v2 = v /\ w2 = w') _ _ _ _ hrel ?_ (hall _ ?_)
 .intro e g a w hr h
  have hx : ∀ {w}, (B7 P rs g w fun vs => tup vs = v /\ w = w') -> a.defers = [] /\ ∃ v2, (results fn a.tmps).run P w = .ok v2 w /\ (Ending.returned v2 = .returned v /\ w = w') := by
   intro w h
   obtain ⟨v2, h1, rfl, h3⟩ := azX fn hrs hr (R := fun v2 w2 => v2 = v /\ w2 = w') h
   exact ⟨hr.1, v2, h1, rfl, h3⟩
  cases e with
  | normal => exact hx h
  | ret => exact hx h
  | _ => exact h.elim
 .have := hrest (fun v2 w2 => v2 = v /\ w2 = w') ⟨rfl, rfl⟩
  cases e <;> first | exact this | exact hq.elim
theorem atE {f : FuncId} {args : Array aLm} {w : aLl} {R : aLm -> aLl -> Prop} (h : aR P f args w R) :
 Calls P f args w fun e w' => ∃ v, e = .returned v /\ R v w' := by
 obtain ⟨v, w', hr, hR⟩ := h
 refine Calls.mono hr ?_
 rintro e w'' ⟨rfl, rfl⟩
 exact ⟨v, rfl, hR⟩
end
def sA : Code -> Code | .seq a _ => a | c => c
def cT : Code -> Code | .cond _ a _ => a | c => c
def cE : Code -> Code | .cond _ _ b => b | c => c
def bI : Code -> Code | .block _ c => c | .loop c => c | .scope c => c | c => c
def cX (f : Func) : Code := match f.body with | some c => c | none => .skip
def aE : Nat -> Code -> Code
 | 0, c => c
 | 1, c => sA c
 | n + 1, .seq a b => .seq a (aE n b)
 | _, c => c
def aB : Nat -> Code -> Code
 | 0, c => c
 | n + 1, .seq _ b => aB n b
 | _, c => c
def aA6 : Nat -> Code -> Bool
 | 1, .seq _ _ => true
 | n + 1, .seq _ b => aA6 n b
 | _, _ => false
def dr (w : aLl) : aLl := { w with drawn := w.drawn + 1 }
def mW (P : Program) (t : TypeId) (a : aLm) (w : aLl) (K : aLm -> Prop) : Prop := ∃ v, (do loadVar t (<- asAddr a) : Sem aLm).run P w = .ok v w /\ K v
def exL : List (Nat × (Env -> aLl -> Prop)) -> Nat -> Env -> aLl -> Prop
 | [], _, _, _ => False
 | (j, k) :: r, i, g, w => match Nat.beq i j with | true => k g w | false => exL r i g w
def exQ (kn kr : Env -> aLl -> Prop) (l : List (Nat × (Env -> aLl -> Prop))) : Exit -> Env -> aLl -> Prop
 | .normal, g, w => kn g w
 | .ret, g, w => kr g w
 | .exit i, g, w => exL l i g w
 | _, _, _ => False
def aCe (Q : Exit -> Env -> aLl -> Prop) : List (Nat × (Env -> aLl -> Prop)) -> Prop
 | [] => True
 | (i, k) :: r => (∀ g w, k g w -> Q (.exit i) g w) /\ aCe Q r
def fV (c a b : aLm) : Sem Next := do pure (.value (if <- asBool c then a else b))
def bV (t : TypeId) : Sem Next := V (Instr.alloc t true (.tuple #[]))
def sU (t : TypeId) (x : aLm) : Sem Next := V (Instr.box t x)
def aI (t : TypeId) (a : aLm) : Sem Next := V (Instr.loadAt t a)
def aK (t : TypeId) (a x : aLm) : Sem Next := U (Instr.storeAt t a x)
def sQ (x : aLm) : Sem Next := execOp (fun _ => x) ⟨none, .nilCheck (.tmp 0), 0, default, #[], none⟩
def sUn (op : UnOp) (x : aLm) : Sem Next := V (Op.unary op x)
def gF (s d : TypeId) (x : aLm) : Sem Next := V (convert s d x)
def AX (t : TypeId) (l c : aLm) : Sem Next := V (Instr.makeSlice t l c)
def gB (t : TypeId) (x : aLm) (lo hi mx : Option aLm) : Sem Next := V (Instr.sliceAt t x lo hi mx)
def aL (t : TypeId) (x : aLm) (f : Nat) : Sem Next := V (Instr.fieldAt t x f)
def aY (t : TypeId) (x i : aLm) : Sem Next := V (Instr.indexAt t x i)
def IM (t : TypeId) (x i : aLm) : Sem Next := V (Instr.index t x i)
def bD (t : aLm) (i : Nat) : Sem Next := V (Instr.extract t i)
section
variable {P : Program} {ann : FA}
theorem aHs {Q : Exit -> Env -> aLl -> Prop} : ∀ {l : List (Nat × (Env -> aLl -> Prop))}, aCe Q l -> ∀ {i : Nat} {g : Env} {w : aLl}, exL l i g w -> Q (.exit i) g w := by
 intro l
 induction l with
 | nil => intro _ i g w h; exact h.elim
 | cons p r ih =>
   obtain ⟨j, k⟩ := p
   rintro ⟨h1, h2⟩ i g w h
   simp only [exL] at h
   cases hb : Nat.beq i j with
   | true =>
     simp only [hb] at h
     obtain rfl := aJI hb
     exact h1 _ _ h
   | false => simp only [hb] at h; exact ih h2 h
theorem aF3 {c : Code} {kn kr : Env -> aLl -> Prop} {l : List (Nat × (Env -> aLl -> Prop))} {Q : Exit -> Env -> aLl -> Prop} {g : Env} {w : aLl} {A : Prop}
 (e : A = bH P ann c (exQ kn kr l) g w) (h : A) (hn : ∀ g w, kn g w -> Q .normal g w) (hr : ∀ g w, kr g w -> Q .ret g w) (hl : aCe Q l) : bH P ann c Q g w := by
 rw [e] at h
 refine MH h (fun e g' w' _ hq => ?_)
 cases e with
 | normal => exact hn _ _ hq
 | ret => exact hr _ _ hq
 | exit i => exact aHs hl hq
 | _ => exact hq.elim
theorem aDJ {x y z : Code} {Q : Exit -> Env -> aLl -> Prop} {g : Env} {w : aLl} (h : bH P ann (.seq (.seq x y) z) Q g w) : bH P ann (.seq x (.seq y z)) Q g w := by
 show bH P ann x (Dk (fun g w => bH P ann y (Dk (fun g w => bH P ann z Q g w) Q) g w) Q) g w
 have h : bH P ann x (Dk (fun g w => bH P ann y (Dk (fun g w => bH P ann z Q g w) Q) g w) (Dk (fun g w => bH P ann z Q g w) Q)) g w := h
 refine MH h (fun e g' w' _ hq => ?_)
 cases e <;> exact hq
theorem aJ {K : Env -> aLl -> Prop} {Q : Exit -> Env -> aLl -> Prop} {g : Env} {w : aLl} (h : K g w) : Dk K Q .normal g w := h
theorem aCS {Q : Exit -> Env -> aLl -> Prop} : ∀ (n : Nat) (c : Code) (g : Env) (w : aLl), aA6 n c = true -> bH P ann (.seq (aE n c) (aB n c)) Q g w -> bH P ann c Q g w := by
 intro n
 induction n with
 | zero => intro c g w h; simp [aA6] at h
 | succ n ih =>
   intro c g w h hd
   cases c with
   | seq a b =>
     cases n with
     | zero => exact hd
     | succ n =>
       have hb : aA6 (n + 1) b = true := by simpa [aA6] using h
       have hd' : bH P ann (.seq (.seq a (aE (n + 1) b)) (aB (n + 1) b)) Q g w := hd
       have := aDJ hd'
       show bH P ann a (Dk (fun g w => bH P ann b Q g w) Q) g w
       have h2 : bH P ann a (Dk (fun g w => bH P ann (.seq (aE (n + 1) b) (aB (n + 1) b)) Q g w) Q) g w := this
       refine MH h2 (fun e g' w' _ hq => ?_)
       cases e with
       | normal => exact ih b g' w' hb hq
       | _ => exact hq
   | _ => cases n <;> simp [aA6] at h
def aGE (id : Nat) : Code -> Bool | .block i _ => Nat.beq i id | _ => false
def aFm : Code -> Bool | .loop _ => true | _ => false
def aEp : Code -> Option Operand | .cond o _ _ => some o | _ => none
theorem aGk {Q : Exit -> Env -> aLl -> Prop} (id : Nat) (c : Code) (g : Env) (w : aLl) (h : aGE id c = true) (hd : bH P ann (bI c) (blk id Q) g w) : bH P ann c Q g w := by
 cases c with
 | block i c =>
   obtain rfl := aJI (show Nat.beq i id = true from h)
   exact hd
 | _ => cases h
def aGT : Code -> Bool | .scope _ => true | _ => false
theorem aFX {Q : Exit -> Env -> aLl -> Prop} (c : Code) (g : Env) (w : aLl) (h : aGT c = true) (hd : bH P ann (bI c) Q g w) : bH P ann c Q g w := by
 cases c with
 | scope c => exact hd
 | _ => cases h
theorem aF7 {Q : Exit -> Env -> aLl -> Prop} (o : Operand) (c : Code) (g : Env) (w : aLl) (h : aEp c = some o)
 (hd : fE (ev g o) (bH P ann (cT c) Q g w) (bH P ann (cE c) Q g w)) : bH P ann c Q g w := by
 cases c with
 | cond o' a b => obtain rfl := aJj h; exact hd
 | _ => cases h
theorem aES {v : aLm} {A B A' B' : Prop} (ha : A -> A') (hb : B -> B') (h : fE v A B) : fE v A' B' := by
 unfold fE at *
 cases v with
 | bool b => cases b <;> first | exact ha h | exact hb h
 | _ => exact h
theorem aEQ {T : Type} (proj : Env -> T) (F : (T -> aLl -> Prop) -> T -> aLl -> Prop) {c : Code} {Q : Exit -> Env -> aLl -> Prop} {g : Env} {w : aLl}
 (hF : ∀ (X : T -> aLl -> Prop) g' w', qZ (aaL c) g g' -> F X (proj g') w' -> bH P ann c (Dk (fun g'' w'' => X (proj g'') w'') Q) g' w')
 (h : cC F (proj g) w) : bH P ann (.loop c) Q g w := by
 obtain ⟨I, ⟨n, h0⟩, hI⟩ := h
 refine ⟨fun n g' w' => qZ (aaL c) g g' /\ I n (proj g') w', ⟨n, qZ.refl _ _, h0⟩, ?_⟩
 rintro n g' w' ⟨ha, hi⟩
 have := hF _ g' w' ha (hI n _ _ hi)
 refine MH this (fun e g2 w2 ha2 hq => ?_)
 cases e with
 | normal =>
   obtain ⟨m, hm, hh⟩ := hq
   exact ⟨m, hm, ha.trans ha2 (fun _ h => h) (fun _ h => h), hh⟩
 | _ => exact hq
theorem aCR {T : Type} (proj : Env -> T) (F : (T -> aLl -> Prop) -> T -> aLl -> Prop) (c : Code) {Q : Exit -> Env -> aLl -> Prop} {g : Env} {w : aLl} (hl : aFm c = true)
 (h : cC F (proj g) w)
 (hF : ∀ (X : T -> aLl -> Prop) g' w', qZ (aaL (bI c)) g g' -> F X (proj g') w' -> bH P ann (bI c) (Dk (fun g'' w'' => X (proj g'') w'') Q) g' w') : bH P ann c Q g w := by
 cases c with
 | loop c => exact aEQ proj F hF h
 | _ => cases hl
theorem aBD {l : List Nat} {s : Nat} (hs : tZ s l = false) : s ∉ l := by
 induction l with
 | nil => simp
 | cons a r ih =>
   unfold tZ at hs
   cases hb : Nat.beq a s with
   | true => simp only [hb] at hs; cases hs
   | false =>
     simp only [hb] at hs
     intro hm
     rcases aJQ.1 hm with e | hm
     .subst e; simp at hb
     .exact ih hs hm
theorem aFg {l : List Nat} {g g' : Env} (h : qZ l g g') {s : Nat} (hs : tZ s l = false) : g' s = g s := h s (aBD hs)
def Ft (id : Nat) : Code -> Array Oper
 | .region i ops _ => match Nat.beq i id with | true => ops | false => #[]
 | .seq a b => match (Ft id a).size with | 0 => Ft id b | _ + 1 => Ft id a
 | .cond _ a b => match (Ft id a).size with | 0 => Ft id b | _ + 1 => Ft id a
 | .block _ c => Ft id c
 | .loop c => Ft id c
 | .scope c => Ft id c
 | _ => #[]
theorem Ek {b : Bool} {A B : Prop} (ha : A) (hb : B) : Ord b A B := by cases b <;> assumption
theorem cC.rule {α : Type} {F : (α -> aLl -> Prop) -> α -> aLl -> Prop} (I : Nat -> α -> aLl -> Prop) {g : α} {w : aLl} (n : Nat) (h0 : I n g w)
 (hr : ∀ n g w, I n g w -> F (fun g' w' => ∃ m, m < n /\ I m g' w') g w) : cC F g w := ⟨I, ⟨n, h0⟩, hr⟩
theorem aF (A B : Prop) : fE (.bool true) A B = A := Eq.trans rfl rfl
theorem aD (A B : Prop) : fE (.bool false) A B = B := Eq.trans rfl rfl
theorem bP (s : (aLm -> aLl -> Prop) -> Prop) (w : aLl) (K : aLm -> aLl -> Prop) : Gd true s w K = s K := Eq.trans rfl rfl
theorem dH (s : (aLm -> aLl -> Prop) -> Prop) (w : aLl) (K : aLm -> aLl -> Prop) : Gd false s w K = K undef w := Eq.trans rfl rfl
theorem VR (p : Prop) : Gs true p = p := Eq.trans rfl rfl
theorem QT (p : Prop) : Gs false p = True := Eq.trans rfl rfl
theorem mU : eZ (.bool true) true = true := Eq.trans rfl rfl
theorem jH : eZ (.bool true) false = false := Eq.trans rfl rfl
theorem vN : eZ (.bool false) true = false := Eq.trans rfl rfl
theorem dG : eZ (.bool false) false = true := Eq.trans rfl rfl
def aM : Operand := .tmp 0
theorem dP {c : Code} {kn kr : Env -> aLl -> Prop} {l : List (Nat × (Env -> aLl -> Prop))} {Q : Exit -> Env -> aLl -> Prop} {g : Env} {w : aLl} {A : Prop}
 (h : A) (hn : ∀ g w, kn g w -> Q .normal g w) (hr : ∀ g w, kr g w -> Q .ret g w) (hl : aCe Q l) (e : A = bH P ann c (exQ kn kr l) g w := by kernel_rfl) : bH P ann c Q g w := aF3 e h hn hr hl
theorem gC {Q : Exit -> Env -> aLl -> Prop} (n : Nat) {c : Code} {g : Env} {w : aLl}
 (hd : bH P ann (aE n c) (Dk (fun g w => bH P ann (aB n c) Q g w) Q) g w) (h : aA6 n c = true := by kernel_rfl) : bH P ann c Q g w := aCS n c g w h hd
theorem wD {Q : Exit -> Env -> aLl -> Prop} (id : Nat) {c : Code} {g : Env} {w : aLl} (hd : bH P ann (bI c) (blk id Q) g w) (h : aGE id c = true := by kernel_rfl) : bH P ann c Q g w := aGk id c g w h hd
theorem scD {Q : Exit -> Env -> aLl -> Prop} {c : Code} {g : Env} {w : aLl} (hd : bH P ann (bI c) Q g w) (h : aGT c = true := by kernel_rfl) : bH P ann c Q g w := aFX c g w h hd
theorem cdD {Q : Exit -> Env -> aLl -> Prop} (o : Operand) {c : Code} {g : Env} {w : aLl} {A B : Prop} (ha : A -> bH P ann (cT c) Q g w) (hb : B -> bH P ann (cE c) Q g w) (hd : fE (ev g o) A B) (h : aEp c = some o := by kernel_rfl) : bH P ann c Q g w :=
 aF7 o c g w h (aES ha hb hd)
theorem Cy {T : Type} (proj : Env -> T) (F : (T -> aLl -> Prop) -> T -> aLl -> Prop) {c : Code} {Q : Exit -> Env -> aLl -> Prop} {g : Env} {w : aLl}
 (h : cC F (proj g) w)
 (hF : ∀ (X : T -> aLl -> Prop) g' w', qZ (aaL (bI c)) g g' -> F X (proj g') w' -> bH P ann (bI c) (Dk (fun g'' w'' => X (proj g'') w'') Q) g' w') (hl : aFm c = true := by kernel_rfl) : bH P ann c Q g w := aCR proj F c hl h hF
theorem fL {l : List Nat} {g g' : Env} (s : Nat) (h : qZ l g g') (hs : tZ s l = false := by kernel_rfl) : g' s = g s := aFg h hs
theorem tD {ann : FA} (fn : Func) (c : Code) (args : List aLm) (rs : List ResultVar) (N : Nat) {f : FuncId} {w : aLl} {R : aLm -> aLl -> Prop} (hm : P.follows .mixedOrders = true)
 (hf : P.funcs[f]? = some fn) (h : bH P ann c (aG3 P rs R) (aB9 args) w) (hAf : ann.f = f := by kernel_rfl) (hb : fn.body = some c := by kernel_rfl) (hrs : fn.results = rs.toArray := by kernel_rfl) (hN : fn.ntmps = N := by kernel_rfl) (hle : Nat.ble args.length N = true := by kernel_rfl)
 (hok : codeOk P N ann c = true := by kernel_rfl) : aR P f args.toArray w R := aAD hm hAf hf hb hrs hN (Nat.le_of_ble_eq_true hle) hok h
end
end Go.En
namespace Go.Proofs.YtaggdjhhmbnhoaaDoor
open Go Go.En
noncomputable abbrev pg : Program := Tryd.prog
theorem TrydM.mixed : pg.follows .mixedOrders = true := Tryd.checked.mixed
abbrev K0 := aLl -> Prop
abbrev K1 := aLm -> K0
abbrev K2 := aLm -> K1
abbrev K3 := aLm -> K2
abbrev K4 := aLm -> K3
abbrev K5 := aLm -> K4
abbrev K6 := aLm -> K5
abbrev K7 := aLm -> K6
abbrev K8 := aLm -> K7
abbrev K9 := aLm -> K8
abbrev Fk := aLm -> K9
abbrev K11 := aLm -> Fk
abbrev HR (rs : List ResultVar) (R : K1) (Q : Exit -> Env -> aLl -> Prop) : Prop := ∀ g w, (B7 pg rs g w fun vs => R (tup vs) w) -> Q .ret g w
abbrev no : Env -> aLl -> Prop := fun _ _ => False
theorem eU {Q : Env -> aLl -> Prop} : ∀ g w, no g w -> Q g w := fun _ _ h => h.elim
abbrev lX : FuncId := 4
abbrev Gv : FuncId := 7
abbrev xE : FuncId := 8
abbrev yL : FuncId := 9
abbrev EA : FuncId := 10
abbrev Ei : FuncId := 11
abbrev FW : FuncId := 12
abbrev rK : FuncId := 13
abbrev NA : FuncId := 14
abbrev uH : FuncId := 15
abbrev tM : FuncId := 16
abbrev xQ : FuncId := 17
abbrev mY : FuncId := 18
abbrev oC : FuncId := 19
abbrev wS : FuncId := 20
abbrev tQ : FuncId := 21
abbrev pY : FuncId := 22
abbrev Nh : FuncId := 23
abbrev rH : FuncId := 24
abbrev Q6 : FuncId := 25
abbrev rB : FuncId := 26
abbrev DW : FuncId := 27
abbrev tO : FuncId := 28
abbrev DJ : FuncId := 29
abbrev Hq : FuncId := 30
abbrev vB : FuncId := 31
abbrev zE : FuncId := 32
abbrev xY : FuncId := 33
abbrev Ef : FuncId := 34
abbrev xD : FuncId := 35
abbrev Ep : FuncId := 36
abbrev xI : FuncId := 37
abbrev iM : FuncId := 38
abbrev zT : FuncId := 39
abbrev qP : FuncId := 40
abbrev xR : FuncId := 41
abbrev pZ : FuncId := 42
abbrev wK : FuncId := 43
abbrev wO : FuncId := 44
abbrev De : FuncId := 45
abbrev uG : FuncId := 46
abbrev kA : FuncId := 47
abbrev kW : FuncId := 48
abbrev BI : FuncId := 49
abbrev Bb : FuncId := 50
abbrev qT : FuncId := 51
abbrev oJ : FuncId := 52
abbrev Et : FuncId := 53
abbrev JY : FuncId := 54
abbrev Cd : FuncId := 55
abbrev NB : FuncId := 56
abbrev J4 : FuncId := 57
abbrev JE : FuncId := 58
abbrev BL : FuncId := 59
abbrev Eh : FuncId := 60
abbrev yI : FuncId := 61
abbrev Ki : FuncId := 62
abbrev tN : FuncId := 63
abbrev Rq : FuncId := 64
abbrev yK : FuncId := 65
abbrev Ay : FuncId := 66
abbrev uK : FuncId := 67
abbrev Ds : FuncId := 68
abbrev vI : FuncId := 69
abbrev Eu : FuncId := 70
abbrev sS : FuncId := 71
abbrev Nu : FuncId := 72
abbrev J2 : FuncId := 73
abbrev fO : FuncId := 74
abbrev uM : FuncId := 75
abbrev Gw : FuncId := 76
abbrev HE : FuncId := 77
abbrev Dl : FuncId := 78
abbrev GS : FuncId := 79
abbrev xM : FuncId := 80
abbrev qG : FuncId := 81
abbrev JJ : FuncId := 82
abbrev JL : FuncId := 83
abbrev Hf : FuncId := 84
abbrev Ar : FuncId := 85
abbrev uV : FuncId := 86
abbrev DM : FuncId := 87
abbrev Ew : FuncId := 88
abbrev uF : FuncId := 89
abbrev EF : FuncId := 90
abbrev sY : FuncId := 91
abbrev zQ : FuncId := 92
abbrev zR : FuncId := 93
abbrev nA : FuncId := 94
abbrev DQ : FuncId := 95
abbrev Bk : FuncId := 96
abbrev wB : FuncId := 97
abbrev Gz : FuncId := 98
abbrev Nx : FuncId := 99
abbrev zV : FuncId := 100
abbrev N0 (Q : Exit -> Env -> aLl -> Prop) (k : K0) : Prop := ∀ g w, k w -> Q .normal g w
abbrev E0 (Q : Exit -> Env -> aLl -> Prop) (k : K0) (x0 : Nat) : Prop := ∀ g w, k w -> Q (.exit x0) g w
abbrev N1 (Q : Exit -> Env -> aLl -> Prop) (k : K1) (a_ : Nat) : Prop := ∀ g w, k (g a_) w -> Q .normal g w
abbrev E1 (Q : Exit -> Env -> aLl -> Prop) (k : K1) (x0 : Nat) (a_ : Nat) : Prop := ∀ g w, k (g a_) w -> Q (.exit x0) g w
abbrev N2 (Q : Exit -> Env -> aLl -> Prop) (k : K2) (a_ b_ : Nat) : Prop := ∀ g w, k (g a_) (g b_) w -> Q .normal g w
abbrev E2 (Q : Exit -> Env -> aLl -> Prop) (k : K2) (x0 : Nat) (a_ b_ : Nat) : Prop := ∀ g w, k (g a_) (g b_) w -> Q (.exit x0) g w
abbrev N3 (Q : Exit -> Env -> aLl -> Prop) (k : K3) (a_ b_ c_ : Nat) : Prop := ∀ g w, k (g a_) (g b_) (g c_) w -> Q .normal g w
abbrev E3 (Q : Exit -> Env -> aLl -> Prop) (k : K3) (x0 : Nat) (a_ b_ c_ : Nat) : Prop := ∀ g w, k (g a_) (g b_) (g c_) w -> Q (.exit x0) g w
abbrev N4 (Q : Exit -> Env -> aLl -> Prop) (k : K4) (a_ b_ c_ d_ : Nat) : Prop := ∀ g w, k (g a_) (g b_) (g c_) (g d_) w -> Q .normal g w
abbrev E4 (Q : Exit -> Env -> aLl -> Prop) (k : K4) (x0 : Nat) (a_ b_ c_ d_ : Nat) : Prop := ∀ g w, k (g a_) (g b_) (g c_) (g d_) w -> Q (.exit x0) g w
abbrev N5 (Q : Exit -> Env -> aLl -> Prop) (k : K5) (a_ b_ c_ d_ e_ : Nat) : Prop := ∀ g w, k (g a_) (g b_) (g c_) (g d_) (g e_) w -> Q .normal g w
abbrev E5 (Q : Exit -> Env -> aLl -> Prop) (k : K5) (x0 : Nat) (a_ b_ c_ d_ e_ : Nat) : Prop := ∀ g w, k (g a_) (g b_) (g c_) (g d_) (g e_) w -> Q (.exit x0) g w
abbrev N6 (Q : Exit -> Env -> aLl -> Prop) (k : K6) (a_ b_ c_ d_ e_ f_ : Nat) : Prop := ∀ g w, k (g a_) (g b_) (g c_) (g d_) (g e_) (g f_) w -> Q .normal g w
abbrev E6 (Q : Exit -> Env -> aLl -> Prop) (k : K6) (x0 : Nat) (a_ b_ c_ d_ e_ f_ : Nat) : Prop := ∀ g w, k (g a_) (g b_) (g c_) (g d_) (g e_) (g f_) w -> Q (.exit x0) g w
abbrev N7 (Q : Exit -> Env -> aLl -> Prop) (k : K7) (a_ b_ c_ d_ e_ f_ g_ : Nat) : Prop := ∀ g w, k (g a_) (g b_) (g c_) (g d_) (g e_) (g f_) (g g_) w -> Q .normal g w
abbrev E7 (Q : Exit -> Env -> aLl -> Prop) (k : K7) (x0 : Nat) (a_ b_ c_ d_ e_ f_ g_ : Nat) : Prop := ∀ g w, k (g a_) (g b_) (g c_) (g d_) (g e_) (g f_) (g g_) w -> Q (.exit x0) g w
abbrev N8 (Q : Exit -> Env -> aLl -> Prop) (k : K8) (a_ b_ c_ d_ e_ f_ g_ h_ : Nat) : Prop := ∀ g w, k (g a_) (g b_) (g c_) (g d_) (g e_) (g f_) (g g_) (g h_) w -> Q .normal g w
abbrev E8 (Q : Exit -> Env -> aLl -> Prop) (k : K8) (x0 : Nat) (a_ b_ c_ d_ e_ f_ g_ h_ : Nat) : Prop := ∀ g w, k (g a_) (g b_) (g c_) (g d_) (g e_) (g f_) (g g_) (g h_) w -> Q (.exit x0) g w
abbrev N9 (Q : Exit -> Env -> aLl -> Prop) (k : K9) (a_ b_ c_ d_ e_ f_ g_ h_ i_ : Nat) : Prop := ∀ g w, k (g a_) (g b_) (g c_) (g d_) (g e_) (g f_) (g g_) (g h_) (g i_) w -> Q .normal g w
abbrev N10 (Q : Exit -> Env -> aLl -> Prop) (k : Fk) (a_ b_ c_ d_ e_ f_ g_ h_ i_ j_ : Nat) : Prop := ∀ g w, k (g a_) (g b_) (g c_) (g d_) (g e_) (g f_) (g g_) (g h_) (g i_) (g j_) w -> Q .normal g w
abbrev E10 (Q : Exit -> Env -> aLl -> Prop) (k : Fk) (x0 : Nat) (a_ b_ c_ d_ e_ f_ g_ h_ i_ j_ : Nat) : Prop := ∀ g w, k (g a_) (g b_) (g c_) (g d_) (g e_) (g f_) (g g_) (g h_) (g i_) (g j_) w -> Q (.exit x0) g w
abbrev N11 (Q : Exit -> Env -> aLl -> Prop) (k : K11) (a_ b_ c_ d_ e_ f_ g_ h_ i_ j_ k_ : Nat) : Prop := ∀ g w, k (g a_) (g b_) (g c_) (g d_) (g e_) (g f_) (g g_) (g h_) (g i_) (g j_) (g k_) w -> Q .normal g w
abbrev aLn (n_ : Int) : aLm := .int .i64 n_
end Go.Proofs.YtaggdjhhmbnhoaaDoor
namespace Go.Proofs.YtaggdjhhmbnhoaaDoor
open Go Go.En
set_option maxRecDepth 20000
attribute [local irreducible] Go.En.bH
variable (Q : Exit -> Env -> aLl -> Prop) (g : Env) (w : aLl)
def fR : FA := ⟨lX, fun i => match Nat.beq i 21 with | true => .split 3 9 (.split 4 9 (.perm [0, 1, 2, 3, 4, 5, 6, 7, 8, 9, 10, 11, 12] [(4, 9), (3, 9)] ([3, 4, 9, 11], [(1, 3), (6, 9), (7, 9), (8, 9), (8, 11)]) [(false, []), (false, []), (false, []), (true, [1]), (true, []), (false, []), (false, []), (false, []), (false, []), (true, [0, 1, 2]), (false, []), (true, [2]), (false, [])]) (.perm [0, 1, 2, 3, 9, 4, 5, 6, 7, 8, 10, 11, 12] [(9, 4), (3, 9)] ([3, 4, 5, 11], [(1, 3), (1, 4), (9, 11)]) [(false, []), (false, []), (false, []), (true, [1]), (true, [2]), (true, []), (false, []), (false, []), (false, []), (false, []), (false, []), (true, [1]), (false, [])])) (.perm [0, 1, 2, 9, 3, 4, 5, 6, 7, 8, 10, 11, 12] [(9, 3)] ([3, 4, 5, 11], [(1, 3), (1, 4), (2, 3), (9, 11)]) [(false, []), (false, []), (false, []), (true, [0, 1]), (true, [2]), (true, []), (false, []), (false, []), (false, []), (false, []), (false, []), (true, [1]), (false, [])]) | false => .leaf ([], []) []⟩
def nN : List ResultVar := [.tmp 6]
noncomputable def eD : Code := cX Tryd.f4
def nO (R : K1) (H5 aDq aEz ZG aER aEr : aLm) (w : aLl) : Prop :=
 aC pg (aI 29 ZG) w fun p6 w =>
 aR pg xE #[aDq, p6] w fun p7 w =>
 aC pg (bD p7 0) w fun p8 w =>
 aC pg (bD p7 1) w fun p9 w =>
 aC pg (bD p7 2) w fun q0 w =>
 aC pg (bV 29) w fun d7 w =>
 aC pg (aK 29 d7 p9) w fun _u w =>
 aC pg (aH .eql 30 (.tmp 121) (.const (aLn 0)) aEz (aLn 0)) w fun q2 w =>
 Gd (eZ q2 true) (fun K => K aEr w) w fun q4 w =>
 Gd (eZ q2 true) (fun K => aC pg (aH .eql 30 (.tmp 124) (.const (aLn 0)) q4 (aLn 0)) w K) w fun q5 w =>
 aC pg (fV q2 q5 (.bool false)) w fun q6 w =>
 Gd (eZ q6 true) (fun K => K aER w) w fun q8 w =>
 Gd (eZ q6 true) (fun K => K H5 w) w fun q9 w =>
 Gd (eZ q6 true) (fun K => aR pg EA #[q8, q9] w K) w fun s0 w =>
 aC pg (fV q6 s0 (.bool false)) w fun s1 w =>
 Gd (eZ s1 true) (fun K => K q0 w) w fun s3 w =>
 Gd (eZ s1 true) (fun K => aC pg (aH .eql 30 (.tmp 133) (.const (aLn 0)) s3 (aLn 0)) w K) w fun s4 w =>
 aC pg (fV s1 s4 (.bool false)) w fun s5 w =>
 Gd (eZ s5 true) (fun K => K p8 w) w fun s7 w =>
 Gd (eZ s5 true) (fun K => K H5 w) w fun s8 w =>
 Gd (eZ s5 true) (fun K => aR pg EA #[s7, s8] w K) w fun s9 w =>
 aC pg (fV s5 s9 (.bool false)) w fun u0 w =>
 Gd (eZ u0 true) (fun K => K H5 w) w fun u2 w =>
 Gd (eZ u0 true) (fun K => aC pg (lF .len #[24] 3 [u2]) w K) w fun u3 w =>
 Gd (eZ u0 true) (fun K => aC pg (aH .gtr 3 aM aM u3 (aLn 0)) w K) w fun u4 w =>
 Gd (eZ u0 true) (fun K => K u4 w) w fun u5 w =>
 Gd (eZ u5 false) (fun K => K aDq w) w fun u6 w =>
 Gd (eZ u5 false) (fun K => aC pg (lF .len #[22] 3 [u6]) w K) w fun u7 w =>
 Gd (eZ u5 false) (fun K => aC pg (aH .eql 3 (.tmp 147) (.const (aLn 1)) u7 (aLn 1)) w K) w fun u8 w =>
 Gd (eZ u0 true) (fun K => aC pg (fV u5 (.bool true) u8) w K) w fun u9 w =>
 aC pg (fV u0 u9 (.bool false)) w fun v0 w =>
 R v0 w
theorem Ke (R : K1) (hr : HR nN R Q) (h : nO R (g 8) (g 20) (g 21) (g 22) (g 23) (g 25) w) : bH pg fR (aB 4 (aB 1 (aB 1 (aB 6 eD)))) Q g w :=
 dP (kn := no) (l := []) h eU hr trivial
def vK (kn : K6) (R : K1) (iO H5 qF : aLm) (w : aLl) : Prop :=
 aR pg rK #[H5] w fun n1 w =>
 aC pg (bD n1 0) w fun n2 w =>
 aC pg (bD n1 1) w fun n3 w =>
 aC pg (sUn .not qF) w fun n5 w =>
 fE n5
  (aC pg (aH .eql 30 (.tmp 96) (.const (aLn 1)) n3 (aLn 1)) w fun n7 w =>
  Gd (eZ n7 true) (fun K => K n2 w) w fun n9 w =>
  Gd (eZ n7 true) (fun K => aC pg (lF .len #[22] 3 [n9]) w K) w fun o0 w =>
  Gd (eZ n7 true) (fun K => aC pg (aH .eql 3 (.tmp 100) (.const (aLn 0)) o0 (aLn 0)) w K) w fun o1 w =>
  aC pg (fV n7 o1 (.bool false)) w fun o2 w =>
  R o2 w)
  (aC pg (aI 41 iO) w fun o3 w =>
  aR pg NA #[o3] w fun o4 w =>
  aC pg (bV 29) w fun ZG w =>
  aC pg (aK 29 ZG o4) w fun _u w =>
  Ord (anA lX 21 (Ft 21 eD) 3 9 w)
   (Ord (anA lX 21 (Ft 21 eD) 4 9 w)
    ((dr w) = (dr w) /\
    aC pg (gF 22 9 n2) (dr w) fun o7 w_ => w_ = (dr w) /\
    aC pg (aI 29 ZG) (dr w) fun o8 w_ => w_ = (dr w) /\
    aR pg uH #[o8] (dr w) fun o9 Z7 =>
    (dS pg (gF 22 9 n2) o7 Z7 /\ True) /\
    aR pg yL #[o7, o9] Z7 fun p0 Ls =>
    Ls = Ls /\
    aC pg (bD p0 0) Ls fun p1 w_ => w_ = Ls /\
    aC pg (bD p0 1) Ls fun p2 w_ => w_ = Ls /\
    aC pg (bD p0 2) Ls fun p3 w_ => w_ = Ls /\
    aC pg (bV 36) Ls fun d4 auM =>
    (dS pg (bD p0 2) p3 auM /\ dS pg (bD p0 1) p2 auM /\ dS pg (bD p0 0) p1 auM /\ True) /\
    auM = auM /\
    aC pg (aK 36 d4 p2) auM fun _u11 Em =>
    (dS pg (bD p0 2) p3 Em /\ True) /\
    Em = Em /\
    kn H5 n2 n3 ZG p1 p3 Em)
    ((dr w) = (dr w) /\
    aC pg (gF 22 9 n2) (dr w) fun o7 w_ => w_ = (dr w) /\
    aC pg (aI 29 ZG) (dr w) fun o8 w_ => w_ = (dr w) /\
    aR pg uH #[o8] (dr w) fun o9 Z7 =>
    (dS pg (gF 22 9 n2) o7 Z7 /\ True) /\
    aC pg (bV 36) Z7 fun d4 Ls =>
    (dS pg (gF 22 9 n2) o7 Ls /\ True) /\
    aR pg yL #[o7, o9] Ls fun p0 AK =>
    AK = AK /\
    aC pg (bD p0 0) AK fun p1 w_ => w_ = AK /\
    aC pg (bD p0 1) AK fun p2 w_ => w_ = AK /\
    aC pg (bD p0 2) AK fun p3 w_ => w_ = AK /\
    AK = AK /\
    aC pg (aK 36 d4 p2) AK fun _u11 Em =>
    (dS pg (bD p0 2) p3 Em /\ True) /\
    Em = Em /\
    kn H5 n2 n3 ZG p1 p3 Em))
   ((dr w) = (dr w) /\
   aC pg (gF 22 9 n2) (dr w) fun o7 w_ => w_ = (dr w) /\
   aC pg (aI 29 ZG) (dr w) fun o8 w_ => w_ = (dr w) /\
   aC pg (bV 36) (dr w) fun d4 Z7 =>
   (dS pg (aI 29 ZG) o8 Z7 /\ dS pg (gF 22 9 n2) o7 Z7 /\ True) /\
   aR pg uH #[o8] Z7 fun o9 Ls =>
   (dS pg (gF 22 9 n2) o7 Ls /\ True) /\
   aR pg yL #[o7, o9] Ls fun p0 AK =>
   AK = AK /\
   aC pg (bD p0 0) AK fun p1 w_ => w_ = AK /\
   aC pg (bD p0 1) AK fun p2 w_ => w_ = AK /\
   aC pg (bD p0 2) AK fun p3 w_ => w_ = AK /\
   AK = AK /\
   aC pg (aK 36 d4 p2) AK fun _u11 Em =>
   (dS pg (bD p0 2) p3 Em /\ True) /\
   Em = Em /\
   kn H5 n2 n3 ZG p1 p3 Em))
theorem JU (kn : K6) (R : K1) (hn : N6 Q kn 8 20 21 22 23 25) (hr : HR nN R Q) (h : vK kn R (g 5) (g 8) (g 9) w) : bH pg fR (aE 4 (aB 1 (aB 1 (aB 6 eD)))) Q g w :=
 dP (l := []) h hn hr trivial
def vS (R : K1) (iO H5 qF : aLm) (w : aLl) : Prop :=
 vK (fun H5 aDq aEz ZG aER aEr w => nO R H5 aDq aEz ZG aER aEr w) R iO H5 qF w
def qH (kn : K4) (k0 : K3) (iO H5 qF iK : aLm) (w : aLl) : Prop :=
 aC pg (lF .len #[24] 3 [H5]) w fun f2 w =>
 aC pg (aH .lss 3 aM aM iK f2) w fun f3 w =>
 fE f3
  (aC pg (aY 24 H5 iK) w fun f9 w =>
  aC pg (aL 47 f9 0) w fun i0 w =>
  aC pg (aI 43 i0) w fun i1 w =>
  aR pg FW #[(aLn 0), i1] w fun i2 w =>
  aC pg (bD i2 0) w fun i3 w =>
  aC pg (bD i2 1) w fun i4 w =>
  aC pg (bD i2 2) w fun i5 w =>
  aC pg (aY 24 H5 iK) w fun i9 w =>
  aC pg (aL 47 i9 2) w fun j0 w =>
  aC pg (aI 43 j0) w fun j1 w =>
  aR pg FW #[(aLn 1), j1] w fun j2 w =>
  aC pg (bD j2 0) w fun j3 w =>
  aC pg (bD j2 1) w fun j4 w =>
  aC pg (bD j2 2) w fun j5 w =>
  aC pg (aY 24 H5 iK) w fun j9 w =>
  aC pg (aL 47 j9 1) w fun l0 w =>
  aC pg (aI 43 l0) w fun l1 w =>
  aR pg FW #[(aLn 2), l1] w fun l2 w =>
  aC pg (bD l2 0) w fun l3 w =>
  aC pg (bD l2 1) w fun l4 w =>
  aC pg (bD l2 2) w fun l5 w =>
  Gd (eZ qF true) (fun K => K i5 w) w fun l8 w =>
  Gd (eZ qF true) (fun K => aC pg (aH .eql 30 (.tmp 78) (.const (aLn 0)) l8 (aLn 0)) w K) w fun l9 w =>
  aC pg (fV qF l9 (.bool false)) w fun m0 w =>
  Gd (eZ m0 true) (fun K => K j5 w) w fun m2 w =>
  Gd (eZ m0 true) (fun K => aC pg (aH .eql 30 (.tmp 82) (.const (aLn 0)) m2 (aLn 0)) w K) w fun m3 w =>
  aC pg (fV m0 m3 (.bool false)) w fun m4 w =>
  Gd (eZ m4 true) (fun K => K l5 w) w fun m6 w =>
  Gd (eZ m4 true) (fun K => aC pg (aH .eql 30 (.tmp 86) (.const (aLn 0)) m6 (aLn 0)) w K) w fun m7 w =>
  aC pg (fV m4 m7 (.bool false)) w fun m8 w =>
  aC pg (aH .add 3 aM aM iK (aLn 1)) w fun f5 w =>
  kn iO H5 m8 f5 w)
  (k0 iO H5 qF w)
theorem JF (kn : K4) (k0 : K3) (hn : N4 Q kn 5 8 9 10) (h0 : E3 Q k0 0 5 8 9) (h : qH kn k0 (g 5) (g 8) (g 9) (g 10) w) : bH pg fR (bI (bI (aB 1 (aE 1 (aB 1 (aB 6 eD)))))) Q g w :=
 dP (kr := no) (l := [(0, fun g w => k0 (g 5) (g 8) (g 9) w)]) h hn eU ⟨h0, trivial⟩
def vJ (k0 : K3) (iO H5 qF iK : aLm) (w : aLl) : Prop :=
 cC (fun (X : (aLm × aLm) -> K0) (t : aLm × aLm) (w : aLl) => qH (fun _ _ qF iK w => X (qF, iK) w) k0 iO H5 t.1 t.2 w) (qF, iK) w
theorem Kc (k0 : K3) (h0 : E3 Q k0 0 5 8 9) (h : vJ k0 (g 5) (g 8) (g 9) (g 10) w) : bH pg fR (bI (aB 1 (aE 1 (aB 1 (aB 6 eD))))) Q g w := by
 refine Cy (fun g : Env => (g 9, g 10)) (fun X t w => qH (fun _ _ qF iK w => X (qF, iK) w) k0 (g 5) (g 8) t.1 t.2 w) h (fun X g1 w1 ha hL => ?_)
 rw [<- fL 5 ha, <- fL 8 ha] at hL
 exact (JF _ g1 w1 (fun _ _ qF iK w => X (qF, iK) w) k0 (fun _ _ h => h) h0 hL)
def vV (kn : K3) (iO H5 qF iK : aLm) (w : aLl) : Prop :=
 vJ kn iO H5 qF iK w
def vF (kn : K4) (iO H5 qF : aLm) (w : aLl) : Prop :=
 kn iO H5 qF (aLn 0) w
theorem JK (kn : K4) (hn : N4 Q kn 5 8 9 10) (h : vF kn (g 5) (g 8) (g 9) w) : bH pg fR (aE 1 (aE 1 (aB 1 (aB 6 eD)))) Q g w :=
 dP (kr := no) (l := []) h hn eU trivial
def uZ (kn : K3) (iO H5 qF : aLm) (w : aLl) : Prop :=
 vF (fun iO H5 qF iK w => vV kn iO H5 qF iK w) iO H5 qF w
def vM (R : K1) (iO H5 qF : aLm) (w : aLl) : Prop :=
 uZ (fun iO H5 qF w => vS R iO H5 qF w) iO H5 qF w
theorem Kg (kn : K3) (hn : N3 Q kn 5 8 9) (h : uZ kn (g 5) (g 8) (g 9) w) : bH pg fR (aE 1 (aB 1 (aB 6 eD))) Q g w :=
 gC 1 (JK _ g w (vV kn) (fun g w h => aJ (wD 0 (Kc _ g w kn hn h))) h)
def uC (kn : K3) (iO H5 : aLm) (w : aLl) : Prop :=
 kn iO H5 (.bool true) w
theorem HN (kn : K3) (hn : N3 Q kn 5 8 9) (h : uC kn (g 5) (g 8) w) : bH pg fR (aE 1 (aB 6 eD)) Q g w :=
 dP (kr := no) (l := []) h hn eU trivial
def pV (R : K1) (iO H5 : aLm) (w : aLl) : Prop :=
 uC (fun iO H5 qF w => vM R iO H5 qF w) iO H5 w
def tY (kn : K2) (R : K1) (azK aG2 awR : aLm) (w : aLl) : Prop :=
 aC pg (sU 41 awR) w fun iO w =>
 aR pg Gv #[] w fun d9 w =>
 aC pg (sUn .not d9) w fun e1 w =>
 fE e1
  (R (.bool false) w)
  (aC pg (lF .len #[24] 3 [azK]) w fun e3 w =>
  aC pg (aH .gtr 3 aM aM e3 (aLn 200)) w fun e4 w =>
  fE e4
   (R (.bool true) w)
   (aC pg (sUn .not aG2) w fun e7 w =>
   fE e7
    (aR pg Ei #[azK] w fun e9 w =>
    kn iO e9 w)
    (kn iO azK w)))
theorem Ii (kn : K2) (R : K1) (hn : N2 Q kn 5 8) (hr : HR nN R Q) (h : tY kn R (g 0) (g 1) (g 2) w) : bH pg fR (aE 6 eD) Q g w :=
 dP (l := []) h hn hr trivial
def tW (R : K1) (azK aG2 awR : aLm) (w : aLl) : Prop :=
 tY (fun iO H5 w => pV R iO H5 w) R azK aG2 awR w
theorem IY (R : K1) (hr : HR nN R Q) (h : tW R (g 0) (g 1) (g 2) w) : bH pg fR eD Q g w :=
 gC 6 (Ii _ g w (pV R) R (fun g w h => aJ (gC 1 (HN _ g w (vM R) (fun g w h => aJ (gC 1 (Kg _ g w (vS R) (fun g w h => aJ (gC 4 (JU _ g w (nO R) R (fun g w h => aJ (Ke _ g w R hr h)) hr h))) h))) h))) hr h)
def Fo (a0 a1 a2 : aLm) (w : aLl) (R : K1) : Prop :=
 tW R a0 a1 a2 w
theorem KD {a0 a1 a2 : aLm} {w : aLl} {R : K1} (h : Fo a0 a1 a2 w R) : aR pg lX #[a0, a1, a2] w R := by
 refine tD (ann := fR) Tryd.f4 eD [a0, a1, a2] nN 151 TrydM.mixed Tryd.func4 ?_
 exact (IY _ _ _ R (fun _ _ h => h) h)
def SK : FA := ⟨Gv, fun i => .leaf ([], []) []⟩
def VD : List ResultVar := [.tmp 0]
noncomputable def Qz : Code := cX Tryd.f7
def L9 (R : K1)  (w : aLl) : Prop :=
 aR pg rK #[(.slice none 0 0)] w fun b9 w =>
 aC pg (bD b9 0) w fun c0 w =>
 aC pg (bD b9 1) w fun c1 w =>
 aC pg (bX 47 [(0, (.int .u32 20)), (1, (.int .u32 3)), (2, (.int .u32 9))]) w fun c3 w =>
 aC pg (bX 47 [(0, (.int .u32 0)), (1, (.int .u32 70)), (2, (.int .u32 1))]) w fun c4 w =>
 aC pg (cD 24 2 [(0, c3), (1, c4)]) w fun c5 w =>
 aR pg rK #[c5] w fun c6 w =>
 aC pg (bD c6 0) w fun c7 w =>
 aC pg (bD c6 1) w fun c8 w =>
 aC pg (bX 29 []) w fun d1 w =>
 aR pg xE #[c7, d1] w fun d2 w =>
 aC pg (bD d2 0) w fun d3 w =>
 aC pg (bD d2 1) w fun d4 w =>
 aC pg (bD d2 2) w fun d5 w =>
 aC pg (bV 29) w fun b6 w =>
 aC pg (aK 29 b6 d4) w fun _u w =>
 aC pg (lF .len #[22] 3 [c0]) w fun d7 w =>
 aC pg (aH .eql 3 (.tmp 27) (.const (aLn 1)) d7 (aLn 1)) w fun d8 w =>
 Gd (eZ d8 true) (fun K => K c0 w) w fun e0 w =>
 Gd (eZ d8 true) (fun K => aC pg (aY 22 e0 (aLn 0)) w K) w fun e1 w =>
 Gd (eZ d8 true) (fun K => aC pg (aI 5 e1) w K) w fun e2 w =>
 Gd (eZ d8 true) (fun K => aC pg (aH .eql 5 (.tmp 32) (.const (.int .u8 0)) e2 (.int .u8 0)) w K) w fun e3 w =>
 aC pg (fV d8 e3 (.bool false)) w fun e4 w =>
 Gd (eZ e4 true) (fun K => K c1 w) w fun e6 w =>
 Gd (eZ e4 true) (fun K => aC pg (aH .eql 30 (.tmp 36) (.const (aLn 0)) e6 (aLn 0)) w K) w fun e7 w =>
 aC pg (fV e4 e7 (.bool false)) w fun e8 w =>
 Gd (eZ e8 true) (fun K => K c8 w) w fun f0 w =>
 Gd (eZ e8 true) (fun K => aC pg (aH .eql 30 (.tmp 40) (.const (aLn 0)) f0 (aLn 0)) w K) w fun f1 w =>
 aC pg (fV e8 f1 (.bool false)) w fun f2 w =>
 Gd (eZ f2 true) (fun K => K d5 w) w fun f4 w =>
 Gd (eZ f2 true) (fun K => aC pg (aH .eql 30 (.tmp 44) (.const (aLn 0)) f4 (aLn 0)) w K) w fun f5 w =>
 aC pg (fV f2 f5 (.bool false)) w fun f6 w =>
 Gd (eZ f6 true) (fun K => K d3 w) w fun f8 w =>
 Gd (eZ f6 true) (fun K => aC pg (lF .len #[24] 3 [f8]) w K) w fun f9 w =>
 Gd (eZ f6 true) (fun K => aC pg (aH .eql 3 (.tmp 49) (.const (aLn 2)) f9 (aLn 2)) w K) w fun i0 w =>
 aC pg (fV f6 i0 (.bool false)) w fun i1 w =>
 Gd (eZ i1 true) (fun K => K d3 w) w fun i3 w =>
 Gd (eZ i1 true) (fun K => aC pg (aY 24 i3 (aLn 0)) w K) w fun i4 w =>
 Gd (eZ i1 true) (fun K => aC pg (aL 47 i4 0) w K) w fun i5 w =>
 Gd (eZ i1 true) (fun K => aC pg (aI 43 i5) w K) w fun i6 w =>
 Gd (eZ i1 true) (fun K => aC pg (aH .eql 43 (.tmp 56) (.const (.int .u32 20)) i6 (.int .u32 20)) w K) w fun i7 w =>
 aC pg (fV i1 i7 (.bool false)) w fun i8 w =>
 Gd (eZ i8 true) (fun K => K d3 w) w fun j0 w =>
 Gd (eZ i8 true) (fun K => aC pg (aY 24 j0 (aLn 0)) w K) w fun j1 w =>
 Gd (eZ i8 true) (fun K => aC pg (aL 47 j1 2) w K) w fun j2 w =>
 Gd (eZ i8 true) (fun K => aC pg (aI 43 j2) w K) w fun j3 w =>
 Gd (eZ i8 true) (fun K => aC pg (aH .eql 43 (.tmp 63) (.const (.int .u32 9)) j3 (.int .u32 9)) w K) w fun j4 w =>
 aC pg (fV i8 j4 (.bool false)) w fun j5 w =>
 Gd (eZ j5 true) (fun K => K d3 w) w fun j7 w =>
 Gd (eZ j5 true) (fun K => aC pg (aY 24 j7 (aLn 1)) w K) w fun j8 w =>
 Gd (eZ j5 true) (fun K => aC pg (aL 47 j8 1) w K) w fun j9 w =>
 Gd (eZ j5 true) (fun K => aC pg (aI 43 j9) w K) w fun l0 w =>
 Gd (eZ j5 true) (fun K => aC pg (aH .eql 43 (.tmp 70) (.const (.int .u32 70)) l0 (.int .u32 70)) w K) w fun l1 w =>
 aC pg (fV j5 l1 (.bool false)) w fun l2 w =>
 Gd (eZ l2 true) (fun K => K d3 w) w fun l4 w =>
 Gd (eZ l2 true) (fun K => aC pg (aY 24 l4 (aLn 1)) w K) w fun l5 w =>
 Gd (eZ l2 true) (fun K => aC pg (aL 47 l5 2) w K) w fun l6 w =>
 Gd (eZ l2 true) (fun K => aC pg (aI 43 l6) w K) w fun l7 w =>
 Gd (eZ l2 true) (fun K => aC pg (aH .eql 43 (.tmp 77) (.const (.int .u32 1)) l7 (.int .u32 1)) w K) w fun l8 w =>
 aC pg (fV l2 l8 (.bool false)) w fun l9 w =>
 Gd (eZ l9 true) (fun K => aC pg (aY 29 b6 (aLn 0)) w K) w fun m1 w =>
 Gd (eZ l9 true) (fun K => aC pg (aL 27 m1 1) w K) w fun m2 w =>
 Gd (eZ l9 true) (fun K => aC pg (aI 25 m2) w K) w fun m3 w =>
 Gd (eZ l9 true) (fun K => aC pg (lF .len #[25] 3 [m3]) w K) w fun m4 w =>
 Gd (eZ l9 true) (fun K => aC pg (aH .gtr 3 aM aM m4 (aLn 0)) w K) w fun m5 w =>
 aC pg (fV l9 m5 (.bool false)) w fun m6 w =>
 R m6 w
theorem aaE (R : K1) (hr : HR VD R Q) (h : L9 R w) : bH pg SK Qz Q g w :=
 dP (kn := no) (l := []) h eU hr trivial
def akI (w : aLl) (R : K1) : Prop :=
 L9 R w
theorem aeH {w : aLl} {R : K1} (h : akI w R) : aR pg Gv #[] w R := by
 refine tD (ann := SK) Tryd.f7 Qz [] VD 87 TrydM.mixed Tryd.func7 ?_
 exact (aaE _ _ _ R (fun _ _ h => h) h)
def dX : FA := ⟨xE, fun i => match Nat.beq i 8 with | true => .leaf ([2], []) [(false, []), (false, []), (true, []), (false, [])] | false => match Nat.beq i 34 with | true => .leaf ([8, 10], []) [(false, []), (false, []), (false, []), (false, []), (false, []), (false, []), (false, []), (false, []), (true, []), (false, []), (true, [])] | false => match Nat.beq i 41 with | true => .leaf ([3], []) [(false, []), (false, []), (false, []), (true, []), (false, [])] | false => .leaf ([], []) []⟩
def zY : List ResultVar := [.tmp 4, .cell 5 29, .tmp 6]
noncomputable def dM : Code := cX Tryd.f8
def Ab (R : K1) (b5 b9 jC fM : aLm) (w : aLl) : Prop :=
 aR pg rB #[jC] w fun q7 w =>
 aC pg (aH .lss 3 aM aM q7 (aLn 0)) w fun q8 w =>
 fE q8
  (aC pg (bX 29 []) w fun q9 w =>
  aC pg (aK 29 b5 q9) w fun _u w =>
  mW pg 29 b5 w fun r1 => R (.tuple #[(.slice none 0 0), r1, (aLn 11)]) w)
  (aR pg rB #[jC] w fun s2 w =>
  aC pg (aH .gtr 3 aM aM s2 (aLn 0)) w fun s3 w =>
  fE s3
   (aC pg (bX 29 []) w fun s4 w =>
   aC pg (aK 29 b5 s4) w fun _u w =>
   mW pg 29 b5 w fun r1 => R (.tuple #[(.slice none 0 0), r1, (aLn 15)]) w)
   ((dr w) = (dr w) /\
   aC pg (aI 29 b9) (dr w) fun s6 w_ => w_ = (dr w) /\
   (dr w) = (dr w) /\
   aC pg (aK 29 b5 s6) (dr w) fun _u3 aCl =>
   aCl = aCl /\
   mW pg 29 b5 aCl fun r1 => R (.tuple #[fM, r1, (aLn 0)]) aCl))
theorem T7 (R : K1) (hr : HR zY R Q) (h : Ab R (g 5) (g 9) (g 11) (g 14) w) : bH pg dX (aB 1 (aB 1 (aB 1 (aB 9 dM)))) Q g w :=
 dP (kn := no) (l := []) h eU hr trivial
def zS (kn : K8) (b5 xF b9 jC bG fM l6 l7 : aLm) (w : aLl) : Prop :=
 aC pg (aH .add 3 aM aM l7 (aLn 1)) w fun q4 w =>
 kn b5 xF b9 jC bG fM l6 q4 w
theorem T6 (kn : K8) (hn : N8 Q kn 5 8 9 11 12 14 76 77) (h : zS kn (g 5) (g 8) (g 9) (g 11) (g 12) (g 14) (g 76) (g 77) w) : bH pg dX (aB 1 (aB 2 (bI (bI (aB 1 (aE 1 (aB 1 (aB 1 (aB 9 dM))))))))) Q g w :=
 dP (kr := no) (l := []) h hn eU trivial
def zZ (kn : Fk) (k5 : K8) (b5 xF b9 jC bG fM l6 l7 o9 p0 : aLm) (w : aLl) : Prop :=
 aC pg (aH .lss 3 aM aM p0 (aLn 3)) w fun p1 w =>
 fE p1
  (aC pg (IM 67 o9 p0) w fun p2 w =>
  (dr w) = (dr w) /\
  (dr w) = (dr w) /\
  aC pg (aY 29 b9 p2) (dr w) fun p5 w_ => w_ = (dr w) /\
  aC pg (aI 27 p5) (dr w) fun p6 w_ => w_ = (dr w) /\
  (dr w) = (dr w) /\
  aC pg (aY 67 bG p2) (dr w) fun p8 w_ => w_ = (dr w) /\
  aC pg (aI 3 p8) (dr w) fun p9 w_ => w_ = (dr w) /\
  (dr w) = (dr w) /\
  aR pg Q6 #[p6, p9, jC] (dr w) fun q1 aED =>
  aC pg (aY 67 bG p2) aED fun q2 w_ => w_ = aED /\
  aC pg (aK 3 q2 q1) aED fun _u10 aHu =>
  aC pg (aH .add 3 aM aM p0 (aLn 1)) aHu fun q3 w =>
  kn b5 xF b9 jC bG fM l6 l7 o9 q3 w)
  (k5 b5 xF b9 jC bG fM l6 l7 w)
theorem U3 (kn : Fk) (k5 : K8) (hn : N10 Q kn 5 8 9 11 12 14 76 77 109 110) (h5 : E8 Q k5 5 5 8 9 11 12 14 76 77) (h : zZ kn k5 (g 5) (g 8) (g 9) (g 11) (g 12) (g 14) (g 76) (g 77) (g 109) (g 110) w) : bH pg dX (bI (bI (aB 8 (bI (aE 1 (aB 2 (bI (bI (aB 1 (aE 1 (aB 1 (aB 1 (aB 9 dM))))))))))))) Q g w :=
 dP (kr := no) (l := [(5, fun g w => k5 (g 5) (g 8) (g 9) (g 11) (g 12) (g 14) (g 76) (g 77) w)]) h hn eU ⟨h5, trivial⟩
def Ac (k5 : K8) (b5 xF b9 jC bG fM l6 l7 o9 p0 : aLm) (w : aLl) : Prop :=
 cC (fun (X : aLm -> K0) (t : aLm) (w : aLl) => zZ (fun _ _ _ _ _ _ _ _ _ p0 w => X p0 w) k5 b5 xF b9 jC bG fM l6 l7 o9 t w) p0 w
theorem Uh (k5 : K8) (h5 : E8 Q k5 5 5 8 9 11 12 14 76 77) (h : Ac k5 (g 5) (g 8) (g 9) (g 11) (g 12) (g 14) (g 76) (g 77) (g 109) (g 110) w) : bH pg dX (bI (aB 8 (bI (aE 1 (aB 2 (bI (bI (aB 1 (aE 1 (aB 1 (aB 1 (aB 9 dM)))))))))))) Q g w := by
 refine Cy (fun g : Env => g 110) (fun X t w => zZ (fun _ _ _ _ _ _ _ _ _ p0 w => X p0 w) k5 (g 5) (g 8) (g 9) (g 11) (g 12) (g 14) (g 76) (g 77) (g 109) t w) h (fun X g1 w1 ha hL => ?_)
 rw [<- fL 5 ha, <- fL 8 ha, <- fL 9 ha, <- fL 11 ha, <- fL 12 ha, <- fL 14 ha, <- fL 76 ha, <- fL 77 ha, <- fL 109 ha] at hL
 exact (U3 _ g1 w1 (fun _ _ _ _ _ _ _ _ _ p0 w => X p0 w) k5 (fun _ _ h => h) h5 hL)
def EB (kn : K8) (b5 xF b9 jC bG fM l6 l7 o9 p0 : aLm) (w : aLl) : Prop :=
 Ac kn b5 xF b9 jC bG fM l6 l7 o9 p0 w
def DF (kn : Fk) (k3 : K4) (b5 xF b9 jC bG fM l6 l7 : aLm) (w : aLl) : Prop :=
 aC pg (bV 47) w fun J5 w =>
 aC pg (aY 29 b9 (aLn 1)) w fun m0 w =>
 aC pg (aI 27 m0) w fun m1 w =>
 aC pg (aY 67 bG (aLn 1)) w fun m2 w =>
 aC pg (aI 3 m2) w fun m3 w =>
 aR pg rH #[(aLn 1), m1, m3, jC] w fun m5 w =>
 aC pg (aL 47 J5 2) w fun m6 w =>
 aC pg (aK 43 m6 m5) w fun _u w =>
 aC pg (aY 29 b9 (aLn 2)) w fun m7 w =>
 aC pg (aI 27 m7) w fun m8 w =>
 aC pg (aY 67 bG (aLn 2)) w fun m9 w =>
 aC pg (aI 3 m9) w fun n0 w =>
 aR pg rH #[(aLn 2), m8, n0, jC] w fun n2 w =>
 aC pg (aL 47 J5 1) w fun n3 w =>
 aC pg (aK 43 n3 n2) w fun _u w =>
 aC pg (aY 29 b9 (aLn 0)) w fun n4 w =>
 aC pg (aI 27 n4) w fun n5 w =>
 aC pg (aY 67 bG (aLn 0)) w fun n6 w =>
 aC pg (aI 3 n6) w fun n7 w =>
 aR pg rH #[(aLn 0), n5, n7, jC] w fun n9 w =>
 aC pg (aL 47 J5 0) w fun o0 w =>
 aC pg (aK 43 o0 n9) w fun _u w =>
 aC pg (aI 47 J5) w fun o2 w =>
 aC pg (cD 24 1 [(0, o2)]) w fun o3 w =>
 aC pg (lF .append #[24, 24] 24 [fM, o3]) w fun o4 w =>
 aC pg (aH .sub 3 aM aM xF (aLn 1)) w fun o7 w =>
 aC pg (aH .eql 3 (.tmp 105) (.tmp 107) l7 o7) w fun o8 w =>
 fE o8
  (k3 b5 b9 jC o4 w)
  (aC pg (bX 67 [(0, (aLn 0)), (1, (aLn 2)), (2, (aLn 1))]) w fun o9 w =>
  kn b5 xF b9 jC bG o4 l6 l7 o9 (aLn 0) w)
theorem UR (kn : Fk) (k3 : K4) (hn : N10 Q kn 5 8 9 11 12 14 76 77 109 110) (h3 : E4 Q k3 3 5 9 11 14) (h : DF kn k3 (g 5) (g 8) (g 9) (g 11) (g 12) (g 14) (g 76) (g 77) w) : bH pg dX (aE 8 (bI (aE 1 (aB 2 (bI (bI (aB 1 (aE 1 (aB 1 (aB 1 (aB 9 dM))))))))))) Q g w :=
 dP (kr := no) (l := [(3, fun g w => k3 (g 5) (g 9) (g 11) (g 14) w)]) h hn eU ⟨h3, trivial⟩
def Nf (kn : K8) (k3 : K4) (b5 xF b9 jC bG fM l6 l7 : aLm) (w : aLl) : Prop :=
 DF (fun b5 xF b9 jC bG fM l6 l7 o9 p0 w => EB kn b5 xF b9 jC bG fM l6 l7 o9 p0 w) k3 b5 xF b9 jC bG fM l6 l7 w
def Eb (kn : K8) (k3 : K4) (b5 xF b9 jC bG fM l6 l7 : aLm) (w : aLl) : Prop :=
 Nf kn k3 b5 xF b9 jC bG fM l6 l7 w
def DN (kn : K8) (k3 : K4) (b5 xF b9 jC bG fM l6 l7 : aLm) (w : aLl) : Prop :=
 Eb (fun b5 xF b9 jC bG fM l6 l7 w => zS kn b5 xF b9 jC bG fM l6 l7 w) k3 b5 xF b9 jC bG fM l6 l7 w
theorem U7 (kn : K8) (k3 : K4) (hn : N8 Q kn 5 8 9 11 12 14 76 77) (h3 : E4 Q k3 3 5 9 11 14) (h : Eb kn k3 (g 5) (g 8) (g 9) (g 11) (g 12) (g 14) (g 76) (g 77) w) : bH pg dX (aE 1 (aB 2 (bI (bI (aB 1 (aE 1 (aB 1 (aB 1 (aB 9 dM))))))))) Q g w :=
 wD 4 (gC 8 (UR _ g w (EB kn) k3 (fun g w h => aJ (wD 5 (Uh _ g w kn hn h))) h3 h))
def C5 (kn : K8) (k3 : K4) (b5 xF b9 jC bG fM l6 l7 : aLm) (w : aLl) : Prop :=
 aC pg (aH .lss 3 aM aM l7 l6) w fun l8 w =>
 fE l8
  (kn b5 xF b9 jC bG fM l6 l7 w)
  (k3 b5 b9 jC fM w)
theorem Ta (kn : K8) (k3 : K4) (hn : N8 Q kn 5 8 9 11 12 14 76 77) (h3 : E4 Q k3 3 5 9 11 14) (h : C5 kn k3 (g 5) (g 8) (g 9) (g 11) (g 12) (g 14) (g 76) (g 77) w) : bH pg dX (aE 2 (bI (bI (aB 1 (aE 1 (aB 1 (aB 1 (aB 9 dM)))))))) Q g w :=
 dP (kr := no) (l := [(3, fun g w => k3 (g 5) (g 9) (g 11) (g 14) w)]) h hn eU ⟨h3, trivial⟩
def yD (kn : K8) (k3 : K4) (b5 xF b9 jC bG fM l6 l7 : aLm) (w : aLl) : Prop :=
 C5 (fun b5 xF b9 jC bG fM l6 l7 w => DN kn k3 b5 xF b9 jC bG fM l6 l7 w) k3 b5 xF b9 jC bG fM l6 l7 w
def yN (k3 : K4) (b5 xF b9 jC bG fM l6 l7 : aLm) (w : aLl) : Prop :=
 cC (fun (X : (aLm × aLm) -> K0) (t : aLm × aLm) (w : aLl) => yD (fun _ _ _ _ _ fM _ l7 w => X (fM, l7) w) k3 b5 xF b9 jC bG t.1 l6 t.2 w) (fM, l7) w
theorem S3 (kn : K8) (k3 : K4) (hn : N8 Q kn 5 8 9 11 12 14 76 77) (h3 : E4 Q k3 3 5 9 11 14) (h : yD kn k3 (g 5) (g 8) (g 9) (g 11) (g 12) (g 14) (g 76) (g 77) w) : bH pg dX (bI (bI (aB 1 (aE 1 (aB 1 (aB 1 (aB 9 dM))))))) Q g w :=
 gC 2 (Ta _ g w (DN kn k3) k3 (fun g w h => aJ (gC 1 (U7 _ g w (zS kn) k3 (fun g w h => aJ (T6 _ g w kn hn h)) h3 h))) h3 h)
theorem S6 (k3 : K4) (h3 : E4 Q k3 3 5 9 11 14) (h : yN k3 (g 5) (g 8) (g 9) (g 11) (g 12) (g 14) (g 76) (g 77) w) : bH pg dX (bI (aB 1 (aE 1 (aB 1 (aB 1 (aB 9 dM)))))) Q g w := by
 refine Cy (fun g : Env => (g 14, g 77)) (fun X t w => yD (fun _ _ _ _ _ fM _ l7 w => X (fM, l7) w) k3 (g 5) (g 8) (g 9) (g 11) (g 12) t.1 (g 76) t.2 w) h (fun X g1 w1 ha hL => ?_)
 rw [<- fL 5 ha, <- fL 8 ha, <- fL 9 ha, <- fL 11 ha, <- fL 12 ha, <- fL 76 ha] at hL
 exact (S3 _ g1 w1 (fun _ _ _ _ _ fM _ l7 w => X (fM, l7) w) k3 (fun _ _ h => h) h3 hL)
def CF (kn : K4) (b5 xF b9 jC bG fM l6 l7 : aLm) (w : aLl) : Prop :=
 yN kn b5 xF b9 jC bG fM l6 l7 w
def Db (kn : K8) (b5 xF b9 jC bG fM : aLm) (w : aLl) : Prop :=
 kn b5 xF b9 jC bG fM xF (aLn 0) w
theorem Tp (kn : K8) (hn : N8 Q kn 5 8 9 11 12 14 76 77) (h : Db kn (g 5) (g 8) (g 9) (g 11) (g 12) (g 14) w) : bH pg dX (aE 1 (aE 1 (aB 1 (aB 1 (aB 9 dM))))) Q g w :=
 dP (kr := no) (l := []) h hn eU trivial
def CK (kn : K4) (b5 xF b9 jC bG fM : aLm) (w : aLl) : Prop :=
 Db (fun b5 xF b9 jC bG fM l6 l7 w => CF kn b5 xF b9 jC bG fM l6 l7 w) b5 xF b9 jC bG fM w
def CW (R : K1) (b5 xF b9 jC bG fM : aLm) (w : aLl) : Prop :=
 CK (fun b5 b9 jC fM w => Ab R b5 b9 jC fM w) b5 xF b9 jC bG fM w
theorem S5 (kn : K4) (hn : N4 Q kn 5 9 11 14) (h : CK kn (g 5) (g 8) (g 9) (g 11) (g 12) (g 14) w) : bH pg dX (aE 1 (aB 1 (aB 1 (aB 9 dM)))) Q g w :=
 gC 1 (Tp _ g w (CF kn) (fun g w h => aJ (wD 3 (S6 _ g w kn hn h))) h)
def CG (kn : K6) (b5 xF b9 jC bG : aLm) (w : aLl) : Prop :=
 kn b5 xF b9 jC bG (.slice none 0 0) w
theorem TK (kn : K6) (hn : N6 Q kn 5 8 9 11 12 14) (h : CG kn (g 5) (g 8) (g 9) (g 11) (g 12) w) : bH pg dX (aE 1 (aB 1 (aB 9 dM))) Q g w :=
 dP (kr := no) (l := []) h hn eU trivial
def C4 (R : K1) (b5 xF b9 jC bG : aLm) (w : aLl) : Prop :=
 CG (fun b5 xF b9 jC bG fM w => CW R b5 xF b9 jC bG fM w) b5 xF b9 jC bG w
def yG (kn : K6) (k1 : K5) (b5 xF b9 jC bG j5 : aLm) (w : aLl) : Prop :=
 aC pg (aH .lss 3 aM aM j5 (aLn 3)) w fun j6 w =>
 fE j6
  (aC pg (aY 29 b9 j5) w fun l0 w =>
  aC pg (aI 27 l0) w fun l1 w =>
  aR pg Nh #[l1, jC] w fun l3 w =>
  aC pg (aY 67 bG j5) w fun l4 w =>
  aC pg (aK 3 l4 l3) w fun _u w =>
  aC pg (aH .add 3 aM aM j5 (aLn 1)) w fun l5 w =>
  kn b5 xF b9 jC bG l5 w)
  (k1 b5 xF b9 jC bG w)
theorem Tz (kn : K6) (k1 : K5) (hn : N6 Q kn 5 8 9 11 12 65) (h1 : E5 Q k1 1 5 8 9 11 12) (h : yG kn k1 (g 5) (g 8) (g 9) (g 11) (g 12) (g 65) w) : bH pg dX (bI (bI (aB 1 (aE 1 (aB 9 dM))))) Q g w :=
 dP (kr := no) (l := [(1, fun g w => k1 (g 5) (g 8) (g 9) (g 11) (g 12) w)]) h hn eU ⟨h1, trivial⟩
def yA (k1 : K5) (b5 xF b9 jC bG j5 : aLm) (w : aLl) : Prop :=
 cC (fun (X : aLm -> K0) (t : aLm) (w : aLl) => yG (fun _ _ _ _ _ j5 w => X j5 w) k1 b5 xF b9 jC bG t w) j5 w
theorem Ti (k1 : K5) (h1 : E5 Q k1 1 5 8 9 11 12) (h : yA k1 (g 5) (g 8) (g 9) (g 11) (g 12) (g 65) w) : bH pg dX (bI (aB 1 (aE 1 (aB 9 dM)))) Q g w := by
 refine Cy (fun g : Env => g 65) (fun X t w => yG (fun _ _ _ _ _ j5 w => X j5 w) k1 (g 5) (g 8) (g 9) (g 11) (g 12) t w) h (fun X g1 w1 ha hL => ?_)
 rw [<- fL 5 ha, <- fL 8 ha, <- fL 9 ha, <- fL 11 ha, <- fL 12 ha] at hL
 exact (Tz _ g1 w1 (fun _ _ _ _ _ j5 w => X j5 w) k1 (fun _ _ h => h) h1 hL)
def Cs (kn : K5) (b5 xF b9 jC bG j5 : aLm) (w : aLl) : Prop :=
 yA kn b5 xF b9 jC bG j5 w
def Dc (kn : K6) (b5 xF b9 jC bG : aLm) (w : aLl) : Prop :=
 kn b5 xF b9 jC bG (aLn 0) w
theorem Tf (kn : K6) (hn : N6 Q kn 5 8 9 11 12 65) (h : Dc kn (g 5) (g 8) (g 9) (g 11) (g 12) w) : bH pg dX (aE 1 (aE 1 (aB 9 dM))) Q g w :=
 dP (kr := no) (l := []) h hn eU trivial
def CT (kn : K5) (b5 xF b9 jC bG : aLm) (w : aLl) : Prop :=
 Dc (fun b5 xF b9 jC bG j5 w => Cs kn b5 xF b9 jC bG j5 w) b5 xF b9 jC bG w
def CM (R : K1) (b5 xF b9 jC bG : aLm) (w : aLl) : Prop :=
 CT (fun b5 xF b9 jC bG w => C4 R b5 xF b9 jC bG w) b5 xF b9 jC bG w
theorem S2 (kn : K5) (hn : N5 Q kn 5 8 9 11 12) (h : CT kn (g 5) (g 8) (g 9) (g 11) (g 12) w) : bH pg dX (aE 1 (aB 9 dM)) Q g w :=
 gC 1 (Tf _ g w (Cs kn) (fun g w h => aJ (wD 1 (Ti _ g w kn hn h))) h)
def C2 (kn : K5) (R : K1) (EW Uq : aLm) (w : aLl) : Prop :=
 aC pg (sU 29 Uq) w fun dL w =>
 aC pg (bV 29) w fun b5 w =>
 aR pg tM #[EW] w fun d0 w =>
 aR pg xQ #[d0] w fun d2 w =>
 aR pg mY #[d0] w fun d5 w =>
 aC pg (aH .neq 30 (.tmp 25) (.const (aLn 0)) d5 (aLn 0)) w fun d6 w =>
 fE d6
  (aC pg (bX 29 []) w fun d7 w =>
  aR pg mY #[d0] w fun d9 w =>
  aC pg (aK 29 b5 d7) w fun _u w =>
  mW pg 29 b5 w fun r1 => R (.tuple #[(.slice none 0 0), r1, d9]) w)
  (aC pg (aH .eql 3 (.tmp 31) (.const (aLn 0)) d2 (aLn 0)) w fun e2 w =>
  Gd (eZ e2 true) (fun K => K d0 w) w fun e4 w =>
  Gd (eZ e2 true) (fun K => aR pg oC #[e4] w K) w fun e5 w =>
  Gd (eZ e2 true) (fun K => aC pg (aH .gtr 3 aM aM e5 (aLn 0)) w K) w fun e6 w =>
  aC pg (fV e2 e6 (.bool false)) w fun e7 w =>
  fE e7
   (aC pg (bX 29 []) w fun e8 w =>
   aC pg (aK 29 b5 e8) w fun _u w =>
   mW pg 29 b5 w fun r1 => R (.tuple #[(.slice none 0 0), r1, (aLn 15)]) w)
   (aC pg (aH .eql 3 (.tmp 40) (.const (aLn 0)) d2 (aLn 0)) w fun f1 w =>
   fE f1
    (aC pg (aI 29 dL) (dr w) fun f2 w_ => w_ = (dr w) /\
    (dr w) = (dr w) /\
    aC pg (aK 29 b5 f2) (dr w) fun _u2 axL =>
    axL = axL /\
    mW pg 29 b5 axL fun r1 => R (.tuple #[(.slice none 0 0), r1, (aLn 0)]) axL)
    (aC pg (aI 29 dL) w fun f5 w =>
    aR pg wS #[d0, f5] w fun f6 w =>
    aC pg (bD f6 0) w fun f7 w =>
    aC pg (bD f6 1) w fun f8 w =>
    aC pg (bV 29) w fun b9 w =>
    aC pg (aK 29 b9 f7) w fun _u w =>
    aC pg (aH .neq 30 (.tmp 49) (.const (aLn 0)) f8 (aLn 0)) w fun i0 w =>
    fE i0
     (aC pg (bX 29 []) w fun i1 w =>
     aC pg (aK 29 b5 i1) w fun _u w =>
     mW pg 29 b5 w fun r1 => R (.tuple #[(.slice none 0 0), r1, f8]) w)
     (aR pg oC #[d0] w fun i6 w =>
     aR pg pY #[d0, i6] w fun i7 w =>
     aR pg tQ #[i7] w fun i8 w =>
     aC pg (bD i8 0) w fun i9 w =>
     aC pg (bD i8 1) w fun j0 w =>
     aC pg (aH .neq 30 (.tmp 61) (.const (aLn 0)) j0 (aLn 0)) w fun j2 w =>
     fE j2
      (aC pg (bX 29 []) w fun j3 w =>
      aC pg (aK 29 b5 j3) w fun _u w =>
      mW pg 29 b5 w fun r1 => R (.tuple #[(.slice none 0 0), r1, j0]) w)
      (aC pg (bV 67) w fun bG w =>
      kn b5 d2 b9 i9 bG w)))))
theorem Th (kn : K5) (R : K1) (hn : N5 Q kn 5 8 9 11 12) (hr : HR zY R Q) (h : C2 kn R (g 0) (g 1) w) : bH pg dX (aE 9 dM) Q g w :=
 dP (l := []) h hn hr trivial
def Cz (R : K1) (EW Uq : aLm) (w : aLl) : Prop :=
 C2 (fun b5 xF b9 jC bG w => CM R b5 xF b9 jC bG w) R EW Uq w
theorem TN (R : K1) (hr : HR zY R Q) (h : Cz R (g 0) (g 1) w) : bH pg dX dM Q g w :=
 gC 9 (Th _ g w (CM R) R (fun g w h => aJ (gC 1 (S2 _ g w (C4 R) (fun g w h => aJ (gC 1 (TK _ g w (CW R) (fun g w h => aJ (gC 1 (S5 _ g w (Ab R) (fun g w h => aJ (T7 _ g w R hr h)) h))) h))) h))) hr h)
def Va (a0 a1 : aLm) (w : aLl) (R : K1) : Prop :=
 Cz R a0 a1 w
theorem WI {a0 a1 : aLm} {w : aLl} {R : K1} (h : Va a0 a1 w R) : aR pg xE #[a0, a1] w R := by
 refine tD (ann := dX) Tryd.f8 dM [a0, a1] zY 137 TrydM.mixed Tryd.func8 ?_
 exact (TN _ _ _ R (fun _ _ h => h) h)
def fU : FA := ⟨yL, fun i => match Nat.beq i 4 with | true => .leaf ([4], [(1, 4), (2, 4)]) [(false, []), (false, []), (false, []), (false, []), (true, [1, 2]), (false, [])] | false => match Nat.beq i 7 with | true => .leaf ([2], []) [(false, []), (false, []), (true, []), (false, [])] | false => match Nat.beq i 8 with | true => .leaf ([2], []) [(false, []), (false, []), (true, []), (false, [])] | false => match Nat.beq i 11 with | true => .leaf ([4], [(1, 4), (2, 4)]) [(false, []), (false, []), (false, []), (false, []), (true, [1, 2]), (false, [])] | false => match Nat.beq i 13 with | true => .leaf ([2], []) [(false, []), (false, []), (true, []), (false, [])] | false => match Nat.beq i 20 with | true => .split 9 14 (.perm [0, 1, 2, 3, 4, 5, 6, 7, 8, 9, 10, 11, 12, 13, 14, 15, 16, 17] [(9, 14)] ([9, 14, 15], [(11, 14), (12, 14), (12, 15), (13, 14), (13, 15)]) [(false, []), (false, []), (false, []), (false, []), (false, []), (false, []), (false, []), (false, []), (false, []), (true, []), (false, []), (false, []), (false, []), (false, []), (true, [0, 1, 2]), (true, [1, 2]), (false, []), (false, [])]) (.perm [0, 1, 2, 3, 4, 5, 6, 7, 8, 14, 9, 10, 11, 12, 13, 15, 16, 17] [(14, 9)] ([9, 10, 15], [(3, 9), (4, 9), (7, 9), (8, 9), (13, 15), (14, 15)]) [(false, []), (false, []), (false, []), (false, []), (false, []), (false, []), (false, []), (false, []), (false, []), (true, [0, 1, 4, 5]), (true, []), (false, []), (false, []), (false, []), (false, []), (true, [0, 1]), (false, []), (false, [])]) | false => match Nat.beq i 22 with | true => .leaf ([3], []) [(false, []), (false, []), (false, []), (true, []), (false, [])] | false => match Nat.beq i 27 with | true => .leaf ([3], []) [(false, []), (false, []), (false, []), (true, []), (false, [])] | false => match Nat.beq i 46 with | true => .leaf ([2], []) [(false, []), (false, []), (true, []), (false, [])] | false => match Nat.beq i 48 with | true => .leaf ([2], []) [(false, []), (false, []), (true, []), (false, [])] | false => match Nat.beq i 49 with | true => .leaf ([3], []) [(false, []), (false, []), (false, []), (true, []), (false, [])] | false => .leaf ([], []) []⟩
def oZ : List ResultVar := [.tmp 4, .cell 5 36, .tmp 6]
noncomputable def eN : Code := cX Tryd.f9
def Ha (R : K1) (b5 cO c2 qB kR : aLm) (w : aLl) : Prop :=
 aC pg (aI 82 qB) w fun t199 w =>
 aR pg Ef #[t199] w fun t200 w =>
 aC pg (aH .lss 3 aM aM t200 (aLn 0)) w fun t202 w =>
 fE t202
  (aC pg (aI 36 cO) (dr w) fun t203 w_ => w_ = (dr w) /\
  (dr w) = (dr w) /\
  aC pg (aK 36 b5 t203) (dr w) fun _u2 aCt =>
  aCt = aCt /\
  mW pg 36 b5 aCt fun r1 => R (.tuple #[(.slice none 0 0), r1, (aLn 11)]) aCt)
  (aC pg (aH .gtr 3 aM aM t200 (aLn 0)) w fun t205 w =>
  fE t205
   (aC pg (aI 36 cO) (dr w) fun t206 w_ => w_ = (dr w) /\
   (dr w) = (dr w) /\
   aC pg (aK 36 b5 t206) (dr w) fun _u2 aB1 =>
   aB1 = aB1 /\
   mW pg 36 b5 aB1 fun r1 => R (.tuple #[(.slice none 0 0), r1, (aLn 15)]) aB1)
   ((dr w) = (dr w) /\
   aC pg (aI 36 c2) (dr w) fun t208 w_ => w_ = (dr w) /\
   (dr w) = (dr w) /\
   aC pg (aK 36 b5 t208) (dr w) fun _u3 aCi =>
   aCi = aCi /\
   mW pg 36 b5 aCi fun r1 => R (.tuple #[kR, r1, (aLn 0)]) aCi))
theorem aeZ (R : K1) (hr : HR oZ R Q) (h : Ha R (g 5) (g 7) (g 12) (g 18) (g 23) w) : bH pg fU (aB 1 (aB 6 (aB 1 (aB 11 eN)))) Q g w :=
 dP (kn := no) (l := []) h eU hr trivial
def BS (kn : Fk) (b5 cO vX c2 qB qK qS qL kR Hv : aLm) (w : aLl) : Prop :=
 aC pg (aH .add 73 aM aM Hv (.int .u64 1)) w fun s9 w =>
 kn b5 cO vX c2 qB qK qS qL kR s9 w
theorem aeG (kn : Fk) (hn : N10 Q kn 5 7 9 12 18 20 21 22 23 24) (h : BS kn (g 5) (g 7) (g 9) (g 12) (g 18) (g 20) (g 21) (g 22) (g 23) (g 24) w) : bH pg fU (aB 2 (bI (bI (aB 1 (aE 1 (aB 6 (aB 1 (aB 11 eN)))))))) Q g w :=
 dP (kr := no) (l := []) h hn eU trivial
def Pw (kn : Fk) (k2 : K5) (b5 cO vX c2 qB qK qS qL kR Hv : aLm) (w : aLl) : Prop :=
 aC pg (aH .lss 73 aM aM Hv vX) w fun s7 w =>
 fE s7
  (aC pg (bV 47) w fun aGm w =>
  aC pg (aY 36 c2 (aLn 1)) w fun u1 w =>
  aC pg (aI 35 u1) w fun u2 w =>
  aC pg (aI 82 qB) w fun u4 w =>
  aR pg zE #[(aLn 1), u2, qS, u4] w fun u5 w =>
  aC pg (bD u5 0) w fun u6 w =>
  aC pg (bD u5 1) w fun u7 w =>
  aC pg (aK 82 qB u6) w fun _u w =>
  aC pg (aL 47 aGm 2) w fun u8 w =>
  aC pg (aK 43 u8 u7) w fun _u w =>
  aC pg (aY 36 c2 (aLn 2)) w fun v0 w =>
  aC pg (aI 35 v0) w fun v1 w =>
  aC pg (aI 82 qB) w fun v3 w =>
  aR pg zE #[(aLn 2), v1, qL, v3] w fun v4 w =>
  aC pg (bD v4 0) w fun v5 w =>
  aC pg (bD v4 1) w fun v6 w =>
  aC pg (aK 82 qB v5) w fun _u w =>
  aC pg (aL 47 aGm 1) w fun v7 w =>
  aC pg (aK 43 v7 v6) w fun _u w =>
  aC pg (aY 36 c2 (aLn 0)) w fun v9 w =>
  aC pg (aI 35 v9) w fun x0 w =>
  aC pg (aI 82 qB) w fun x2 w =>
  aR pg zE #[(aLn 0), x0, qK, x2] w fun x3 w =>
  aC pg (bD x3 0) w fun x4 w =>
  aC pg (bD x3 1) w fun x5 w =>
  aC pg (aK 82 qB x4) w fun _u w =>
  aC pg (aL 47 aGm 0) w fun x6 w =>
  aC pg (aK 43 x6 x5) w fun _u w =>
  aC pg (aI 47 aGm) w fun x8 w =>
  aC pg (cD 24 1 [(0, x8)]) w fun x9 w =>
  aC pg (lF .append #[24, 24] 24 [kR, x9]) w fun y0 w =>
  aC pg (aH .add 73 aM aM Hv (.int .u64 1)) w fun y2 w =>
  aC pg (aH .lss 73 aM aM y2 vX) w fun y4 w =>
  fE y4
   (aC pg (aY 36 c2 (aLn 0)) w fun y6 w =>
   aC pg (aI 35 y6) w fun y7 w =>
   aC pg (aI 82 qB) w fun y9 w =>
   aR pg xY #[y7, qK, y9] w fun z0 w =>
   aC pg (bD z0 0) w fun z1 w =>
   aC pg (bD z0 1) w fun z2 w =>
   aC pg (aK 82 qB z1) w fun _u w =>
   aC pg (aY 36 c2 (aLn 2)) w fun z4 w =>
   aC pg (aI 35 z4) w fun z5 w =>
   aC pg (aI 82 qB) w fun z7 w =>
   aR pg xY #[z5, qL, z7] w fun z8 w =>
   aC pg (bD z8 0) w fun z9 w =>
   aC pg (bD z8 1) w fun t190 w =>
   aC pg (aK 82 qB z9) w fun _u w =>
   aC pg (aY 36 c2 (aLn 1)) w fun t192 w =>
   aC pg (aI 35 t192) w fun t193 w =>
   aC pg (aI 82 qB) w fun t195 w =>
   aR pg xY #[t193, qS, t195] w fun t196 w =>
   aC pg (bD t196 0) w fun t197 w =>
   aC pg (bD t196 1) w fun t198 w =>
   aC pg (aK 82 qB t197) w fun _u w =>
   kn b5 cO vX c2 qB z2 t198 t190 y0 Hv w)
   (kn b5 cO vX c2 qB qK qS qL y0 Hv w))
  (k2 b5 cO c2 qB kR w)
theorem ajM (kn : Fk) (k2 : K5) (hn : N10 Q kn 5 7 9 12 18 20 21 22 23 24) (h2 : E5 Q k2 2 5 7 12 18 23) (h : Pw kn k2 (g 5) (g 7) (g 9) (g 12) (g 18) (g 20) (g 21) (g 22) (g 23) (g 24) w) : bH pg fU (aE 2 (bI (bI (aB 1 (aE 1 (aB 6 (aB 1 (aB 11 eN)))))))) Q g w :=
 dP (kr := no) (l := [(2, fun g w => k2 (g 5) (g 7) (g 12) (g 18) (g 23) w)]) h hn eU ⟨h2, trivial⟩
def GF (kn : Fk) (k2 : K5) (b5 cO vX c2 qB qK qS qL kR Hv : aLm) (w : aLl) : Prop :=
 Pw (fun b5 cO vX c2 qB qK qS qL kR Hv w => BS kn b5 cO vX c2 qB qK qS qL kR Hv w) k2 b5 cO vX c2 qB qK qS qL kR Hv w
def G3 (k2 : K5) (b5 cO vX c2 qB qK qS qL kR Hv : aLm) (w : aLl) : Prop :=
 cC (fun (X : (aLm × aLm × aLm × aLm × aLm) -> K0) (t : aLm × aLm × aLm × aLm × aLm) (w : aLl) => GF (fun _ _ _ _ _ qK qS qL kR Hv w => X (qK, qS, qL, kR, Hv) w) k2 b5 cO vX c2 qB t.1 t.2.1 t.2.2.1 t.2.2.2.1 t.2.2.2.2 w) (qK, qS, qL, kR, Hv) w
theorem afK (kn : Fk) (k2 : K5) (hn : N10 Q kn 5 7 9 12 18 20 21 22 23 24) (h2 : E5 Q k2 2 5 7 12 18 23) (h : GF kn k2 (g 5) (g 7) (g 9) (g 12) (g 18) (g 20) (g 21) (g 22) (g 23) (g 24) w) : bH pg fU (bI (bI (aB 1 (aE 1 (aB 6 (aB 1 (aB 11 eN))))))) Q g w :=
 gC 2 (ajM _ g w (BS kn) k2 (fun g w h => aJ (aeG _ g w kn hn h)) h2 h)
theorem afX (k2 : K5) (h2 : E5 Q k2 2 5 7 12 18 23) (h : G3 k2 (g 5) (g 7) (g 9) (g 12) (g 18) (g 20) (g 21) (g 22) (g 23) (g 24) w) : bH pg fU (bI (aB 1 (aE 1 (aB 6 (aB 1 (aB 11 eN)))))) Q g w := by
 refine Cy (fun g : Env => (g 20, g 21, g 22, g 23, g 24)) (fun X t w => GF (fun _ _ _ _ _ qK qS qL kR Hv w => X (qK, qS, qL, kR, Hv) w) k2 (g 5) (g 7) (g 9) (g 12) (g 18) t.1 t.2.1 t.2.2.1 t.2.2.2.1 t.2.2.2.2 w) h (fun X g1 w1 ha hL => ?_)
 rw [<- fL 5 ha, <- fL 7 ha, <- fL 9 ha, <- fL 12 ha, <- fL 18 ha] at hL
 exact (afK _ g1 w1 (fun _ _ _ _ _ qK qS qL kR Hv w => X (qK, qS, qL, kR, Hv) w) k2 (fun _ _ h => h) h2 hL)
def PC (kn : K5) (b5 cO vX c2 qB qK qS qL kR Hv : aLm) (w : aLl) : Prop :=
 G3 kn b5 cO vX c2 qB qK qS qL kR Hv w
def NX (kn : Fk) (b5 cO vX c2 qB qK qS qL kR : aLm) (w : aLl) : Prop :=
 kn b5 cO vX c2 qB qK qS qL kR (.int .u64 0) w
theorem ahR (kn : Fk) (hn : N10 Q kn 5 7 9 12 18 20 21 22 23 24) (h : NX kn (g 5) (g 7) (g 9) (g 12) (g 18) (g 20) (g 21) (g 22) (g 23) w) : bH pg fU (aE 1 (aE 1 (aB 6 (aB 1 (aB 11 eN))))) Q g w :=
 dP (kr := no) (l := []) h hn eU trivial
def OY (kn : K5) (b5 cO vX c2 qB qK qS qL kR : aLm) (w : aLl) : Prop :=
 NX (fun b5 cO vX c2 qB qK qS qL kR Hv w => PC kn b5 cO vX c2 qB qK qS qL kR Hv w) b5 cO vX c2 qB qK qS qL kR w
def NW (R : K1) (b5 cO vX c2 qB qK qS qL kR : aLm) (w : aLl) : Prop :=
 OY (fun b5 cO c2 qB kR w => Ha R b5 cO c2 qB kR w) b5 cO vX c2 qB qK qS qL kR w
theorem ajS (kn : K5) (hn : N5 Q kn 5 7 12 18 23) (h : OY kn (g 5) (g 7) (g 9) (g 12) (g 18) (g 20) (g 21) (g 22) (g 23) w) : bH pg fU (aE 1 (aB 6 (aB 1 (aB 11 eN)))) Q g w :=
 gC 1 (ahR _ g w (PC kn) (fun g w h => aJ (wD 2 (afX _ g w kn hn h))) h)
def Mt (kn : K9) (R : K1) (b5 cO vX c2 dY : aLm) (w : aLl) : Prop :=
 aR pg Hq #[dY] w fun o7 w =>
 aC pg (bD o7 0) w fun o8 w =>
 aC pg (bD o7 1) w fun o9 w =>
 aC pg (bV 82) w fun qB w =>
 aC pg (aK 82 qB o8) w fun _u w =>
 aC pg (aH .neq 30 (.tmp 110) (.const (aLn 0)) o9 (aLn 0)) w fun p1 w =>
 fE p1
  (aC pg (aI 36 cO) (dr w) fun p2 w_ => w_ = (dr w) /\
  (dr w) = (dr w) /\
  (dr w) = (dr w) /\
  aC pg (aK 36 b5 p2) (dr w) fun _u3 aCp =>
  aCp = aCp /\
  mW pg 36 b5 aCp fun r1 => R (.tuple #[(.slice none 0 0), r1, o9]) aCp)
  (aC pg (aY 36 c2 (aLn 0)) w fun p5 w =>
  aC pg (aI 35 p5) w fun p6 w =>
  aC pg (aI 82 qB) w fun p7 w =>
  aR pg vB #[p6, p7] w fun p8 w =>
  aC pg (bD p8 0) w fun p9 w =>
  aC pg (bD p8 1) w fun q0 w =>
  aC pg (aK 82 qB p9) w fun _u w =>
  aC pg (aY 36 c2 (aLn 1)) w fun q2 w =>
  aC pg (aI 35 q2) w fun q3 w =>
  aC pg (aI 82 qB) w fun q4 w =>
  aR pg vB #[q3, q4] w fun q5 w =>
  aC pg (bD q5 0) w fun q6 w =>
  aC pg (bD q5 1) w fun q7 w =>
  aC pg (aK 82 qB q6) w fun _u w =>
  aC pg (aY 36 c2 (aLn 2)) w fun q9 w =>
  aC pg (aI 35 q9) w fun s0 w =>
  aC pg (aI 82 qB) w fun s1 w =>
  aR pg vB #[s0, s1] w fun s2 w =>
  aC pg (bD s2 0) w fun s3 w =>
  aC pg (bD s2 1) w fun s4 w =>
  aC pg (aK 82 qB s3) w fun _u w =>
  kn b5 cO vX c2 qB q0 q7 s4 (.slice none 0 0) w)
theorem Zm (kn : K9) (R : K1) (hn : N9 Q kn 5 7 9 12 18 20 21 22 23) (hr : HR oZ R Q) (h : Mt kn R (g 5) (g 7) (g 9) (g 12) (g 13) w) : bH pg fU (aE 6 (aB 1 (aB 11 eN))) Q g w :=
 dP (l := []) h hn hr trivial
def D8 (R : K1) (b5 cO vX c2 dY : aLm) (w : aLl) : Prop :=
 Mt (fun b5 cO vX c2 qB qK qS qL kR w => NW R b5 cO vX c2 qB qK qS qL kR w) R b5 cO vX c2 dY w
def Ax (kn : K8) (dL b5 cO vX eK c2 dY rE : aLm) (w : aLl) : Prop :=
 aC pg (aH .add 3 aM aM rE (aLn 1)) w fun m0 w =>
 kn dL b5 cO vX eK c2 dY m0 w
theorem Z6 (kn : K8) (hn : N8 Q kn 3 5 7 9 11 12 13 14) (h : Ax kn (g 3) (g 5) (g 7) (g 9) (g 11) (g 12) (g 13) (g 14) w) : bH pg fU (aB 1 (aB 1 (bI (bI (aB 1 (aE 1 (aB 11 eN))))))) Q g w :=
 dP (kr := no) (l := []) h hn eU trivial
def tI (kn : K8) (R : K1) (dL b5 cO vX eK c2 dY rE arP aaM aDQ : aLm) (w : aLl) : Prop :=
 aC pg (aH .neq 30 (.tmp 95) (.const (aLn 0)) aDQ (aLn 0)) w fun n6 w =>
 fE n6
  (aC pg (aI 36 cO) (dr w) fun n7 w_ => w_ = (dr w) /\
  (dr w) = (dr w) /\
  (dr w) = (dr w) /\
  aC pg (aK 36 b5 n7) (dr w) fun _u3 aCj =>
  aCj = aCj /\
  mW pg 36 b5 aCj fun r1 => R (.tuple #[(.slice none 0 0), r1, aDQ]) aCj)
  (aC pg (aI 35 arP) w fun o0 w =>
  aC pg (aY 36 c2 rE) w fun o1 w =>
  aC pg (aK 35 o1 o0) w fun _u w =>
  aC pg (gB 9 dY (some aaM) none none) w fun o4 w =>
  kn dL b5 cO vX eK c2 o4 rE w)
theorem ZB (kn : K8) (R : K1) (hn : N8 Q kn 3 5 7 9 11 12 13 14) (hr : HR oZ R Q) (h : tI kn R (g 3) (g 5) (g 7) (g 9) (g 11) (g 12) (g 13) (g 14) (g 15) (g 16) (g 17) w) : bH pg fU (aB 1 (bI (aE 1 (aB 1 (bI (bI (aB 1 (aE 1 (aB 11 eN))))))))) Q g w :=
 dP (l := []) h hn hr trivial
def MS (kn : K11) (dL b5 cO vX eK c2 dY rE : aLm) (w : aLl) : Prop :=
 Ord (anA yL 20 (Ft 20 eN) 9 14 w)
  ((dr w) = (dr w) /\
  (dr w) = (dr w) /\
  (dr w) = (dr w) /\
  aC pg (aY 77 eK rE) (dr w) fun m5 w_ => w_ = (dr w) /\
  aC pg (aI 3 m5) (dr w) fun m6 w_ => w_ = (dr w) /\
  (dr w) = (dr w) /\
  (dr w) = (dr w) /\
  aC pg (aY 36 dL rE) (dr w) fun m9 w_ => w_ = (dr w) /\
  aC pg (aI 35 m9) (dr w) fun n0 w_ => w_ = (dr w) /\
  aR pg DJ #[rE, m6, dY, n0] (dr w) fun n1 LY =>
  LY = LY /\
  aC pg (bD n1 0) LY fun n2 w_ => w_ = LY /\
  aC pg (bD n1 1) LY fun n3 w_ => w_ = LY /\
  aC pg (bD n1 2) LY fun n4 w_ => w_ = LY /\
  aC pg (bV 35) LY fun arP avZ =>
  (dS pg (bD n1 2) n4 avZ /\ dS pg (bD n1 1) n3 avZ /\ dS pg (bD n1 0) n2 avZ /\ True) /\
  aC pg (aK 35 arP n2) avZ fun _u15 CC =>
  (dS pg (bD n1 2) n4 CC /\ dS pg (bD n1 1) n3 CC /\ True) /\
  CC = CC /\
  CC = CC /\
  kn dL b5 cO vX eK c2 dY rE arP n3 n4 CC)
  ((dr w) = (dr w) /\
  (dr w) = (dr w) /\
  (dr w) = (dr w) /\
  aC pg (aY 77 eK rE) (dr w) fun m5 w_ => w_ = (dr w) /\
  aC pg (aI 3 m5) (dr w) fun m6 w_ => w_ = (dr w) /\
  (dr w) = (dr w) /\
  (dr w) = (dr w) /\
  aC pg (aY 36 dL rE) (dr w) fun m9 w_ => w_ = (dr w) /\
  aC pg (aI 35 m9) (dr w) fun n0 w_ => w_ = (dr w) /\
  aC pg (bV 35) (dr w) fun arP LY =>
  (dS pg (aI 35 m9) n0 LY /\ dS pg (aY 36 dL rE) m9 LY /\ dS pg (aI 3 m5) m6 LY /\ dS pg (aY 77 eK rE) m5 LY /\ True) /\
  aR pg DJ #[rE, m6, dY, n0] LY fun n1 Ry =>
  Ry = Ry /\
  aC pg (bD n1 0) Ry fun n2 w_ => w_ = Ry /\
  aC pg (bD n1 1) Ry fun n3 w_ => w_ = Ry /\
  aC pg (bD n1 2) Ry fun n4 w_ => w_ = Ry /\
  aC pg (aK 35 arP n2) Ry fun _u15 CC =>
  (dS pg (bD n1 2) n4 CC /\ dS pg (bD n1 1) n3 CC /\ True) /\
  CC = CC /\
  CC = CC /\
  kn dL b5 cO vX eK c2 dY rE arP n3 n4 CC)
theorem aaW (kn : K11) (hn : N11 Q kn 3 5 7 9 11 12 13 14 15 16 17) (h : MS kn (g 3) (g 5) (g 7) (g 9) (g 11) (g 12) (g 13) (g 14) w) : bH pg fU (aE 1 (bI (aE 1 (aB 1 (bI (bI (aB 1 (aE 1 (aB 11 eN))))))))) Q g w :=
 dP (kr := no) (l := []) h hn eU trivial
def Ux (kn : K8) (R : K1) (dL b5 cO vX eK c2 dY rE : aLm) (w : aLl) : Prop :=
 MS (fun dL b5 cO vX eK c2 dY rE arP aaM aDQ w => tI kn R dL b5 cO vX eK c2 dY rE arP aaM aDQ w) dL b5 cO vX eK c2 dY rE w
def Kw (kn : K8) (R : K1) (dL b5 cO vX eK c2 dY rE : aLm) (w : aLl) : Prop :=
 Ux kn R dL b5 cO vX eK c2 dY rE w
def LB (kn : K8) (R : K1) (dL b5 cO vX eK c2 dY rE : aLm) (w : aLl) : Prop :=
 Kw (fun dL b5 cO vX eK c2 dY rE w => Ax kn dL b5 cO vX eK c2 dY rE w) R dL b5 cO vX eK c2 dY rE w
theorem acC (kn : K8) (R : K1) (hn : N8 Q kn 3 5 7 9 11 12 13 14) (hr : HR oZ R Q) (h : Kw kn R (g 3) (g 5) (g 7) (g 9) (g 11) (g 12) (g 13) (g 14) w) : bH pg fU (aE 1 (aB 1 (bI (bI (aB 1 (aE 1 (aB 11 eN))))))) Q g w :=
 wD 1 (gC 1 (aaW _ g w (tI kn R) (fun g w h => aJ (ZB _ g w kn R hn hr h)) h))
def KS (kn : K8) (k0 : K5) (dL b5 cO vX eK c2 dY rE : aLm) (w : aLl) : Prop :=
 aC pg (aH .lss 3 aM aM rE (aLn 3)) w fun l8 w =>
 fE l8
  (kn dL b5 cO vX eK c2 dY rE w)
  (k0 b5 cO vX c2 dY w)
theorem abY (kn : K8) (k0 : K5) (hn : N8 Q kn 3 5 7 9 11 12 13 14) (h0 : E5 Q k0 0 5 7 9 12 13) (h : KS kn k0 (g 3) (g 5) (g 7) (g 9) (g 11) (g 12) (g 13) (g 14) w) : bH pg fU (aE 1 (bI (bI (aB 1 (aE 1 (aB 11 eN)))))) Q g w :=
 dP (kr := no) (l := [(0, fun g w => k0 (g 5) (g 7) (g 9) (g 12) (g 13) w)]) h hn eU ⟨h0, trivial⟩
def EG (kn : K8) (k0 : K5) (R : K1) (dL b5 cO vX eK c2 dY rE : aLm) (w : aLl) : Prop :=
 KS (fun dL b5 cO vX eK c2 dY rE w => LB kn R dL b5 cO vX eK c2 dY rE w) k0 dL b5 cO vX eK c2 dY rE w
def Ez (k0 : K5) (R : K1) (dL b5 cO vX eK c2 dY rE : aLm) (w : aLl) : Prop :=
 cC (fun (X : (aLm × aLm) -> K0) (t : aLm × aLm) (w : aLl) => EG (fun _ _ _ _ _ _ dY rE w => X (dY, rE) w) k0 R dL b5 cO vX eK c2 t.1 t.2 w) (dY, rE) w
theorem adE (kn : K8) (k0 : K5) (R : K1) (hn : N8 Q kn 3 5 7 9 11 12 13 14) (h0 : E5 Q k0 0 5 7 9 12 13) (hr : HR oZ R Q) (h : EG kn k0 R (g 3) (g 5) (g 7) (g 9) (g 11) (g 12) (g 13) (g 14) w) : bH pg fU (bI (bI (aB 1 (aE 1 (aB 11 eN))))) Q g w :=
 gC 1 (abY _ g w (LB kn R) k0 (fun g w h => aJ (gC 1 (acC _ g w (Ax kn) R (fun g w h => aJ (Z6 _ g w kn hn h)) hr h))) h0 h)
theorem ZI (k0 : K5) (R : K1) (h0 : E5 Q k0 0 5 7 9 12 13) (hr : HR oZ R Q) (h : Ez k0 R (g 3) (g 5) (g 7) (g 9) (g 11) (g 12) (g 13) (g 14) w) : bH pg fU (bI (aB 1 (aE 1 (aB 11 eN)))) Q g w := by
 refine Cy (fun g : Env => (g 13, g 14)) (fun X t w => EG (fun _ _ _ _ _ _ dY rE w => X (dY, rE) w) k0 R (g 3) (g 5) (g 7) (g 9) (g 11) (g 12) t.1 t.2 w) h (fun X g1 w1 ha hL => ?_)
 rw [<- fL 3 ha, <- fL 5 ha, <- fL 7 ha, <- fL 9 ha, <- fL 11 ha, <- fL 12 ha] at hL
 exact (adE _ g1 w1 (fun _ _ _ _ _ _ dY rE w => X (dY, rE) w) k0 R (fun _ _ h => h) h0 hr hL)
def Ml (kn : K5) (R : K1) (dL b5 cO vX eK c2 dY rE : aLm) (w : aLl) : Prop :=
 Ez kn R dL b5 cO vX eK c2 dY rE w
def L5 (kn : K8) (dL b5 cO vX eK c2 dY : aLm) (w : aLl) : Prop :=
 kn dL b5 cO vX eK c2 dY (aLn 0) w
theorem adI (kn : K8) (hn : N8 Q kn 3 5 7 9 11 12 13 14) (h : L5 kn (g 3) (g 5) (g 7) (g 9) (g 11) (g 12) (g 13) w) : bH pg fU (aE 1 (aE 1 (aB 11 eN))) Q g w :=
 dP (kr := no) (l := []) h hn eU trivial
def LI (kn : K5) (R : K1) (dL b5 cO vX eK c2 dY : aLm) (w : aLl) : Prop :=
 L5 (fun dL b5 cO vX eK c2 dY rE w => Ml kn R dL b5 cO vX eK c2 dY rE w) dL b5 cO vX eK c2 dY w
def MG (R : K1) (dL b5 cO vX eK c2 dY : aLm) (w : aLl) : Prop :=
 LI (fun b5 cO vX c2 dY w => D8 R b5 cO vX c2 dY w) R dL b5 cO vX eK c2 dY w
theorem acE (kn : K5) (R : K1) (hn : N5 Q kn 5 7 9 12 13) (hr : HR oZ R Q) (h : LI kn R (g 3) (g 5) (g 7) (g 9) (g 11) (g 12) (g 13) w) : bH pg fU (aE 1 (aB 11 eN)) Q g w :=
 gC 1 (adI _ g w (Ml kn R) (fun g w h => aJ (wD 0 (ZI _ g w kn R hn hr h))) h)
def LX (kn : K7) (R : K1) (Ag Uq : aLm) (w : aLl) : Prop :=
 aC pg (sU 36 Uq) w fun dL w =>
 aC pg (bV 36) w fun b5 w =>
 aC pg (bV 36) w fun cO w =>
 aC pg (bX 72 [(0, Ag)]) w fun d9 w =>
 aR pg DW #[d9] w fun e0 w =>
 aC pg (bD e0 0) w fun e1 w =>
 aC pg (bD e0 1) w fun e2 w =>
 aC pg (bV 72) w fun r_8 w =>
 aC pg (aK 72 r_8 e1) w fun _u w =>
 aC pg (aL 72 r_8 1) w fun e3 w =>
 aC pg (aI 30 e3) w fun e4 w =>
 aC pg (aH .neq 30 (.tmp 34) (.const (aLn 0)) e4 (aLn 0)) w fun e5 w =>
 fE e5
  (aC pg (aI 36 cO) (dr w) fun e6 w_ => w_ = (dr w) /\
  aC pg (aL 72 r_8 1) (dr w) fun e7 w_ => w_ = (dr w) /\
  aC pg (aI 30 e7) (dr w) fun e8 w_ => w_ = (dr w) /\
  (dr w) = (dr w) /\
  aC pg (aK 36 b5 e6) (dr w) fun _u4 aC1 =>
  (dS pg (aI 30 e7) e8 aC1 /\ dS pg (aL 72 r_8 1) e7 aC1 /\ True) /\
  aC1 = aC1 /\
  mW pg 36 b5 aC1 fun r1 => R (.tuple #[(.slice none 0 0), r1, e8]) aC1)
  (aC pg (aH .eql 73 (.tmp 39) (.const (.int .u64 0)) e2 (.int .u64 0)) w fun f0 w =>
  fE f0
   (aC pg (aL 72 r_8 0) w fun f1 w =>
   aC pg (aI 9 f1) w fun f2 w =>
   aC pg (lF .len #[9] 3 [f2]) w fun f3 w =>
   aC pg (aH .gtr 3 aM aM f3 (aLn 0)) w fun f4 w =>
   fE f4
    (aC pg (aI 36 cO) (dr w) fun f5 w_ => w_ = (dr w) /\
    (dr w) = (dr w) /\
    aC pg (aK 36 b5 f5) (dr w) fun _u2 aGs =>
    aGs = aGs /\
    mW pg 36 b5 aGs fun r1 => R (.tuple #[(.slice none 0 0), r1, (aLn 15)]) aGs)
    (aC pg (aI 36 dL) (dr w) fun f6 w_ => w_ = (dr w) /\
    (dr w) = (dr w) /\
    aC pg (aK 36 b5 f6) (dr w) fun _u2 axL =>
    axL = axL /\
    mW pg 36 b5 axL fun r1 => R (.tuple #[(.slice none 0 0), r1, (aLn 0)]) axL))
   (aC pg (aI 72 r_8) w fun f8 w =>
   aR pg tO #[f8, (aLn 1)] w fun f9 w =>
   aC pg (bD f9 0) w fun i0 w =>
   aC pg (bD f9 1) w fun i1 w =>
   aC pg (aK 72 r_8 i0) w fun _u w =>
   aC pg (aL 72 r_8 1) w fun i2 w =>
   aC pg (aI 30 i2) w fun i3 w =>
   aC pg (aH .neq 30 (.tmp 53) (.const (aLn 0)) i3 (aLn 0)) w fun i4 w =>
   fE i4
    (aC pg (aI 36 cO) (dr w) fun i5 w_ => w_ = (dr w) /\
    aC pg (aL 72 r_8 1) (dr w) fun i6 w_ => w_ = (dr w) /\
    aC pg (aI 30 i6) (dr w) fun i7 w_ => w_ = (dr w) /\
    (dr w) = (dr w) /\
    aC pg (aK 36 b5 i5) (dr w) fun _u4 atO =>
    (dS pg (aI 30 i6) i7 atO /\ dS pg (aL 72 r_8 1) i6 atO /\ True) /\
    atO = atO /\
    mW pg 36 b5 atO fun r1 => R (.tuple #[(.slice none 0 0), r1, i7]) atO)
    (aC pg (aH .rem 73 aM aM i1 (.int .u64 4)) w fun i9 w =>
    aC pg (aH .neq 73 (.tmp 59) (.const (.int .u64 0)) i9 (.int .u64 0)) w fun j0 w =>
    fE j0
     (aC pg (aI 36 cO) (dr w) fun j1 w_ => w_ = (dr w) /\
     (dr w) = (dr w) /\
     aC pg (aK 36 b5 j1) (dr w) fun _u2 aCz =>
     aCz = aCz /\
     mW pg 36 b5 aCz fun r1 => R (.tuple #[(.slice none 0 0), r1, (aLn 11)]) aCz)
     (aC pg (aH .quo 73 aM aM i1 (.int .u64 64)) w fun j3 w =>
     aC pg (gF 73 3 j3) w fun j4 w =>
     aC pg (aH .quo 73 aM aM i1 (.int .u64 16)) w fun j6 w =>
     aC pg (aH .rem 73 aM aM j6 (.int .u64 4)) w fun j7 w =>
     aC pg (gF 73 3 j7) w fun j8 w =>
     aC pg (aH .quo 73 aM aM i1 (.int .u64 4)) w fun l0 w =>
     aC pg (aH .rem 73 aM aM l0 (.int .u64 4)) w fun l1 w =>
     aC pg (gF 73 3 l1) w fun l2 w =>
     aC pg (cD 77 3 [(0, j4), (1, j8), (2, l2)]) w fun l3 w =>
     aC pg (aI 36 dL) w fun l4 w =>
     aC pg (bV 36) w fun c2 w =>
     aC pg (aK 36 c2 l4) w fun _u w =>
     aC pg (aL 72 r_8 0) w fun l5 w =>
     aC pg (aI 9 l5) w fun l6 w =>
     kn dL b5 cO e2 l3 c2 l6 w))))
theorem ZJ (kn : K7) (R : K1) (hn : N7 Q kn 3 5 7 9 11 12 13) (hr : HR oZ R Q) (h : LX kn R (g 0) (g 1) w) : bH pg fU (aE 11 eN) Q g w :=
 dP (l := []) h hn hr trivial
def Md (R : K1) (Ag Uq : aLm) (w : aLl) : Prop :=
 LX (fun dL b5 cO vX eK c2 dY w => MG R dL b5 cO vX eK c2 dY w) R Ag Uq w
theorem Zz (R : K1) (hr : HR oZ R Q) (h : Md R (g 0) (g 1) w) : bH pg fU eN Q g w :=
 gC 11 (ZJ _ g w (MG R) R (fun g w h => aJ (gC 1 (acE _ g w (D8 R) R (fun g w h => aJ (gC 6 (Zm _ g w (NW R) R (fun g w h => aJ (gC 1 (ajS _ g w (Ha R) (fun g w h => aJ (aeZ _ g w R hr h)) h))) hr h))) hr h))) hr h)
def aqJ (a0 a1 : aLm) (w : aLl) (R : K1) : Prop :=
 Md R a0 a1 w
theorem anS {a0 a1 : aLm} {w : aLl} {R : K1} (h : aqJ a0 a1 w R) : aR pg yL #[a0, a1] w R := by
 refine tD (ann := fU) Tryd.f9 eN [a0, a1] oZ 209 TrydM.mixed Tryd.func9 ?_
 exact (Zz _ _ _ R (fun _ _ h => h) h)
def rC : FA := ⟨EA, fun i => match Nat.beq i 6 with | true => .leaf ([], []) [(false, []), (false, []), (false, []), (false, []), (false, []), (false, []), (false, []), (false, []), (false, [])] | false => .leaf ([], []) []⟩
def vQ : List ResultVar := [.tmp 4]
noncomputable def pO : Code := cX Tryd.f10
def GM (R : K1)  (w : aLl) : Prop :=
 R (.bool true) w
theorem aiL (R : K1) (hr : HR vQ R Q) (h : GM R w) : bH pg rC (aB 1 (aB 2 pO)) Q g w :=
 dP (kn := no) (l := []) h eU hr trivial
def Hc (kn : K3) (k0 : K0) (R : K1) (a_0 W3 Uj : aLm) (w : aLl) : Prop :=
 aC pg (lF .len #[24] 3 [a_0]) w fun c3 w =>
 aC pg (aH .lss 3 aM aM Uj c3) w fun c4 w =>
 fE c4
  ((dr w) = (dr w) /\
  (dr w) = (dr w) /\
  aC pg (aY 24 a_0 Uj) (dr w) fun c9 w_ => w_ = (dr w) /\
  aC pg (aI 47 c9) (dr w) fun d0 w_ => w_ = (dr w) /\
  (dr w) = (dr w) /\
  (dr w) = (dr w) /\
  aC pg (aY 24 W3 Uj) (dr w) fun d3 w_ => w_ = (dr w) /\
  aC pg (aI 47 d3) (dr w) fun d4 w_ => w_ = (dr w) /\
  aC pg (aH .neq 47 (.tmp 20) (.tmp 24) d0 d4) (dr w) fun d5 w_ => w_ = (dr w) /\
  fE d5
   (R (.bool false) (dr w))
   (aC pg (aH .add 3 aM aM Uj (aLn 1)) (dr w) fun c6 w =>
   kn a_0 W3 c6 w))
  (k0 w)
theorem aeB (kn : K3) (k0 : K0) (R : K1) (hn : N3 Q kn 0 1 5) (h0 : E0 Q k0 0) (hr : HR vQ R Q) (h : Hc kn k0 R (g 0) (g 1) (g 5) w) : bH pg rC (bI (bI (aB 1 (aE 1 (aB 2 pO))))) Q g w :=
 dP (l := [(0, fun g w => k0 w)]) h hn hr ⟨h0, trivial⟩
def O8 (k0 : K0) (R : K1) (a_0 W3 Uj : aLm) (w : aLl) : Prop :=
 cC (fun (X : aLm -> K0) (t : aLm) (w : aLl) => Hc (fun _ _ Uj w => X Uj w) k0 R a_0 W3 t w) Uj w
theorem ajB (k0 : K0) (R : K1) (h0 : E0 Q k0 0) (hr : HR vQ R Q) (h : O8 k0 R (g 0) (g 1) (g 5) w) : bH pg rC (bI (aB 1 (aE 1 (aB 2 pO)))) Q g w := by
 refine Cy (fun g : Env => g 5) (fun X t w => Hc (fun _ _ Uj w => X Uj w) k0 R (g 0) (g 1) t w) h (fun X g1 w1 ha hL => ?_)
 rw [<- fL 0 ha, <- fL 1 ha] at hL
 exact (aeB _ g1 w1 (fun _ _ Uj w => X Uj w) k0 R (fun _ _ h => h) h0 hr hL)
def Pb (kn : K0) (R : K1) (a_0 W3 Uj : aLm) (w : aLl) : Prop :=
 O8 kn R a_0 W3 Uj w
def Pq (kn : K3) (a_0 W3 : aLm) (w : aLl) : Prop :=
 kn a_0 W3 (aLn 0) w
theorem agH (kn : K3) (hn : N3 Q kn 0 1 5) (h : Pq kn (g 0) (g 1) w) : bH pg rC (aE 1 (aE 1 (aB 2 pO))) Q g w :=
 dP (kr := no) (l := []) h hn eU trivial
def NK (kn : K0) (R : K1) (a_0 W3 : aLm) (w : aLl) : Prop :=
 Pq (fun a_0 W3 Uj w => Pb kn R a_0 W3 Uj w) a_0 W3 w
def Ov (R : K1) (a_0 W3 : aLm) (w : aLl) : Prop :=
 NK (fun  w => GM R w) R a_0 W3 w
theorem afW (kn : K0) (R : K1) (hn : N0 Q kn) (hr : HR vQ R Q) (h : NK kn R (g 0) (g 1) w) : bH pg rC (aE 1 (aB 2 pO)) Q g w :=
 gC 1 (agH _ g w (Pb kn R) (fun g w h => aJ (wD 0 (ajB _ g w kn R hn hr h))) h)
def Pv (kn : K2) (R : K1) (a_0 W3 : aLm) (w : aLl) : Prop :=
 aC pg (lF .len #[24] 3 [a_0]) w fun b7 w =>
 aC pg (lF .len #[24] 3 [W3]) w fun b9 w =>
 aC pg (aH .neq 3 (.tmp 7) (.tmp 9) b7 b9) w fun c0 w =>
 fE c0
  (R (.bool false) w)
  (kn a_0 W3 w)
theorem aiE (kn : K2) (R : K1) (hn : N2 Q kn 0 1) (hr : HR vQ R Q) (h : Pv kn R (g 0) (g 1) w) : bH pg rC (aE 2 pO) Q g w :=
 dP (l := []) h hn hr trivial
def OX (R : K1) (a_0 W3 : aLm) (w : aLl) : Prop :=
 Pv (fun a_0 W3 w => Ov R a_0 W3 w) R a_0 W3 w
theorem afF (R : K1) (hr : HR vQ R Q) (h : OX R (g 0) (g 1) w) : bH pg rC pO Q g w :=
 gC 2 (aiE _ g w (Ov R) R (fun g w h => aJ (gC 1 (afW _ g w (fun  w => GM R w) R (fun g w h => aJ (aiL _ g w R hr h)) hr h))) hr h)
def aqM (a0 a1 : aLm) (w : aLl) (R : K1) : Prop :=
 OX R a0 a1 w
theorem alE {a0 a1 : aLm} {w : aLl} {R : K1} (h : aqM a0 a1 w R) : aR pg EA #[a0, a1] w R := by
 refine tD (ann := rC) Tryd.f10 pO [a0, a1] vQ 26 TrydM.mixed Tryd.func10 ?_
 exact (afF _ _ _ R (fun _ _ h => h) h)
def oR : FA := ⟨Ei, fun i => match Nat.beq i 5 with | true => .leaf ([22, 23], []) [(false, []), (false, []), (false, []), (false, []), (false, []), (false, []), (false, []), (false, []), (false, []), (false, []), (false, []), (false, []), (false, []), (false, []), (false, []), (false, []), (false, []), (false, []), (false, []), (false, []), (false, []), (false, []), (true, []), (true, []), (false, [])] | false => .leaf ([], []) []⟩
def Jh : List ResultVar := [.tmp 2]
noncomputable def nD : Code := cX Tryd.f11
def BT (R : K1) (bL : aLm) (w : aLl) : Prop :=
 R bL w
theorem X8 (R : K1) (hr : HR Jh R Q) (h : BT R (g 3) w) : bH pg oR (aB 1 (aB 2 nD)) Q g w :=
 dP (kn := no) (l := []) h eU hr trivial
def Cn (kn : K3) (k0 : K1) (hY bL iV : aLm) (w : aLl) : Prop :=
 aC pg (lF .len #[24] 3 [hY]) w fun b7 w =>
 aC pg (aH .lss 3 aM aM iV b7) w fun b8 w =>
 fE b8
  ((dr w) = (dr w) /\
  (dr w) = (dr w) /\
  (dr w) = (dr w) /\
  aC pg (aY 24 hY iV) (dr w) fun c4 w_ => w_ = (dr w) /\
  aC pg (aL 47 c4 0) (dr w) fun c5 w_ => w_ = (dr w) /\
  aC pg (aI 43 c5) (dr w) fun c6 w_ => w_ = (dr w) /\
  aC pg (aH .rem 43 aM aM c6 (.int .u32 131072)) (dr w) fun c7 w_ => w_ = (dr w) /\
  (dr w) = (dr w) /\
  (dr w) = (dr w) /\
  aC pg (aY 24 hY iV) (dr w) fun d0 w_ => w_ = (dr w) /\
  aC pg (aL 47 d0 1) (dr w) fun d1 w_ => w_ = (dr w) /\
  aC pg (aI 43 d1) (dr w) fun d2 w_ => w_ = (dr w) /\
  aC pg (aH .rem 43 aM aM d2 (.int .u32 131072)) (dr w) fun d3 w_ => w_ = (dr w) /\
  aC pg (aH .add 43 aM aM (.int .u32 3) d3) (dr w) fun d4 w_ => w_ = (dr w) /\
  (dr w) = (dr w) /\
  (dr w) = (dr w) /\
  aC pg (aY 24 hY iV) (dr w) fun d7 w_ => w_ = (dr w) /\
  aC pg (aL 47 d7 2) (dr w) fun d8 w_ => w_ = (dr w) /\
  aC pg (aI 43 d8) (dr w) fun d9 w_ => w_ = (dr w) /\
  aC pg (aH .rem 43 aM aM d9 (.int .u32 2147483648)) (dr w) fun e0 w_ => w_ = (dr w) /\
  aC pg (aH .add 43 aM aM (.int .u32 1) e0) (dr w) fun e1 w_ => w_ = (dr w) /\
  aC pg (bX 47 [(0, c7), (1, d4), (2, e1)]) (dr w) fun e2 w_ => w_ = (dr w) /\
  aC pg (cD 24 1 [(0, e2)]) (dr w) fun e3 aH9 =>
  aC pg (lF .append #[24, 24] 24 [bL, e3]) aH9 fun e4 aDX =>
  aDX = aDX /\
  aC pg (aH .add 3 aM aM iV (aLn 1)) aDX fun c0 w =>
  kn hY e4 c0 w)
  (k0 bL w)
theorem XM (kn : K3) (k0 : K1) (hn : N3 Q kn 0 3 4) (h0 : E1 Q k0 0 3) (h : Cn kn k0 (g 0) (g 3) (g 4) w) : bH pg oR (bI (bI (aB 1 (aE 1 (aB 2 nD))))) Q g w :=
 dP (kr := no) (l := [(0, fun g w => k0 (g 3) w)]) h hn eU ⟨h0, trivial⟩
def IX (k0 : K1) (hY bL iV : aLm) (w : aLl) : Prop :=
 cC (fun (X : (aLm × aLm) -> K0) (t : aLm × aLm) (w : aLl) => Cn (fun _ bL iV w => X (bL, iV) w) k0 hY t.1 t.2 w) (bL, iV) w
theorem Yc (k0 : K1) (h0 : E1 Q k0 0 3) (h : IX k0 (g 0) (g 3) (g 4) w) : bH pg oR (bI (aB 1 (aE 1 (aB 2 nD)))) Q g w := by
 refine Cy (fun g : Env => (g 3, g 4)) (fun X t w => Cn (fun _ bL iV w => X (bL, iV) w) k0 (g 0) t.1 t.2 w) h (fun X g1 w1 ha hL => ?_)
 rw [<- fL 0 ha] at hL
 exact (XM _ g1 w1 (fun _ bL iV w => X (bL, iV) w) k0 (fun _ _ h => h) h0 hL)
def Iu (kn : K1) (hY bL iV : aLm) (w : aLl) : Prop :=
 IX kn hY bL iV w
def IW (kn : K3) (hY bL : aLm) (w : aLl) : Prop :=
 kn hY bL (aLn 0) w
theorem XW (kn : K3) (hn : N3 Q kn 0 3 4) (h : IW kn (g 0) (g 3) w) : bH pg oR (aE 1 (aE 1 (aB 2 nD))) Q g w :=
 dP (kr := no) (l := []) h hn eU trivial
def IS (kn : K1) (hY bL : aLm) (w : aLl) : Prop :=
 IW (fun hY bL iV w => Iu kn hY bL iV w) hY bL w
def IG (R : K1) (hY bL : aLm) (w : aLl) : Prop :=
 IS (fun bL w => BT R bL w) hY bL w
theorem YG (kn : K1) (hn : N1 Q kn 3) (h : IS kn (g 0) (g 3) w) : bH pg oR (aE 1 (aB 2 nD)) Q g w :=
 gC 1 (XW _ g w (Iu kn) (fun g w h => aJ (wD 0 (Yc _ g w kn hn h))) h)
def IB (kn : K2) (hY : aLm) (w : aLl) : Prop :=
 kn hY (.slice none 0 0) w
theorem YD (kn : K2) (hn : N2 Q kn 0 3) (h : IB kn (g 0) w) : bH pg oR (aE 2 nD) Q g w :=
 dP (kr := no) (l := []) h hn eU trivial
def Iw (R : K1) (hY : aLm) (w : aLl) : Prop :=
 IB (fun hY bL w => IG R hY bL w) hY w
theorem Ym (R : K1) (hr : HR Jh R Q) (h : Iw R (g 0) w) : bH pg oR nD Q g w :=
 gC 2 (YD _ g w (IG R) (fun g w h => aJ (gC 1 (YG _ g w (BT R) (fun g w h => aJ (X8 _ g w R hr h)) h))) h)
def Zo (a0 : aLm) (w : aLl) (R : K1) : Prop :=
 Iw R a0 w
theorem aaU {a0 : aLm} {w : aLl} {R : K1} (h : Zo a0 w R) : aR pg Ei #[a0] w R := by
 refine tD (ann := oR) Tryd.f11 nD [a0] Jh 36 TrydM.mixed Tryd.func11 ?_
 exact (Ym _ _ _ R (fun _ _ h => h) h)
def uT : FA := ⟨FW, fun i => match Nat.beq i 8 with | true => .leaf ([], []) [(false, []), (false, []), (false, []), (false, []), (false, []), (false, []), (false, []), (false, []), (false, []), (false, []), (false, []), (false, []), (false, []), (false, []), (false, []), (false, []), (false, []), (false, []), (false, []), (false, []), (false, [])] | false => match Nat.beq i 9 with | true => .leaf ([], []) [(false, []), (false, []), (false, []), (false, []), (false, []), (false, []), (false, []), (false, []), (false, []), (false, [])] | false => .leaf ([], []) []⟩
def AQ : List ResultVar := [.tmp 4, .tmp 5, .tmp 6]
noncomputable def sM : Code := cX Tryd.f12
def Nr (R : K1)  (w : aLl) : Prop :=
 R (.tuple #[(aLn 0), (.int .u32 0), (aLn 17)]) w
theorem aqR (R : K1) (hr : HR AQ R Q) (h : Nr R w) : bH pg uT (aB 1 (aB 4 sM)) Q g w :=
 dP (kn := no) (l := []) h eU hr trivial
def Ni (kn : K4) (k0 : K0) (R : K1) (eC uE a_8 R6 : aLm) (w : aLl) : Prop :=
 aC pg (lF .len #[91] 3 [uE]) w fun c9 w =>
 aC pg (aH .lss 3 aM aM R6 c9) w fun d0 w =>
 fE d0
  ((dr w) = (dr w) /\
  (dr w) = (dr w) /\
  (dr w) = (dr w) /\
  aC pg (aY 91 uE R6) (dr w) fun d6 w_ => w_ = (dr w) /\
  aC pg (aI 43 d6) (dr w) fun d7 w_ => w_ = (dr w) /\
  aC pg (aH .geq 43 aM aM eC d7) (dr w) fun d8 w_ => w_ = (dr w) /\
  (dr w) = (dr w) /\
  Gd (eZ d8 true) (fun K => K eC (dr w)) (dr w) fun e0 w_ => w_ = (dr w) /\
  Gd (eZ d8 true) (fun K => K uE (dr w)) (dr w) fun e1 w_ => w_ = (dr w) /\
  Gd (eZ d8 true) (fun K => K R6 (dr w)) (dr w) fun e2 w_ => w_ = (dr w) /\
  Gd (eZ d8 true) (fun K => aC pg (aY 91 e1 e2) (dr w) K) (dr w) fun e3 w_ => w_ = (dr w) /\
  Gd (eZ d8 true) (fun K => aC pg (aI 43 e3) (dr w) K) (dr w) fun e4 w_ => w_ = (dr w) /\
  Gd (eZ d8 true) (fun K => aC pg (aH .sub 43 aM aM e0 e4) (dr w) K) (dr w) fun e5 w_ => w_ = (dr w) /\
  Gd (eZ d8 true) (fun K => K a_8 (dr w)) (dr w) fun e6 w_ => w_ = (dr w) /\
  Gd (eZ d8 true) (fun K => K R6 (dr w)) (dr w) fun e7 w_ => w_ = (dr w) /\
  Gd (eZ d8 true) (fun K => aC pg (aY 77 e6 e7) (dr w) K) (dr w) fun e8 w_ => w_ = (dr w) /\
  Gd (eZ d8 true) (fun K => aC pg (aI 3 e8) (dr w) K) (dr w) fun e9 w_ => w_ = (dr w) /\
  Gd (eZ d8 true) (fun K => aC pg (gF 3 94 e9) (dr w) K) (dr w) fun f0 w_ => w_ = (dr w) /\
  Gd (eZ d8 true) (fun K => aC pg (aH .shl 43 aM aM (.int .u32 1) f0) (dr w) K) (dr w) fun f1 w_ => w_ = (dr w) /\
  Gd (eZ d8 true) (fun K => aC pg (aH .lss 43 aM aM e5 f1) (dr w) K) (dr w) fun f2 w_ => w_ = (dr w) /\
  aC pg (fV d8 f2 (.bool false)) (dr w) fun f3 w_ => w_ = (dr w) /\
  fE f3
   ((dr (dr w)) = (dr (dr w)) /\
   (dr (dr w)) = (dr (dr w)) /\
   (dr (dr w)) = (dr (dr w)) /\
   (dr (dr w)) = (dr (dr w)) /\
   aC pg (aY 91 uE R6) (dr (dr w)) fun f8 w_ => w_ = (dr (dr w)) /\
   aC pg (aI 43 f8) (dr (dr w)) fun f9 w_ => w_ = (dr (dr w)) /\
   aC pg (aH .sub 43 aM aM eC f9) (dr (dr w)) fun i0 w_ => w_ = (dr (dr w)) /\
   (dr (dr w)) = (dr (dr w)) /\
   (dr (dr w)) = (dr (dr w)) /\
   (dr (dr w)) = (dr (dr w)) /\
   R (.tuple #[R6, i0, (aLn 0)]) (dr (dr w)))
   (aC pg (aH .add 3 aM aM R6 (aLn 1)) (dr w) fun d2 w =>
   kn eC uE a_8 d2 w))
  (k0 w)
theorem aqO (kn : K4) (k0 : K0) (R : K1) (hn : N4 Q kn 1 7 8 9) (h0 : E0 Q k0 0) (hr : HR AQ R Q) (h : Ni kn k0 R (g 1) (g 7) (g 8) (g 9) w) : bH pg uT (bI (bI (aB 1 (aE 1 (aB 4 sM))))) Q g w :=
 dP (l := [(0, fun g w => k0 w)]) h hn hr ⟨h0, trivial⟩
def Vb (k0 : K0) (R : K1) (eC uE a_8 R6 : aLm) (w : aLl) : Prop :=
 cC (fun (X : aLm -> K0) (t : aLm) (w : aLl) => Ni (fun _ _ _ R6 w => X R6 w) k0 R eC uE a_8 t w) R6 w
theorem arA (k0 : K0) (R : K1) (h0 : E0 Q k0 0) (hr : HR AQ R Q) (h : Vb k0 R (g 1) (g 7) (g 8) (g 9) w) : bH pg uT (bI (aB 1 (aE 1 (aB 4 sM)))) Q g w := by
 refine Cy (fun g : Env => g 9) (fun X t w => Ni (fun _ _ _ R6 w => X R6 w) k0 R (g 1) (g 7) (g 8) t w) h (fun X g1 w1 ha hL => ?_)
 rw [<- fL 1 ha, <- fL 7 ha, <- fL 8 ha] at hL
 exact (aqO _ g1 w1 (fun _ _ _ R6 w => X R6 w) k0 R (fun _ _ h => h) h0 hr hL)
def UQ (kn : K0) (R : K1) (eC uE a_8 R6 : aLm) (w : aLl) : Prop :=
 Vb kn R eC uE a_8 R6 w
def Up (kn : K4) (eC uE a_8 : aLm) (w : aLl) : Prop :=
 kn eC uE a_8 (aLn 0) w
theorem aqD (kn : K4) (hn : N4 Q kn 1 7 8 9) (h : Up kn (g 1) (g 7) (g 8) w) : bH pg uT (aE 1 (aE 1 (aB 4 sM))) Q g w :=
 dP (kr := no) (l := []) h hn eU trivial
def Vj (kn : K0) (R : K1) (eC uE a_8 : aLm) (w : aLl) : Prop :=
 Up (fun eC uE a_8 R6 w => UQ kn R eC uE a_8 R6 w) eC uE a_8 w
def T8 (R : K1) (eC uE a_8 : aLm) (w : aLl) : Prop :=
 Vj (fun  w => Nr R w) R eC uE a_8 w
theorem arZ (kn : K0) (R : K1) (hn : N0 Q kn) (hr : HR AQ R Q) (h : Vj kn R (g 1) (g 7) (g 8) w) : bH pg uT (aE 1 (aB 4 sM)) Q g w :=
 gC 1 (aqD _ g w (UQ kn R) (fun g w h => aJ (wD 0 (arA _ g w kn R hn hr h))) h)
def UD (kn : K3) (R : K1) (aQ eC : aLm) (w : aLl) : Prop :=
 aR pg xD #[aQ] w fun c1 w =>
 aC pg (lF .len #[91] 3 [c1]) w fun c3 w =>
 aC pg (aH .eql 3 (.tmp 13) (.const (aLn 0)) c3 (aLn 0)) w fun c4 w =>
 fE c4
  (R (.tuple #[(aLn 0), (.int .u32 0), (aLn 1)]) w)
  (aR pg Ep #[aQ] w fun c6 w =>
  kn eC c1 c6 w)
theorem aoK (kn : K3) (R : K1) (hn : N3 Q kn 1 7 8) (hr : HR AQ R Q) (h : UD kn R (g 0) (g 1) w) : bH pg uT (aE 4 sM) Q g w :=
 dP (l := []) h hn hr trivial
def Uk (R : K1) (aQ eC : aLm) (w : aLl) : Prop :=
 UD (fun eC uE a_8 w => T8 R eC uE a_8 w) R aQ eC w
theorem asD (R : K1) (hr : HR AQ R Q) (h : Uk R (g 0) (g 1) w) : bH pg uT sM Q g w :=
 gC 4 (aoK _ g w (T8 R) R (fun g w h => aJ (gC 1 (arZ _ g w (fun  w => Nr R w) R (fun g w h => aJ (aqR _ g w R hr h)) hr h))) hr h)
def azL (a0 a1 : aLm) (w : aLl) (R : K1) : Prop :=
 Uk R a0 a1 w
theorem atD {a0 a1 : aLm} {w : aLl} {R : K1} (h : azL a0 a1 w R) : aR pg FW #[a0, a1] w R := by
 refine tD (ann := uT) Tryd.f12 sM [a0, a1] AQ 51 TrydM.mixed Tryd.func12 ?_
 exact (asD _ _ _ R (fun _ _ h => h) h)
def kE : FA := ⟨rK, fun i => .leaf ([], []) []⟩
def mL : List ResultVar := [.tmp 2, .tmp 3]
noncomputable def jL : Code := cX Tryd.f13
def yH (R : K1) (hY mP oU b8 kO c0 : aLm) (w : aLl) : Prop :=
 aC pg (aI 98 oU) w fun n5 w =>
 aC pg (aI 29 b8) w fun n6 w =>
 aR pg xR #[hY, n5, n6] w fun n7 w =>
 aC pg (bD n7 0) w fun n8 w =>
 aC pg (bD n7 1) w fun n9 w =>
 aC pg (aH .neq 30 (.tmp 100) (.const (aLn 0)) n9 (aLn 0)) w fun o1 w =>
 fE o1
  (R (.tuple #[(.slice none 0 0), n9]) w)
  (aC pg (gF 3 73 kO) w fun o5 w =>
  aR pg iM #[mP, o5, (aLn 1)] w fun o6 w =>
  aR pg pZ #[mP, c0] w fun o9 w =>
  aR pg pZ #[mP, n8] w fun p2 w =>
  aR pg wK #[mP] w fun p4 w =>
  R (.tuple #[p4, (aLn 0)]) w)
theorem Ty (R : K1) (hr : HR mL R Q) (h : yH R (g 0) (g 4) (g 6) (g 8) (g 9) (g 10) w) : bH pg kE (aB 1 (aB 5 (aB 3 jL))) Q g w :=
 dP (kn := no) (l := []) h eU hr trivial
def xS (kn : K7) (k1 : K6) (R : K1) (hY mP oU b8 kO c0 j3 : aLm) (w : aLl) : Prop :=
 aC pg (aH .lss 3 aM aM j3 (aLn 3)) w fun j4 w =>
 fE j4
  (aC pg (aY 98 oU j3) w fun j9 w =>
  aC pg (aI 77 j9) w fun l0 w =>
  aR pg qP #[j3, l0] w fun l1 w =>
  aC pg (bD l1 0) w fun l2 w =>
  aC pg (bD l1 1) w fun l3 w =>
  aC pg (bD l1 2) w fun l4 w =>
  aC pg (bD l1 3) w fun l5 w =>
  aC pg (bV 27) w fun aIb w =>
  aC pg (aK 27 aIb l2) w fun _u w =>
  aC pg (aH .neq 30 (.tmp 76) (.const (aLn 0)) l5 (aLn 0)) w fun l7 w =>
  fE l7
   (R (.tuple #[(.slice none 0 0), l5]) w)
   (aC pg (aI 27 aIb) w fun m0 w =>
   aC pg (aY 29 b8 j3) w fun m1 w =>
   aC pg (aK 27 m1 m0) w fun _u w =>
   aC pg (aH .mul 3 aM aM (aLn 2) j3) w fun m5 w =>
   aC pg (aH .sub 3 aM aM (aLn 6) m5) w fun m6 w =>
   aC pg (aH .shl 3 aM aM l3 m6) w fun m7 w =>
   aC pg (aH .or 3 aM aM kO m7) w fun m8 w =>
   aC pg (lF .append #[22, 22] 22 [c0, l4]) w fun n1 w =>
   aC pg (aH .add 3 aM aM j3 (aLn 1)) w fun n2 w =>
   kn hY mP oU b8 m8 n1 n2 w))
  (k1 hY mP oU b8 kO c0 w)
theorem TA (kn : K7) (k1 : K6) (R : K1) (hn : N7 Q kn 0 4 6 8 9 10 63) (h1 : E6 Q k1 1 0 4 6 8 9 10) (hr : HR mL R Q) (h : xS kn k1 R (g 0) (g 4) (g 6) (g 8) (g 9) (g 10) (g 63) w) : bH pg kE (bI (bI (aB 1 (aE 1 (aB 5 (aB 3 jL)))))) Q g w :=
 dP (l := [(1, fun g w => k1 (g 0) (g 4) (g 6) (g 8) (g 9) (g 10) w)]) h hn hr ⟨h1, trivial⟩
def xV (k1 : K6) (R : K1) (hY mP oU b8 kO c0 j3 : aLm) (w : aLl) : Prop :=
 cC (fun (X : (aLm × aLm × aLm) -> K0) (t : aLm × aLm × aLm) (w : aLl) => xS (fun _ _ _ _ kO c0 j3 w => X (kO, c0, j3) w) k1 R hY mP oU b8 t.1 t.2.1 t.2.2 w) (kO, c0, j3) w
theorem Td (k1 : K6) (R : K1) (h1 : E6 Q k1 1 0 4 6 8 9 10) (hr : HR mL R Q) (h : xV k1 R (g 0) (g 4) (g 6) (g 8) (g 9) (g 10) (g 63) w) : bH pg kE (bI (aB 1 (aE 1 (aB 5 (aB 3 jL))))) Q g w := by
 refine Cy (fun g : Env => (g 9, g 10, g 63)) (fun X t w => xS (fun _ _ _ _ kO c0 j3 w => X (kO, c0, j3) w) k1 R (g 0) (g 4) (g 6) (g 8) t.1 t.2.1 t.2.2 w) h (fun X g1 w1 ha hL => ?_)
 rw [<- fL 0 ha, <- fL 4 ha, <- fL 6 ha, <- fL 8 ha] at hL
 exact (TA _ g1 w1 (fun _ _ _ _ kO c0 j3 w => X (kO, c0, j3) w) k1 R (fun _ _ h => h) h1 hr hL)
def CO (kn : K6) (R : K1) (hY mP oU b8 kO c0 j3 : aLm) (w : aLl) : Prop :=
 xV kn R hY mP oU b8 kO c0 j3 w
def Cr (kn : K7) (hY mP oU b8 kO c0 : aLm) (w : aLl) : Prop :=
 kn hY mP oU b8 kO c0 (aLn 0) w
theorem To (kn : K7) (hn : N7 Q kn 0 4 6 8 9 10 63) (h : Cr kn (g 0) (g 4) (g 6) (g 8) (g 9) (g 10) w) : bH pg kE (aE 1 (aE 1 (aB 5 (aB 3 jL)))) Q g w :=
 dP (kr := no) (l := []) h hn eU trivial
def CI (kn : K6) (R : K1) (hY mP oU b8 kO c0 : aLm) (w : aLl) : Prop :=
 Cr (fun hY mP oU b8 kO c0 j3 w => CO kn R hY mP oU b8 kO c0 j3 w) hY mP oU b8 kO c0 w
def CP (R : K1) (hY mP oU b8 kO c0 : aLm) (w : aLl) : Prop :=
 CI (fun hY mP oU b8 kO c0 w => yH R hY mP oU b8 kO c0 w) R hY mP oU b8 kO c0 w
theorem TM (kn : K6) (R : K1) (hn : N6 Q kn 0 4 6 8 9 10) (hr : HR mL R Q) (h : CI kn R (g 0) (g 4) (g 6) (g 8) (g 9) (g 10) w) : bH pg kE (aE 1 (aB 5 (aB 3 jL))) Q g w :=
 gC 1 (To _ g w (CO kn R) (fun g w h => aJ (wD 1 (Td _ g w kn R hn hr h))) h)
def CR (kn : K6) (R : K1) (hY mP : aLm) (w : aLl) : Prop :=
 aR pg zT #[hY] w fun i7 w =>
 aC pg (bD i7 0) w fun i8 w =>
 aC pg (bD i7 1) w fun i9 w =>
 aC pg (bV 98) w fun oU w =>
 aC pg (aK 98 oU i8) w fun _u w =>
 aC pg (aH .neq 30 (.tmp 60) (.const (aLn 0)) i9 (aLn 0)) w fun j1 w =>
 fE j1
  (R (.tuple #[(.slice none 0 0), i9]) w)
  (aC pg (bV 29) w fun b8 w =>
  kn hY mP oU b8 (aLn 0) (.slice none 0 0) w)
theorem TJ (kn : K6) (R : K1) (hn : N6 Q kn 0 4 6 8 9 10) (hr : HR mL R Q) (h : CR kn R (g 0) (g 4) w) : bH pg kE (aE 5 (aB 3 jL)) Q g w :=
 dP (l := []) h hn hr trivial
def yQ (R : K1) (hY mP : aLm) (w : aLl) : Prop :=
 CR (fun hY mP oU b8 kO c0 w => CP R hY mP oU b8 kO c0 w) R hY mP w
def Br (kn : K2) (R : K1) (hY : aLm) (w : aLl) : Prop :=
 aR pg xI #[] w fun c7 w =>
 aC pg (lF .len #[24] 3 [hY]) w fun c9 w =>
 aC pg (aH .gtr 3 aM aM c9 (aLn 98047)) w fun d9 w =>
 fE d9
  (R (.tuple #[(.slice none 0 0), (aLn 1)]) w)
  (aC pg (aH .eql 3 (.tmp 31) (.const (aLn 0)) c9 (aLn 0)) w fun e2 w =>
  fE e2
   (aC pg (cD 22 1 [(0, (.int .u8 0))]) w fun e3 w =>
   R (.tuple #[e3, (aLn 0)]) w)
   (aC pg (aH .lss 3 aM aM c9 (aLn 128)) w fun e6 w =>
   fE e6
    (aC pg (gF 3 73 c9) w fun e9 w =>
    aR pg iM #[c7, e9, (aLn 1)] w fun f0 w =>
    kn hY c7 w)
    (aC pg (aH .lss 3 aM aM c9 (aLn 32512)) w fun f3 w =>
    fE f3
     (aC pg (aH .shr 3 aM aM c9 (.int .u64 8)) w fun f6 w =>
     aC pg (aH .add 3 aM aM f6 (aLn 128)) w fun f7 w =>
     aC pg (gF 3 73 f7) w fun f8 w =>
     aR pg iM #[c7, f8, (aLn 1)] w fun f9 w =>
     aC pg (aH .and 3 aM aM c9 (aLn 255)) w fun i2 w =>
     aC pg (gF 3 73 i2) w fun i3 w =>
     aR pg iM #[c7, i3, (aLn 1)] w fun i4 w =>
     kn hY c7 w)
     (aR pg iM #[c7, (.int .u64 255), (aLn 1)] w fun d1 w =>
     aC pg (aH .sub 3 aM aM c9 (aLn 32512)) w fun d4 w =>
     aC pg (gF 3 73 d4) w fun d5 w =>
     aR pg iM #[c7, d5, (aLn 2)] w fun d6 w =>
     kn hY c7 w))))
theorem Q0 (kn : K2) (R : K1) (hn : N2 Q kn 0 4) (hr : HR mL R Q) (h : Br kn R (g 0) w) : bH pg kE (aE 3 jL) Q g w :=
 dP (l := []) h hn hr trivial
def Bz (R : K1) (hY : aLm) (w : aLl) : Prop :=
 Br (fun hY mP w => yQ R hY mP w) R hY w
theorem Sa (R : K1) (hr : HR mL R Q) (h : Bz R (g 0) w) : bH pg kE jL Q g w :=
 gC 3 (Q0 _ g w (yQ R) R (fun g w h => aJ (gC 5 (TJ _ g w (CP R) R (fun g w h => aJ (gC 1 (TM _ g w (yH R) R (fun g w h => aJ (Ty _ g w R hr h)) hr h))) hr h))) hr h)
def SB (a0 : aLm) (w : aLl) (R : K1) : Prop :=
 Bz R a0 w
theorem UM {a0 : aLm} {w : aLl} {R : K1} (h : SB a0 w R) : aR pg rK #[a0] w R := by
 refine tD (ann := kE) Tryd.f13 jL [a0] mL 115 TrydM.mixed Tryd.func13 ?_
 exact (Sa _ _ _ R (fun _ _ h => h) h)
def oY : FA := ⟨NA, fun i => .leaf ([], []) []⟩
def Sp : List ResultVar := [.cell 2 29]
noncomputable def nP : Code := cX Tryd.f14
def JX (R : K1) (b2 b3 : aLm) (w : aLl) : Prop :=
 aC pg (aI 29 b3) w fun e2 w =>
 aC pg (aK 29 b2 e2) w fun _u w =>
 mW pg 29 b2 w fun r0 => R r0 w
theorem amZ (R : K1) (hr : HR Sp R Q) (h : JX R (g 2) (g 3) w) : bH pg oY (aB 1 (aB 2 nP)) Q g w :=
 dP (kn := no) (l := []) h eU hr trivial
def A2 (kn : K4) (kC b2 b3 YP : aLm) (w : aLl) : Prop :=
 aC pg (aH .add 3 aM aM YP (aLn 1)) w fun b8 w =>
 kn kC b2 b3 b8 w
theorem amU (kn : K4) (hn : N4 Q kn 1 2 3 4) (h : A2 kn (g 1) (g 2) (g 3) (g 4) w) : bH pg oY (aB 2 (bI (bI (aB 1 (aE 1 (aB 2 nP)))))) Q g w :=
 dP (kr := no) (l := []) h hn eU trivial
def Sc (kn : K4) (k0 : K2) (kC b2 b3 YP : aLm) (w : aLl) : Prop :=
 aC pg (aH .lss 3 aM aM YP (aLn 3)) w fun b6 w =>
 fE b6
  (aC pg (aY 41 kC YP) w fun c0 w =>
  aC pg (aI 5 c0) w fun c1 w =>
  aC pg (aH .and 5 aM aM c1 (.int .u8 3)) w fun c2 w =>
  aC pg (aH .eql 5 (.tmp 12) (.const (.int .u8 1)) c2 (.int .u8 1)) w fun c4 w =>
  fE c4
   (aR pg wO #[YP] w fun c8 w =>
   aC pg (bD c8 0) w fun c9 w =>
   aC pg (bD c8 1) w fun d0 w =>
   aC pg (aY 29 b3 YP) w fun d1 w =>
   aC pg (aK 27 d1 c9) w fun _u w =>
   kn kC b2 b3 YP w)
   (aC pg (aH .eql 5 (.tmp 12) (.const (.int .u8 2)) c2 (.int .u8 2)) w fun d3 w =>
   fE d3
    (aC pg (aY 41 kC YP) w fun d6 w =>
    aC pg (aI 5 d6) w fun d7 w =>
    aC pg (aH .quo 5 aM aM d7 (.int .u8 4)) w fun d8 w =>
    aC pg (aH .rem 5 aM aM d8 (.int .u8 30)) w fun d9 w =>
    aR pg De #[d9] w fun e0 w =>
    aC pg (aY 29 b3 YP) w fun e1 w =>
    aC pg (aK 27 e1 e0) w fun _u w =>
    kn kC b2 b3 YP w)
    (kn kC b2 b3 YP w)))
  (k0 b2 b3 w)
theorem alH (kn : K4) (k0 : K2) (hn : N4 Q kn 1 2 3 4) (h0 : E2 Q k0 0 2 3) (h : Sc kn k0 (g 1) (g 2) (g 3) (g 4) w) : bH pg oY (aE 2 (bI (bI (aB 1 (aE 1 (aB 2 nP)))))) Q g w :=
 dP (kr := no) (l := [(0, fun g w => k0 (g 2) (g 3) w)]) h hn eU ⟨h0, trivial⟩
def J6 (kn : K4) (k0 : K2) (kC b2 b3 YP : aLm) (w : aLl) : Prop :=
 Sc (fun kC b2 b3 YP w => A2 kn kC b2 b3 YP w) k0 kC b2 b3 YP w
def Sf (k0 : K2) (kC b2 b3 YP : aLm) (w : aLl) : Prop :=
 cC (fun (X : aLm -> K0) (t : aLm) (w : aLl) => J6 (fun _ _ _ YP w => X YP w) k0 kC b2 b3 t w) YP w
theorem anN (kn : K4) (k0 : K2) (hn : N4 Q kn 1 2 3 4) (h0 : E2 Q k0 0 2 3) (h : J6 kn k0 (g 1) (g 2) (g 3) (g 4) w) : bH pg oY (bI (bI (aB 1 (aE 1 (aB 2 nP))))) Q g w :=
 gC 2 (alH _ g w (A2 kn) k0 (fun g w h => aJ (amU _ g w kn hn h)) h0 h)
theorem amF (k0 : K2) (h0 : E2 Q k0 0 2 3) (h : Sf k0 (g 1) (g 2) (g 3) (g 4) w) : bH pg oY (bI (aB 1 (aE 1 (aB 2 nP)))) Q g w := by
 refine Cy (fun g : Env => g 4) (fun X t w => J6 (fun _ _ _ YP w => X YP w) k0 (g 1) (g 2) (g 3) t w) h (fun X g1 w1 ha hL => ?_)
 rw [<- fL 1 ha, <- fL 2 ha, <- fL 3 ha] at hL
 exact (anN _ g1 w1 (fun _ _ _ YP w => X YP w) k0 (fun _ _ h => h) h0 hL)
def RL (kn : K2) (kC b2 b3 YP : aLm) (w : aLl) : Prop :=
 Sf kn kC b2 b3 YP w
def R7 (kn : K4) (kC b2 b3 : aLm) (w : aLl) : Prop :=
 kn kC b2 b3 (aLn 0) w
theorem alP (kn : K4) (hn : N4 Q kn 1 2 3 4) (h : R7 kn (g 1) (g 2) (g 3) w) : bH pg oY (aE 1 (aE 1 (aB 2 nP))) Q g w :=
 dP (kr := no) (l := []) h hn eU trivial
def Q2 (kn : K2) (kC b2 b3 : aLm) (w : aLl) : Prop :=
 R7 (fun kC b2 b3 YP w => RL kn kC b2 b3 YP w) kC b2 b3 w
def RY (R : K1) (kC b2 b3 : aLm) (w : aLl) : Prop :=
 Q2 (fun b2 b3 w => JX R b2 b3 w) kC b2 b3 w
theorem anT (kn : K2) (hn : N2 Q kn 2 3) (h : Q2 kn (g 1) (g 2) (g 3) w) : bH pg oY (aE 1 (aB 2 nP)) Q g w :=
 gC 1 (alP _ g w (RL kn) (fun g w h => aJ (wD 0 (amF _ g w kn hn h))) h)
def NR (kn : K3) (axN : aLm) (w : aLl) : Prop :=
 aC pg (sU 41 axN) w fun kC w =>
 aC pg (bV 29) w fun b2 w =>
 aC pg (bV 29) w fun b3 w =>
 kn kC b2 b3 w
theorem ajE (kn : K3) (hn : N3 Q kn 1 2 3) (h : NR kn (g 0) w) : bH pg oY (aE 2 nP) Q g w :=
 dP (kr := no) (l := []) h hn eU trivial
def NU (R : K1) (axN : aLm) (w : aLl) : Prop :=
 NR (fun kC b2 b3 w => RY R kC b2 b3 w) axN w
theorem ahC (R : K1) (hr : HR Sp R Q) (h : NU R (g 0) w) : bH pg oY nP Q g w :=
 gC 2 (ajE _ g w (RY R) (fun g w h => aJ (gC 1 (anT _ g w (JX R) (fun g w h => aJ (amZ _ g w R hr h)) h))) h)
def auN (a0 : aLm) (w : aLl) (R : K1) : Prop :=
 NU R a0 w
theorem apC {a0 : aLm} {w : aLl} {R : K1} (h : auN a0 w R) : aR pg NA #[a0] w R := by
 refine tD (ann := oY) Tryd.f14 nP [a0] Sp 33 TrydM.mixed Tryd.func14 ?_
 exact (ahC _ _ _ R (fun _ _ h => h) h)
def Np : FA := ⟨uH, fun i => match Nat.beq i 1 with | true => .leaf ([2, 5, 8, 10], [(2, 3), (2, 4), (2, 6), (2, 7), (5, 6), (5, 7)]) [(false, []), (false, []), (true, []), (false, [0]), (false, [1]), (true, []), (false, [0, 3]), (false, [1, 4]), (true, []), (false, []), (true, [])] | false => .leaf ([], []) []⟩
def QM : List ResultVar := [.cell 2 36]
noncomputable def Mw : Code := cX Tryd.f15
def Gh (R : K1) (b0 : aLm) (w : aLl) : Prop :=
 aC pg (sU 29 b0) w fun b1 w =>
 aC pg (bV 36) w fun b2 w =>
 aC pg (aY 29 b1 (aLn 0)) (dr w) fun b3 w_ => w_ = (dr w) /\
 aC pg (aI 27 b3) (dr w) fun b4 w_ => w_ = (dr w) /\
 aR pg uG #[b4] (dr w) fun b5 aAQ =>
 aC pg (aY 29 b1 (aLn 1)) aAQ fun b6 w_ => w_ = aAQ /\
 (dS pg (aY 29 b1 (aLn 1)) b6 (dr w) /\ True) /\
 aC pg (aI 27 b6) aAQ fun b7 w_ => w_ = aAQ /\
 (dS pg (aI 27 b6) b7 (dr w) /\ True) /\
 aR pg uG #[b7] aAQ fun b8 aFn =>
 aC pg (aY 29 b1 (aLn 2)) aFn fun b9 w_ => w_ = aFn /\
 (dS pg (aY 29 b1 (aLn 2)) b9 aAQ /\ dS pg (aY 29 b1 (aLn 2)) b9 (dr w) /\ True) /\
 aC pg (aI 27 b9) aFn fun c0 w_ => w_ = aFn /\
 (dS pg (aI 27 b9) c0 aAQ /\ dS pg (aI 27 b9) c0 (dr w) /\ True) /\
 aR pg uG #[c0] aFn fun c1 aHe =>
 aC pg (bX 36 [(0, b5), (1, b8), (2, c1)]) aHe fun c2 w_ => w_ = aHe /\
 aC pg (aK 36 b2 c2) aHe fun _u10 aGz =>
 mW pg 36 b2 aGz fun r0 => R r0 aGz
theorem Wj (R : K1) (hr : HR QM R Q) (h : Gh R (g 0) w) : bH pg Np Mw Q g w :=
 dP (kn := no) (l := []) h eU hr trivial
def Xi (a0 : aLm) (w : aLl) (R : K1) : Prop :=
 Gh R a0 w
theorem Xs {a0 : aLm} {w : aLl} {R : K1} (h : Xi a0 w R) : aR pg uH #[a0] w R := by
 refine tD (ann := Np) Tryd.f15 Mw [a0] QM 13 TrydM.mixed Tryd.func15 ?_
 exact (Wj _ _ _ R (fun _ _ h => h) h)
def HA : FA := ⟨tM, fun i => .leaf ([], []) []⟩
def Jn : List ResultVar := [.tmp 2]
noncomputable def Fm : Code := cX Tryd.f16
def Bu (R : K1) (EW : aLm) (w : aLl) : Prop :=
 aR pg kA #[EW] w fun b4 w =>
 aC pg (bX 112 [(0, b4)]) w fun b5 w =>
 aC pg (sU 112 b5) w fun b6 w =>
 R b6 w
theorem R8 (R : K1) (hr : HR Jn R Q) (h : Bu R (g 0) w) : bH pg HA Fm Q g w :=
 dP (kn := no) (l := []) h eU hr trivial
def PJ (a0 : aLm) (w : aLl) (R : K1) : Prop :=
 Bu R a0 w
theorem Tc {a0 : aLm} {w : aLl} {R : K1} (h : PJ a0 w R) : aR pg tM #[a0] w R := by
 refine tD (ann := HA) Tryd.f16 Fm [a0] Jn 7 TrydM.mixed Tryd.func16 ?_
 exact (R8 _ _ _ R (fun _ _ h => h) h)
def Hl : FA := ⟨xQ, fun i => .leaf ([], []) []⟩
def Jx : List ResultVar := [.tmp 2]
noncomputable def Fe : Code := cX Tryd.f17
def BD (R : K1) (pK : aLm) (w : aLl) : Prop :=
 aR pg kW #[pK, (aLn 1)] w fun b5 w =>
 aC pg (gF 73 3 b5) w fun b6 w =>
 aC pg (aH .lss 3 aM aM b6 (aLn 128)) w fun b9 w =>
 fE b9
  (R b6 w)
  (aC pg (aH .lss 3 aM aM b6 (aLn 255)) w fun c3 w =>
  fE c3
   (aC pg (aH .sub 3 aM aM b6 (aLn 128)) w fun c5 w =>
   aC pg (aH .shl 3 aM aM c5 (.int .u64 8)) w fun c6 w =>
   aR pg kW #[pK, (aLn 1)] w fun c8 w =>
   aC pg (gF 73 3 c8) w fun c9 w =>
   aC pg (aH .or 3 aM aM c6 c9) w fun d0 w =>
   R d0 w)
   (aR pg kW #[pK, (aLn 2)] w fun d2 w =>
   aC pg (gF 73 3 d2) w fun d3 w =>
   aC pg (aH .add 3 aM aM d3 (aLn 32512)) w fun d4 w =>
   R d4 w))
theorem Q4 (R : K1) (hr : HR Jx R Q) (h : BD R (g 0) w) : bH pg Hl Fe Q g w :=
 dP (kn := no) (l := []) h eU hr trivial
def Qt (a0 : aLm) (w : aLl) (R : K1) : Prop :=
 BD R a0 w
theorem TB {a0 : aLm} {w : aLl} {R : K1} (h : Qt a0 w R) : aR pg xQ #[a0] w R := by
 refine tD (ann := Hl) Tryd.f17 Fe [a0] Jx 25 TrydM.mixed Tryd.func17 ?_
 exact (Q4 _ _ _ R (fun _ _ h => h) h)
def Fu : FA := ⟨mY, fun i => .leaf ([], []) []⟩
def Hu : List ResultVar := [.tmp 2]
noncomputable def Ey : Code := cX Tryd.f18
def AJ (R : K1) (pK : aLm) (w : aLl) : Prop :=
 aC pg (aH .eql 56 (.tmp 3) (.const (.pointer none)) pK (.pointer none)) w fun b4 w =>
 fE b4
  (R (aLn 1) w)
  (aC pg (sQ pK) w fun b6 w =>
  aC pg (aL 112 b6 1) w fun b7 w =>
  aC pg (aI 30 b7) w fun b8 w =>
  R b8 w)
theorem Qx (R : K1) (hr : HR Hu R Q) (h : AJ R (g 0) w) : bH pg Fu Ey Q g w :=
 dP (kn := no) (l := []) h eU hr trivial
def Nq (a0 : aLm) (w : aLl) (R : K1) : Prop :=
 AJ R a0 w
theorem Sr {a0 : aLm} {w : aLl} {R : K1} (h : Nq a0 w R) : aR pg mY #[a0] w R := by
 refine tD (ann := Fu) Tryd.f18 Ey [a0] Hu 9 TrydM.mixed Tryd.func18 ?_
 exact (Qx _ _ _ R (fun _ _ h => h) h)
def DO : FA := ⟨oC, fun i => .leaf ([], []) []⟩
def Fc : List ResultVar := [.tmp 2]
noncomputable def Dh : Code := cX Tryd.f19
def zM (R : K1) (pK : aLm) (w : aLl) : Prop :=
 aC pg (aH .eql 56 (.tmp 3) (.const (.pointer none)) pK (.pointer none)) w fun b4 w =>
 fE b4
  (R (aLn 0) w)
  (aC pg (sQ pK) w fun b6 w =>
  aC pg (aL 112 b6 0) w fun b7 w =>
  aC pg (aI 22 b7) w fun b8 w =>
  aC pg (lF .len #[22] 3 [b8]) w fun b9 w =>
  R b9 w)
theorem NP (R : K1) (hr : HR Fc R Q) (h : zM R (g 0) w) : bH pg DO Dh Q g w :=
 dP (kn := no) (l := []) h eU hr trivial
def Mc (a0 : aLm) (w : aLl) (R : K1) : Prop :=
 zM R a0 w
theorem P9 {a0 : aLm} {w : aLl} {R : K1} (h : Mc a0 w R) : aR pg oC #[a0] w R := by
 refine tD (ann := DO) Tryd.f19 Dh [a0] Fc 10 TrydM.mixed Tryd.func19 ?_
 exact (NP _ _ _ R (fun _ _ h => h) h)
def gL : FA := ⟨wS, fun i => match Nat.beq i 11 with | true => .split 11 16 (.perm [0, 1, 2, 3, 4, 5, 6, 7, 8, 9, 10, 11, 12, 13, 14, 15, 16, 17, 18, 19] [(11, 16)] ([11, 16, 17], [(13, 16), (14, 16), (14, 17), (15, 16), (15, 17)]) [(false, []), (false, []), (false, []), (false, []), (false, []), (false, []), (false, []), (false, []), (false, []), (false, []), (false, []), (true, []), (false, []), (false, []), (false, []), (false, []), (true, [0, 1, 2]), (true, [1, 2]), (false, []), (false, [])]) (.perm [0, 1, 2, 3, 4, 5, 6, 7, 8, 9, 10, 16, 11, 12, 13, 14, 15, 17, 18, 19] [(16, 11)] ([11, 12, 17], [(3, 11), (4, 11), (5, 11), (6, 11), (9, 11), (10, 11), (15, 17), (16, 17)]) [(false, []), (false, []), (false, []), (false, []), (false, []), (false, []), (false, []), (false, []), (false, []), (false, []), (false, []), (true, [0, 1, 4, 5, 6, 7]), (true, []), (false, []), (false, []), (false, []), (false, []), (true, [0, 1]), (false, []), (false, [])]) | false => match Nat.beq i 14 with | true => .leaf ([6], [(4, 6)]) [(false, []), (false, []), (false, []), (false, []), (false, []), (false, []), (true, [1]), (false, [])] | false => .leaf ([], []) []⟩
def lV : List ResultVar := [.cell 4 29, .tmp 5]
noncomputable def fP : Code := cX Tryd.f20
def zU (R : K1) (pK b4 uE b8 : aLm) (w : aLl) : Prop :=
 aR pg tM #[uE] w fun j5 w =>
 aC pg (sQ j5) w fun j6 w =>
 aC pg (aI 112 j6) w fun j7 w =>
 aC pg (sQ pK) w fun j8 w =>
 aC pg (aK 112 j8 j7) w fun _u w =>
 aC pg (aI 29 b8) w fun j9 w =>
 aC pg (aK 29 b4 j9) w fun _u w =>
 mW pg 29 b4 w fun r0 => R (.tuple #[r0, (aLn 0)]) w
theorem UN (R : K1) (hr : HR lV R Q) (h : zU R (g 0) (g 4) (g 7) (g 8) w) : bH pg gL (aB 1 (aB 5 fP)) Q g w :=
 dP (kn := no) (l := []) h eU hr trivial
def uQ (kn : K7) (pK dL b4 fW uE b8 e3 : aLm) (w : aLl) : Prop :=
 aC pg (aH .add 3 aM aM e3 (aLn 1)) w fun j2 w =>
 kn pK dL b4 fW uE b8 j2 w
theorem Uw (kn : K7) (hn : N7 Q kn 0 3 4 6 7 8 33) (h : uQ kn (g 0) (g 3) (g 4) (g 6) (g 7) (g 8) (g 33) w) : bH pg gL (aB 1 (aB 2 (bI (bI (aB 1 (aE 1 (aB 5 fP))))))) Q g w :=
 dP (kr := no) (l := []) h hn eU trivial
def pE (kn : K7) (R : K1) (pK dL b4 fW uE b8 asC xK aDo aDG e3 : aLm) (w : aLl) : Prop :=
 aC pg (aH .neq 30 (.tmp 52) (.const (aLn 0)) aDG (aLn 0)) w fun i3 w =>
 fE i3
  (aC pg (bX 29 []) w fun i4 w =>
  aC pg (aK 29 b4 i4) w fun _u w =>
  mW pg 29 b4 w fun r0 => R (.tuple #[r0, aDG]) w)
  ((dr w) = (dr w) /\
  aC pg (aI 27 xK) (dr w) fun i7 w_ => w_ = (dr w) /\
  (dr w) = (dr w) /\
  (dr w) = (dr w) /\
  aC pg (gB 22 uE (some aDo) none none) (dr w) fun j0 w_ => w_ = (dr w) /\
  aC pg (aY 29 b8 asC) (dr w) fun j1 w_ => w_ = (dr w) /\
  aC pg (aK 27 j1 i7) (dr w) fun _u6 aCG =>
  (dS pg (gB 22 uE (some aDo) none none) j0 aCG /\ True) /\
  aCG = aCG /\
  kn pK dL b4 fW j0 b8 e3 aCG)
theorem Vn (kn : K7) (R : K1) (hn : N7 Q kn 0 3 4 6 7 8 33) (hr : HR lV R Q) (h : pE kn R (g 0) (g 3) (g 4) (g 6) (g 7) (g 8) (g 9) (g 10) (g 11) (g 12) (g 33) w) : bH pg gL (aB 2 (bI (aE 1 (aB 2 (bI (bI (aB 1 (aE 1 (aB 5 fP))))))))) Q g w :=
 dP (l := []) h hn hr trivial
def D6 (kn : K11) (pK dL b4 fW uE b8 e3 : aLm) (w : aLl) : Prop :=
 Ord (anA wS 11 (Ft 11 fP) 11 16 w)
  ((dr w) = (dr w) /\
  (dr w) = (dr w) /\
  (dr w) = (dr w) /\
  aC pg (aH .mul 3 aM aM (aLn 2) e3) (dr w) fun f0 w_ => w_ = (dr w) /\
  aC pg (aH .sub 3 aM aM (aLn 6) f0) (dr w) fun f1 w_ => w_ = (dr w) /\
  aC pg (aH .shr 3 aM aM fW f1) (dr w) fun f2 w_ => w_ = (dr w) /\
  aC pg (aH .and 3 aM aM f2 (aLn 3)) (dr w) fun f3 w_ => w_ = (dr w) /\
  (dr w) = (dr w) /\
  (dr w) = (dr w) /\
  aC pg (aY 29 dL e3) (dr w) fun f6 w_ => w_ = (dr w) /\
  aC pg (aI 27 f6) (dr w) fun f7 w_ => w_ = (dr w) /\
  aR pg BI #[e3, f3, uE, f7] (dr w) fun f8 AV =>
  AV = AV /\
  aC pg (bD f8 0) AV fun f9 w_ => w_ = AV /\
  aC pg (bD f8 1) AV fun i0 w_ => w_ = AV /\
  aC pg (bD f8 2) AV fun i1 w_ => w_ = AV /\
  aC pg (bV 27) AV fun xK avS =>
  (dS pg (bD f8 2) i1 avS /\ dS pg (bD f8 1) i0 avS /\ dS pg (bD f8 0) f9 avS /\ True) /\
  aC pg (aK 27 xK f9) avS fun _u17 CL =>
  (dS pg (bD f8 2) i1 CL /\ dS pg (bD f8 1) i0 CL /\ True) /\
  CL = CL /\
  CL = CL /\
  kn pK dL b4 fW uE b8 e3 xK i0 i1 e3 CL)
  ((dr w) = (dr w) /\
  (dr w) = (dr w) /\
  (dr w) = (dr w) /\
  aC pg (aH .mul 3 aM aM (aLn 2) e3) (dr w) fun f0 w_ => w_ = (dr w) /\
  aC pg (aH .sub 3 aM aM (aLn 6) f0) (dr w) fun f1 w_ => w_ = (dr w) /\
  aC pg (aH .shr 3 aM aM fW f1) (dr w) fun f2 w_ => w_ = (dr w) /\
  aC pg (aH .and 3 aM aM f2 (aLn 3)) (dr w) fun f3 w_ => w_ = (dr w) /\
  (dr w) = (dr w) /\
  (dr w) = (dr w) /\
  aC pg (aY 29 dL e3) (dr w) fun f6 w_ => w_ = (dr w) /\
  aC pg (aI 27 f6) (dr w) fun f7 w_ => w_ = (dr w) /\
  aC pg (bV 27) (dr w) fun xK AV =>
  (dS pg (aI 27 f6) f7 AV /\ dS pg (aY 29 dL e3) f6 AV /\ dS pg (aH .and 3 aM aM f2 (aLn 3)) f3 AV /\ dS pg (aH .shr 3 aM aM fW f1) f2 AV /\ dS pg (aH .sub 3 aM aM (aLn 6) f0) f1 AV /\ dS pg (aH .mul 3 aM aM (aLn 2) e3) f0 AV /\ True) /\
  aR pg BI #[e3, f3, uE, f7] AV fun f8 R0 =>
  R0 = R0 /\
  aC pg (bD f8 0) R0 fun f9 w_ => w_ = R0 /\
  aC pg (bD f8 1) R0 fun i0 w_ => w_ = R0 /\
  aC pg (bD f8 2) R0 fun i1 w_ => w_ = R0 /\
  aC pg (aK 27 xK f9) R0 fun _u17 CL =>
  (dS pg (bD f8 2) i1 CL /\ dS pg (bD f8 1) i0 CL /\ True) /\
  CL = CL /\
  CL = CL /\
  kn pK dL b4 fW uE b8 e3 xK i0 i1 e3 CL)
theorem T9 (kn : K11) (hn : N11 Q kn 0 3 4 6 7 8 9 10 11 12 33) (h : D6 kn (g 0) (g 3) (g 4) (g 6) (g 7) (g 8) (g 33) w) : bH pg gL (aE 2 (bI (aE 1 (aB 2 (bI (bI (aB 1 (aE 1 (aB 5 fP))))))))) Q g w :=
 dP (kr := no) (l := []) h hn eU trivial
def Ng (kn : K7) (R : K1) (pK dL b4 fW uE b8 e3 : aLm) (w : aLl) : Prop :=
 D6 (fun pK dL b4 fW uE b8 asC xK aDo aDG e3 w => pE kn R pK dL b4 fW uE b8 asC xK aDo aDG e3 w) pK dL b4 fW uE b8 e3 w
def D4 (kn : K7) (R : K1) (pK dL b4 fW uE b8 e3 : aLm) (w : aLl) : Prop :=
 Ng kn R pK dL b4 fW uE b8 e3 w
def EI (kn : K7) (R : K1) (pK dL b4 fW uE b8 e3 : aLm) (w : aLl) : Prop :=
 D4 (fun pK dL b4 fW uE b8 e3 w => uQ kn pK dL b4 fW uE b8 e3 w) R pK dL b4 fW uE b8 e3 w
theorem UJ (kn : K7) (R : K1) (hn : N7 Q kn 0 3 4 6 7 8 33) (hr : HR lV R Q) (h : D4 kn R (g 0) (g 3) (g 4) (g 6) (g 7) (g 8) (g 33) w) : bH pg gL (aE 1 (aB 2 (bI (bI (aB 1 (aE 1 (aB 5 fP))))))) Q g w :=
 wD 2 (gC 2 (T9 _ g w (pE kn R) (fun g w h => aJ (Vn _ g w kn R hn hr h)) h))
def EL (kn : K7) (k1 : K4) (pK dL b4 fW uE b8 e3 : aLm) (w : aLl) : Prop :=
 aC pg (aH .lss 3 aM aM e3 (aLn 3)) w fun e4 w =>
 fE e4
  (kn pK dL b4 fW uE b8 e3 w)
  (k1 pK b4 uE b8 w)
theorem Uc (kn : K7) (k1 : K4) (hn : N7 Q kn 0 3 4 6 7 8 33) (h1 : E4 Q k1 1 0 4 7 8) (h : EL kn k1 (g 0) (g 3) (g 4) (g 6) (g 7) (g 8) (g 33) w) : bH pg gL (aE 2 (bI (bI (aB 1 (aE 1 (aB 5 fP)))))) Q g w :=
 dP (kr := no) (l := [(1, fun g w => k1 (g 0) (g 4) (g 7) (g 8) w)]) h hn eU ⟨h1, trivial⟩
def zP (kn : K7) (k1 : K4) (R : K1) (pK dL b4 fW uE b8 e3 : aLm) (w : aLl) : Prop :=
 EL (fun pK dL b4 fW uE b8 e3 w => EI kn R pK dL b4 fW uE b8 e3 w) k1 pK dL b4 fW uE b8 e3 w
def Cu (k1 : K4) (R : K1) (pK dL b4 fW uE b8 e3 : aLm) (w : aLl) : Prop :=
 cC (fun (X : (aLm × aLm) -> K0) (t : aLm × aLm) (w : aLl) => zP (fun _ _ _ _ uE _ e3 w => X (uE, e3) w) k1 R pK dL b4 fW t.1 b8 t.2 w) (uE, e3) w
theorem Ud (kn : K7) (k1 : K4) (R : K1) (hn : N7 Q kn 0 3 4 6 7 8 33) (h1 : E4 Q k1 1 0 4 7 8) (hr : HR lV R Q) (h : zP kn k1 R (g 0) (g 3) (g 4) (g 6) (g 7) (g 8) (g 33) w) : bH pg gL (bI (bI (aB 1 (aE 1 (aB 5 fP))))) Q g w :=
 gC 2 (Uc _ g w (EI kn R) k1 (fun g w h => aJ (gC 1 (UJ _ g w (uQ kn) R (fun g w h => aJ (Uw _ g w kn hn h)) hr h))) h1 h)
theorem TE (k1 : K4) (R : K1) (h1 : E4 Q k1 1 0 4 7 8) (hr : HR lV R Q) (h : Cu k1 R (g 0) (g 3) (g 4) (g 6) (g 7) (g 8) (g 33) w) : bH pg gL (bI (aB 1 (aE 1 (aB 5 fP)))) Q g w := by
 refine Cy (fun g : Env => (g 7, g 33)) (fun X t w => zP (fun _ _ _ _ uE _ e3 w => X (uE, e3) w) k1 R (g 0) (g 3) (g 4) (g 6) t.1 (g 8) t.2 w) h (fun X g1 w1 ha hL => ?_)
 rw [<- fL 0 ha, <- fL 3 ha, <- fL 4 ha, <- fL 6 ha, <- fL 8 ha] at hL
 exact (Ud _ g1 w1 (fun _ _ _ _ uE _ e3 w => X (uE, e3) w) k1 R (fun _ _ h => h) h1 hr hL)
def Ct (kn : K4) (R : K1) (pK dL b4 fW uE b8 e3 : aLm) (w : aLl) : Prop :=
 Cu kn R pK dL b4 fW uE b8 e3 w
def CY (kn : K7) (pK dL b4 fW uE b8 : aLm) (w : aLl) : Prop :=
 kn pK dL b4 fW uE b8 (aLn 0) w
theorem Tm (kn : K7) (hn : N7 Q kn 0 3 4 6 7 8 33) (h : CY kn (g 0) (g 3) (g 4) (g 6) (g 7) (g 8) w) : bH pg gL (aE 1 (aE 1 (aB 5 fP))) Q g w :=
 dP (kr := no) (l := []) h hn eU trivial
def C9 (kn : K4) (R : K1) (pK dL b4 fW uE b8 : aLm) (w : aLl) : Prop :=
 CY (fun pK dL b4 fW uE b8 e3 w => Ct kn R pK dL b4 fW uE b8 e3 w) pK dL b4 fW uE b8 w
def CS (R : K1) (pK dL b4 fW uE b8 : aLm) (w : aLl) : Prop :=
 C9 (fun pK b4 uE b8 w => zU R pK b4 uE b8 w) R pK dL b4 fW uE b8 w
theorem Tr (kn : K4) (R : K1) (hn : N4 Q kn 0 4 7 8) (hr : HR lV R Q) (h : C9 kn R (g 0) (g 3) (g 4) (g 6) (g 7) (g 8) w) : bH pg gL (aE 1 (aB 5 fP)) Q g w :=
 gC 1 (Tm _ g w (Ct kn R) (fun g w h => aJ (wD 1 (TE _ g w kn R hn hr h))) h)
def CA (kn : K6) (R : K1) (pK Uq : aLm) (w : aLl) : Prop :=
 aC pg (sU 29 Uq) w fun dL w =>
 aC pg (bV 29) w fun b4 w =>
 aR pg kW #[pK, (aLn 1)] w fun c4 w =>
 aC pg (gF 73 3 c4) w fun c5 w =>
 aR pg mY #[pK] w fun c8 w =>
 aC pg (aH .neq 30 (.tmp 18) (.const (aLn 0)) c8 (aLn 0)) w fun c9 w =>
 fE c9
  (aC pg (bX 29 []) w fun d0 w =>
  aR pg mY #[pK] w fun d2 w =>
  aC pg (aK 29 b4 d0) w fun _u w =>
  mW pg 29 b4 w fun r0 => R (.tuple #[r0, d2]) w)
  (aC pg (aH .and 3 aM aM c5 (aLn 3)) w fun d5 w =>
  aC pg (aH .neq 3 (.tmp 25) (.const (aLn 0)) d5 (aLn 0)) w fun d6 w =>
  fE d6
   (aC pg (bX 29 []) w fun d7 w =>
   aC pg (aK 29 b4 d7) w fun _u w =>
   mW pg 29 b4 w fun r0 => R (.tuple #[r0, (aLn 11)]) w)
   (aR pg oC #[pK] w fun e0 w =>
   aR pg pY #[pK, e0] w fun e1 w =>
   aC pg (aI 29 dL) w fun e2 w =>
   aC pg (bV 29) w fun b8 w =>
   aC pg (aK 29 b8 e2) w fun _u w =>
   kn pK dL b4 c5 e1 b8 w))
theorem S1 (kn : K6) (R : K1) (hn : N6 Q kn 0 3 4 6 7 8) (hr : HR lV R Q) (h : CA kn R (g 0) (g 1) w) : bH pg gL (aE 5 fP) Q g w :=
 dP (l := []) h hn hr trivial
def C0 (R : K1) (pK Uq : aLm) (w : aLl) : Prop :=
 CA (fun pK dL b4 fW uE b8 w => CS R pK dL b4 fW uE b8 w) R pK Uq w
theorem Tu (R : K1) (hr : HR lV R Q) (h : C0 R (g 0) (g 1) w) : bH pg gL fP Q g w :=
 gC 5 (S1 _ g w (CS R) R (fun g w h => aJ (gC 1 (Tr _ g w (zU R) R (fun g w h => aJ (UN _ g w R hr h)) hr h))) hr h)
def U5 (a0 a1 : aLm) (w : aLl) (R : K1) : Prop :=
 C0 R a0 a1 w
theorem WQ {a0 a1 : aLm} {w : aLl} {R : K1} (h : U5 a0 a1 w R) : aR pg wS #[a0, a1] w R := by
 refine tD (ann := gL) Tryd.f20 fP [a0, a1] lV 70 TrydM.mixed Tryd.func20 ?_
 exact (Tu _ _ _ R (fun _ _ h => h) h)
def HB : FA := ⟨tQ, fun i => match Nat.beq i 3 with | true => .leaf ([1, 12, 16], [(1, 3), (1, 4), (1, 5), (1, 8), (1, 9), (1, 10), (1, 11), (3, 12), (4, 12), (5, 12)]) [(false, []), (true, []), (false, []), (false, [1]), (false, [2]), (false, [3]), (false, []), (false, []), (false, [6]), (false, [7]), (false, [8]), (false, [9]), (true, [6, 7, 8]), (false, []), (false, []), (false, []), (true, []), (false, []), (false, [])] | false => .leaf ([], []) []⟩
def Js : List ResultVar := [.tmp 2, .tmp 3]
noncomputable def EY : Code := cX Tryd.f21
def wC (R : K1) (EW : aLm) (w : aLl) : Prop :=
 aC pg (lF .len #[22] 3 [EW]) w fun b5 w =>
 aC pg (aH .eql 3 (.tmp 5) (.const (aLn 0)) b5 (aLn 0)) w fun b6 w =>
 Gd (eZ b6 false) (fun K => K EW w) w fun b8 w =>
 Gd (eZ b6 false) (fun K => K EW w) w fun b9 w =>
 Gd (eZ b6 false) (fun K => aC pg (lF .len #[22] 3 [b9]) w K) w fun c0 w =>
 Gd (eZ b6 false) (fun K => aC pg (aH .sub 3 aM aM c0 (aLn 1)) w K) w fun c1 w =>
 Gd (eZ b6 false) (fun K => aC pg (aY 22 b8 c1) w K) w fun c2 w =>
 Gd (eZ b6 false) (fun K => aC pg (aI 5 c2) w K) w fun c3 w =>
 Gd (eZ b6 false) (fun K => aC pg (aH .eql 5 (.tmp 13) (.const (.int .u8 0)) c3 (.int .u8 0)) w K) w fun c4 w =>
 aC pg (fV b6 (.bool true) c4) w fun c5 w =>
 fE c5
  (R (.tuple #[(.pointer none), (aLn 11)]) w)
  ((dr w) = (dr w) /\
  aR pg kA #[EW] (dr w) fun c7 Oc =>
  Oc = Oc /\
  aC pg (lF .len #[22] 3 [EW]) Oc fun c9 w_ => w_ = Oc /\
  (dS pg (lF .len #[22] 3 [EW]) c9 (dr w) /\ True) /\
  aC pg (aH .sub 3 aM aM c9 (aLn 1)) Oc fun d0 w_ => w_ = Oc /\
  (dS pg (aH .sub 3 aM aM c9 (aLn 1)) d0 (dr w) /\ True) /\
  aC pg (aH .mul 3 aM aM (aLn 8) d0) Oc fun d1 w_ => w_ = Oc /\
  (dS pg (aH .mul 3 aM aM (aLn 8) d0) d1 (dr w) /\ True) /\
  Oc = Oc /\
  Oc = Oc /\
  aC pg (lF .len #[22] 3 [EW]) Oc fun d4 w_ => w_ = Oc /\
  (dS pg (lF .len #[22] 3 [EW]) d4 (dr w) /\ True) /\
  aC pg (aH .sub 3 aM aM d4 (aLn 1)) Oc fun d5 w_ => w_ = Oc /\
  (dS pg (aH .sub 3 aM aM d4 (aLn 1)) d5 (dr w) /\ True) /\
  aC pg (aY 22 EW d5) Oc fun d6 w_ => w_ = Oc /\
  (dS pg (aY 22 EW d5) d6 (dr w) /\ True) /\
  aC pg (aI 5 d6) Oc fun d7 w_ => w_ = Oc /\
  (dS pg (aI 5 d6) d7 (dr w) /\ True) /\
  aR pg Bb #[d7] Oc fun d8 W4 =>
  (dS pg (aH .mul 3 aM aM (aLn 8) d0) d1 W4 /\ dS pg (aH .sub 3 aM aM c9 (aLn 1)) d0 W4 /\ dS pg (lF .len #[22] 3 [EW]) c9 W4 /\ True) /\
  aC pg (aH .add 3 aM aM d1 d8) W4 fun d9 w_ => w_ = W4 /\
  aC pg (aH .sub 3 aM aM d9 (aLn 1)) W4 fun e0 w_ => w_ = W4 /\
  aC pg (bX 118 [(0, c7), (1, e0)]) W4 fun e1 w_ => w_ = W4 /\
  aC pg (sU 118 e1) W4 fun e2 ayN =>
  ayN = ayN /\
  ayN = ayN /\
  R (.tuple #[e2, (aLn 0)]) ayN)
theorem RX (R : K1) (hr : HR Js R Q) (h : wC R (g 0) w) : bH pg HB EY Q g w :=
 dP (kn := no) (l := []) h eU hr trivial
def F8 (a0 : aLm) (w : aLl) (R : K1) : Prop :=
 wC R a0 w
theorem Fs {a0 : aLm} {w : aLl} {R : K1} (h : F8 a0 w R) : aR pg tQ #[a0] w R := by
 refine tD (ann := HB) Tryd.f21 EY [a0] Js 33 TrydM.mixed Tryd.func21 ?_
 exact (RX _ _ _ R (fun _ _ h => h) h)
def Dr : FA := ⟨pY, fun i => .leaf ([], []) []⟩
def D3 : List ResultVar := [.tmp 4]
noncomputable def BR : Code := cX Tryd.f22
def xT (R : K1) (pK sC : aLm) (w : aLl) : Prop :=
 aC pg (aH .eql 56 (.tmp 5) (.const (.pointer none)) pK (.pointer none)) w fun b6 w =>
 fE b6
  (R (.slice none 0 0) w)
  (aC pg (aH .geq 3 aM aM sC (aLn 0)) w fun c0 w =>
  aR pg qT #[pK, sC, c0] w fun c1 w =>
  R c1 w)
theorem M4 (R : K1) (hr : HR D3 R Q) (h : xT R (g 0) (g 1) w) : bH pg Dr BR Q g w :=
 dP (kn := no) (l := []) h eU hr trivial
def Jy (a0 a1 : aLm) (w : aLl) (R : K1) : Prop :=
 xT R a0 a1 w
theorem NQ {a0 a1 : aLm} {w : aLl} {R : K1} (h : Jy a0 a1 w R) : aR pg pY #[a0, a1] w R := by
 refine tD (ann := Dr) Tryd.f22 BR [a0, a1] D3 12 TrydM.mixed Tryd.func22 ?_
 exact (M4 _ _ _ R (fun _ _ h => h) h)
def Xh : FA := ⟨Nh, fun i => .leaf ([], []) []⟩
def adN : List ResultVar := [.tmp 4]
noncomputable def UB : Code := cX Tryd.f23
def Rx (R : K1) (b0 r_1 : aLm) (w : aLl) : Prop :=
 aC pg (sU 27 b0) w fun b2 w =>
 aC pg (aL 27 b2 0) w fun b6 w =>
 aC pg (aI 3 b6) w fun b7 w =>
 aR pg oJ #[r_1, b7] w fun b8 w =>
 aC pg (gF 73 3 b8) w fun b9 w =>
 R b9 w
theorem amJ (R : K1) (hr : HR adN R Q) (h : Rx R (g 0) (g 1) w) : bH pg Xh UB Q g w :=
 dP (kn := no) (l := []) h eU hr trivial
def auD (a0 a1 : aLm) (w : aLl) (R : K1) : Prop :=
 Rx R a0 a1 w
theorem arS {a0 a1 : aLm} {w : aLl} {R : K1} (h : auD a0 a1 w R) : aR pg Nh #[a0, a1] w R := by
 refine tD (ann := Xh) Tryd.f23 UB [a0, a1] adN 10 TrydM.mixed Tryd.func23 ?_
 exact (amJ _ _ _ R (fun _ _ h => h) h)
def Jo : FA := ⟨rH, fun i => .leaf ([], []) []⟩
def LJ : List ResultVar := [.tmp 8]
noncomputable def HH : Code := cX Tryd.f24
def Cv (R : K1) (aQ b1 ZK r_3 : aLm) (w : aLl) : Prop :=
 aC pg (sU 27 b1) w fun b5 w =>
 aC pg (aH .lss 3 aM aM ZK (aLn 0)) w fun c3 w =>
 Gd (eZ c3 false) (fun K => K ZK w) w fun c5 w =>
 Gd (eZ c3 false) (fun K => aC pg (aL 27 b5 1) w K) w fun c6 w =>
 Gd (eZ c3 false) (fun K => aC pg (aI 25 c6) w K) w fun c7 w =>
 Gd (eZ c3 false) (fun K => aC pg (lF .len #[25] 3 [c7]) w K) w fun c8 w =>
 Gd (eZ c3 false) (fun K => aC pg (aH .geq 3 aM aM c5 c8) w K) w fun c9 w =>
 aC pg (fV c3 (.bool true) c9) w fun d0 w =>
 fE d0
  (R (.int .u32 0) w)
  (aC pg (aL 27 b5 1) w fun d3 w =>
  aC pg (aI 25 d3) w fun d4 w =>
  aC pg (aY 25 d4 ZK) w fun d6 w =>
  aC pg (aL 123 d6 0) w fun d7 w =>
  aC pg (aI 5 d7) w fun d8 w =>
  aC pg (gF 5 3 d8) w fun d9 w =>
  aR pg Et #[aQ, d9] w fun e0 w =>
  aC pg (bD e0 0) w fun e1 w =>
  aC pg (bD e0 1) w fun e2 w =>
  aC pg (bD e0 2) w fun e3 w =>
  aR pg oJ #[r_3, e2] w fun e7 w =>
  aC pg (gF 73 43 e7) w fun e8 w =>
  aC pg (aH .add 43 aM aM e1 e8) w fun e9 w =>
  R e9 w)
theorem Tq (R : K1) (hr : HR LJ R Q) (h : Cv R (g 0) (g 1) (g 2) (g 3) w) : bH pg Jo HH Q g w :=
 dP (kn := no) (l := []) h eU hr trivial
def Ss (a0 a1 a2 a3 : aLm) (w : aLl) (R : K1) : Prop :=
 Cv R a0 a1 a2 a3 w
theorem Um {a0 a1 a2 a3 : aLm} {w : aLl} {R : K1} (h : Ss a0 a1 a2 a3 w R) : aR pg rH #[a0, a1, a2, a3] w R := by
 refine tD (ann := Jo) Tryd.f24 HH [a0, a1, a2, a3] LJ 40 TrydM.mixed Tryd.func24 ?_
 exact (Tq _ _ _ R (fun _ _ h => h) h)
def acG : FA := ⟨Q6, fun i => match Nat.beq i 4 with | true => .leaf ([5], [(0, 5), (1, 5)]) [(false, []), (false, []), (false, []), (false, []), (false, []), (true, [3, 4]), (false, []), (false, []), (false, [])] | false => .leaf ([], []) []⟩
def akV : List ResultVar := [.tmp 6]
noncomputable def WX : Code := cX Tryd.f25
def U9 (R : K1) (b0 jD Gg : aLm) (w : aLl) : Prop :=
 aC pg (sU 27 b0) w fun b3 w =>
 aC pg (aH .lss 3 aM aM jD (aLn 0)) w fun b9 w =>
 Gd (eZ b9 false) (fun K => K jD w) w fun c1 w =>
 Gd (eZ b9 false) (fun K => aC pg (aL 27 b3 1) w K) w fun c2 w =>
 Gd (eZ b9 false) (fun K => aC pg (aI 25 c2) w K) w fun c3 w =>
 Gd (eZ b9 false) (fun K => aC pg (lF .len #[25] 3 [c3]) w K) w fun c4 w =>
 Gd (eZ b9 false) (fun K => aC pg (aH .geq 3 aM aM c1 c4) w K) w fun c5 w =>
 aC pg (fV b9 (.bool true) c5) w fun c6 w =>
 fE c6
  (R (aLn 0) w)
  (aC pg (aL 27 b3 1) w fun c7 w =>
  aC pg (aI 25 c7) w fun c8 w =>
  aC pg (aY 25 c8 jD) w fun d0 w =>
  aC pg (aI 123 d0) w fun d1 w =>
  aC pg (bV 123) w fun rD w =>
  aC pg (aK 123 rD d1) w fun _u w =>
  aC pg (aL 123 rD 2) (dr w) fun d2 w_ => w_ = (dr w) /\
  aC pg (aI 3 d2) (dr w) fun d3 w_ => w_ = (dr w) /\
  (dr w) = (dr w) /\
  aC pg (aL 123 rD 1) (dr w) fun d5 w_ => w_ = (dr w) /\
  aC pg (aI 3 d5) (dr w) fun d6 w_ => w_ = (dr w) /\
  aR pg oJ #[Gg, d6] (dr w) fun d7 awP =>
  (dS pg (aI 3 d2) d3 awP /\ dS pg (aL 123 rD 2) d2 awP /\ True) /\
  aC pg (gF 73 3 d7) awP fun d8 w_ => w_ = awP /\
  aC pg (aH .add 3 aM aM d3 d8) awP fun d9 w_ => w_ = awP /\
  awP = awP /\
  R d9 awP)
theorem apR (R : K1) (hr : HR akV R Q) (h : U9 R (g 0) (g 1) (g 2) w) : bH pg acG WX Q g w :=
 dP (kn := no) (l := []) h eU hr trivial
def ayQ (a0 a1 a2 : aLm) (w : aLl) (R : K1) : Prop :=
 U9 R a0 a1 a2 w
theorem asZ {a0 a1 a2 : aLm} {w : aLl} {R : K1} (h : ayQ a0 a1 a2 w R) : aR pg Q6 #[a0, a1, a2] w R := by
 refine tD (ann := acG) Tryd.f25 WX [a0, a1, a2] akV 30 TrydM.mixed Tryd.func25 ?_
 exact (apR _ _ _ R (fun _ _ h => h) h)
def D2 : FA := ⟨rB, fun i => .leaf ([], []) []⟩
def Fg : List ResultVar := [.tmp 2]
noncomputable def Dj : Code := cX Tryd.f26
def zJ (R : K1) (pK : aLm) (w : aLl) : Prop :=
 aC pg (aH .eql 63 (.tmp 3) (.const (.pointer none)) pK (.pointer none)) w fun b4 w =>
 fE b4
  (R (aLn 0) w)
  (aC pg (sQ pK) w fun b6 w =>
  aC pg (aL 118 b6 1) w fun b7 w =>
  aC pg (aI 3 b7) w fun b8 w =>
  R b8 w)
theorem OK (R : K1) (hr : HR Fg R Q) (h : zJ R (g 0) w) : bH pg D2 Dj Q g w :=
 dP (kn := no) (l := []) h eU hr trivial
def MQ (a0 : aLm) (w : aLl) (R : K1) : Prop :=
 zJ R a0 w
theorem PO {a0 : aLm} {w : aLl} {R : K1} (h : MQ a0 w R) : aR pg rB #[a0] w R := by
 refine tD (ann := D2) Tryd.f26 Dj [a0] Fg 9 TrydM.mixed Tryd.func26 ?_
 exact (OK _ _ _ R (fun _ _ h => h) h)
def Qi : FA := ⟨DW, fun i => .leaf ([], []) []⟩
def SU : List ResultVar := [.cell 2 72, .tmp 3]
noncomputable def M8 : Code := cX Tryd.f27
def H0 (R : K1) (pK : aLm) (w : aLl) : Prop :=
 aC pg (sU 72 pK) w fun r_1 w =>
 aC pg (bV 72) w fun b2 w =>
 aC pg (aI 72 r_1) w fun c0 w =>
 aR pg tO #[c0, (aLn 1)] w fun c1 w =>
 aC pg (bD c1 0) w fun c2 w =>
 aC pg (bD c1 1) w fun c3 w =>
 aC pg (aK 72 r_1 c2) w fun _u w =>
 aC pg (aH .lss 73 aM aM c3 (.int .u64 128)) w fun c5 w =>
 fE c5
  (aC pg (aI 72 r_1) w fun c6 w =>
  aC pg (aK 72 b2 c6) w fun _u w =>
  mW pg 72 b2 w fun r0 => R (.tuple #[r0, c3]) w)
  (aC pg (aH .lss 73 aM aM c3 (.int .u64 255)) w fun c9 w =>
  fE c9
   (aC pg (aI 72 r_1) w fun d1 w =>
   aR pg tO #[d1, (aLn 1)] w fun d2 w =>
   aC pg (bD d2 0) w fun d3 w =>
   aC pg (bD d2 1) w fun d4 w =>
   aC pg (bV 72) w fun s_5 w =>
   aC pg (aK 72 s_5 d3) w fun _u w =>
   aC pg (aI 72 s_5) w fun d5 w =>
   aC pg (aH .sub 73 aM aM c3 (.int .u64 128)) w fun d7 w =>
   aC pg (aH .mul 73 aM aM d7 (.int .u64 256)) w fun d8 w =>
   aC pg (aH .add 73 aM aM d8 d4) w fun e0 w =>
   aC pg (aK 72 b2 d5) w fun _u w =>
   mW pg 72 b2 w fun r0 => R (.tuple #[r0, e0]) w)
   (aC pg (aI 72 r_1) w fun e2 w =>
   aR pg tO #[e2, (aLn 2)] w fun e3 w =>
   aC pg (bD e3 0) w fun e4 w =>
   aC pg (bD e3 1) w fun e5 w =>
   aC pg (bV 72) w fun s_7 w =>
   aC pg (aK 72 s_7 e4) w fun _u w =>
   aC pg (aI 72 s_7) w fun e6 w =>
   aC pg (aH .add 73 aM aM e5 (.int .u64 32512)) w fun e8 w =>
   aC pg (aK 72 b2 e6) w fun _u w =>
   mW pg 72 b2 w fun r0 => R (.tuple #[r0, e8]) w))
theorem Ye (R : K1) (hr : HR SU R Q) (h : H0 R (g 0) w) : bH pg Qi M8 Q g w :=
 dP (kn := no) (l := []) h eU hr trivial
def acX (a0 : aLm) (w : aLl) (R : K1) : Prop :=
 H0 R a0 w
theorem Zj {a0 : aLm} {w : aLl} {R : K1} (h : acX a0 w R) : aR pg DW #[a0] w R := by
 refine tD (ann := Qi) Tryd.f27 M8 [a0] SU 39 TrydM.mixed Tryd.func27 ?_
 exact (Ye _ _ _ R (fun _ _ h => h) h)
def mR : FA := ⟨tO, fun i => .leaf ([], []) []⟩
def Ip : List ResultVar := [.cell 4 72, .tmp 5]
noncomputable def lT : Code := cX Tryd.f28
def B9 (R : K1) (Gg b4 rD : aLm) (w : aLl) : Prop :=
 aC pg (aI 72 Gg) w fun f4 w =>
 aC pg (aK 72 b4 f4) w fun _u w =>
 mW pg 72 b4 w fun r0 => R (.tuple #[r0, rD]) w
theorem XF (R : K1) (hr : HR Ip R Q) (h : B9 R (g 2) (g 4) (g 7) w) : bH pg mR (aB 1 (aB 3 (aB 2 lT))) Q g w :=
 dP (kn := no) (l := []) h eU hr trivial
def Cj (kn : K6) (k0 : K3) (Gg b4 s_6 rD m_8 R6 : aLm) (w : aLl) : Prop :=
 aC pg (lF .len #[9] 3 [s_6]) w fun e0 w =>
 aC pg (aH .lss 3 aM aM R6 e0) w fun e1 w =>
 fE e1
  (aC pg (IM 9 s_6 R6) w fun e7 w =>
  aC pg (gF 5 73 e7) w fun e8 w =>
  aC pg (aH .mul 73 aM aM e8 m_8) w fun f0 w =>
  aC pg (aH .add 73 aM aM rD f0) w fun f1 w =>
  aC pg (aH .mul 73 aM aM m_8 (.int .u64 256)) w fun f3 w =>
  aC pg (aH .add 3 aM aM R6 (aLn 1)) w fun e3 w =>
  kn Gg b4 s_6 f1 f3 e3 w)
  (k0 Gg b4 rD w)
theorem Xj (kn : K6) (k0 : K3) (hn : N6 Q kn 2 4 6 7 8 9) (h0 : E3 Q k0 0 2 4 7) (h : Cj kn k0 (g 2) (g 4) (g 6) (g 7) (g 8) (g 9) w) : bH pg mR (bI (bI (aB 1 (aE 1 (aB 3 (aB 2 lT)))))) Q g w :=
 dP (kr := no) (l := [(0, fun g w => k0 (g 2) (g 4) (g 7) w)]) h hn eU ⟨h0, trivial⟩
def IH (k0 : K3) (Gg b4 s_6 rD m_8 R6 : aLm) (w : aLl) : Prop :=
 cC (fun (X : (aLm × aLm × aLm) -> K0) (t : aLm × aLm × aLm) (w : aLl) => Cj (fun _ _ _ rD m_8 R6 w => X (rD, m_8, R6) w) k0 Gg b4 s_6 t.1 t.2.1 t.2.2 w) (rD, m_8, R6) w
theorem YQ (k0 : K3) (h0 : E3 Q k0 0 2 4 7) (h : IH k0 (g 2) (g 4) (g 6) (g 7) (g 8) (g 9) w) : bH pg mR (bI (aB 1 (aE 1 (aB 3 (aB 2 lT))))) Q g w := by
 refine Cy (fun g : Env => (g 7, g 8, g 9)) (fun X t w => Cj (fun _ _ _ rD m_8 R6 w => X (rD, m_8, R6) w) k0 (g 2) (g 4) (g 6) t.1 t.2.1 t.2.2 w) h (fun X g1 w1 ha hL => ?_)
 rw [<- fL 2 ha, <- fL 4 ha, <- fL 6 ha] at hL
 exact (Xj _ g1 w1 (fun _ _ _ rD m_8 R6 w => X (rD, m_8, R6) w) k0 (fun _ _ h => h) h0 hL)
def IL (kn : K3) (Gg b4 s_6 rD m_8 R6 : aLm) (w : aLl) : Prop :=
 IH kn Gg b4 s_6 rD m_8 R6 w
def Ig (kn : K6) (Gg b4 s_6 rD m_8 : aLm) (w : aLl) : Prop :=
 kn Gg b4 s_6 rD m_8 (aLn 0) w
theorem XB (kn : K6) (hn : N6 Q kn 2 4 6 7 8 9) (h : Ig kn (g 2) (g 4) (g 6) (g 7) (g 8) w) : bH pg mR (aE 1 (aE 1 (aB 3 (aB 2 lT)))) Q g w :=
 dP (kr := no) (l := []) h hn eU trivial
def IJ (kn : K3) (Gg b4 s_6 rD m_8 : aLm) (w : aLl) : Prop :=
 Ig (fun Gg b4 s_6 rD m_8 R6 w => IL kn Gg b4 s_6 rD m_8 R6 w) Gg b4 s_6 rD m_8 w
def Jc (R : K1) (Gg b4 s_6 rD m_8 : aLm) (w : aLl) : Prop :=
 IJ (fun Gg b4 rD w => B9 R Gg b4 rD w) Gg b4 s_6 rD m_8 w
theorem XK (kn : K3) (hn : N3 Q kn 2 4 7) (h : IJ kn (g 2) (g 4) (g 6) (g 7) (g 8) w) : bH pg mR (aE 1 (aB 3 (aB 2 lT))) Q g w :=
 gC 1 (XB _ g w (IL kn) (fun g w h => aJ (wD 0 (YQ _ g w kn hn h))) h)
def Is (kn : K5) (sC Gg b4 : aLm) (w : aLl) : Prop :=
 aC pg (aI 72 Gg) w fun d3 w =>
 aR pg JY #[d3, sC] w fun d5 w =>
 aC pg (bD d5 0) w fun d6 w =>
 aC pg (bD d5 1) w fun d7 w =>
 aC pg (aK 72 Gg d6) w fun _u w =>
 kn Gg b4 d7 (.int .u64 0) (.int .u64 1) w
theorem Y6 (kn : K5) (hn : N5 Q kn 2 4 6 7 8) (h : Is kn (g 1) (g 2) (g 4) w) : bH pg mR (aE 3 (aB 2 lT)) Q g w :=
 dP (kr := no) (l := []) h hn eU trivial
def B1 (R : K1) (sC Gg b4 : aLm) (w : aLl) : Prop :=
 Is (fun Gg b4 s_6 rD m_8 w => Jc R Gg b4 s_6 rD m_8 w) sC Gg b4 w
def F0 (kn : K3) (pK sC : aLm) (w : aLl) : Prop :=
 aC pg (sU 72 pK) w fun Gg w =>
 aC pg (bV 72) w fun b4 w =>
 aC pg (aL 72 Gg 1) w fun c0 w =>
 aC pg (aI 30 c0) w fun c1 w =>
 aC pg (aH .eql 30 (.tmp 11) (.const (aLn 0)) c1 (aLn 0)) w fun c2 w =>
 Gd (eZ c2 true) (fun K => K sC w) w fun c4 w =>
 Gd (eZ c2 true) (fun K => aC pg (aH .lss 3 aM aM c4 (aLn 1)) w K) w fun c5 w =>
 Gd (eZ c2 true) (fun K => K c5 w) w fun c6 w =>
 Gd (eZ c6 false) (fun K => K sC w) w fun c7 w =>
 Gd (eZ c6 false) (fun K => aC pg (aH .gtr 3 aM aM c7 (aLn 8)) w K) w fun c8 w =>
 Gd (eZ c2 true) (fun K => aC pg (fV c6 (.bool true) c8) w K) w fun c9 w =>
 aC pg (fV c2 c9 (.bool false)) w fun d0 w =>
 fE d0
  (aC pg (aL 72 Gg 1) w fun d1 w =>
  aC pg (aK 30 d1 (aLn 1)) w fun _u w =>
  kn sC Gg b4 w)
  (kn sC Gg b4 w)
theorem WA (kn : K3) (hn : N3 Q kn 1 2 4) (h : F0 kn (g 0) (g 1) w) : bH pg mR (aE 2 lT) Q g w :=
 dP (kr := no) (l := []) h hn eU trivial
def FY (R : K1) (pK sC : aLm) (w : aLl) : Prop :=
 F0 (fun sC Gg b4 w => B1 R sC Gg b4 w) pK sC w
theorem Wv (R : K1) (hr : HR Ip R Q) (h : FY R (g 0) (g 1) w) : bH pg mR lT Q g w :=
 gC 2 (WA _ g w (B1 R) (fun g w h => aJ (gC 3 (Y6 _ g w (Jc R) (fun g w h => aJ (gC 1 (XK _ g w (B9 R) (fun g w h => aJ (XF _ g w R hr h)) h))) h))) h)
def aaS (a0 a1 : aLm) (w : aLl) (R : K1) : Prop :=
 FY R a0 a1 w
theorem abR {a0 a1 : aLm} {w : aLl} {R : K1} (h : aaS a0 a1 w R) : aR pg tO #[a0, a1] w R := by
 refine tD (ann := mR) Tryd.f28 lT [a0, a1] Ip 46 TrydM.mixed Tryd.func28 ?_
 exact (Wv _ _ _ R (fun _ _ h => h) h)
def Vh : FA := ⟨DJ, fun i => .leaf ([], []) []⟩
def WT : List ResultVar := [.cell 8 35, .tmp 9, .tmp 10]
noncomputable def Sx : Code := cX Tryd.f29
def Oq (R : K1) (aQ KT DB dL : aLm) (w : aLl) : Prop :=
 aC pg (sU 35 dL) w fun aAn w =>
 aC pg (bV 35) w fun b8 w =>
 aR pg xD #[aQ] w fun c9 w =>
 aC pg (lF .len #[91] 3 [c9]) w fun d0 w =>
 aC pg (aH .eql 3 (.tmp 21) (.const (aLn 0)) d0 (aLn 0)) w fun d2 w =>
 Gd (eZ d2 false) (fun K => K KT w) w fun d4 w =>
 Gd (eZ d2 false) (fun K => aC pg (aH .lss 3 aM aM d4 (aLn 0)) w K) w fun d5 w =>
 aC pg (fV d2 (.bool true) d5) w fun d6 w =>
 Gd (eZ d6 false) (fun K => K KT w) w fun d8 w =>
 Gd (eZ d6 false) (fun K => aC pg (aH .gtr 3 aM aM d8 (aLn 3)) w K) w fun d9 w =>
 aC pg (fV d6 (.bool true) d9) w fun e0 w =>
 fE e0
  (aC pg (bX 35 []) w fun e1 w =>
  aC pg (aK 35 b8 e1) w fun _u w =>
  mW pg 35 b8 w fun r0 => R (.tuple #[r0, (aLn 0), (aLn 1)]) w)
  (aC pg (aH .eql 3 (.tmp 32) (.const (aLn 0)) KT (aLn 0)) w fun e3 w =>
  fE e3
   (aR pg Cd #[aQ] w fun e6 w =>
   aC pg (bD e6 0) w fun e7 w =>
   aC pg (bD e6 1) w fun e8 w =>
   aC pg (bV 35) w fun c2 w =>
   aC pg (aK 35 c2 e7) w fun _u w =>
   aC pg (aI 35 c2) w fun e9 w =>
   aC pg (aK 35 b8 e9) w fun _u w =>
   mW pg 35 b8 w fun r0 => R (.tuple #[r0, (aLn 0), e8]) w)
   (aC pg (aH .eql 3 (.tmp 41) (.const (aLn 1)) KT (aLn 1)) w fun f2 w =>
   fE f2
    (aC pg (aH .eql 9 (.tmp 43) (.const (.string ⟨#[]⟩)) DB (.string ⟨#[]⟩)) w fun f4 w =>
    fE f4
     (aC pg (bX 35 []) w fun f5 w =>
     aC pg (aK 35 b8 f5) w fun _u w =>
     mW pg 35 b8 w fun r0 => R (.tuple #[r0, (aLn 0), (aLn 10)]) w)
     (aC pg (IM 9 DB (aLn 0)) w fun f7 w =>
     aC pg (gF 5 3 f7) w fun f8 w =>
     aC pg (aH .geq 3 aM aM f8 d0) w fun i0 w =>
     fE i0
      (aC pg (bX 35 []) w fun i1 w =>
      aC pg (aK 35 b8 i1) w fun _u w =>
      mW pg 35 b8 w fun r0 => R (.tuple #[r0, (aLn 0), (aLn 11)]) w)
      (aC pg (IM 9 DB (aLn 0)) w fun i3 w =>
      aC pg (gF 5 3 i3) w fun i4 w =>
      aR pg NB #[i4] w fun i5 w =>
      aC pg (aK 35 b8 i5) w fun _u w =>
      mW pg 35 b8 w fun r0 => R (.tuple #[r0, (aLn 1), (aLn 0)]) w)))
    (aC pg (aH .eql 3 (.tmp 56) (.const (aLn 3)) KT (aLn 3)) w fun i7 w =>
    fE i7
     (aC pg (aL 35 aAn 1) w fun i8 w =>
     aC pg (aI 33 i8) w fun i9 w =>
     aC pg (lF .len #[33] 3 [i9]) w fun j0 w =>
     aC pg (aH .eql 3 (.tmp 60) (.const (aLn 0)) j0 (aLn 0)) w fun j1 w =>
     fE j1
      (aC pg (bX 35 []) w fun j2 w =>
      aC pg (aK 35 b8 j2) w fun _u w =>
      mW pg 35 b8 w fun r0 => R (.tuple #[r0, (aLn 0), (aLn 11)]) w)
      (aC pg (aI 35 aAn) w fun j3 w =>
      aC pg (aK 35 b8 j3) w fun _u w =>
      mW pg 35 b8 w fun r0 => R (.tuple #[r0, (aLn 0), (aLn 0)]) w))
     (aR pg JE #[aQ] w fun j7 w =>
     aR pg J4 #[DB, j7, d0] w fun j9 w =>
     aC pg (bD j9 0) w fun l0 w =>
     aC pg (bD j9 1) w fun l1 w =>
     aC pg (bD j9 2) w fun l2 w =>
     aC pg (bV 130) w fun aFG w =>
     aC pg (aK 130 aFG l0) w fun _u w =>
     aC pg (aH .neq 30 (.tmp 73) (.const (aLn 0)) l2 (aLn 0)) w fun l4 w =>
     fE l4
      (aC pg (bX 35 []) w fun l5 w =>
      aC pg (aK 35 b8 l5) w fun _u w =>
      mW pg 35 b8 w fun r0 => R (.tuple #[r0, (aLn 0), l2]) w)
      (aC pg (aI 130 aFG) w fun l8 w =>
      aR pg BL #[l8] w fun l9 w =>
      aC pg (bD l9 0) w fun m0 w =>
      aC pg (bD l9 1) w fun m1 w =>
      aC pg (bV 35) w fun c7 w =>
      aC pg (aK 35 c7 m0) w fun _u w =>
      aC pg (aH .neq 30 (.tmp 82) (.const (aLn 0)) m1 (aLn 0)) w fun m3 w =>
      fE m3
       (aC pg (bX 35 []) w fun m4 w =>
       aC pg (aK 35 b8 m4) w fun _u w =>
       mW pg 35 b8 w fun r0 => R (.tuple #[r0, (aLn 0), m1]) w)
       (aC pg (aI 35 c7) w fun m6 w =>
       aC pg (aK 35 b8 m6) w fun _u w =>
       mW pg 35 b8 w fun r0 => R (.tuple #[r0, l1, (aLn 0)]) w))))))
theorem afA (R : K1) (hr : HR WT R Q) (h : Oq R (g 0) (g 1) (g 2) (g 3) w) : bH pg Vh Sx Q g w :=
 dP (kn := no) (l := []) h eU hr trivial
def aoP (a0 a1 a2 a3 : aLm) (w : aLl) (R : K1) : Prop :=
 Oq R a0 a1 a2 a3 w
theorem alN {a0 a1 a2 a3 : aLm} {w : aLl} {R : K1} (h : aoP a0 a1 a2 a3 w R) : aR pg DJ #[a0, a1, a2, a3] w R := by
 refine tD (ann := Vh) Tryd.f29 Sx [a0, a1, a2, a3] WT 88 TrydM.mixed Tryd.func29 ?_
 exact (afA _ _ _ R (fun _ _ h => h) h)
def vG : FA := ⟨Hq, fun i => .leaf ([], []) []⟩
def J9 : List ResultVar := [.cell 2 82, .tmp 3]
noncomputable def tK : Code := cX Tryd.f30
def JW (R : K1) (b2 l_4 fC : aLm) (w : aLl) : Prop :=
 aC pg (gB 80 l_4 none (some fC) none) w fun e1 w =>
 aC pg (bX 82 [(0, e1)]) w fun e2 w =>
 aC pg (aK 82 b2 e2) w fun _u w =>
 mW pg 82 b2 w fun r0 => R (.tuple #[r0, (aLn 0)]) w
theorem amO (R : K1) (hr : HR J9 R Q) (h : JW R (g 2) (g 4) (g 5) w) : bH pg vG (aB 1 (aB 4 tK)) Q g w :=
 dP (kn := no) (l := []) h eU hr trivial
def J7 (kn : K3) (k0 : K3) (b2 l_4 fC : aLm) (w : aLl) : Prop :=
 aC pg (aY 80 l_4 fC) w fun d4 w =>
 aC pg (aI 4 d4) w fun d5 w =>
 aC pg (sUn .not d5) w fun d6 w =>
 fE d6
  (aC pg (aH .sub 3 aM aM fC (aLn 1)) w fun d8 w =>
  kn b2 l_4 d8 w)
  (k0 b2 l_4 fC w)
theorem amQ (kn : K3) (k0 : K3) (hn : N3 Q kn 2 4 5) (h0 : E3 Q k0 0 2 4 5) (h : J7 kn k0 (g 2) (g 4) (g 5) w) : bH pg vG (bI (bI (aE 1 (aB 4 tK)))) Q g w :=
 dP (kr := no) (l := [(0, fun g w => k0 (g 2) (g 4) (g 5) w)]) h hn eU ⟨h0, trivial⟩
def RP (k0 : K3) (b2 l_4 fC : aLm) (w : aLl) : Prop :=
 cC (fun (X : aLm -> K0) (t : aLm) (w : aLl) => J7 (fun _ _ fC w => X fC w) k0 b2 l_4 t w) fC w
theorem amB (k0 : K3) (h0 : E3 Q k0 0 2 4 5) (h : RP k0 (g 2) (g 4) (g 5) w) : bH pg vG (bI (aE 1 (aB 4 tK))) Q g w := by
 refine Cy (fun g : Env => g 5) (fun X t w => J7 (fun _ _ fC w => X fC w) k0 (g 2) (g 4) t w) h (fun X g1 w1 ha hL => ?_)
 rw [<- fL 2 ha, <- fL 4 ha] at hL
 exact (amQ _ g1 w1 (fun _ _ fC w => X fC w) k0 (fun _ _ h => h) h0 hL)
def Sg (kn : K3) (b2 l_4 fC : aLm) (w : aLl) : Prop :=
 RP kn b2 l_4 fC w
def Rf (R : K1) (b2 l_4 fC : aLm) (w : aLl) : Prop :=
 Sg (fun b2 l_4 fC w => JW R b2 l_4 fC w) b2 l_4 fC w
theorem amY (kn : K3) (hn : N3 Q kn 2 4 5) (h : Sg kn (g 2) (g 4) (g 5) w) : bH pg vG (aE 1 (aB 4 tK)) Q g w :=
 wD 0 (amB _ g w kn hn h)
def Kk (kn : K3) (R : K1) (Ag : aLm) (w : aLl) : Prop :=
 aC pg (bV 82) w fun b2 w =>
 aC pg (aH .eql 9 (.tmp 6) (.const (.string ⟨#[]⟩)) Ag (.string ⟨#[]⟩)) w fun b7 w =>
 Gd (eZ b7 false) (fun K => K Ag w) w fun b9 w =>
 Gd (eZ b7 false) (fun K => K Ag w) w fun c0 w =>
 Gd (eZ b7 false) (fun K => aC pg (lF .len #[9] 3 [c0]) w K) w fun c1 w =>
 Gd (eZ b7 false) (fun K => aC pg (aH .sub 3 aM aM c1 (aLn 1)) w K) w fun c2 w =>
 Gd (eZ b7 false) (fun K => aC pg (IM 9 b9 c2) w K) w fun c3 w =>
 Gd (eZ b7 false) (fun K => aC pg (aH .eql 5 (.tmp 13) (.const (.int .u8 0)) c3 (.int .u8 0)) w K) w fun c4 w =>
 aC pg (fV b7 (.bool true) c4) w fun c5 w =>
 fE c5
  (aC pg (bX 82 []) w fun c6 w =>
  aC pg (aK 82 b2 c6) w fun _u w =>
  mW pg 82 b2 w fun r0 => R (.tuple #[r0, (aLn 11)]) w)
  (aR pg Eh #[Ag] w fun c8 w =>
  aC pg (lF .len #[80] 3 [c8]) w fun d0 w =>
  aC pg (aH .sub 3 aM aM d0 (aLn 1)) w fun d1 w =>
  kn b2 c8 d1 w)
theorem alB (kn : K3) (R : K1) (hn : N3 Q kn 2 4 5) (hr : HR J9 R Q) (h : Kk kn R (g 0) w) : bH pg vG (aE 4 tK) Q g w :=
 dP (l := []) h hn hr trivial
def Kj (R : K1) (Ag : aLm) (w : aLl) : Prop :=
 Kk (fun b2 l_4 fC w => Rf R b2 l_4 fC w) R Ag w
theorem alY (R : K1) (hr : HR J9 R Q) (h : Kj R (g 0) w) : bH pg vG tK Q g w :=
 gC 4 (alB _ g w (Rf R) R (fun g w h => aJ (gC 1 (amY _ g w (JW R) (fun g w h => aJ (amO _ g w R hr h)) h))) hr h)
def aeI (a0 : aLm) (w : aLl) (R : K1) : Prop :=
 Kj R a0 w
theorem Vp {a0 : aLm} {w : aLl} {R : K1} (h : aeI a0 w R) : aR pg Hq #[a0] w R := by
 refine tD (ann := vG) Tryd.f30 tK [a0] J9 33 TrydM.mixed Tryd.func30 ?_
 exact (alY _ _ _ R (fun _ _ h => h) h)
def SR : FA := ⟨vB, fun i => .leaf ([], []) []⟩
def Vi : List ResultVar := [.cell 4 82, .tmp 5]
noncomputable def Qs : Code := cX Tryd.f31
def Mq (R : K1) (b0 W3 : aLm) (w : aLl) : Prop :=
 aC pg (sU 35 b0) w fun b2 w =>
 aC pg (sU 82 W3) w fun b_3 w =>
 aC pg (bV 82) w fun b4 w =>
 aC pg (aI 82 b_3) w fun b8 w =>
 aC pg (aL 35 b2 0) w fun b9 w =>
 aC pg (aI 3 b9) w fun c0 w =>
 aR pg yI #[b8, c0] w fun c1 w =>
 aC pg (bD c1 0) w fun c2 w =>
 aC pg (bD c1 1) w fun c3 w =>
 aC pg (aK 82 b_3 c2) w fun _u w =>
 aC pg (aI 82 b_3) w fun c4 w =>
 aC pg (gF 73 3 c3) w fun c6 w =>
 aC pg (aK 82 b4 c4) w fun _u w =>
 mW pg 82 b4 w fun r0 => R (.tuple #[r0, c6]) w
theorem acU (R : K1) (hr : HR Vi R Q) (h : Mq R (g 0) (g 1) w) : bH pg SR Qs Q g w :=
 dP (kn := no) (l := []) h eU hr trivial
def akM (a0 a1 : aLm) (w : aLl) (R : K1) : Prop :=
 Mq R a0 a1 w
theorem aeQ {a0 a1 : aLm} {w : aLl} {R : K1} (h : akM a0 a1 w R) : aR pg vB #[a0, a1] w R := by
 refine tD (ann := SR) Tryd.f31 Qs [a0, a1] Vi 17 TrydM.mixed Tryd.func31 ?_
 exact (acU _ _ _ R (fun _ _ h => h) h)
def SL : FA := ⟨zE, fun i => .leaf ([], []) []⟩
def UT : List ResultVar := [.cell 8 82, .tmp 9]
noncomputable def Qv : Code := cX Tryd.f32
def LG (R : K1) (aQ b1 ZK b_3 : aLm) (w : aLl) : Prop :=
 aC pg (sU 35 b1) w fun b5 w =>
 aC pg (sU 82 b_3) w fun uE w =>
 aC pg (bV 82) w fun b8 w =>
 aC pg (aL 35 b5 1) w fun c6 w =>
 aC pg (aI 33 c6) w fun c7 w =>
 aC pg (aY 33 c7 ZK) w fun c9 w =>
 aC pg (aL 139 c9 0) w fun d0 w =>
 aC pg (aI 3 d0) w fun d1 w =>
 aR pg Ki #[aQ, d1] w fun d2 w =>
 aC pg (bD d2 0) w fun d3 w =>
 aC pg (bD d2 1) w fun d4 w =>
 aC pg (bD d2 2) w fun d5 w =>
 aC pg (aI 82 uE) w fun d7 w =>
 aR pg yI #[d7, d4] w fun d9 w =>
 aC pg (bD d9 0) w fun e0 w =>
 aC pg (bD d9 1) w fun e1 w =>
 aC pg (aK 82 uE e0) w fun _u w =>
 aC pg (aI 82 uE) w fun e2 w =>
 aC pg (gF 73 43 e1) w fun e5 w =>
 aC pg (aH .add 43 aM aM d3 e5) w fun e6 w =>
 aC pg (aK 82 b8 e2) w fun _u w =>
 mW pg 82 b8 w fun r0 => R (.tuple #[r0, e6]) w
theorem adU (R : K1) (hr : HR UT R Q) (h : LG R (g 0) (g 1) (g 2) (g 3) w) : bH pg SL Qv Q g w :=
 dP (kn := no) (l := []) h eU hr trivial
def ajW (a0 a1 a2 a3 : aLm) (w : aLl) (R : K1) : Prop :=
 LG R a0 a1 a2 a3 w
theorem agE {a0 a1 a2 a3 : aLm} {w : aLl} {R : K1} (h : ajW a0 a1 a2 a3 w R) : aR pg zE #[a0, a1, a2, a3] w R := by
 refine tD (ann := SL) Tryd.f32 Qv [a0, a1, a2, a3] UT 37 TrydM.mixed Tryd.func32 ?_
 exact (adU _ _ _ R (fun _ _ h => h) h)
def Vu : FA := ⟨xY, fun i => match Nat.beq i 3 with | true => .leaf ([7, 11], [(10, 11)]) [(false, []), (false, []), (false, []), (false, []), (false, []), (false, []), (false, []), (true, []), (false, []), (false, []), (false, []), (true, [0]), (false, [])] | false => match Nat.beq i 4 with | true => .leaf ([10], [(1, 10), (2, 10), (4, 10), (5, 10), (6, 10), (8, 10), (9, 10)]) [(false, []), (false, []), (false, []), (false, []), (false, []), (false, []), (false, []), (false, []), (false, []), (false, []), (true, [0, 1, 3, 4, 5, 7, 8]), (false, [])] | false => .leaf ([], []) []⟩
def Xb : List ResultVar := [.cell 6 82, .tmp 7]
noncomputable def SG : Code := cX Tryd.f33
def OP (R : K1) (b0 jD DB : aLm) (w : aLl) : Prop :=
 aC pg (sU 35 b0) w fun b3 w =>
 aC pg (sU 82 DB) w fun b_5 w =>
 aC pg (bV 82) w fun b6 w =>
 aC pg (aH .lss 3 aM aM jD (aLn 0)) w fun c0 w =>
 Gd (eZ c0 false) (fun K => K jD w) w fun c2 w =>
 Gd (eZ c0 false) (fun K => aC pg (aL 35 b3 1) w K) w fun c3 w =>
 Gd (eZ c0 false) (fun K => aC pg (aI 33 c3) w K) w fun c4 w =>
 Gd (eZ c0 false) (fun K => aC pg (lF .len #[33] 3 [c4]) w K) w fun c5 w =>
 Gd (eZ c0 false) (fun K => aC pg (aH .geq 3 aM aM c2 c5) w K) w fun c6 w =>
 aC pg (fV c0 (.bool true) c6) w fun c7 w =>
 fE c7
  (aC pg (aI 82 b_5) w fun c8 w =>
  aC pg (aK 82 b6 c8) w fun _u w =>
  mW pg 82 b6 w fun r0 => R (.tuple #[r0, (aLn 0)]) w)
  (aC pg (aI 82 b_5) (dr w) fun d0 w_ => w_ = (dr w) /\
  aC pg (aL 35 b3 1) (dr w) fun d1 w_ => w_ = (dr w) /\
  aC pg (aI 33 d1) (dr w) fun d2 w_ => w_ = (dr w) /\
  (dr w) = (dr w) /\
  aC pg (aY 33 d2 jD) (dr w) fun d4 w_ => w_ = (dr w) /\
  aC pg (aL 139 d4 1) (dr w) fun d5 w_ => w_ = (dr w) /\
  aC pg (aI 3 d5) (dr w) fun d6 w_ => w_ = (dr w) /\
  aR pg yI #[d0, d6] (dr w) fun d7 aBr =>
  aBr = aBr /\
  aC pg (bD d7 0) aBr fun d8 w_ => w_ = aBr /\
  aC pg (bD d7 1) aBr fun d9 w_ => w_ = aBr /\
  aC pg (aK 82 b_5 d8) aBr fun _u11 Aa =>
  (dS pg (bD d7 1) d9 Aa /\ True) /\
  Aa = Aa /\
  aC pg (aI 82 b_5) (dr Aa) fun e0 w_ => w_ = (dr Aa) /\
  aC pg (aL 35 b3 1) (dr Aa) fun e1 w_ => w_ = (dr Aa) /\
  aC pg (aI 33 e1) (dr Aa) fun e2 w_ => w_ = (dr Aa) /\
  (dr Aa) = (dr Aa) /\
  aC pg (aY 33 e2 jD) (dr Aa) fun e4 w_ => w_ = (dr Aa) /\
  aC pg (aL 139 e4 2) (dr Aa) fun e5 w_ => w_ = (dr Aa) /\
  aC pg (aI 3 e5) (dr Aa) fun e6 w_ => w_ = (dr Aa) /\
  (dr Aa) = (dr Aa) /\
  aC pg (gF 73 3 d9) (dr Aa) fun e8 w_ => w_ = (dr Aa) /\
  aC pg (aH .add 3 aM aM e6 e8) (dr Aa) fun e9 w_ => w_ = (dr Aa) /\
  aC pg (aK 82 b6 e0) (dr Aa) fun _u10 UX =>
  (dS pg (aH .add 3 aM aM e6 e8) e9 UX /\ dS pg (gF 73 3 d9) e8 UX /\ dS pg (aI 3 e5) e6 UX /\ dS pg (aL 139 e4 2) e5 UX /\ dS pg (aY 33 e2 jD) e4 UX /\ dS pg (aI 33 e1) e2 UX /\ dS pg (aL 35 b3 1) e1 UX /\ True) /\
  UX = UX /\
  mW pg 82 b6 UX fun r0 => R (.tuple #[r0, e9]) UX)
theorem afP (R : K1) (hr : HR Xb R Q) (h : OP R (g 0) (g 1) (g 2) w) : bH pg Vu SG Q g w :=
 dP (kn := no) (l := []) h eU hr trivial
def asK (a0 a1 a2 : aLm) (w : aLl) (R : K1) : Prop :=
 OP R a0 a1 a2 w
theorem anB {a0 a1 a2 : aLm} {w : aLl} {R : K1} (h : asK a0 a1 a2 w R) : aR pg xY #[a0, a1, a2] w R := by
 refine tD (ann := Vu) Tryd.f33 SG [a0, a1, a2] Xb 40 TrydM.mixed Tryd.func33 ?_
 exact (afP _ _ _ R (fun _ _ h => h) h)
def UH : FA := ⟨Ef, fun i => .leaf ([], []) []⟩
def Xd : List ResultVar := [.tmp 2]
noncomputable def SH : Code := cX Tryd.f34
def Pm (R : K1) (EW : aLm) (w : aLl) : Prop :=
 aC pg (sU 82 EW) w fun W3 w =>
 aC pg (aL 82 W3 0) w fun b3 w =>
 aC pg (aI 80 b3) w fun b4 w =>
 aC pg (lF .len #[80] 3 [b4]) w fun b5 w =>
 aC pg (aL 82 W3 1) w fun b6 w =>
 aC pg (aI 3 b6) w fun b7 w =>
 aC pg (aH .sub 3 aM aM b5 b7) w fun b8 w =>
 R b8 w
theorem afO (R : K1) (hr : HR Xd R Q) (h : Pm R (g 0) w) : bH pg UH SH Q g w :=
 dP (kn := no) (l := []) h eU hr trivial
def aqQ (a0 : aLm) (w : aLl) (R : K1) : Prop :=
 Pm R a0 w
theorem alL {a0 : aLm} {w : aLl} {R : K1} (h : aqQ a0 w R) : aR pg Ef #[a0] w R := by
 refine tD (ann := UH) Tryd.f34 SH [a0] Xd 9 TrydM.mixed Tryd.func34 ?_
 exact (afO _ _ _ R (fun _ _ h => h) h)
def oM : FA := ⟨xD, fun i => .leaf ([], []) []⟩
def B2 : List ResultVar := [.tmp 2]
noncomputable def nI : Code := cX Tryd.f35
def yW (R : K1) (bL : aLm) (w : aLl) : Prop :=
 R bL w
theorem Yd (R : K1) (hr : HR B2 R Q) (h : yW R (g 3) w) : bH pg oM (aB 1 (aB 5 nI)) Q g w :=
 dP (kn := no) (l := []) h eU hr trivial
def yX (kn : K4) (k0 : K1) (aQ bL x_4 Uj : aLm) (w : aLl) : Prop :=
 aC pg (aH .lss 3 aM aM Uj (aLn 32)) w fun c3 w =>
 Gd (eZ c3 true) (fun K => K aQ w) w fun c5 w =>
 Gd (eZ c3 true) (fun K => aC pg (aH .eql 3 (.tmp 15) (.const (aLn 1)) c5 (aLn 1)) w K) w fun c6 w =>
 aC pg (fV c3 c6 (.bool false)) w fun c7 w =>
 fE c7
  (aC pg (cD 91 1 [(0, x_4)]) w fun d2 w =>
  aC pg (lF .append #[91, 91] 91 [bL, d2]) w fun d3 w =>
  aC pg (aH .mul 43 aM aM x_4 (.int .u32 2)) w fun d5 w =>
  aC pg (aH .add 3 aM aM Uj (aLn 1)) w fun c9 w =>
  kn aQ d3 d5 c9 w)
  (k0 bL w)
theorem YK (kn : K4) (k0 : K1) (hn : N4 Q kn 0 3 4 5) (h0 : E1 Q k0 0 3) (h : yX kn k0 (g 0) (g 3) (g 4) (g 5) w) : bH pg oM (bI (bI (aB 1 (aE 1 (aB 5 nI))))) Q g w :=
 dP (kr := no) (l := [(0, fun g w => k0 (g 3) w)]) h hn eU ⟨h0, trivial⟩
def IE (k0 : K1) (aQ bL x_4 Uj : aLm) (w : aLl) : Prop :=
 cC (fun (X : (aLm × aLm × aLm) -> K0) (t : aLm × aLm × aLm) (w : aLl) => yX (fun _ bL x_4 Uj w => X (bL, x_4, Uj) w) k0 aQ t.1 t.2.1 t.2.2 w) (bL, x_4, Uj) w
theorem YL (k0 : K1) (h0 : E1 Q k0 0 3) (h : IE k0 (g 0) (g 3) (g 4) (g 5) w) : bH pg oM (bI (aB 1 (aE 1 (aB 5 nI)))) Q g w := by
 refine Cy (fun g : Env => (g 3, g 4, g 5)) (fun X t w => yX (fun _ bL x_4 Uj w => X (bL, x_4, Uj) w) k0 (g 0) t.1 t.2.1 t.2.2 w) h (fun X g1 w1 ha hL => ?_)
 rw [<- fL 0 ha] at hL
 exact (YK _ g1 w1 (fun _ bL x_4 Uj w => X (bL, x_4, Uj) w) k0 (fun _ _ h => h) h0 hL)
def Ic (kn : K1) (aQ bL x_4 Uj : aLm) (w : aLl) : Prop :=
 IE kn aQ bL x_4 Uj w
def I3 (kn : K4) (aQ bL x_4 : aLm) (w : aLl) : Prop :=
 kn aQ bL x_4 (aLn 0) w
theorem Y5 (kn : K4) (hn : N4 Q kn 0 3 4 5) (h : I3 kn (g 0) (g 3) (g 4) w) : bH pg oM (aE 1 (aE 1 (aB 5 nI))) Q g w :=
 dP (kr := no) (l := []) h hn eU trivial
def Ik (kn : K1) (aQ bL x_4 : aLm) (w : aLl) : Prop :=
 I3 (fun aQ bL x_4 Uj w => Ic kn aQ bL x_4 Uj w) aQ bL x_4 w
def Ij (R : K1) (aQ bL x_4 : aLm) (w : aLl) : Prop :=
 Ik (fun bL w => yW R bL w) aQ bL x_4 w
theorem Yg (kn : K1) (hn : N1 Q kn 3) (h : Ik kn (g 0) (g 3) (g 4) w) : bH pg oM (aE 1 (aB 5 nI)) Q g w :=
 gC 1 (Y5 _ g w (Ic kn) (fun g w h => aJ (wD 0 (YL _ g w kn hn h))) h)
def Im (kn : K3) (R : K1) (aQ : aLm) (w : aLl) : Prop :=
 aC pg (aH .eql 3 (.tmp 6) (.const (aLn 0)) aQ (aLn 0)) w fun b7 w =>
 fE b7
  (aC pg (cD 91 36 [(0, (.int .u32 0)), (1, (.int .u32 1)), (2, (.int .u32 2)), (3, (.int .u32 3)), (4, (.int .u32 4)), (5, (.int .u32 5)), (6, (.int .u32 6)), (7, (.int .u32 7)), (8, (.int .u32 8)), (9, (.int .u32 9)), (10, (.int .u32 10)), (11, (.int .u32 11)), (12, (.int .u32 12)), (13, (.int .u32 13)), (14, (.int .u32 14)), (15, (.int .u32 15)), (16, (.int .u32 16)), (17, (.int .u32 18)), (18, (.int .u32 20)), (19, (.int .u32 22)), (20, (.int .u32 24)), (21, (.int .u32 28)), (22, (.int .u32 32)), (23, (.int .u32 40)), (24, (.int .u32 48)), (25, (.int .u32 64)), (26, (.int .u32 128)), (27, (.int .u32 256)), (28, (.int .u32 512)), (29, (.int .u32 1024)), (30, (.int .u32 2048)), (31, (.int .u32 4096)), (32, (.int .u32 8192)), (33, (.int .u32 16384)), (34, (.int .u32 32768)), (35, (.int .u32 65536))]) w fun b8 w =>
  R b8 w)
  (aC pg (aH .eql 3 (.tmp 9) (.const (aLn 2)) aQ (aLn 2)) w fun c0 w =>
  fE c0
   (aC pg (cD 91 53 [(0, (.int .u32 3)), (1, (.int .u32 4)), (2, (.int .u32 5)), (3, (.int .u32 6)), (4, (.int .u32 7)), (5, (.int .u32 8)), (6, (.int .u32 9)), (7, (.int .u32 10)), (8, (.int .u32 11)), (9, (.int .u32 12)), (10, (.int .u32 13)), (11, (.int .u32 14)), (12, (.int .u32 15)), (13, (.int .u32 16)), (14, (.int .u32 17)), (15, (.int .u32 18)), (16, (.int .u32 19)), (17, (.int .u32 20)), (18, (.int .u32 21)), (19, (.int .u32 22)), (20, (.int .u32 23)), (21, (.int .u32 24)), (22, (.int .u32 25)), (23, (.int .u32 26)), (24, (.int .u32 27)), (25, (.int .u32 28)), (26, (.int .u32 29)), (27, (.int .u32 30)), (28, (.int .u32 31)), (29, (.int .u32 32)), (30, (.int .u32 33)), (31, (.int .u32 34)), (32, (.int .u32 35)), (33, (.int .u32 37)), (34, (.int .u32 39)), (35, (.int .u32 41)), (36, (.int .u32 43)), (37, (.int .u32 47)), (38, (.int .u32 51)), (39, (.int .u32 59)), (40, (.int .u32 67)), (41, (.int .u32 83)), (42, (.int .u32 99)), (43, (.int .u32 131)), (44, (.int .u32 259)), (45, (.int .u32 515)), (46, (.int .u32 1027)), (47, (.int .u32 2051)), (48, (.int .u32 4099)), (49, (.int .u32 8195)), (50, (.int .u32 16387)), (51, (.int .u32 32771)), (52, (.int .u32 65539))]) w fun c1 w =>
   R c1 w)
   (kn aQ (.slice none 0 0) (.int .u32 1) w))
theorem YI (kn : K3) (R : K1) (hn : N3 Q kn 0 3 4) (hr : HR B2 R Q) (h : Im kn R (g 0) w) : bH pg oM (aE 5 nI) Q g w :=
 dP (l := []) h hn hr trivial
def Iv (R : K1) (aQ : aLm) (w : aLl) : Prop :=
 Im (fun aQ bL x_4 w => Ij R aQ bL x_4 w) R aQ w
theorem Xt (R : K1) (hr : HR B2 R Q) (h : Iv R (g 0) w) : bH pg oM nI Q g w :=
 gC 5 (YI _ g w (Ij R) R (fun g w h => aJ (gC 1 (Yg _ g w (yW R) (fun g w h => aJ (Yd _ g w R hr h)) h))) hr h)
def adR (a0 : aLm) (w : aLl) (R : K1) : Prop :=
 Iv R a0 w
theorem adK {a0 : aLm} {w : aLl} {R : K1} (h : adR a0 w R) : aR pg xD #[a0] w R := by
 refine tD (ann := oM) Tryd.f35 nI [a0] B2 27 TrydM.mixed Tryd.func35 ?_
 exact (Xt _ _ _ R (fun _ _ h => h) h)
def qM : FA := ⟨Ep, fun i => .leaf ([], []) []⟩
def GN : List ResultVar := [.tmp 2]
noncomputable def pR : Code := cX Tryd.f36
def G7 (R : K1) (bL : aLm) (w : aLl) : Prop :=
 R bL w
theorem ahZ (R : K1) (hr : HR GN R Q) (h : G7 R (g 3) w) : bH pg qM (aB 1 (aB 4 pR)) Q g w :=
 dP (kn := no) (l := []) h eU hr trivial
def GR (kn : K3) (k0 : K1) (aQ bL iV : aLm) (w : aLl) : Prop :=
 aC pg (aH .lss 3 aM aM iV (aLn 32)) w fun c2 w =>
 Gd (eZ c2 true) (fun K => K aQ w) w fun c4 w =>
 Gd (eZ c2 true) (fun K => aC pg (aH .eql 3 (.tmp 14) (.const (aLn 1)) c4 (aLn 1)) w K) w fun c5 w =>
 aC pg (fV c2 c5 (.bool false)) w fun c6 w =>
 fE c6
  (aC pg (cD 77 1 [(0, iV)]) w fun d1 w =>
  aC pg (lF .append #[77, 77] 77 [bL, d1]) w fun d2 w =>
  aC pg (aH .add 3 aM aM iV (aLn 1)) w fun c8 w =>
  kn aQ d2 c8 w)
  (k0 bL w)
theorem agG (kn : K3) (k0 : K1) (hn : N3 Q kn 0 3 4) (h0 : E1 Q k0 0 3) (h : GR kn k0 (g 0) (g 3) (g 4) w) : bH pg qM (bI (bI (aB 1 (aE 1 (aB 4 pR))))) Q g w :=
 dP (kr := no) (l := [(0, fun g w => k0 (g 3) w)]) h hn eU ⟨h0, trivial⟩
def O5 (k0 : K1) (aQ bL iV : aLm) (w : aLl) : Prop :=
 cC (fun (X : (aLm × aLm) -> K0) (t : aLm × aLm) (w : aLl) => GR (fun _ bL iV w => X (bL, iV) w) k0 aQ t.1 t.2 w) (bL, iV) w
theorem aeJ (k0 : K1) (h0 : E1 Q k0 0 3) (h : O5 k0 (g 0) (g 3) (g 4) w) : bH pg qM (bI (aB 1 (aE 1 (aB 4 pR)))) Q g w := by
 refine Cy (fun g : Env => (g 3, g 4)) (fun X t w => GR (fun _ bL iV w => X (bL, iV) w) k0 (g 0) t.1 t.2 w) h (fun X g1 w1 ha hL => ?_)
 rw [<- fL 0 ha] at hL
 exact (agG _ g1 w1 (fun _ bL iV w => X (bL, iV) w) k0 (fun _ _ h => h) h0 hL)
def NN (kn : K1) (aQ bL iV : aLm) (w : aLl) : Prop :=
 O5 kn aQ bL iV w
def PF (kn : K3) (aQ bL : aLm) (w : aLl) : Prop :=
 kn aQ bL (aLn 0) w
theorem agZ (kn : K3) (hn : N3 Q kn 0 3 4) (h : PF kn (g 0) (g 3) w) : bH pg qM (aE 1 (aE 1 (aB 4 pR))) Q g w :=
 dP (kr := no) (l := []) h hn eU trivial
def PB (kn : K1) (aQ bL : aLm) (w : aLl) : Prop :=
 PF (fun aQ bL iV w => NN kn aQ bL iV w) aQ bL w
def Ps (R : K1) (aQ bL : aLm) (w : aLl) : Prop :=
 PB (fun bL w => G7 R bL w) aQ bL w
theorem aeU (kn : K1) (hn : N1 Q kn 3) (h : PB kn (g 0) (g 3) w) : bH pg qM (aE 1 (aB 4 pR)) Q g w :=
 gC 1 (agZ _ g w (NN kn) (fun g w h => aJ (wD 0 (aeJ _ g w kn hn h))) h)
def O9 (kn : K2) (R : K1) (aQ : aLm) (w : aLl) : Prop :=
 aC pg (aH .eql 3 (.tmp 5) (.const (aLn 0)) aQ (aLn 0)) w fun b6 w =>
 fE b6
  (aC pg (cD 77 36 [(0, (aLn 0)), (1, (aLn 0)), (2, (aLn 0)), (3, (aLn 0)), (4, (aLn 0)), (5, (aLn 0)), (6, (aLn 0)), (7, (aLn 0)), (8, (aLn 0)), (9, (aLn 0)), (10, (aLn 0)), (11, (aLn 0)), (12, (aLn 0)), (13, (aLn 0)), (14, (aLn 0)), (15, (aLn 0)), (16, (aLn 1)), (17, (aLn 1)), (18, (aLn 1)), (19, (aLn 1)), (20, (aLn 2)), (21, (aLn 2)), (22, (aLn 3)), (23, (aLn 3)), (24, (aLn 4)), (25, (aLn 6)), (26, (aLn 7)), (27, (aLn 8)), (28, (aLn 9)), (29, (aLn 10)), (30, (aLn 11)), (31, (aLn 12)), (32, (aLn 13)), (33, (aLn 14)), (34, (aLn 15)), (35, (aLn 16))]) w fun b7 w =>
  R b7 w)
  (aC pg (aH .eql 3 (.tmp 8) (.const (aLn 2)) aQ (aLn 2)) w fun b9 w =>
  fE b9
   (aC pg (cD 77 53 [(0, (aLn 0)), (1, (aLn 0)), (2, (aLn 0)), (3, (aLn 0)), (4, (aLn 0)), (5, (aLn 0)), (6, (aLn 0)), (7, (aLn 0)), (8, (aLn 0)), (9, (aLn 0)), (10, (aLn 0)), (11, (aLn 0)), (12, (aLn 0)), (13, (aLn 0)), (14, (aLn 0)), (15, (aLn 0)), (16, (aLn 0)), (17, (aLn 0)), (18, (aLn 0)), (19, (aLn 0)), (20, (aLn 0)), (21, (aLn 0)), (22, (aLn 0)), (23, (aLn 0)), (24, (aLn 0)), (25, (aLn 0)), (26, (aLn 0)), (27, (aLn 0)), (28, (aLn 0)), (29, (aLn 0)), (30, (aLn 0)), (31, (aLn 0)), (32, (aLn 1)), (33, (aLn 1)), (34, (aLn 1)), (35, (aLn 1)), (36, (aLn 2)), (37, (aLn 2)), (38, (aLn 3)), (39, (aLn 3)), (40, (aLn 4)), (41, (aLn 4)), (42, (aLn 5)), (43, (aLn 7)), (44, (aLn 8)), (45, (aLn 9)), (46, (aLn 10)), (47, (aLn 11)), (48, (aLn 12)), (49, (aLn 13)), (50, (aLn 14)), (51, (aLn 15)), (52, (aLn 16))]) w fun c0 w =>
   R c0 w)
   (kn aQ (.slice none 0 0) w))
theorem ahM (kn : K2) (R : K1) (hn : N2 Q kn 0 3) (hr : HR GN R Q) (h : O9 kn R (g 0) w) : bH pg qM (aE 4 pR) Q g w :=
 dP (l := []) h hn hr trivial
def OA (R : K1) (aQ : aLm) (w : aLl) : Prop :=
 O9 (fun aQ bL w => Ps R aQ bL w) R aQ w
theorem ahH (R : K1) (hr : HR GN R Q) (h : OA R (g 0) w) : bH pg qM pR Q g w :=
 gC 4 (ahM _ g w (Ps R) R (fun g w h => aJ (gC 1 (aeU _ g w (G7 R) (fun g w h => aJ (ahZ _ g w R hr h)) h))) hr h)
def aqY (a0 : aLm) (w : aLl) (R : K1) : Prop :=
 OA R a0 w
theorem anX {a0 : aLm} {w : aLl} {R : K1} (h : aqY a0 w R) : aR pg Ep #[a0] w R := by
 refine tD (ann := qM) Tryd.f36 pR [a0] GN 24 TrydM.mixed Tryd.func36 ?_
 exact (ahH _ _ _ R (fun _ _ h => h) h)
def Hm : FA := ⟨xI, fun i => .leaf ([], []) []⟩
def Jm : List ResultVar := [.tmp 0]
noncomputable def Fq : Code := cX Tryd.f37
def By (R : K1)  (w : aLl) : Prop :=
 aC pg (bX 141 []) w fun b1 w =>
 aC pg (sU 141 b1) w fun b2 w =>
 R b2 w
theorem Sd (R : K1) (hr : HR Jm R Q) (h : By R w) : bH pg Hm Fq Q g w :=
 dP (kn := no) (l := []) h eU hr trivial
def QR (w : aLl) (R : K1) : Prop :=
 By R w
theorem Tg {w : aLl} {R : K1} (h : QR w R) : aR pg xI #[] w R := by
 refine tD (ann := Hm) Tryd.f37 Fq [] Jm 3 TrydM.mixed Tryd.func37 ?_
 exact (Sd _ _ _ R (fun _ _ h => h) h)
def nS : FA := ⟨iM, fun i => .leaf ([], []) []⟩
def xC : List ResultVar := []
noncomputable def mX : Code := cX Tryd.f38
def rJ (kn : K4) (k0 : K0) (xH Fi c7 c8 : aLm) (w : aLl) : Prop :=
 aC pg (aH .lss 3 aM aM c8 c7) w fun c9 w =>
 fE c9
  (aC pg (sQ xH) w fun d3 w =>
  aC pg (aL 141 d3 0) w fun d4 w =>
  aC pg (aI 22 d4) w fun d5 w =>
  aC pg (aH .mul 3 aM aM (aLn 8) c8) w fun d8 w =>
  aC pg (gF 3 94 d8) w fun d9 w =>
  aC pg (aH .shr 73 aM aM Fi d9) w fun e0 w =>
  aC pg (gF 73 5 e0) w fun e1 w =>
  aC pg (cD 22 1 [(0, e1)]) w fun e2 w =>
  aC pg (lF .append #[22, 22] 22 [d5, e2]) w fun e3 w =>
  aC pg (sQ xH) w fun e4 w =>
  aC pg (aL 141 e4 0) w fun e5 w =>
  aC pg (aK 22 e5 e3) w fun _u w =>
  aC pg (aH .add 3 aM aM c8 (aLn 1)) w fun e6 w =>
  kn xH Fi c7 e6 w)
  (k0 w)
theorem Ll (kn : K4) (k0 : K0) (hn : N4 Q kn 0 1 17 18) (h0 : E0 Q k0 0) (h : rJ kn k0 (g 0) (g 1) (g 17) (g 18) w) : bH pg nS (bI (bI (aB 2 mX))) Q g w :=
 dP (kr := no) (l := [(0, fun g w => k0 w)]) h hn eU ⟨h0, trivial⟩
def wM (k0 : K0) (xH Fi c7 c8 : aLm) (w : aLl) : Prop :=
 cC (fun (X : aLm -> K0) (t : aLm) (w : aLl) => rJ (fun _ _ _ c8 w => X c8 w) k0 xH Fi c7 t w) c8 w
theorem Ld (k0 : K0) (h0 : E0 Q k0 0) (h : wM k0 (g 0) (g 1) (g 17) (g 18) w) : bH pg nS (bI (aB 2 mX)) Q g w := by
 refine Cy (fun g : Env => g 18) (fun X t w => rJ (fun _ _ _ c8 w => X c8 w) k0 (g 0) (g 1) (g 17) t w) h (fun X g1 w1 ha hL => ?_)
 rw [<- fL 0 ha, <- fL 1 ha, <- fL 17 ha] at hL
 exact (Ll _ g1 w1 (fun _ _ _ c8 w => X c8 w) k0 (fun _ _ h => h) h0 hL)
def wU (kn : K0) (xH Fi c7 c8 : aLm) (w : aLl) : Prop :=
 wM kn xH Fi c7 c8 w
def wR (kn : K4) (R : K1) (xH Fi BZ : aLm) (w : aLl) : Prop :=
 aC pg (aH .eql 95 (.tmp 7) (.const (.pointer none)) xH (.pointer none)) w fun b8 w =>
 Gd (eZ b8 false) (fun K => K BZ w) w fun c0 w =>
 Gd (eZ b8 false) (fun K => aC pg (aH .lss 3 aM aM c0 (aLn 1)) w K) w fun c1 w =>
 aC pg (fV b8 (.bool true) c1) w fun c2 w =>
 Gd (eZ c2 false) (fun K => K BZ w) w fun c4 w =>
 Gd (eZ c2 false) (fun K => aC pg (aH .gtr 3 aM aM c4 (aLn 8)) w K) w fun c5 w =>
 aC pg (fV c2 (.bool true) c5) w fun c6 w =>
 fE c6
  (R (.tuple #[]) w)
  (kn xH Fi BZ (aLn 0) w)
theorem Kx (kn : K4) (R : K1) (hn : N4 Q kn 0 1 17 18) (hr : HR xC R Q) (h : wR kn R (g 0) (g 1) (g 2) w) : bH pg nS (aE 2 mX) Q g w :=
 dP (l := []) h hn hr trivial
def wV (kn : K0) (R : K1) (xH Fi BZ : aLm) (w : aLl) : Prop :=
 wR (fun xH Fi c7 c8 w => wU kn xH Fi c7 c8 w) R xH Fi BZ w
theorem L3 (kn : K0) (R : K1) (hn : N0 Q kn) (hr : HR xC R Q) (h : wV kn R (g 0) (g 1) (g 2) w) : bH pg nS mX Q g w :=
 gC 2 (Kx _ g w (wU kn) R (fun g w h => aJ (wD 0 (Ld _ g w kn hn h))) hr h)
def Hk (a0 a1 a2 : aLm) (w : aLl) (R : K1) : Prop :=
 wV (fun  w => R (.tuple #[]) w) R a0 a1 a2 w
theorem M1 {a0 a1 a2 : aLm} {w : aLl} {R : K1} (h : Hk a0 a1 a2 w R) : aR pg iM #[a0, a1, a2] w R := by
 refine tD (ann := nS) Tryd.f38 mX [a0, a1, a2] xC 37 TrydM.mixed Tryd.func38 ?_
 exact (L3 _ _ _ (fun  w => R (.tuple #[]) w) R (fun _ _ h => h) (fun _ _ h => h) h)
def fQ : FA := ⟨zT, fun i => .leaf ([], []) []⟩
def kY : List ResultVar := [.cell 2 98, .tmp 3]
noncomputable def fD : Code := cX Tryd.f39
def xL (R : K1) (b2 bJ : aLm) (w : aLl) : Prop :=
 aC pg (aI 98 bJ) w fun f4 w =>
 aC pg (aK 98 b2 f4) w fun _u w =>
 mW pg 98 b2 w fun r0 => R (.tuple #[r0, (aLn 0)]) w
theorem TH (R : K1) (hr : HR kY R Q) (h : xL R (g 2) (g 4) w) : bH pg fQ (aB 1 (aB 2 fD)) Q g w :=
 dP (kn := no) (l := []) h eU hr trivial
def yE (kn : K5) (b2 bJ c2 c3 c4 : aLm) (w : aLl) : Prop :=
 aC pg (aH .add 3 aM aM c4 (aLn 1)) w fun f3 w =>
 kn b2 bJ c2 c3 f3 w
theorem Tk (kn : K5) (hn : N5 Q kn 2 4 12 13 14) (h : yE kn (g 2) (g 4) (g 12) (g 13) (g 14) w) : bH pg fQ (aB 1 (aB 2 (bI (bI (aB 1 (aE 1 (aB 2 fD))))))) Q g w :=
 dP (kr := no) (l := []) h hn eU trivial
def xW (kn : K7) (k2 : K5) (R : K1) (b2 bJ c2 c3 c4 c9 d0 : aLm) (w : aLl) : Prop :=
 aC pg (aH .lss 3 aM aM d0 (aLn 3)) w fun d1 w =>
 fE d1
  (aC pg (IM 142 c9 d0) w fun d3 w =>
  aR pg Rq #[d0, d3] w fun d7 w =>
  aC pg (bD d7 0) w fun d8 w =>
  aC pg (bD d7 1) w fun d9 w =>
  aC pg (bD d7 2) w fun e0 w =>
  aC pg (aH .neq 30 (.tmp 31) (.const (aLn 0)) e0 (aLn 0)) w fun e2 w =>
  fE e2
   (aC pg (aI 98 bJ) w fun e3 w =>
   aC pg (aK 98 b2 e3) w fun _u w =>
   mW pg 98 b2 w fun r0 => R (.tuple #[r0, (aLn 1)]) w)
   (aC pg (aY 98 bJ d0) w fun e6 w =>
   aC pg (aI 77 e6) w fun e7 w =>
   aC pg (cD 77 1 [(0, d8)]) w fun e9 w =>
   aC pg (lF .append #[77, 77] 77 [e7, e9]) w fun f0 w =>
   aC pg (aY 98 bJ d0) w fun f1 w =>
   aC pg (aK 77 f1 f0) w fun _u w =>
   aC pg (aH .add 3 aM aM d0 (aLn 1)) w fun f2 w =>
   kn b2 bJ c2 c3 c4 c9 f2 w))
  (k2 b2 bJ c2 c3 c4 w)
theorem S9 (kn : K7) (k2 : K5) (R : K1) (hn : N7 Q kn 2 4 12 13 14 19 20) (h2 : E5 Q k2 2 2 4 12 13 14) (hr : HR kY R Q) (h : xW kn k2 R (g 2) (g 4) (g 12) (g 13) (g 14) (g 19) (g 20) w) : bH pg fQ (bI (bI (aB 2 (bI (aE 1 (aB 2 (bI (bI (aB 1 (aE 1 (aB 2 fD))))))))))) Q g w :=
 dP (l := [(2, fun g w => k2 (g 2) (g 4) (g 12) (g 13) (g 14) w)]) h hn hr ⟨h2, trivial⟩
def CE (k2 : K5) (R : K1) (b2 bJ c2 c3 c4 c9 d0 : aLm) (w : aLl) : Prop :=
 cC (fun (X : aLm -> K0) (t : aLm) (w : aLl) => xW (fun _ _ _ _ _ _ d0 w => X d0 w) k2 R b2 bJ c2 c3 c4 c9 t w) d0 w
theorem Ts (k2 : K5) (R : K1) (h2 : E5 Q k2 2 2 4 12 13 14) (hr : HR kY R Q) (h : CE k2 R (g 2) (g 4) (g 12) (g 13) (g 14) (g 19) (g 20) w) : bH pg fQ (bI (aB 2 (bI (aE 1 (aB 2 (bI (bI (aB 1 (aE 1 (aB 2 fD)))))))))) Q g w := by
 refine Cy (fun g : Env => g 20) (fun X t w => xW (fun _ _ _ _ _ _ d0 w => X d0 w) k2 R (g 2) (g 4) (g 12) (g 13) (g 14) (g 19) t w) h (fun X g1 w1 ha hL => ?_)
 rw [<- fL 2 ha, <- fL 4 ha, <- fL 12 ha, <- fL 13 ha, <- fL 14 ha, <- fL 19 ha] at hL
 exact (S9 _ g1 w1 (fun _ _ _ _ _ _ d0 w => X d0 w) k2 R (fun _ _ h => h) h2 hr hL)
def CH (kn : K5) (R : K1) (b2 bJ c2 c3 c4 c9 d0 : aLm) (w : aLl) : Prop :=
 CE kn R b2 bJ c2 c3 c4 c9 d0 w
def CU (kn : K7) (b2 bJ c2 c3 c4 : aLm) (w : aLl) : Prop :=
 aC pg (aY 24 c2 c4) w fun c6 w =>
 aC pg (aI 47 c6) w fun c7 w =>
 aC pg (bV 47) w fun s_6 w =>
 aC pg (aK 47 s_6 c7) w fun _u w =>
 aC pg (aI 47 s_6) w fun c8 w =>
 aR pg tN #[c8] w fun c9 w =>
 kn b2 bJ c2 c3 c4 c9 (aLn 0) w
theorem Tw (kn : K7) (hn : N7 Q kn 2 4 12 13 14 19 20) (h : CU kn (g 2) (g 4) (g 12) (g 13) (g 14) w) : bH pg fQ (aE 2 (bI (aE 1 (aB 2 (bI (bI (aB 1 (aE 1 (aB 2 fD))))))))) Q g w :=
 dP (kr := no) (l := []) h hn eU trivial
def La (kn : K5) (R : K1) (b2 bJ c2 c3 c4 : aLm) (w : aLl) : Prop :=
 CU (fun b2 bJ c2 c3 c4 c9 d0 w => CH kn R b2 bJ c2 c3 c4 c9 d0 w) b2 bJ c2 c3 c4 w
def C1 (kn : K5) (R : K1) (b2 bJ c2 c3 c4 : aLm) (w : aLl) : Prop :=
 La kn R b2 bJ c2 c3 c4 w
def Da (kn : K5) (R : K1) (b2 bJ c2 c3 c4 : aLm) (w : aLl) : Prop :=
 C1 (fun b2 bJ c2 c3 c4 w => yE kn b2 bJ c2 c3 c4 w) R b2 bJ c2 c3 c4 w
theorem Tl (kn : K5) (R : K1) (hn : N5 Q kn 2 4 12 13 14) (hr : HR kY R Q) (h : C1 kn R (g 2) (g 4) (g 12) (g 13) (g 14) w) : bH pg fQ (aE 1 (aB 2 (bI (bI (aB 1 (aE 1 (aB 2 fD))))))) Q g w :=
 wD 1 (gC 2 (Tw _ g w (CH kn R) (fun g w h => aJ (wD 2 (Ts _ g w kn R hn hr h))) h))
def Bv (kn : K5) (k0 : K2) (b2 bJ c2 c3 c4 : aLm) (w : aLl) : Prop :=
 aC pg (aH .lss 3 aM aM c4 c3) w fun c5 w =>
 fE c5
  (kn b2 bJ c2 c3 c4 w)
  (k0 b2 bJ w)
theorem Q8 (kn : K5) (k0 : K2) (hn : N5 Q kn 2 4 12 13 14) (h0 : E2 Q k0 0 2 4) (h : Bv kn k0 (g 2) (g 4) (g 12) (g 13) (g 14) w) : bH pg fQ (aE 2 (bI (bI (aB 1 (aE 1 (aB 2 fD)))))) Q g w :=
 dP (kr := no) (l := [(0, fun g w => k0 (g 2) (g 4) w)]) h hn eU ⟨h0, trivial⟩
def wJ (kn : K5) (k0 : K2) (R : K1) (b2 bJ c2 c3 c4 : aLm) (w : aLl) : Prop :=
 Bv (fun b2 bJ c2 c3 c4 w => Da kn R b2 bJ c2 c3 c4 w) k0 b2 bJ c2 c3 c4 w
def BF (k0 : K2) (R : K1) (b2 bJ c2 c3 c4 : aLm) (w : aLl) : Prop :=
 cC (fun (X : aLm -> K0) (t : aLm) (w : aLl) => wJ (fun _ _ _ _ c4 w => X c4 w) k0 R b2 bJ c2 c3 t w) c4 w
theorem Rj (kn : K5) (k0 : K2) (R : K1) (hn : N5 Q kn 2 4 12 13 14) (h0 : E2 Q k0 0 2 4) (hr : HR kY R Q) (h : wJ kn k0 R (g 2) (g 4) (g 12) (g 13) (g 14) w) : bH pg fQ (bI (bI (aB 1 (aE 1 (aB 2 fD))))) Q g w :=
 gC 2 (Q8 _ g w (Da kn R) k0 (fun g w h => aJ (gC 1 (Tl _ g w (yE kn) R (fun g w h => aJ (Tk _ g w kn hn h)) hr h))) h0 h)
theorem RN (k0 : K2) (R : K1) (h0 : E2 Q k0 0 2 4) (hr : HR kY R Q) (h : BF k0 R (g 2) (g 4) (g 12) (g 13) (g 14) w) : bH pg fQ (bI (aB 1 (aE 1 (aB 2 fD)))) Q g w := by
 refine Cy (fun g : Env => g 14) (fun X t w => wJ (fun _ _ _ _ c4 w => X c4 w) k0 R (g 2) (g 4) (g 12) (g 13) t w) h (fun X g1 w1 ha hL => ?_)
 rw [<- fL 2 ha, <- fL 4 ha, <- fL 12 ha, <- fL 13 ha] at hL
 exact (Rj _ g1 w1 (fun _ _ _ _ c4 w => X c4 w) k0 R (fun _ _ h => h) h0 hr hL)
def BE (kn : K2) (R : K1) (b2 bJ c2 c3 c4 : aLm) (w : aLl) : Prop :=
 BF kn R b2 bJ c2 c3 c4 w
def BB (kn : K5) (hY b2 bJ : aLm) (w : aLl) : Prop :=
 aC pg (lF .len #[24] 3 [hY]) w fun c3 w =>
 kn b2 bJ hY c3 (aLn 0) w
theorem Rt (kn : K5) (hn : N5 Q kn 2 4 12 13 14) (h : BB kn (g 0) (g 2) (g 4) w) : bH pg fQ (aE 1 (aE 1 (aB 2 fD))) Q g w :=
 dP (kr := no) (l := []) h hn eU trivial
def BC (kn : K2) (R : K1) (hY b2 bJ : aLm) (w : aLl) : Prop :=
 BB (fun b2 bJ c2 c3 c4 w => BE kn R b2 bJ c2 c3 c4 w) hY b2 bJ w
def Bo (R : K1) (hY b2 bJ : aLm) (w : aLl) : Prop :=
 BC (fun b2 bJ w => xL R b2 bJ w) R hY b2 bJ w
theorem Rk (kn : K2) (R : K1) (hn : N2 Q kn 2 4) (hr : HR kY R Q) (h : BC kn R (g 0) (g 2) (g 4) w) : bH pg fQ (aE 1 (aB 2 fD)) Q g w :=
 gC 1 (Rt _ g w (BE kn R) (fun g w h => aJ (wD 0 (RN _ g w kn R hn hr h))) h)
def BG (kn : K3) (hY : aLm) (w : aLl) : Prop :=
 aC pg (bV 98) w fun b2 w =>
 aC pg (bV 98) w fun bJ w =>
 kn hY b2 bJ w
theorem RV (kn : K3) (hn : N3 Q kn 0 2 4) (h : BG kn (g 0) w) : bH pg fQ (aE 2 fD) Q g w :=
 dP (kr := no) (l := []) h hn eU trivial
def Bp (R : K1) (hY : aLm) (w : aLl) : Prop :=
 BG (fun hY b2 bJ w => Bo R hY b2 bJ w) hY w
theorem Rv (R : K1) (hr : HR kY R Q) (h : Bp R (g 0) w) : bH pg fQ fD Q g w :=
 gC 2 (RV _ g w (Bo R) (fun g w h => aJ (gC 1 (Rk _ g w (xL R) R (fun g w h => aJ (TH _ g w R hr h)) hr h))) h)
def SD (a0 : aLm) (w : aLl) (R : K1) : Prop :=
 Bp R a0 w
theorem Ub {a0 : aLm} {w : aLl} {R : K1} (h : SD a0 w R) : aR pg zT #[a0] w R := by
 refine tD (ann := fQ) Tryd.f39 fD [a0] kY 45 TrydM.mixed Tryd.func39 ?_
 exact (Rv _ _ _ R (fun _ _ h => h) h)
end Go.Proofs.YtaggdjhhmbnhoaaDoor

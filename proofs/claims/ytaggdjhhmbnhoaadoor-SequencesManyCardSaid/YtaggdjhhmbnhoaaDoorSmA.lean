/- Parts of the proof of SequencesMany: merged and given short names by a program of ours. -/
import Derived.Orders
import Derived.Below
import Derived.KernelRfl
import Derived.Eval
import Derived.Laws.Sem
import Derived.Scope
import Derived.Test.YtaggdjhhmbnhoaaDoorRows
set_option linter.unusedVariables false
set_option linter.unusedSimpArgs false
open Array renaming getD_eq_getD_getElem? → aG5, all_eq_true' → aH1, length_toList → aH5, getElem?_setIfInBounds_self_of_lt → aHL, getElem?_setIfInBounds_ne → aHR, getElem?_eq_getElem → aHo, mem_of_getElem? → aI5, getElem?_eq_none → aIB
open Bool renaming false_eq_true → aGW, or_eq_true → aH6, not_true → aHB, and_eq_true → aHb, or_eq_false_iff → aIK, not_eq_true' → aIt
open List renaming getD_eq_getElem?_getD → aG3, mem_cons_of_mem → aG9, getElem?_cons_succ → aGR, getElem?_eq_getElem → aGX, mem_cons_self → aH0, map_congr_left → aH4, mem_append → aH7, mem_range → aHD, mem_cons → aHE, mem_map → aHH, all_eq_true → aHM, getElem?_eq_none → aHa, length_cons → aHc, getElem_of_mem → aHl, drop_eq_getElem_cons → aHn, length_eq_zero_iff → aHq, mem_filter → aI6, mem_append_right → aIG, length_erase_of_mem → aIS, mem_of_getElem? → aIc, toList_toArray → aIe, mem_append_left → aIj, map_cons → aIn
open Nat renaming zero_add → aGP, le_refl → aGZ, le_trans → aHS, lt_or_ge → aHd, eq_of_beq_eq_true → aHu, blt_eq → aIW, add_assoc → aIf, lt_trichotomy → aIm, mod_lt → aIz
open Option renaming map_some → aHz, getD_some → aI4
open Option.some renaming inj → aG8
namespace Go.En
open Go
abbrev aJa := World
abbrev aJb := Value
abbrev Env := Nat -> aJb
def put (g : Env) (d : Option Tmp) (v : aJb) : Env :=
 match d with
 | some d => fun i => match Nat.beq i d with | true => v | false => g i
 | none => g
def ev (g : Env) : Operand -> aJb
 | .tmp t => g t
 | .const v => v
 | .global b => .pointer (some ⟨b, 0, none⟩)
 | .func f => .func (.func f) #[] #[]
def Ret (P : Program) (f : FuncId) (args : Array aJb) (w : aJa) (v : aJb) (w' : aJa) : Prop :=
 Calls P f args w fun e w'' => e = .returned v /\ w'' = w'
def aR (P : Program) (f : FuncId) (args : Array aJb) (w : aJa) (R : aJb -> aJa -> Prop) : Prop :=
 ∃ v w', Ret P f args w v w' /\ R v w'
theorem aR.mono {P : Program} {f : FuncId} {args : Array aJb} {w : aJa} {R R' : aJb -> aJa -> Prop} (h : aR P f args w R)
 (hr : ∀ v w', R v w' -> R' v w') : aR P f args w R' :=
 let ⟨v, w', a, b⟩ := h; ⟨v, w', a, hr _ _ b⟩
def aDr (P : Program) (r : Result Next) (K : aJb -> aJa -> Prop) : Prop :=
 match r with
 | .ok (.value v) w => K v w
 | .ok .skip w => K undef w
 | .ok (.enter f args) w => aR P f args w K
 | _ => False
theorem aA (P : Program) (v : aJb) (w : aJa) (K : aJb -> aJa -> Prop) : aDr P (.ok (.value v) w) K = K v w := Eq.trans rfl rfl
theorem stepR_skip (P : Program) (w : aJa) (K : aJb -> aJa -> Prop) : aDr P (.ok .skip w) K = K undef w := Eq.trans rfl rfl
def aC (P : Program) (s : Sem Next) (w : aJa) (K : aJb -> aJa -> Prop) : Prop := aDr P (s.run P w) K
def eC (P : Program) (s : Sem Next) (v : aJb) (w : aJa) : Prop := s.run P w = .ok (.value v) w
def Gd (b : Bool) (s : (aJb -> aJa -> Prop) -> Prop) (w : aJa) (K : aJb -> aJa -> Prop) : Prop :=
 match b with
 | true => s K
 | false => K undef w
def asB (v : aJb) : Option Bool := match v with | .bool b => some b | _ => none
def fI (v : aJb) (want : Bool) : Bool := asB v == some want
def eN (v : aJb) (A B : Prop) : Prop :=
 match v with
 | .bool b => (match b with | true => A | false => B)
 | _ => False
def EM (ops : Array Oper) (j : Nat) : Option Tmp := (ops[j]?).bind (·.dst)
def AX (g : Env) (t : Option Tmp) (want : Bool) : Bool := match t with | some t => fI (g t) want | none => false
def V (s : Sem aJb) : Sem Next := do pure (.value (<- s))
def U (s : Sem Unit) : Sem Next := do s; pure .skip
def JY (op : BinOp) : Bool := match op with | .eql | .neq => true | _ => false
def aG (op : BinOp) (t : TypeId) (ox oy : Operand) (x y : aJb) : Sem Next :=
 match JY op with
 | true => V (do eqGuard op t ox oy x y; binOp op t x y)
 | false => V (binOp op t x y)
def jS (b : Builtin) (ats : Array TypeId) (ty : TypeId) (args : List aJb) : Sem Next := builtin b ats ty #[] args.toArray
def bV (t : TypeId) (ps : List (Nat × aJb)) : Sem Next := V (Instr.build t ps.toArray)
def bX (t : TypeId) (n : Nat) (ps : List (Nat × aJb)) : Sem Next := V (Instr.buildSlice t n ps.toArray)
def OU (g : Env) (o : Oper) : Sem Next :=
 match o.op with
 | .binOp op t x y _ => aG op t x y (ev g x) (ev g y)
 | .build t ps => bV t (ps.toList.map fun p => (p.1, ev g p.2))
 | .buildSlice t n ps => bX t n (ps.toList.map fun p => (p.1, ev g p.2))
 | .call c => (match c.callee with
   | .builtin b => jS b c.argTypes o.type (c.args.toList.map (ev g))
   | _ => execOp (ev g) o)
 | _ => execOp (ev g) o
def LX (P : Program) (g : Env) (o : Oper) (w : aJa) (K : aJb -> aJa -> Prop) : Prop :=
 match o.op with
 | .move x => K (ev g x) w
 | .assign x => K (ev g x) w
 | .call c => (match c.callee with
   | .value (.func f) => aR P f (c.args.toList.map (ev g)).toArray w K
   | _ => aC P (OU g o) w K)
 | _ => aC P (OU g o) w K
def Jg (P : Program) (ops : Array Oper) (g : Env) (o : Oper) (w : aJa) (K : aJb -> aJa -> Prop) : Prop :=
 match o.guard with
 | none => LX P g o w K
 | some (j, want) => Gd (AX g (EM ops j) want) (LX P g o w) w K
def anN (P : Program) (ops : Array Oper) : List Oper -> Env -> aJa -> (Env -> aJa -> Prop) -> Prop
 | [], g, w, K => K g w
 | o :: rest, g, w, K => Jg P ops g o w fun v w' => anN P ops rest (put g o.dst v) w' K
structure Rec where
 heavy : Bool
 o : Oper
 g : Env
 w : aJa
 v : aJb
def gOf (ops : Array Oper) (o : Oper) (g : Env) : Bool := match o.guard with | none => true | some (j, want) => AX g (EM ops j) want
def Gs (b : Bool) (p : Prop) : Prop := match b with | true => p | false => True
def Wa (P : Program) (ops : Array Oper) (q : Rec) (o : Oper) (g : Env) (w' : aJa) (v : aJb) : Prop :=
 match q.heavy with
 | true => Gs (gOf ops o g) (eC P (OU g o) v q.w)
 | false => Gs (gOf ops q.o q.g) (eC P (OU q.g q.o) q.v w')
def amP (i j : Nat) : List (Nat × Nat) -> Bool
 | [] => false
 | (a, b) :: r => match Nat.beq a i with
   | true => (match Nat.beq b j with | true => true | false => amP i j r)
   | false => amP i j r
def rD (i : Nat) : List Nat -> Bool
 | [] => false
 | a :: r => match Nat.beq a i with | true => true | false => rD i r
def avH : List Rec -> Nat -> Option Rec
 | [], _ => none
 | q :: _, 0 => some q
 | _ :: r, n + 1 => avH r n
def aDO (P : Program) (ops : Array Oper) (o : Oper) (g : Env) (w' : aJa) (v : aJb) (hist : List Rec) : List Nat -> Prop
 | [] => True
 | k :: ks => (match avH hist k with
   | some q => Wa P ops q o g w' v
   | none => False) /\ aDO P ops o g w' v hist ks
abbrev Ann := List Nat × List (Nat × Nat)
abbrev awB := List (Bool × List Nat)
def sZ (P : Program) (ops : Array Oper) : List Oper -> awB -> List Rec -> Env -> aJa -> (Env -> aJa -> Prop) -> Prop
 | [], _, _, g, w, K => K g w
 | _ :: _, [], _, _, _, _ => False
 | o :: rest, (hv, ks) :: pl, hist, g, w, K =>
   Jg P ops g o w fun v w' =>
    match hv, ks with
    | true, [] => sZ P ops rest pl (⟨true, o, g, w, v⟩ :: hist) (put g o.dst v) w' K
    | true, k :: ks => aDO P ops o g w' v hist (k :: ks) /\ sZ P ops rest pl (⟨true, o, g, w, v⟩ :: hist) (put g o.dst v) w' K
    | false, [] => w' = w /\ sZ P ops rest pl (⟨false, o, g, w, v⟩ :: hist) (put g o.dst v) w K
    | false, k :: ks => w' = w /\ aDO P ops o g w v hist (k :: ks) /\ sZ P ops rest pl (⟨false, o, g, w, v⟩ :: hist) (put g o.dst v) w K
def cG {α : Type} (F : (α -> aJa -> Prop) -> α -> aJa -> Prop) (g : α) (w : aJa) : Prop :=
 ∃ I : Nat -> α -> aJa -> Prop, (∃ n, I n g w) /\ ∀ n g w, I n g w -> F (fun g' w' => ∃ m, m < n /\ I m g' w') g w
def Cf (K : Env -> aJa -> Prop) (Q : Exit -> Env -> aJa -> Prop) : Exit -> Env -> aJa -> Prop
 | .normal, g, w => K g w
 | e, g, w => Q e g w
def blk (id : Nat) (Q : Exit -> Env -> aJa -> Prop) : Exit -> Env -> aJa -> Prop
 | .exit i, g, w => (match Nat.beq i id with | true => Q .normal g w | false => Q (.exit i) g w)
 | e, g, w => Q e g w
inductive HT where
 | leaf (an : Ann) (pl : awB)
 | perm (π : List Nat) (es : List (Nat × Nat)) (an : Ann) (pl : awB)
 | split (a b : Nat) (x y : HT)
structure FA where
 f : FuncId
 t : Nat -> HT
def zA : List Nat -> Nat -> Nat
 | [], _ => 0
 | a :: r, i => match Nat.beq a i with | true => 0 | false => zA r i + 1
def I2 (π : List Nat) (i : Nat) : List (Nat × Nat) -> List Edge
 | [] => []
 | (a, b) :: r => match Nat.beq b i with | true => ⟨zA π a, .data⟩ :: I2 π i r | false => I2 π i r
def Kw (π : List Nat) (es : List (Nat × Nat)) (i : Nat) (o : Oper) : Oper :=
 { dst := o.dst, op := o.op, type := o.type, pos := o.pos, after := (o.after.toList.map (fun e => (⟨zA π e.on, e.ground⟩ : Edge)) ++ I2 π i es).toArray,
   guard := match o.guard with | none => none | some (j, b) => some (zA π j, b) }
def Za (π : List Nat) (es : List (Nat × Nat)) (l : List Oper) : List Nat -> List Oper
 | [] => []
 | i :: r => match l[i]? with | some o => Kw π es i o :: Za π es l r | none => Za π es l r
def qZ (π : List Nat) (es : List (Nat × Nat)) (ops : Array Oper) : Array Oper := (Za π es ops.toList π).toArray
def aoR (f : FuncId) (id : Nat) (ops : Array Oper) (a b : Nat) (w : aJa) : Bool :=
 Nat.ble ((Region.schedule true ops (w.tape w.drawn (.order f id))).idxOf a) ((Region.schedule true ops (w.tape w.drawn (.order f id))).idxOf b)
def Ord (b : Bool) (A B : Prop) : Prop := match b with | true => A | false => B
def avZ (P : Program) (f : FuncId) (id : Nat) (ops : Array Oper) : HT -> Env -> aJa -> aJa -> (Env -> aJa -> Prop) -> Prop
 | .leaf _ pl, g, _, w, K => sZ P ops ops.toList pl [] g w K
 | .perm π es _ pl, g, _, w, K => sZ P (qZ π es ops) (qZ π es ops).toList pl [] g w K
 | .split a b x y, g, w0, w, K => Ord (aoR f id ops a b w0) (avZ P f id ops x g w0 w K) (avZ P f id ops y g w0 w K)
def bH (P : Program) (ann : FA) : Code -> (Exit -> Env -> aJa -> Prop) -> Env -> aJa -> Prop
 | .skip, Q, g, w => Q .normal g w
 | .region id ops draw, Q, g, w => match draw with
   | false => anN P ops ops.toList g w (Q .normal)
   | true => avZ P ann.f id ops (ann.t id) g w { w with drawn := w.drawn + 1 } (Q .normal)
 | .seq x y, Q, g, w => bH P ann x (Cf (fun g w => bH P ann y Q g w) Q) g w
 | .cond c x y, Q, g, w => eN (ev g c) (bH P ann x Q g w) (bH P ann y Q g w)
 | .block id c, Q, g, w => bH P ann c (blk id Q) g w
 | .loop c, Q, g, w => cG (fun X g w => bH P ann c (Cf X Q) g w) g w
 | .scope c, Q, g, w => bH P ann c Q g w
 | .label _, Q, g, w => Q .normal g w
 | .exit id, Q, g, w => Q (.exit id) g w
 | .ret, Q, g, w => Q .ret g w
 | _, _, _, _ => False
def azZ (N : Nat) (o : Oper) : Bool := match o.dst with | some d => Nat.blt d N | none => true
def bef (b : Array Nat) (i j : Nat) : Bool := (b.getD j 0).testBit i
def looks (ops : Array Oper) (o : Oper) : List Tmp :=
 (o.op.operands.toList.filterMap fun | .tmp t => some t | _ => none) ++ (match o.guard with | some (j, _) => (EM ops j).toList | none => [])
def aCv (ops : Array Oper) (x y : Oper) : Bool :=
 (match x.dst with | some d => (looks ops y).contains d || y.dst == some d | none => false) ||
 (match y.dst with | some d => (looks ops x).contains d | none => false)
def awC (o : Oper) : Bool := match o.op with | .select .. => true | _ => false
def aDf (o : Oper) : Bool := match o.op with | .call { callee := .value (.func _), .. } => true | _ => false
def Tj (P : Program) (o : Oper) : Bool :=
 match o.op with
 | .call c => (match c.callee with
   | .value (.func f) => (match P.funcs[f]? with | some fn => fn.body.isSome && !(fn.name == "runtime.NumGoroutine") | none => false)
   | .builtin b => (match b with | .print | .println => false | _ => true)
   | _ => true)
 | _ => true
def Qu (o : Oper) : Bool := match o.op with | .move _ | .assign _ => true | _ => false
def Tr (ops : Array Oper) (b : Array Nat) (an : Ann) (i j : Nat) (x y : Oper) : Bool :=
 bef b i j ||
 (!aCv ops x y &&
   match rD i an.1, rD j an.1 with
   | true, true => false
   | false, false => true
   | true, false => Qu y || amP i j an.2
   | false, true => Qu x || amP i j an.2)
def auN (ops : Array Oper) (b : Array Nat) (an : Ann) : Bool :=
 (List.range ops.size).all fun j => (List.range j).all fun i =>
  match ops[i]?, ops[j]? with
  | some x, some y => Tr ops b an i j x y
  | _, _ => false
def aqL (ops : Array Oper) : Bool :=
 (List.range ops.size).all fun i => match ops[i]? with
  | some o => o.after.all fun e => !Region.binds .any e || Nat.blt e.on i
  | none => false
def apO (ops : Array Oper) (b : Array Nat) : Bool :=
 (List.range ops.size).all fun j => (List.range ops.size).all fun i =>
  !bef b i j || (match ops[j]? with
   | some o => o.after.any fun e => Region.binds .any e && (Nat.beq e.on i || bef b i e.on)
   | none => false)
def akK (ops : Array Oper) (an : Ann) : Bool :=
 aqL ops && apO ops (Region.before ops) && auN ops (Region.before ops) an && (ops.all fun o => !awC o) &&
  (List.range ops.size).all fun i => match ops[i]? with | some o => !aDf o || rD i an.1 | none => false
def anO (n : Nat) (an : Ann) (pl : awB) : Bool :=
 (List.range n).all fun i => match pl[i]? with
  | some (h, ks) => h == rD i an.1 && an.2.all fun p => !Nat.beq p.2 i || (Nat.blt p.1 i && ks.contains (i - 1 - p.1))
  | none => false
def awW (π : List Nat) (ops : Array Oper) : Bool :=
 Nat.beq π.length ops.size && ((List.range ops.size).all fun k => match π[k]? with | some i => Nat.beq (zA π i) k && Nat.blt i ops.size | none => false) &&
  ((List.range ops.size).all fun i => match π[zA π i]? with | some j => Nat.beq j i | none => false) &&
  ((List.range ops.size).all fun i => match ops[i]? with
    | some o => (o.after.all fun e => Nat.blt e.on ops.size) && (match o.guard with | some (j, _) => Nat.blt j ops.size | none => true)
    | none => false)
def XE (P : Program) (N : Nat) (ops : Array Oper) : List (Nat × Nat) -> HT -> Bool
 | _, .leaf an pl => akK ops an && anO ops.size an pl
 | path, .perm π es an pl => (es.all fun p => amP p.1 p.2 path && Nat.blt p.1 ops.size) && awW π ops && (qZ π es ops).all (azZ N) && (qZ π es ops).all (Tj P) &&
  akK (qZ π es ops) an && anO (qZ π es ops).size an pl
 | path, .split a b x y => !Nat.beq a b && XE P N ops ((a, b) :: path) x && XE P N ops ((b, a) :: path) y
def codeOk (P : Program) (N : Nat) (ann : FA) : Code -> Bool
 | .skip | .exit _ | .ret | .label _ => true
 | .scope c => codeOk P N ann c
 | .region id ops draw => ops.all (azZ N) && ops.all (Tj P) && (!draw || XE P N ops [] (ann.t id))
 | .seq x y => codeOk P N ann x && codeOk P N ann y
 | .cond _ x y => codeOk P N ann x && codeOk P N ann y
 | .block _ c => codeOk P N ann c
 | .loop c => codeOk P N ann c
 | _ => false
theorem anA (g : Env) (d i : Nat) (v : aJb) : put g (some d) v i = if i = d then v else g i := by
 unfold put
 by_cases h : i = d
 .subst h; simp
 .have : Nat.beq i d = false := by
   cases hb : Nat.beq i d
   .rfl
   .exact absurd (aHu hb) h
  simp [this, h]
def Ut (N : Nat) (g : Env) (a : Act) : Prop := a.defers = [] /\ a.tmps.size = N /\ ∀ i, a.tmps.getD i undef = g i
theorem Ut.ev {N : Nat} {g : Env} {a : Act} (h : Ut N g a) (x : Operand) : a.eval x = ev g x := by
 cases x <;> simp [Act.eval, En.ev, <- h.2.2]
theorem Ut.evs {N : Nat} {g : Env} {a : Act} (h : Ut N g a) : a.eval = En.ev g := funext h.ev
theorem Ut.put {N : Nat} {g : Env} {a : Act} (h : Ut N g a) (d : Option Tmp) (v : aJb) (hd : ∀ t, d = some t -> t < N) :
 Ut N (put g d v) (a.put d v) := by
 cases d with
 | none => exact h
 | some t =>
   obtain ⟨h1, h2, h3⟩ := h
   have ht := hd t rfl
   refine ⟨h1, by simp [Act.put, h2], fun i => ?_⟩
   rw [anA, <- h3 i]
   by_cases hi : i = t
   .subst hi; simp [Act.put, h2, ht]
   .have hi' : t ≠ i := fun e => hi e.symm
    simp [Act.put, hi, aHR hi']
theorem Ut.wanted {N : Nat} {g : Env} {a : Act} (h : Ut N g a) (ops : Array Oper) (o : Oper) :
 Region.wanted o (yielded ops a.tmps) = match o.guard with | none => true | some (j, want) => AX g (EM ops j) want := by
 unfold Region.wanted
 cases o.guard with
 | none => rfl
 | some p =>
   obtain ⟨j, want⟩ := p
   simp only [yielded, AX, EM]
   cases (ops[j]?).bind (·.dst) with
   | none => simp
   | some t =>
     have h3 := h.2.2 t
     simp only [Option.bind_some, fI, asB, <- h3]
     simp only [aG5]
     cases ht : a.tmps[t]? with
     | none => simp [undef]
     | some v => cases v <;> simp
section
variable {P : Program} {ops : Array Oper}
def agB (P : Program) (ops : Array Oper) (g : Env) (o : Oper) (w : aJa) (v : aJb) (w' : aJa) : Prop :=
 ∀ K : aJb -> aJa -> Prop, K v w' -> Jg P ops g o w K
theorem aAi {s : Sem Next} {w : aJa} {K : aJb -> aJa -> Prop} (h : aC P s w K) :
 ∃ v w', (∀ K' : aJb -> aJa -> Prop, K' v w' -> aC P s w K') /\ K v w' := by
 unfold aC at *
 generalize s.run P w = r at *
 match r, h with
 | .ok (.value v) w1, h => exact ⟨v, w1, fun _ h' => h', h⟩
 | .ok .skip w1, h => exact ⟨undef, w1, fun _ h' => h', h⟩
 | .ok (.enter f args) w1, h =>
   obtain ⟨v, w', hr, hk⟩ := h
   exact ⟨v, w', fun _ h' => ⟨v, w', hr, h'⟩, hk⟩
theorem apT {g : Env} {o : Oper} {w : aJa} {K : aJb -> aJa -> Prop} (h : LX P g o w K) :
 ∃ v w', (∀ K' : aJb -> aJa -> Prop, K' v w' -> LX P g o w K') /\ K v w' := by
 unfold LX at *
 split at h
 .exact ⟨_, _, fun _ h' => h', h⟩
 .exact ⟨_, _, fun _ h' => h', h⟩
 .split at h
  .obtain ⟨v, w', a, b⟩ := h
   exact ⟨v, w', fun _ h' => ⟨v, w', a, h'⟩, b⟩
  .exact aAi h
 .exact aAi h
theorem aEr (op : BinOp) (t : TypeId) (ox oy : Operand) (x y : aJb) : aG op t ox oy x y = V (do eqGuard op t ox oy x y; binOp op t x y) := by
 cases op <;> simp [aG, JY, eqGuard]
theorem aCc {g : Env} {o : Oper} (ho : Tj P o = true) : OU g o = execOp (ev g) o := by
 unfold OU
 split
 .rename_i op t x y yt hx
  simp only [execOp, hx, aEr, V]
 .rename_i t ps hx
  have e : (List.map (fun p : Nat × Operand => (p.1, ev g p.2)) ps.toList).toArray = ps.map (fun p => (p.1, ev g p.2)) := by obtain ⟨l⟩ := ps; simp
  simp only [execOp, hx, bV, V, e]
 .rename_i t n ps hx
  have e : (List.map (fun p : Nat × Operand => (p.1, ev g p.2)) ps.toList).toArray = ps.map (fun p => (p.1, ev g p.2)) := by obtain ⟨l⟩ := ps; simp
  simp only [execOp, hx, bX, V, e]
 .rename_i c hx
  split
  .rename_i b hb
   simp only [execOp, hx, resolve, hb, pure_bind, invoke, jS]
   unfold Tj at ho
   simp only [hx, hb] at ho
   have e : (List.map (ev g) c.args.toList).toArray = c.args.map (ev g) := by obtain ⟨l⟩ := c.args; simp
   rw [e]
   cases b <;> first | rfl | (cases ho)
  .rfl
 .rfl
theorem arG {f : FuncId} {fn : Func} (hf : P.funcs[f]? = some fn) (hb : fn.body.isSome = true) (hn : (fn.name == "runtime.NumGoroutine") = false)
 (args : Array aJb) (w : aJa) : (callFunc f args).run P w = .ok (.enter f args) w := by
 unfold callFunc
 have hb' : fn.body.isNone = false := by cases h : fn.body <;> simp_all
 show Sem.run P (Sem.program fun p => _) w = _
 simp only [Sem.run]
 simp only [bind, Sem.bind, hf, hn, hb', aGW, if_false]
 rfl
theorem QP {g : Env} {o : Oper} {w : aJa} {K : aJb -> aJa -> Prop} (h : Jg P ops g o w K) :
 ∃ v w', agB P ops g o w v w' /\ K v w' := by
 unfold agB
 unfold Jg at *
 split at h
 .obtain ⟨v, w', h1, h2⟩ := apT h
  exact ⟨v, w', h1, h2⟩
 .rename_i j want hg
  unfold Gd at *
  cases hb : AX g (EM ops j) want with
  | true =>
    simp only [hb] at h
    obtain ⟨v, w', h1, h2⟩ := apT h
    exact ⟨v, w', fun K hk => h1 K hk, h2⟩
  | false =>
    simp only [hb] at h
    exact ⟨_, _, fun K hk => hk, h⟩
theorem agZ {N i : Nat} {g : Env} {a : Act} {o : Oper} {w w' : aJa} {v : aJb} {Q : Exit -> Act -> aJa -> Prop} {next : Act -> aJa -> Prop}
 (hi : ops[i]? = some o) (hc : Tj P o = true) (hr : Ut N g a) (hy : agB P ops g o w v w') (hn : next (a.put o.dst v) w') : wpOp P ops Q i next a w := by
 have h := hy (fun v2 w2 => v2 = v /\ w2 = w') ⟨rfl, rfl⟩
 unfold wpOp
 rw [hi]
 simp only [hr.wanted]
 have run : LX P g o w (fun v2 w2 => v2 = v /\ w2 = w') -> o.wp P a w next Q := by
  intro h
  have stp : aC P (OU g o) w (fun v2 w2 => v2 = v /\ w2 = w') -> o.upon P a next Q ((execOp (ev g) o).run P w) := by
   intro h
   rw [aCc hc] at h
   unfold aC at h
   generalize (execOp (ev g) o).run P w = r at *
   match r, h with
   | .ok (.value v) w1, h => obtain ⟨rfl, rfl⟩ := h; exact hn
   | .ok .skip w1, h => obtain ⟨rfl, rfl⟩ := h; exact hn
   | .ok (.enter f args) w1, h =>
     obtain ⟨v2, w2, hret, rfl, rfl⟩ := h
     simp only [Oper.upon_enter]
     refine Calls.mono hret ?_
     rintro e w'' ⟨rfl, rfl⟩
     exact hn
  unfold Oper.wp
  rw [hr.evs]
  unfold LX at h
  split at h
  .rename_i x hx
   obtain ⟨rfl, rfl⟩ := h
   simp only [execOp, hx]; exact hn
  .rename_i x hx
   obtain ⟨rfl, rfl⟩ := h
   simp only [execOp, hx]; exact hn
  .rename_i c hx
   split at h
   .rename_i f hcal
    obtain ⟨v2, w2, hret, rfl, rfl⟩ := h
    have e : (execOp (ev g) o).run P w = .ok (.enter f (List.map (ev g) c.args.toList).toArray) w := by
     unfold Tj at hc
     simp only [hx, hcal] at hc
     cases hfn : P.funcs[f]? with
     | none => rw [hfn] at hc; cases hc
     | some fn =>
       rw [hfn] at hc
       simp only [aHb, aIt] at hc
       have ea : (List.map (ev g) c.args.toList).toArray = c.args.map (ev g) := by obtain ⟨l⟩ := c.args; simp
       rw [ea]
       simp only [execOp, hx, resolve, hcal, ev, Deferred.ofValue, pure_bind, invoke]
       simp only [Array.empty_append, Array.append_empty]
       exact arG hfn hc.1 hc.2 _ w
    rw [e]
    simp only [Oper.upon_enter]
    refine Calls.mono hret ?_
    rintro e w'' ⟨rfl, rfl⟩
    exact hn
   .exact stp h
  .exact stp h
 unfold Jg at h
 cases hg : o.guard with
 | none =>
   rw [hg] at h
   simp only [if_true]
   exact .inl (run h)
 | some p =>
   obtain ⟨j, want⟩ := p
   simp only [hg] at h
   simp only
   by_cases hb : AX g (EM ops j) want = true
   .rw [if_pos hb]
    simp only [hb, Gd] at h
    exact .inl (run h)
   .rw [if_neg hb]
    have hb' : AX g (EM ops j) want = false := by simpa using hb
    simp only [hb', Gd] at h
    obtain ⟨rfl, rfl⟩ := h
    exact hn
def anX (N : Nat) (ops : Array Oper) : Prop := ∀ (i : Nat) (o : Oper), ops[i]? = some o -> ∀ t, o.dst = some t -> t < N
def Ya (P : Program) (ops : Array Oper) : Prop := ∀ (i : Nat) (o : Oper), ops[i]? = some o -> Tj P o = true
theorem aBB {N : Nat} (hd : anX N ops) (hca : Ya P ops) {Q : Exit -> Act -> aJa -> Prop} {K : Env -> aJa -> Prop}
 (hQ : ∀ g a w, Ut N g a -> K g w -> Q .normal a w) :
 ∀ (l : List Oper) (k : Nat) (g : Env) (a : Act) (w : aJa), (∀ j, l[j]? = ops[k + j]?) -> Ut N g a -> anN P ops l g w K →
   wpOps P ops Q (List.range' k l.length) a w := by
 intro l
 induction l with
 | nil => intro k g a w _ hr h; exact hQ _ _ _ hr h
 | cons o l ih =>
   intro k g a w hl hr h
   have h0 : ops[k]? = some o := by have := hl 0; simpa using this.symm
   obtain ⟨v, w', hy, hk⟩ := QP h
   rw [aHc, List.range'_succ, wpOps_cons]
   refine agZ h0 (hca k o h0) hr hy ?_
   refine ih (k + 1) _ _ _ (fun j => ?_) (hr.put _ _ (hd k o h0)) hk
   have := hl (j + 1)
   simp only [aGR] at this
   rw [this]; congr 1; omega
def agM (an : Ann) (O : Nat -> Oper) (G : Nat -> Env) (W : Nat -> aJa) (V : Nat -> aJb) (i : Nat) : Rec :=
 ⟨rD i an.1, O i, G i, W i, V i⟩
def aAn (P : Program) (ops : Array Oper) (an : Ann) (O : Nat -> Oper) (G : Nat -> Env) (W : Nat -> aJa) (V : Nat -> aJb) (i j : Nat) : Prop :=
 Wa P ops (agM an O G W V i) (O j) (G j) (W (j + 1)) (V j)
structure Run (P : Program) (ops : Array Oper) (an : Ann) (g0 : Env) (w0 : aJa) (n : Nat) (O : Nat -> Oper) (G : Nat -> Env) (W : Nat -> aJa) (V : Nat -> aJb) : Prop where
 g0 : G 0 = g0
 w0 : W 0 = w0
 op : ∀ i, i < n -> ops[i]? = some (O i)
 yld : ∀ i, i < n -> agB P ops (G i) (O i) (W i) (V i) (W (i + 1))
 light : ∀ i, i < n -> rD i an.1 = false -> W (i + 1) = W i
 env : ∀ i, i < n -> G (i + 1) = put (G i) (O i).dst (V i)
 chk : ∀ i j, i < j -> j < n -> amP i j an.2 = true -> aAn P ops an O G W V i j
theorem atL {o : Oper} {g : Env} {w' : aJa} {v : aJb} {hist : List Rec} : ∀ {ks : List Nat}, aDO P ops o g w' v hist ks -> ∀ k ∈ ks, ∃ q, avH hist k = some q /\ Wa P ops q o g w' v := by
 intro ks
 induction ks with
 | nil => intro _ k hk; cases hk
 | cons a ks ih =>
   rintro ⟨h1, h2⟩ k hk
   rcases aHE.1 hk with rfl | hk
   .cases hn : avH hist k with
    | none => rw [hn] at h1; exact h1.elim
    | some q => rw [hn] at h1; exact ⟨q, rfl, h1⟩
   .exact ih h2 k hk
theorem aBP {n : Nat} {an : Ann} {pl : awB} (h : anO n an pl = true) {i : Nat} (hi : i < n) :
 ∃ ks, pl[i]? = some (rD i an.1, ks) /\ ∀ j, amP j i an.2 = true -> j < i /\ (i - 1 - j) ∈ ks := by
 have := aHM.1 h i (aHD.2 hi)
 cases hp : pl[i]? with
 | none => rw [hp] at this; cases this
 | some p =>
   obtain ⟨hv, ks⟩ := p
   rw [hp] at this
   simp only [aHb] at this
   obtain ⟨h1, h2⟩ := this
   have h1 : hv = rD i an.1 := by simpa using h1
   refine ⟨ks, by rw [h1], fun j hj => ?_⟩
   have mm : ∀ (l : List (Nat × Nat)), amP j i l = true -> (j, i) ∈ l := by
    intro l
    induction l with
    | nil => intro h; cases h
    | cons q r ih =>
      obtain ⟨a, b⟩ := q
      intro h
      unfold amP at h
      cases ha : Nat.beq a j with
      | true =>
        simp only [ha] at h
        cases hb : Nat.beq b i with
        | true =>
          obtain rfl := aHu ha
          obtain rfl := aHu hb
          exact aH0
        | false => simp only [hb] at h; exact aG9 _ (ih h)
      | false => simp only [ha] at h; exact aG9 _ (ih h)
   have := aHM.1 h2 (j, i) (mm _ hj)
   simp only [Nat.beq_refl, aHB, Bool.false_or, aHb] at this
   refine ⟨?_, by simpa using this.2⟩
   have hlt := this.1
   exact (aIW (x := j) (y := i)) ▸ hlt
theorem auW {an : Ann} {pl : awB} {g0 : Env} {w0 : aJa} {K : Env -> aJa -> Prop} (hpl : anO ops.size an pl = true) :
 ∀ (l : List Oper) (m : Nat) (hist : List Rec) (O : Nat -> Oper) (G : Nat -> Env) (W : Nat -> aJa) (V : Nat -> aJb),
   (∀ j, l[j]? = ops[m + j]?) -> m + l.length = ops.size -> Run P ops an g0 w0 m O G W V -> (∀ i, i < m -> avH hist (m - 1 - i) = some (agM an O G W V i)) →
   sZ P ops l (pl.drop m) hist (G m) (W m) K →
   ∃ (O : Nat -> Oper) (G : Nat -> Env) (W : Nat -> aJa) (V : Nat -> aJb), Run P ops an g0 w0 (m + l.length) O G W V /\ K (G (m + l.length)) (W (m + l.length)) := by
 intro l
 induction l with
 | nil => intro m hist O G W V _ _ hr _ h; exact ⟨O, G, W, V, hr, by unfold sZ at h; exact h⟩
 | cons o l ih =>
   intro m hist O G W V hl hlen hr hh h
   have h0 : ops[m]? = some o := by have := hl 0; simpa using this.symm
   have hmn : m < ops.size := by rw [aHc] at hlen; omega
   obtain ⟨ks, hk1, hk2⟩ := aBP hpl hmn
   have hdrop : pl.drop m = (rD m an.1, ks) :: pl.drop (m + 1) := by
    have hlt : m < pl.length := by
     rcases aHd m pl.length with h | h
     .exact h
     .rw [aHa h] at hk1; cases hk1
    rw [aHn hlt]
    rw [aGX hlt] at hk1
    rw [aG8 hk1]
   rw [hdrop] at h
   obtain ⟨v, w', hy, hk⟩ := QP h
   have key : (rD m an.1 = false -> w' = W m) /\ (∀ k ∈ ks, ∃ q, avH hist k = some q /\ Wa P ops q o (G m) w' v) /\
       (sZ P ops l (pl.drop (m + 1)) (⟨rD m an.1, o, G m, W m, v⟩ :: hist) (put (G m) o.dst v) w' K) := by
    have nil : ∀ w', ∀ k ∈ ([] : List Nat), ∃ q, avH hist k = some q /\ Wa P ops q o (G m) w' v := fun _ k hk => (by cases hk)
    cases hm : rD m an.1 with
    | true =>
      rw [hm] at hk
      cases ks with
      | nil => exact ⟨fun e => (by cases e), nil _, hk⟩
      | cons k ks => exact ⟨fun e => (by cases e), atL hk.1, hk.2⟩
    | false =>
      rw [hm] at hk
      cases ks with
      | nil => obtain ⟨rfl, hk⟩ := hk; exact ⟨fun _ => rfl, nil _, hk⟩
      | cons k ks => obtain ⟨rfl, hc, hk⟩ := hk; exact ⟨fun _ => rfl, atL hc, hk⟩
   obtain ⟨kl, c1, c2⟩ := key
   let O' : Nat -> Oper := fun i => if i = m then o else O i
   let V' : Nat -> aJb := fun i => if i = m then v else V i
   let G' : Nat -> Env := fun i => if i = m + 1 then put (G m) o.dst v else G i
   let W' : Nat -> aJa := fun i => if i = m + 1 then w' else W i
   have eO : ∀ i, i < m -> O' i = O i := fun i hi => if_neg (by omega)
   have eV : ∀ i, i < m -> V' i = V i := fun i hi => if_neg (by omega)
   have eG : ∀ i, i <= m -> G' i = G i := fun i hi => if_neg (by omega)
   have eW : ∀ i, i <= m -> W' i = W i := fun i hi => if_neg (by omega)
   have oO : O' m = o := if_pos rfl
   have oV : V' m = v := if_pos rfl
   have oG : G' (m + 1) = put (G m) o.dst v := if_pos rfl
   have oW : W' (m + 1) = w' := if_pos rfl
   have eR : ∀ i, i < m -> agM an O' G' W' V' i = agM an O G W V i := fun i hi => by
    simp only [agM, eO i hi, eV i hi, eG i (by omega), eW i (by omega)]
   have hr' : Run P ops an g0 w0 (m + 1) O' G' W' V' := by
    refine ⟨by rw [eG 0 (by omega)]; exact hr.g0, by rw [eW 0 (by omega)]; exact hr.w0, fun i hi => ?_, fun i hi => ?_, fun i hi hm => ?_, fun i hi => ?_, fun i j hij hj hm => ?_⟩
    .by_cases hi' : i = m
     .subst hi'; rw [oO]; exact h0
     .rw [eO i (by omega)]; exact hr.op i (by omega)
    .by_cases hi' : i = m
     .subst hi'; rw [oO, oV, oW, eG i (by omega), eW i (by omega)]; exact hy
     .rw [eO i (by omega), eV i (by omega), eG i (by omega), eW i (by omega), eW (i + 1) (by omega)]; exact hr.yld i (by omega)
    .by_cases hi' : i = m
     .subst hi'; rw [oW, eW i (by omega)]; exact kl hm
     .rw [eW i (by omega), eW (i + 1) (by omega)]; exact hr.light i (by omega) hm
    .by_cases hi' : i = m
     .subst hi'; rw [oO, oV, oG, eG i (by omega)]
     .rw [eO i (by omega), eV i (by omega), eG i (by omega), eG (i + 1) (by omega)]; exact hr.env i (by omega)
    .unfold aAn
     by_cases hj' : j = m
     .subst hj'
      rw [eR i (by omega), oO, oV, oW, eG j (by omega)]
      obtain ⟨q, hq, hc⟩ := c1 _ (hk2 i hm).2
      rw [hh i hij] at hq
      obtain rfl := aG8 hq
      exact hc
     .rw [eR i (by omega), eO j (by omega), eV j (by omega), eG j (by omega), eW (j + 1) (by omega)]
      exact hr.chk i j hij (by omega) hm
   have := ih (m + 1) (⟨rD m an.1, o, G m, W m, v⟩ :: hist) O' G' W' V' (fun j => by
       have := hl (j + 1)
       simp only [aGR] at this
       rw [this]; congr 1; omega) (by rw [aHc] at hlen; omega) hr' (fun i hi => by
       by_cases hi' : i = m
       .subst hi'
        rw [show i + 1 - 1 - i = 0 from by omega]
        simp only [avH, agM, oO, oV, eG i (by omega), eW i (by omega)]
       .rw [eR i (by omega), show m + 1 - 1 - i = (m - 1 - i) + 1 from by omega]
        exact hh i (by omega)) (by rw [oG, oW]; exact c2)
   rw [aHc, show m + (l.length + 1) = m + 1 + l.length from by omega]
   exact this
end
section
variable {P : Program} {ops : Array Oper} {an : Ann} {g0 : Env} {w0 : aJa} {O : Nat -> Oper} {G : Nat -> Env} {W : Nat -> aJa} {V : Nat -> aJb}
def Qd (n : Nat) (O : Nat -> Oper) (V : Nat -> aJb) (g0 : Env) (S : Nat -> Prop) (g : Env) : Prop :=
 ∀ s, (∃ j, j < n /\ S j /\ (O j).dst = some s /\ (∀ k, k < n -> S k -> (O k).dst = some s -> k <= j) /\ g s = V j) ∨
   ((∀ j, j < n -> S j -> (O j).dst ≠ some s) /\ g s = g0 s)
theorem Qd.agree {n : Nat} {S T : Nat -> Prop} {g g' : Env} (h : Qd n O V g0 S g) (h' : Qd n O V g0 T g') (s : Nat)
 (hs : ∀ j, j < n -> (O j).dst = some s -> (S j ↔ T j)) : g s = g' s := by
 rcases h s with ⟨j, h1, h2, h3, h4, h5⟩ | ⟨h1, h2⟩ <;> rcases h' s with ⟨k, k1, k2, k3, k4, k5⟩ | ⟨k1, k2⟩
 .have a := h4 k k1 ((hs k k1 k3).2 k2) k3
  have b := k4 j h1 ((hs j h1 h3).1 h2) h3
  have : j = k := by omega
  subst this; rw [h5, k5]
 .exact absurd h3 (k1 j h1 ((hs j h1 h3).1 h2))
 .exact absurd k3 (h1 k k1 ((hs k k1 k3).2 k2))
 .rw [h2, k2]
theorem Qd.step {n : Nat} {S : Nat -> Prop} {g : Env} (h : Qd n O V g0 S g) (i : Nat) (hi : i < n)
 (hw : ∀ s, (O i).dst = some s -> ∀ j, j < n -> j ≠ i -> (O j).dst = some s -> S j -> j < i) :
 Qd n O V g0 (fun j => S j ∨ j = i) (put g (O i).dst (V i)) := by
 intro s
 cases hd : (O i).dst with
 | none =>
   rcases h s with ⟨j, h1, h2, h3, h4, h5⟩ | ⟨h1, h2⟩
   .refine .inl ⟨j, h1, .inl h2, h3, fun k k1 k2 k3 => ?_, h5⟩
    rcases k2 with k2 | rfl
    .exact h4 k k1 k2 k3
    .rw [hd] at k3; cases k3
   .refine .inr ⟨fun j h3 h4 h5 => ?_, h2⟩
    rcases h4 with h4 | rfl
    .exact h1 j h3 h4 h5
    .rw [hd] at h5; cases h5
 | some t =>
   rw [anA]
   by_cases hst : s = t
   .subst hst
    rw [if_pos rfl]
    refine .inl ⟨i, hi, .inr rfl, hd, fun k k1 k2 k3 => ?_, rfl⟩
    rcases k2 with k2 | rfl
    .by_cases hk : k = i
     .omega
     .have := hw s hd k k1 hk k3 k2; omega
    .omega
   .rw [if_neg hst]
    rcases h s with ⟨j, h1, h2, h3, h4, h5⟩ | ⟨h1, h2⟩
    .refine .inl ⟨j, h1, .inl h2, h3, fun k k1 k2 k3 => ?_, h5⟩
     rcases k2 with k2 | rfl
     .exact h4 k k1 k2 k3
     .rw [hd] at k3; exact absurd (aG8 k3).symm hst
    .refine .inr ⟨fun j h3 h4 h5 => ?_, h2⟩
     rcases h4 with h4 | rfl
     .exact h1 j h3 h4 h5
     .rw [hd] at h5; exact absurd (aG8 h5).symm hst
theorem Run.envFor {n : Nat} (r : Run P ops an g0 w0 n O G W V) : ∀ i, i <= n -> Qd n O V g0 (fun j => j < i) (G i) := by
 intro i
 induction i with
 | zero => intro _ s; exact .inr ⟨fun j _ h => absurd h (by omega), by rw [r.g0]⟩
 | succ i ih =>
   intro hi
   have h := ih (by omega)
   have := h.step (V := V) i (by omega) (fun s _ j _ _ _ hj => hj)
   rw [<- r.env i (by omega)] at this
   intro s
   rcases this s with ⟨j, h1, h2, h3, h4, h5⟩ | ⟨h1, h2⟩
   .exact .inl ⟨j, h1, by omega, h3, fun k k1 k2 k3 => h4 k k1 (by omega) k3, h5⟩
   .exact .inr ⟨fun j a b => h1 j a (by omega), h2⟩
theorem Run.still {n : Nat} (r : Run P ops an g0 w0 n O G W V) (i : Nat) : ∀ d, i + d <= n -> (∀ h, i <= h -> h < i + d -> rD h an.1 = false) -> W (i + d) = W i := by
 intro d
 induction d with
 | zero => intro _ _; rfl
 | succ d ih =>
   intro h1 h2
   rw [<- aIf, r.light (i + d) (by omega) (h2 _ (by omega) (by omega))]
   exact ih (by omega) (fun h a b => h2 h a (by omega))
theorem Run.still' {n : Nat} (r : Run P ops an g0 w0 n O G W V) {i k : Nat} (hik : i <= k) (hk : k <= n) (hh : ∀ h, i <= h -> h < k -> rD h an.1 = false) : W k = W i := by
 have := r.still i (k - i) (by omega) (fun h a b => hh h a (by omega))
 rwa [show i + (k - i) = k from by omega] at this
theorem avC {i k : Nat} : (∃ h, i <= h /\ h < k /\ rD h an.1 = true) -> ∃ h, i <= h /\ h < k /\ rD h an.1 = true /\ ∀ h', i <= h' -> h' < h -> rD h' an.1 = false := by
 rintro ⟨h, h1, h2, h3⟩
 induction h using Nat.strongRecOn with
 | _ h ih =>
   by_cases hx : ∃ h', i <= h' /\ h' < h /\ rD h' an.1 = true
   .obtain ⟨h', a, b, c⟩ := hx
    exact ih h' b a (by omega) c
   .refine ⟨h, h1, h2, h3, fun h' a b => ?_⟩
    cases hm : rD h' an.1
    .rfl
    .exact absurd ⟨h', a, b, hm⟩ hx
theorem alW {i k : Nat} : (∃ h, i <= h /\ h < k /\ rD h an.1 = true) -> ∃ h, i <= h /\ h < k /\ rD h an.1 = true /\ ∀ h', h < h' -> h' < k -> rD h' an.1 = false := by
 rintro ⟨h, h1, h2, h3⟩
 induction hd : k - h using Nat.strongRecOn generalizing h with
 | _ d ih =>
   by_cases hx : ∃ h', h < h' /\ h' < k /\ rD h' an.1 = true
   .obtain ⟨h', a, b, c⟩ := hx
    exact ih (k - h') (by omega) h' (by omega) b c rfl
   .refine ⟨h, h1, h2, h3, fun h' a b => ?_⟩
    cases hm : rD h' an.1
    .rfl
    .exact absurd ⟨h', a, b, hm⟩ hx
structure aoC (ops : Array Oper) (an : Ann) (O : Nat -> Oper) (b : Array Nat) : Prop where
 back : ∀ i, i < ops.size -> ∀ e ∈ (O i).after, Region.binds .any e = true -> e.on < i
 closed : ∀ i j, i < ops.size -> j < ops.size -> bef b i j = true -> ∃ e ∈ (O j).after, Region.binds .any e = true /\ (e.on = i ∨ bef b i e.on = true)
 pair : ∀ i j, i < j -> j < ops.size -> Tr ops b an i j (O i) (O j) = true
 sel : ∀ i, i < ops.size -> awC (O i) = false
 fn : ∀ i, i < ops.size -> aDf (O i) = true -> rD i an.1 = true
theorem aBz (h : akK ops an = true) (ho : ∀ i, i < ops.size -> ops[i]? = some (O i)) : aoC ops an O (Region.before ops) := by
 unfold akK at h
 simp only [aHb] at h
 obtain ⟨⟨⟨⟨h1, h2⟩, h3⟩, h5⟩, h6⟩ := h
 refine ⟨fun i hi e he hb => ?_, fun i j hi hj hb => ?_, fun i j hij hj => ?_, fun i hi => ?_, fun i hi hf => ?_⟩
 .unfold aqL at h1
  have := aHM.1 h1 i (aHD.2 hi)
  rw [ho i hi] at this
  have := aH1.1 this e he
  simp only [hb, aHB, Bool.false_or] at this
  exact (aIW (x := e.on) (y := i)) ▸ this
 .unfold apO at h2
  have := aHM.1 (aHM.1 h2 j (aHD.2 hj)) i (aHD.2 hi)
  rw [ho j hj] at this
  simp only [hb, aHB, Bool.false_or] at this
  obtain ⟨e, he, h⟩ := Array.any_eq_true'.1 this
  simp only [aHb, aH6] at h
  refine ⟨e, he, h.1, h.2.imp (fun h => aHu h) id⟩
 .unfold auN at h3
  have := aHM.1 (aHM.1 h3 j (aHD.2 hj)) i (aHD.2 hij)
  rw [ho i (by omega), ho j hj] at this
  exact this
 .have := aH1.1 h5 (O i) (aI5 (ho i hi))
  simpa using this
 .have := aHM.1 h6 i (aHD.2 hi)
  rw [ho i hi] at this
  simpa [hf] using this
theorem aB5 {i j : Nat} : ∀ {l : List (Nat × Nat)}, amP i j l = true -> (i, j) ∈ l := by
 intro l
 induction l with
 | nil => intro h; cases h
 | cons p r ih =>
   obtain ⟨a, b⟩ := p
   intro h
   unfold amP at h
   cases ha : Nat.beq a i with
   | true =>
     simp only [ha] at h
     cases hb : Nat.beq b j with
     | true =>
       obtain rfl := aHu ha
       obtain rfl := aHu hb
       exact aH0
     | false => simp only [hb] at h; exact aG9 _ (ih h)
   | false => simp only [ha] at h; exact aG9 _ (ih h)
theorem aoC.order {b : Array Nat} (st : aoC ops an O b) {S : Nat -> Prop} {i : Nat} (hi : i < ops.size)
 (hdown : ∀ j k, j < ops.size -> k < ops.size -> S k -> bef b j k = true -> S j) (hbi : ∀ j, j < ops.size -> bef b j i = true -> S j) (hni : ¬ S i)
 {s : Nat} (hs : s ∈ looks ops (O i) ∨ (O i).dst = some s) {j : Nat} (hj : j < ops.size) (hji : j ≠ i) (hd : (O j).dst = some s) : S j ↔ j < i := by
 rcases aHd j i with h | h
 .refine ⟨fun _ => h, fun _ => ?_⟩
  have p := st.pair j i h hi
  unfold Tr at p
  simp only [aH6, aHb, aIt] at p
  rcases p with p | p
  .exact hbi j hj p
  .exfalso
   have p1 := p.1
   unfold aCv at p1
   simp only [hd, aIK] at p1
   rcases hs with hs | hs
   .have := p1.1.1; simp [hs] at this
   .have := p1.1.2; simp [hs] at this
 .have h' : i < j := by omega
  refine ⟨fun hS => ?_, fun hh => by omega⟩
  exfalso
  have p := st.pair i j h' hj
  unfold Tr at p
  simp only [aH6, aHb, aIt] at p
  rcases p with p | p
  .exact hni (hdown i j hi hj hS p)
  .have p1 := p.1
   unfold aCv at p1
   simp only [hd, aIK] at p1
   rcases hs with hs | hs
   .have := p1.2; simp [hs] at this
   .have := p1.1; rw [hs] at this; simp at this
theorem Oz {g g' : Env} {o : Oper} (h : ∀ s ∈ looks ops o, g s = g' s) : ∀ x ∈ o.op.operands, ev g x = ev g' x := by
 intro x hx
 cases x with
 | tmp t => exact h t (aIj _ (List.mem_filterMap.2 ⟨.tmp t, by simpa using hx, rfl⟩))
 | _ => rfl
theorem atU {g g' : Env} {o : Oper} (hs : awC o = false) (h : ∀ s ∈ looks ops o, g s = g' s) : OU g o = OU g' o := by
 have e := execOp_congr o (fun cs b he => by simp [awC, he] at hs) (Oz h)
 have k := Oz h
 unfold OU
 split
 .rename_i op t x y yt hx
  rw [k x (by simp [hx, Op.operands]), k y (by simp [hx, Op.operands])]
 .rename_i t ps hx
  congr 1
  refine aH4 fun p hp => ?_
  rw [k p.2 (by simp [hx, Op.operands]; exact ⟨p.1, by simpa using hp⟩)]
 .rename_i t n ps hx
  congr 1
  refine aH4 fun p hp => ?_
  rw [k p.2 (by simp [hx, Op.operands]; exact ⟨p.1, by simpa using hp⟩)]
 .rename_i c hx
  split
  .rename_i b hb
   congr 1
   refine aH4 fun p hp => ?_
   exact k p (by simp [hx, Op.operands, Call.operands, hb]; simpa using hp)
  .exact e
 .exact e
theorem aoW {g g' : Env} {o : Oper} {j : Nat} {want : Bool} (hg : o.guard = some (j, want)) (h : ∀ s ∈ looks ops o, g s = g' s) :
 AX g (EM ops j) want = AX g' (EM ops j) want := by
 cases hs : EM ops j with
 | none => rfl
 | some t =>
   have := h t (aIG _ (by simp [hg, hs]))
   simp [AX, this]
theorem YK {g g' : Env} {o : Oper} {w : aJa} {K : aJb -> aJa -> Prop} (hs : awC o = false) (h : ∀ s ∈ looks ops o, g s = g' s)
 (hk : Jg P ops g o w K) : Jg P ops g' o w K := by
 have e := atU (ops := ops) hs h
 have run : LX P g o w = LX P g' o w := by
  funext K
  unfold LX
  split
  .rename_i x hx
   have := Oz (ops := ops) h x (by simp [hx, Op.operands])
   rw [this]
  .rename_i x hx
   have := Oz (ops := ops) h x (by simp [hx, Op.operands])
   rw [this]
  .rename_i c hx
   have k := Oz h
   have : List.map (ev g) c.args.toList = List.map (ev g') c.args.toList := aH4 fun p hp => k p (by simp [hx, Op.operands, Call.operands]; exact .inr (by simpa using hp))
   rw [this, e]
  .rw [e]
 unfold Jg at *
 cases hg : o.guard with
 | none => rw [hg] at hk; simp only at hk ⊢; rwa [<- run]
 | some p =>
   obtain ⟨j, want⟩ := p
   simp only [hg] at hk ⊢
   rw [<- run, <- aoW hg h]
   exact hk
theorem auP {n : Nat} (hn : n = ops.size) {b : Array Nat} (r : Run P ops an g0 w0 n O G W V) (st : aoC ops an O b) {S : Nat -> Prop} {i k : Nat} (hi : i < n) (hk : k <= n)
 (hdown : ∀ j k, j < ops.size -> k < ops.size -> S k -> bef b j k = true -> S j) (hbi : ∀ j, j < ops.size -> bef b j i = true -> S j) (hni : ¬ S i)
 (hS : ∀ h, h < n -> rD h an.1 = true -> (S h ↔ h < k)) (hl : rD i an.1 = false) :
 agB P ops (G i) (O i) (W k) (V i) (W k) := by
 subst hn
 have same : Gs (gOf ops (O i) (G i)) (eC P (OU (G i) (O i)) (V i) (W k)) -> Qu (O i) = false -> agB P ops (G i) (O i) (W k) (V i) (W k) := by
  intro hs hm K hK
  have run : eC P (OU (G i) (O i)) (V i) (W k) -> LX P (G i) (O i) (W k) K := by
   intro hs
   unfold eC at hs
   have stp : aC P (OU (G i) (O i)) (W k) K := by unfold aC; rw [hs]; exact hK
   unfold LX
   split
   .rename_i x hx; simp [Qu, hx] at hm
   .rename_i x hx; simp [Qu, hx] at hm
   .rename_i c hx
    have hf : aDf (O i) = false := by
     cases hh : aDf (O i)
     .rfl
     .rw [st.fn i hi hh] at hl; cases hl
    obtain ⟨cal, cargs, cats⟩ := c
    cases cal with
    | value f =>
      cases f with
      | func f => simp [aDf, hx] at hf
      | _ => exact stp
    | _ => exact stp
   .exact stp
  have hy := r.yld i hi (fun v _ => v = V i) rfl
  unfold Jg at hy ⊢
  unfold gOf at hs
  cases hg : (O i).guard with
  | none => rw [hg] at hs; exact run hs
  | some p =>
    obtain ⟨j, want⟩ := p
    rw [hg] at hs
    simp only [hg] at hs hy ⊢
    cases hb : AX (G i) (EM ops j) want with
    | true => rw [hb] at hs; exact run hs
    | false =>
      rw [hb] at hy
      have : undef = V i := hy
      show K undef (W k)
      rw [this]; exact hK
 have moved : Qu (O i) = true -> agB P ops (G i) (O i) (W k) (V i) (W k) := by
  intro hm K hK
  have hy := r.yld i hi (fun v _ => v = V i) rfl
  unfold Jg at hy ⊢
  have mv : ∀ (K' : aJb -> aJa -> Prop) w, LX P (G i) (O i) w K' ↔ ∃ x, ((O i).op = .move x ∨ (O i).op = .assign x) /\ K' (ev (G i) x) w := by
   intro K' w
   unfold LX
   unfold Qu at hm
   split
   .rename_i x hx; constructor
    .intro h; exact ⟨x, .inl hx, h⟩
    .rintro ⟨y, h | h, h'⟩
     .rw [hx] at h; cases h; exact h'
     .rw [hx] at h; cases h
   .rename_i x hx; constructor
    .intro h; exact ⟨x, .inr hx, h⟩
    .rintro ⟨y, h | h, h'⟩
     .rw [hx] at h; cases h
     .rw [hx] at h; cases h; exact h'
   .rename_i c hx; simp [hx] at hm
   .rename_i h1 h2 _; split at hm
    .rename_i x hx; exact absurd hx (h1 x)
    .rename_i x hx; exact absurd hx (h2 x)
    .cases hm
  cases hg : (O i).guard with
  | none =>
    rw [hg] at hy
    simp only at hy ⊢
    rw [mv] at hy ⊢
    obtain ⟨x, hx, h⟩ := hy
    exact ⟨x, hx, h ▸ hK⟩
  | some p =>
    obtain ⟨j, want⟩ := p
    simp only [hg] at hy ⊢
    unfold Gd at *
    cases hb : AX (G i) (EM ops j) want with
    | true =>
      simp only [hb] at hy ⊢
      rw [mv] at hy ⊢
      obtain ⟨x, hx, h⟩ := hy
      exact ⟨x, hx, h ▸ hK⟩
    | false =>
      simp only [hb] at hy ⊢
      rwa [hy]
 rcases Nat.le_total k i with hki | hki
 .by_cases hx : ∃ h, k <= h /\ h < i /\ rD h an.1 = true
  .obtain ⟨h, h1, h2, h3, h4⟩ := avC hx
   have e : W h = W k := r.still' h1 (by omega) h4
   have p := st.pair h i h2 hi
   unfold Tr at p
   simp only [aH6, aHb, aIt] at p
   rcases p with p | p
   .have := hbi h (by omega) p
    have := (hS h (by omega) h3).1 this
    omega
   .have p2 := p.2
    rw [h3, hl] at p2
    simp only [aH6] at p2
    cases hmv : Qu (O i) with
    | true => exact moved hmv
    | false =>
      rcases p2 with p2 | p2
      .rw [hmv] at p2; cases p2
      .refine same ?_ hmv
       have c := r.chk h i h2 hi p2
       unfold aAn Wa agM at c
       simp only [h3] at c
       rw [<- e]; exact c
  .have e : W i = W k := r.still' hki (by omega) (fun h a b => by
    cases hm : rD h an.1
    .rfl
    .exact absurd ⟨h, a, b, hm⟩ hx)
   have hy := r.yld i hi
   rw [r.light i hi hl, e] at hy
   exact hy
 .by_cases hx : ∃ h, i <= h /\ h < k /\ rD h an.1 = true
  .obtain ⟨h, h1, h2, h3, h4⟩ := alW hx
   have hne : h ≠ i := fun e => by rw [e, hl] at h3; cases h3
   have e : W k = W (h + 1) := r.still' (by omega) hk (fun h' a b => h4 h' (by omega) b)
   have p := st.pair i h (by omega) (by omega)
   unfold Tr at p
   simp only [aH6, aHb, aIt] at p
   rcases p with p | p
   .exact absurd (hdown i h (by omega) (by omega) ((hS h (by omega) h3).2 h2) p) hni
   .have p2 := p.2
    rw [h3, hl] at p2
    simp only [aH6] at p2
    cases hmv : Qu (O i) with
    | true => exact moved hmv
    | false =>
      rcases p2 with p2 | p2
      .rw [hmv] at p2; cases p2
      .refine same ?_ hmv
       have c := r.chk i h (by omega) (by omega) p2
       unfold aAn Wa agM at c
       simp only [hl] at c
       rw [e]; exact c
  .have e : W k = W i := r.still' hki hk (fun h a b => by
    cases hm : rD h an.1
    .rfl
    .exact absurd ⟨h, a, b, hm⟩ hx)
   have hy := r.yld i hi
   rw [r.light i hi hl, <- e] at hy
   exact hy
def mV (listed : Array Bool) (i : Nat) : Prop := listed.getD i false = true
theorem aCQ {N n : Nat} (hn : n = ops.size) (hd : anX N ops) (hca : Ya P ops) {b : Array Nat} (r : Run P ops an g0 w0 n O G W V) (st : aoC ops an O b)
 {Q : Exit -> Act -> aJa -> Prop} (hQ : ∀ a, Ut N (G n) a -> Q .normal a (W n)) :
 ∀ (fuel : Nat) (listed : Array Bool) (g : Env) (a : Act) (k : Nat), listed.size = n -> Ut N g a -> k <= n →
   (∀ j, j < n -> mV listed j -> ∀ e ∈ (O j).after, Region.binds .any e = true -> mV listed e.on) →
   Qd n O V g0 (mV listed) g -> (∀ h, h < n -> rD h an.1 = true -> (mV listed h ↔ h < k)) →
   ((List.range n).filter fun i => !listed.getD i false).length <= fuel →
   wpAny P .any ops Q fuel listed a (W k) := by
 subst hn
 have ready_iff : ∀ (listed : Array Bool), listed.size = ops.size -> ∀ i, i ∈ Region.ready .any ops listed ↔ (i < ops.size /\ ¬ mV listed i /\ ∀ e ∈ (O i).after, Region.binds .any e = true -> mV listed e.on) := by
  intro listed hsz i
  unfold Region.ready mV
  rw [aI6, aHD]
  constructor
  .rintro ⟨h1, h2⟩
   rw [r.op i h1] at h2
   simp only [aHb, aHz, aI4] at h2
   refine ⟨h1, ?_, fun e he hb => ?_⟩
   .have := h2.1
    rw [aG5] at this ⊢
    rw [aHo (by omega)] at this ⊢
    simpa using this
   .have := aH1.1 h2.2 e he
    simpa [hb] using this
  .rintro ⟨h1, h2, h3⟩
   refine ⟨h1, ?_⟩
   rw [r.op i h1]
   simp only [aHb, aHz, aI4]
   refine ⟨?_, aH1.2 fun e he => ?_⟩
   .rw [aG5] at h2 ⊢
    rw [aHo (by omega)] at h2 ⊢
    simpa using h2
   .by_cases hb : Region.binds .any e = true
    .simp [hb, h3 e he hb]
    .simp [hb]
 have none_ready : ∀ (listed : Array Bool), listed.size = ops.size -> Region.ready .any ops listed = [] -> ∀ i, i < ops.size -> mV listed i := by
  intro listed hsz hr i
  induction i using Nat.strongRecOn with
  | _ i ih =>
    intro hi
    refine Classical.byContradiction fun hl => ?_
    have : i ∈ Region.ready .any ops listed := (ready_iff listed hsz i).2 ⟨hi, hl, fun e he hb => by
     have := st.back i hi e he hb
     exact ih e.on this (by omega)⟩
    rw [hr] at this; cases this
 have all_done : ∀ (listed : Array Bool) (g : Env) (a : Act) (k : Nat), Ut N g a -> k <= ops.size -> Qd ops.size O V g0 (mV listed) g →
     (∀ h, h < ops.size -> rD h an.1 = true -> (mV listed h ↔ h < k)) -> (∀ i, i < ops.size -> mV listed i) -> Q .normal a (W k) := by
  intro listed g a k hr hk he hh hall
  have e : W ops.size = W k := r.still' hk (aGZ _) (fun h h1 h2 => by
   cases hm : rD h an.1
   .rfl
   .have := (hh h h2 hm).1 (hall h h2); omega)
  have eg : g = G ops.size := funext fun s => he.agree (r.envFor ops.size (aGZ _)) s (fun j hj _ => ⟨fun _ => hj, fun _ => hall j hj⟩)
  rw [<- e]; exact hQ a (eg ▸ hr)
 intro fuel
 induction fuel with
 | zero =>
   intro listed g a k hsz hr hk hdep henv hh hc
   have hall : ∀ i, i < ops.size -> mV listed i := by
    intro i hi
    have hnil : ((List.range ops.size).filter fun i => !listed.getD i false) = [] := aHq.1 (by omega)
    have := List.filter_eq_nil_iff.1 hnil i (aHD.2 hi)
    unfold mV; simpa using this
   refine ⟨?_, all_done listed g a k hr hk henv hh hall⟩
   rw [List.eq_nil_iff_forall_not_mem]
   intro i hi
   have := (ready_iff listed hsz i).1 hi
   exact this.2.1 (hall i this.1)
 | succ fuel ih =>
   intro listed g a k hsz hr hk hdep henv hh hc
   refine ⟨fun hn => all_done listed g a k hr hk henv hh (none_ready listed hsz hn), fun i hi => ?_⟩
   obtain ⟨h1, h2, h3⟩ := (ready_iff listed hsz i).1 hi
   have hdown : ∀ k j, j < ops.size -> k < ops.size -> mV listed k -> bef b j k = true -> mV listed j := by
    intro k
    induction k using Nat.strongRecOn with
    | _ k ihk =>
      intro j hj hk hl hb
      obtain ⟨e, he, hbi, h⟩ := st.closed j k hj hk hb
      have hle := hdep k hk hl e he hbi
      rcases h with h | h
      .exact h ▸ hle
      .have hlt := st.back k hk e he hbi
       exact ihk e.on hlt j hj (by omega) hle h
   have hbi : ∀ j, j < ops.size -> bef b j i = true -> mV listed j := by
    intro j hj hb
    obtain ⟨e, he, hbi, h⟩ := st.closed j i hj h1 hb
    have hle := h3 e he hbi
    rcases h with h | h
    .exact h ▸ hle
    .have hlt := st.back i h1 e he hbi
     exact hdown e.on j hj (by omega) hle h
   have hdown' : ∀ j k, j < ops.size -> k < ops.size -> mV listed k -> bef b j k = true -> mV listed j := fun j k => hdown k j
   have hlooks : ∀ s ∈ looks ops (O i), (G i) s = g s := fun s hs =>
    (r.envFor i (by omega)).agree henv s (fun j hj hd => by
      by_cases hji : j = i
      .subst hji
       exact ⟨fun h => absurd h (by omega), fun h => absurd h h2⟩
      .exact (st.order h1 hdown' hbi h2 (.inl hs) hj hji hd).symm)
   have hl' : ∀ j, mV (listed.setIfInBounds i true) j ↔ (mV listed j ∨ j = i) := by
    intro j
    unfold mV
    rw [aG5, aG5]
    by_cases hji : j = i
    .subst hji
     rw [aHL (by omega)]
     simp
    .rw [aHR (fun e => hji e.symm)]
     simp [hji]
   have next : ∀ k', k' <= ops.size -> (∀ h, h < ops.size -> rD h an.1 = true -> ((mV listed h ∨ h = i) ↔ h < k')) -> agB P ops g (O i) (W k) (V i) (W k') →
       wpOp P ops Q i (wpAny P .any ops Q fuel (listed.setIfInBounds i true)) a (W k) := by
    intro k' hk' hh' hy
    refine agZ (r.op i h1) (hca i _ (r.op i h1)) hr hy ?_
    refine ih _ (put g (O i).dst (V i)) _ k' (by simp [hsz]) (hr.put _ _ (hd i _ (r.op i h1))) hk' ?_ ?_ ?_ ?_
    .intro j hj hlj e he hb
     rw [hl'] at hlj ⊢
     rcases hlj with hlj | rfl
     .exact .inl (hdep j hj hlj e he hb)
     .exact .inl (h3 e he hb)
    .have := henv.step i h1 (fun s hs j hj hji hd hlj => (st.order h1 hdown' hbi h2 (.inr hs) hj hji hd).1 hlj)
     intro s
     rcases this s with ⟨j, j1, j2, j3, j4, j5⟩ | ⟨j1, j2⟩
     .exact .inl ⟨j, j1, (hl' j).2 j2, j3, fun k k1 k2 k3 => j4 k k1 ((hl' k).1 k2) k3, j5⟩
     .exact .inr ⟨fun j a b => j1 j a ((hl' j).1 b), j2⟩
    .intro h a b; rw [hl']; exact hh' h a b
    .have hin : i ∈ (List.range ops.size).filter fun i => !listed.getD i false :=
      aI6.2 ⟨aHD.2 h1, by unfold mV at h2; simpa using h2⟩
     have e1 : ((List.range ops.size).filter fun j => !(listed.setIfInBounds i true).getD j false) = ((List.range ops.size).filter fun j => !listed.getD j false).filter fun j => j != i := by
      rw [List.filter_filter]
      refine List.filter_congr fun j _ => ?_
      have := hl' j
      unfold mV at this
      by_cases hji : j = i
      .have hh : (listed.setIfInBounds i true).getD j false = true := this.2 (.inr hji)
       rw [hh, hji]; simp
      .have hne : (j != i) = true := by simpa using hji
       rw [hne, Bool.true_and]
       cases ha : listed.getD j false with
       | true => rw [this.2 (.inl ha)]
       | false =>
         cases hb : (listed.setIfInBounds i true).getD j false with
         | false => rfl
         | true => rcases this.1 hb with h | h
                   .rw [ha] at h; cases h
                   .exact absurd h hji
     have hnd : ((List.range ops.size).filter fun j => !listed.getD j false).Nodup := List.nodup_range.filter _
     rw [e1, <- List.Nodup.erase_eq_filter hnd, aIS hin]
     omega
   cases hm : rD i an.1 with
   | true =>
     have hS : ∀ h, h < ops.size -> rD h an.1 = true -> (mV listed h ↔ h < i) := by
      intro h hh1 hhm
      rcases aIm h i with hlt | heq | hgt
      .refine ⟨fun _ => hlt, fun _ => ?_⟩
       have p := st.pair h i hlt h1
       unfold Tr at p
       rw [hhm, hm] at p
       simp only [aH6, aHb, aGW, and_false, or_false] at p
       exact hbi h hh1 p
      .subst heq; exact ⟨fun hh => absurd hh h2, fun hh => absurd hh (by omega)⟩
      .refine ⟨fun hl => ?_, fun hh => absurd hh (by omega)⟩
       have p := st.pair i h hgt hh1
       unfold Tr at p
       rw [hhm, hm] at p
       simp only [aH6, aHb, aGW, and_false, or_false] at p
       exact absurd (hdown h i h1 hh1 hl p) h2
     have eW : W k = W i := by
      rcases Nat.le_total k i with hki | hki
      .exact (r.still' hki (by omega) (fun h a b => by
        cases hx : rD h an.1
        .rfl
        .have := (hh h (by omega) hx).1 ((hS h (by omega) hx).2 b); omega)).symm
      .exact r.still' hki hk (fun h a b => by
        cases hx : rD h an.1
        .rfl
        .have := (hS h (by omega) hx).1 ((hh h (by omega) hx).2 b); omega)
     refine next (i + 1) (by omega) (fun h a b => ?_) ?_
     .rw [hS h a b]; omega
     .rw [eW]
      intro K hK
      exact YK (ops := ops) (st.sel i h1) hlooks (r.yld i h1 K hK)
   | false =>
     refine next k hk (fun h a b => ?_) ?_
     .rw [<- hh h a b]
      constructor
      .rintro (h' | rfl)
       .exact h'
       .rw [hm] at b; cases b
      .exact .inl
     .intro K hK
      exact YK (ops := ops) (st.sel i h1) hlooks (auP rfl r st h1 hk hdown' hbi h2 hh hm K hK)
end
def wpF (P : Program) (f : FuncId) (c : Code) (Q : Exit -> Act -> aJa -> Prop) (a : Act) (w : aJa) : Prop :=
 ∀ (b : Frame) (k : List Item) (cs : List Frame), b.fn = f -> ∃ e a' w', Q e a' w' /\ Arrives P (lone (b.at a (.code c :: k)) cs w) b k cs e a' w'
section
variable {P : Program} {f : FuncId} {Q : Exit -> Act -> aJa -> Prop} {a : Act} {w : aJa}
theorem akQ {c : Code} (h : c.wp P Q a w) : wpF P f c Q a w := fun b k cs _ => h b k cs
theorem aD4 {x y : Code} (h : wpF P f x (Exit.then (wpF P f y Q) Q) a w) : wpF P f (.seq x y) Q a w := by
 intro b k cs hb
 obtain ⟨e, a1, w1, hq, har⟩ := h b (.code y :: k) cs hb
 cases e with
 | normal =>
   obtain ⟨e2, a2, w2, hq2, har2⟩ := hq b k cs hb
   exact ⟨e2, a2, w2, hq2, .of_steps (.head step_seq har) har2⟩
 | _ => exact ⟨_, a1, w1, hq, .of_steps (.one step_seq) (.pass (x := .code y) rfl (fun _ _ => .inl (by simp)) har)⟩
theorem aCT {c : Operand} {x y : Code} {t : Bool} (hc : a.eval c = .bool t) (h : wpF P f (if t then x else y) Q a w) : wpF P f (.cond c x y) Q a w :=
 fun b k cs hb => let ⟨e, a1, w1, q, r⟩ := h b k cs hb; ⟨e, a1, w1, q, .of_steps (.one (step_cond hc)) r⟩
theorem aAJ {id : Nat} {c : Code} (h : wpF P f c (Exit.inBlock id Q) a w) : wpF P f (.block id c) Q a w := by
 intro b k cs hb
 obtain ⟨e, a1, w1, hq, har⟩ := h b (.inBlock id :: k) cs hb
 cases e with
 | normal => exact ⟨.normal, a1, w1, hq, .head step_block (Steps.trans har (.one step_inBlock))⟩
 | exit i =>
   by_cases hid : i = id
   .simp only [Exit.inBlock, hid, if_true] at hq
    exact ⟨.normal, a1, w1, hq, .head step_block (har k (by simp [exitTo, hid]))⟩
   .simp only [Exit.inBlock, hid, if_false] at hq
    refine ⟨.exit i, a1, w1, hq, fun k' hk => .head step_block (har k' ?_)⟩
    have : (id == i) = false := by simp; exact fun h => hid h.symm
    simp [exitTo, this, hk]
 | goto l => exact ⟨_, a1, w1, hq, fun k' hk => .head step_block (har k' (by simp [gotoIn, hk]))⟩
 | outgrown => exact ⟨_, a1, w1, hq, .of_steps (b := b) (k := k) (cs := cs) (e := .outgrown) (.one step_block) har⟩
 | _ => exact ⟨_, a1, w1, hq, .of_steps (.one step_block) har⟩
theorem aAW {c : Code} (h : wpF P f c (Exit.noGoto Q) a w) : wpF P f (.scope c) Q a w := by
 intro b k cs hb
 obtain ⟨e, a1, w1, hq, har⟩ := h b (.inScope c :: k) cs hb
 cases e with
 | normal => exact ⟨.normal, a1, w1, hq, .head step_scope (Steps.trans har (.one step_inScope))⟩
 | exit id => exact ⟨.exit id, a1, w1, hq, fun k' hk => .head step_scope (har k' (by simp [exitTo, hk]))⟩
 | goto l => exact hq.elim
 | _ => exact ⟨_, a1, w1, hq, .of_steps (.one step_scope) har⟩
theorem aCi {c : Code} (I : Act -> aJa -> Prop) (μ : Act -> aJa -> Nat) (h0 : I a w)
 (round : ∀ a w, I a w -> wpF P f c (Exit.then (fun a' w' => I a' w' /\ μ a' w' < μ a w) Q) a w) : wpF P f (.loop c) Q a w := by
 intro b k cs hb
 have key : ∀ n a w, μ a w = n -> I a w →
     ∃ e a' w', Q e a' w' /\ Arrives P (lone (b.at a (.code c :: .inLoop c :: k)) cs w) b k cs e a' w' := by
  intro n
  induction n using Nat.strongRecOn with
  | _ n ih =>
    intro a w hn hI
    obtain ⟨e, a1, w1, hq, har⟩ := round a w hI b (.inLoop c :: k) cs hb
    cases e with
    | normal =>
      obtain ⟨hI1, hlt⟩ := hq
      obtain ⟨e2, a2, w2, hq2, har2⟩ := ih (μ a1 w1) (hn ▸ hlt) a1 w1 rfl hI1
      exact ⟨e2, a2, w2, hq2, .of_steps (Steps.trans har (.one step_inLoop)) har2⟩
    | _ => exact ⟨_, a1, w1, hq, .pass (x := .inLoop c) rfl (fun _ _ => .inl (by simp)) har⟩
 obtain ⟨e, a', w', hq, har⟩ := key _ a w rfl h0
 exact ⟨e, a', w', hq, .of_steps (.one step_loop) har⟩
theorem ajO (hm : P.follows .mixedOrders = true) {id : Nat} {ops : Array Oper}
 (h : wpOps P ops Q (Region.schedule true ops (w.tape w.drawn (.order f id))) a { w with drawn := w.drawn + 1 }) : wpF P f (.region id ops true) Q a w := by
 intro b k cs hb
 obtain ⟨e, a1, w1, q, r⟩ := wp_ops _ a _ h b k cs
 refine ⟨e, a1, w1, q, .of_steps (.one ?_) r⟩
 have := @step_region_draw P b a k cs w ops id
 rw [hm, hb] at this
 exact this
theorem aqY {fn : Func} {c : Code} {args : Array aJb} {w : aJa} {R : Ending -> aJa -> Prop}
 (hf : P.funcs[f]? = some fn) (hb : fn.body = some c)
 (h : wpF P f c (bodyPost P fn R) { tmps := args ++ Array.replicate (fn.ntmps - args.size) undef, defers := [] } w) : Calls P f args w R := by
 intro cs
 let b : Frame := { (default : Frame) with fn := f, kind := .normal }
 have henter : Frame.enter P f args .normal = b.at { tmps := args ++ Array.replicate (fn.ntmps - args.size) undef, defers := [] } [.code c] := by
  simp [Frame.enter, Frame.at, hf, hb, b]
 obtain ⟨e, a', w', hq, har⟩ := h b [] cs rfl
 rw [<- henter] at har
 cases e with
 | normal =>
   obtain ⟨hd, v, hr, hR⟩ := hq
   exact ⟨.returned v, w', _, hR, Steps.trans har (.one step_end), rfl, rfl, hd, rfl, fn, hf, hr⟩
 | ret =>
   obtain ⟨hd, v, hr, hR⟩ := hq
   obtain ⟨todo, hs⟩ := har
   exact ⟨.returned v, w', _, hR, hs, rfl, rfl, hd, rfl, fn, hf, hr⟩
 | panic chain =>
   obtain ⟨hd, hR⟩ := hq
   obtain ⟨todo, hs⟩ := har
   exact ⟨.panicked chain, w', _, hR, hs, rfl, rfl, hd, fn, hf⟩
 | exit id => exact hq.elim
 | goto l => exact hq.elim
 | outgrown => exact ⟨.outgrown, w', b, hq, har.resolve_left (by simp [b]), rfl, trivial⟩
end
def asW (ops : Array Oper) : Nat -> Array Bool -> List Nat -> Prop
 | 0, _, L => L = []
 | _ + 1, listed, [] => Region.ready .any ops listed = []
 | n + 1, listed, i :: L => i ∈ Region.ready .any ops listed /\ asW ops n (listed.setIfInBounds i true) L
section
variable {P : Program} {ops : Array Oper} {Q : Exit -> Act -> aJa -> Prop}
theorem aD2 : ∀ (fuel t : Nat) (listed : Array Bool), asW ops fuel listed (Region.linearise.go .any ops fuel t listed []) := by
 intro fuel
 induction fuel with
 | zero => intro t listed; simp [Region.linearise.go, asW]
 | succ fuel ih =>
   intro t listed
   simp only [Region.linearise.go]
   change asW ops (fuel + 1) listed (match (Region.ready .any ops listed)[t % (Region.ready .any ops listed).length]? with
    | some i => Region.linearise.go .any ops fuel (t / (Region.ready .any ops listed).length) (listed.setIfInBounds i true) [i]
    | none => [].reverse)
   cases hi : (Region.ready .any ops listed)[t % (Region.ready .any ops listed).length]? with
   | none =>
     have : Region.ready .any ops listed = [] := by
      cases hr : Region.ready .any ops listed with
      | nil => rfl
      | cons x xs =>
        rw [hr] at hi
        have hlt : t % (x :: xs).length < (x :: xs).length := aIz _ (by simp)
        rw [aGX hlt] at hi
        cases hi
     simpa [asW] using this
   | some i =>
     simp only []
     rw [linearise_go_acc]
     exact ⟨aIc hi, ih _ _⟩
theorem X1 : ∀ (fuel : Nat) (listed : Array Bool) (L : List Nat) (a : Act) (w : aJa), wpAny P .any ops Q fuel listed a w -> asW ops fuel listed L -> wpOps P ops Q L a w := by
 intro fuel
 induction fuel with
 | zero => intro listed L a w h hL; obtain rfl : L = [] := hL; exact h.2
 | succ fuel ih =>
   intro listed L a w h hL
   cases L with
   | nil => exact h.1 hL
   | cons i L =>
     rw [wpOps_cons]
     exact wpOp_mono (fun a w hh => ih _ _ a w hh hL.2) (h.2 i hL.1)
end
structure Perm (π : List Nat) (ops : Array Oper) : Prop where
 len : π.length = ops.size
 to : ∀ i, i < ops.size -> zA π i < ops.size /\ π[zA π i]? = some i
 back : ∀ k, k < ops.size -> ∃ i, π[k]? = some i /\ zA π i = k /\ i < ops.size
 after : ∀ (i : Nat) (o : Oper), ops[i]? = some o -> ∀ e ∈ o.after, e.on < ops.size
 guard : ∀ (i : Nat) (o : Oper) (j : Nat) (b : Bool), ops[i]? = some o -> o.guard = some (j, b) -> j < ops.size
theorem aDI {π : List Nat} {ops : Array Oper} (h : awW π ops = true) : Perm π ops := by
 unfold awW at h
 simp only [aHb] at h
 obtain ⟨⟨⟨h1, h2⟩, h3⟩, h4⟩ := h
 have h1 := aHu h1
 have at4 : ∀ (i : Nat) (o : Oper), ops[i]? = some o -> (o.after.all fun e => Nat.blt e.on ops.size) = true /\ (match o.guard with | some (j, _) => Nat.blt j ops.size | none => true) = true := by
  intro i o ho
  have hi : i < ops.size := by
   rcases aHd i ops.size with h | h
   .exact h
   .rw [aIB h] at ho; cases ho
  have := aHM.1 h4 i (aHD.2 hi)
  rw [ho] at this
  simp only [aHb] at this
  refine ⟨this.1, ?_⟩
  have h := this.2
  revert h
  cases o.guard <;> exact id
 refine ⟨h1, fun i hi => ?_, fun k hk => ?_, fun i o ho e he => ?_, fun i o j b ho hg => ?_⟩
 .have := aHM.1 h3 i (aHD.2 hi)
  cases hp : π[zA π i]? with
  | none => rw [hp] at this; cases this
  | some j =>
    rw [hp] at this
    obtain rfl := aHu this
    refine ⟨?_, rfl⟩
    rcases aHd (zA π j) π.length with h | h
    .omega
    .rw [aHa h] at hp; cases hp
 .have := aHM.1 h2 k (aHD.2 hk)
  cases hp : π[k]? with
  | none => rw [hp] at this; cases this
  | some i =>
    rw [hp] at this
    simp only [aHb] at this
    exact ⟨i, rfl, aHu this.1, (aIW (x := i) (y := ops.size)) ▸ this.2⟩
 .have := aH1.1 (at4 i o ho).1 e he
  exact (aIW (x := e.on) (y := ops.size)) ▸ this
 .have := (at4 i o ho).2
  rw [hg] at this
  exact (aIW (x := j) (y := ops.size)) ▸ this
theorem apW {π : List Nat} {es : List (Nat × Nat)} {l : List Oper} : ∀ (r : List Nat), (∀ i ∈ r, i < l.length) -> (Za π es l r).length = r.length /\ ∀ k i : Nat, r[k]? = some i -> (Za π es l r)[k]? = (l[i]?).map (Kw π es i) := by
 intro r
 induction r with
 | nil => intro _; exact ⟨rfl, fun k i h => by simp at h⟩
 | cons j r ih =>
   intro h
   obtain ⟨h1, h2⟩ := ih fun i hi => h i (aG9 _ hi)
   have hj : j < l.length := h j (by simp)
   simp only [Za, aGX hj]
   refine ⟨by simp [h1], fun k i hk => ?_⟩
   cases k with
   | zero => simp at hk; subst hk; simp [aGX hj]
   | succ k => simp at hk ⊢; exact h2 k i hk
section
variable {P : Program} {ops : Array Oper} {Q : Exit -> Act -> aJa -> Prop} {π : List Nat} {es : List (Nat × Nat)}
theorem Perm.mem (p : Perm π ops) : ∀ i ∈ π, i < ops.toList.length := by
 intro i hi
 obtain ⟨k, hk, e⟩ := aHl hi
 obtain ⟨j, h1, _, h2⟩ := p.back k (by rw [<- p.len]; exact hk)
 rw [aGX hk] at h1
 cases h1
 rw [<- e]; simpa using h2
theorem Perm.size (p : Perm π ops) : (qZ π es ops).size = ops.size := by
 unfold qZ
 rw [List.size_toArray, (apW (es := es) (π := π) π p.mem).1, p.len]
theorem Perm.get (p : Perm π ops) {i : Nat} (hi : i < ops.size) : (qZ π es ops)[zA π i]? = (ops[i]?).map (Kw π es i) := by
 unfold qZ
 have := (apW (es := es) (π := π) π p.mem).2 (zA π i) i (p.to i hi).2
 rw [Array.getElem?_toList] at this
 simpa using this
theorem aBa {i : Nat} {o : Oper} {a : Act} {w : aJa} {K : Act -> aJa -> Prop} : (Kw π es i o).wp P a w K Q = o.wp P a w K Q := by
 unfold Oper.wp
 have : execOp a.eval (Kw π es i o) = execOp a.eval o := by
  obtain ⟨d, op, ty, ps, af, g⟩ := o
  cases op <;> rfl
 rw [this]
 generalize (execOp a.eval o).run P w = r
 cases r with
 | ok n w => cases n <;> rfl
 | halt x w => cases x <;> rfl
theorem auF {i : Nat} {o : Oper} {a : Act} {w : aJa} : (Kw π es i o).asks P a w = o.asks P a w := by
 unfold Oper.asks
 have : execOp a.eval (Kw π es i o) = execOp a.eval o := by
  obtain ⟨d, op, ty, ps, af, g⟩ := o
  cases op <;> rfl
 rw [this]
theorem avD (p : Perm π ops) {i : Nat} {o : Oper} (ho : ops[i]? = some o) (tmps : Array aJb) :
 Region.wanted (Kw π es i o) (yielded (qZ π es ops) tmps) = Region.wanted o (yielded ops tmps) := by
 unfold Region.wanted Kw
 simp only
 cases hg : o.guard with
 | none => rfl
 | some q =>
   obtain ⟨j, b⟩ := q
   simp only
   have hj := p.guard i o j b ho hg
   have : (qZ π es ops)[zA π j]?.bind (·.dst) = (ops[j]?).bind (·.dst) := by
    rw [p.get hj]
    cases ops[j]? <;> rfl
   unfold yielded
   rw [this]
theorem ayT (p : Perm π ops) : ∀ (L : List Nat), (∀ i ∈ L, i < ops.size) -> ∀ (a : Act) (w : aJa), wpOps P (qZ π es ops) Q (L.map (zA π)) a w -> wpOps P ops Q L a w := by
 intro L
 induction L with
 | nil => intro _ a w h; exact h
 | cons i L ih =>
   intro hL a w h
   rw [aIn, wpOps_cons] at h
   rw [wpOps_cons]
   have hi := hL i (by simp)
   have ih := ih fun i hi => hL i (aG9 _ hi)
   unfold wpOp at h ⊢
   rw [p.get hi] at h
   rw [aHo hi] at h ⊢
   simp only [aHz] at h
   rw [avD p (aHo hi)] at h
   simp only
   split
   .rename_i hw
    rw [if_pos hw, aBa, auF] at h
    exact h.imp (Oper.wp_mono fun a w => ih a w) id
   .rename_i hw
    rw [if_neg hw] at h
    exact ih _ _ h
theorem Un {ops : Array Oper} {listed : Array Bool} (hsz : listed.size = ops.size) (i : Nat) :
 i ∈ Region.ready .any ops listed ↔ (i < ops.size /\ listed.getD i false = false /\ ∀ o, ops[i]? = some o -> ∀ e ∈ o.after, Region.binds .any e = true -> listed.getD e.on false = true) := by
 unfold Region.ready
 rw [aI6, aHD]
 constructor
 .rintro ⟨h1, h2⟩
  rw [aHo h1] at h2
  simp only [aHb, aHz, aI4] at h2
  refine ⟨h1, ?_, fun o ho e he hb => ?_⟩
  .have := h2.1
   rw [aG5] at this ⊢
   rw [aHo (by omega)] at this ⊢
   simpa using this
  .rw [aHo h1] at ho
   cases ho
   have := aH1.1 h2.2 e he
   simpa [hb] using this
 .rintro ⟨h1, h2, h3⟩
  refine ⟨h1, ?_⟩
  rw [aHo h1]
  simp only [aHb, aHz, aI4]
  refine ⟨?_, aH1.2 fun e he => ?_⟩
  .rw [aG5] at h2 ⊢
   rw [aHo (by omega)] at h2 ⊢
   simpa using h2
  .by_cases hb : Region.binds .any e = true
   .simp [hb, h3 _ (aHo h1) e he hb]
   .simp [hb]
theorem aDc {π : List Nat} {i : Nat} : ∀ {es : List (Nat × Nat)} {e : Edge}, e ∈ I2 π i es -> ∃ a, (a, i) ∈ es /\ e.on = zA π a := by
 intro es
 induction es with
 | nil => intro e h; simp [I2] at h
 | cons q r ih =>
   obtain ⟨a, b⟩ := q
   intro e h
   simp only [I2] at h
   cases hb : Nat.beq b i with
   | true =>
     rw [hb] at h
     obtain rfl := aHu hb
     rcases aHE.1 h with rfl | h
     .exact ⟨a, by simp, rfl⟩
     .obtain ⟨a, h1, h2⟩ := ih h; exact ⟨a, aG9 _ h1, h2⟩
   | false => rw [hb] at h; obtain ⟨a, h1, h2⟩ := ih h; exact ⟨a, aG9 _ h1, h2⟩
theorem aAU (p : Perm π ops) {L0 : List Nat} (hes : ∀ q ∈ es, L0.idxOf q.1 <= L0.idxOf q.2 /\ q.1 ≠ q.2 /\ q.1 < ops.size) :
 ∀ (fuel : Nat) (listed listed' : Array Bool) (pre L : List Nat), L0 = pre ++ L -> listed.size = ops.size -> listed'.size = ops.size →
   (∀ j, j < ops.size -> listed'.getD (zA π j) false = listed.getD j false) -> (∀ j ∈ pre, listed.getD j false = true) -> (∀ j, listed.getD j false = true -> j ∈ pre) →
   asW ops fuel listed L -> asW (qZ π es ops) fuel listed' (L.map (zA π)) /\ ∀ i ∈ L, i < ops.size := by
 intro fuel
 induction fuel with
 | zero => intro listed listed' pre L _ _ _ _ _ _ h; obtain rfl : L = [] := h; exact ⟨rfl, by simp⟩
 | succ fuel ih =>
   intro listed listed' pre L hL0 hs hs' hrel hpre hpre' h
   have hsz : (qZ π es ops).size = ops.size := p.size
   cases L with
   | nil =>
     refine ⟨?_, by simp⟩
     show Region.ready .any (qZ π es ops) listed' = []
     rw [List.eq_nil_iff_forall_not_mem]
     intro k hk
     obtain ⟨h1, h2, h3⟩ := (Un (by omega) k).1 hk
     obtain ⟨i, hi1, hi2, hi3⟩ := p.back k (by omega)
     have : i ∈ Region.ready .any ops listed := by
      refine (Un hs i).2 ⟨hi3, ?_, fun o ho e he hb => ?_⟩
      .rw [<- hrel i hi3, hi2]; exact h2
      .have g := p.get (es := es) hi3
       rw [hi2, ho] at g
       have hon := p.after i o ho e he
       have := h3 _ g ⟨zA π e.on, e.ground⟩ (by
        simp only [Kw, List.mem_toArray, aH7, aHH]
        exact .inl ⟨e, by simpa using he, rfl⟩) (by unfold Region.binds at hb ⊢; exact hb)
       rw [<- hrel e.on hon]; exact this
     rw [show Region.ready .any ops listed = [] from h] at this
     cases this
   | cons i L =>
     obtain ⟨h1, h2⟩ := h
     obtain ⟨r1, r2, r3⟩ := (Un hs i).1 h1
     have hnot : i ∉ pre := fun hm => by rw [hpre i hm] at r2; cases r2
     have hidx : L0.idxOf i = pre.length := by
      rw [hL0, List.idxOf_append, if_neg hnot]; simp
     have ready' : zA π i ∈ Region.ready .any (qZ π es ops) listed' := by
      refine (Un (by omega) _).2 ⟨by rw [hsz]; exact (p.to i r1).1, by rw [hrel i r1]; exact r2, fun o' ho' e' he' hb => ?_⟩
      rw [p.get r1, aHo r1] at ho'
      simp only [aHz, Option.some.injEq] at ho'
      subst ho'
      simp only [Kw, List.mem_toArray, aH7, aHH] at he'
      rcases he' with ⟨e, he, rfl⟩ | he'
      .have ho := aHo r1
       have he2 : e ∈ ops[i].after := by simpa using he
       rw [hrel e.on (p.after i _ ho e he2)]
       exact r3 _ ho e he2 (by unfold Region.binds at hb ⊢; exact hb)
      .obtain ⟨a, ha, hon⟩ := aDc he'
       obtain ⟨q1, q2, q3⟩ := hes _ ha
       simp only at q1 q2 q3
       rw [hon, hrel a q3]
       refine hpre a ?_
       rw [hidx] at q1
       rw [hL0, List.idxOf_append] at q1
       by_cases hm : a ∈ pre
       .exact hm
       .rw [if_neg hm] at q1
        exfalso
        have hz : (i :: L).idxOf a = 0 := by omega
        rw [List.idxOf_cons] at hz
        cases hb : (i == a) with
        | true => exact q2 (by simpa using (beq_iff_eq.1 hb).symm)
        | false => rw [hb] at hz; simp at hz
     have hlen' : listed'.size = ops.size := hs'
     obtain ⟨k1, k2⟩ := ih (listed.setIfInBounds i true) (listed'.setIfInBounds (zA π i) true) (pre ++ [i]) L (by rw [hL0]; simp) (by simp [hs]) (by simp [hs'])
      (fun j hj => by
       by_cases hji : j = i
       .subst hji
        rw [aG5, aG5, aHL (by rw [hs']; exact (p.to j hj).1), aHL (by omega)]
       .have hne : zA π i ≠ zA π j := fun e => by
         have a1 := (p.to i r1).2
         have a2 := (p.to j hj).2
         rw [e] at a1
         rw [a1] at a2
         exact hji (aG8 a2).symm
        have := hrel j hj
        rw [aG5, aG5] at this ⊢
        rw [aHR hne, aHR (fun e => hji e.symm)]
        exact this)
      (fun j hj => by
       rw [aG5]
       rcases aH7.1 hj with hj | hj
       .by_cases hji : j = i
        .subst hji; rw [aHL (by omega)] <;> rfl
        .rw [aHR (fun e => hji e.symm), <- aG5]; exact hpre j hj
       .have : j = i := by simpa using hj
        subst this
        rw [aHL (by omega)] <;> rfl)
      (fun j hj => by
       by_cases hji : j = i
       .subst hji; simp
       .rw [aG5, aHR (fun e => hji e.symm), <- aG5] at hj
        exact aIj _ (hpre' j hj))
      h2
     exact ⟨⟨ready', k1⟩, fun j hj => (aHE.1 hj).elim (fun e => e ▸ r1) (k2 j)⟩
end
section
variable {P : Program} {ops : Array Oper}
theorem afZ {N : Nat} {an : Ann} {pl : awB} (hok : akK ops an = true) (hpl : anO ops.size an pl = true) (hd : anX N ops) (hca : Ya P ops)
 {K : Env -> aJa -> Prop} {Q : Exit -> Act -> aJa -> Prop} (hQ : ∀ g a w, Ut N g a -> K g w -> Q .normal a w) {g : Env} {a : Act} {w : aJa} (hr : Ut N g a)
 (h : sZ P ops ops.toList pl [] g w K) : wpAny P .any ops Q ops.size (Array.replicate ops.size false) a w := by
 have r0 : Run P ops an g w 0 (fun _ => default) (fun _ => g) (fun _ => w) (fun _ => undef) :=
  ⟨rfl, rfl, fun i hi => by omega, fun i hi => by omega, fun i hi => by omega, fun i hi => by omega, fun i j _ hj => by omega⟩
 obtain ⟨O, G, W, V, r, hk⟩ := auW hpl ops.toList 0 [] _ _ _ _ (fun j => by simp) (by simp) r0 (fun i hi => by omega) h
 simp only [aGP, aH5] at r hk
 have st := aBz hok r.op
 have := aCQ (Q := Q) (n := ops.size) rfl hd hca r st (fun a hra => hQ _ a _ hra hk) ops.size (Array.replicate ops.size false) g a 0 (by simp) hr (by omega)
  (fun j hj hl => by unfold mV at hl; simp [aG5, hj] at hl)
  (fun s => .inr ⟨fun j hj hl => by unfold mV at hl; simp [aG5, hj] at hl, rfl⟩)
  (fun h hh _ => ⟨fun hl => by unfold mV at hl; simp [aG5, hh] at hl, fun hl => by omega⟩)
  (aHS (List.length_filter_le _ _) (by simp))
 rw [r.w0] at this
 exact this
theorem aqR {N : Nat} {ops : Array Oper} (h : ops.all (azZ N) = true) : anX N ops := by
 intro i o ho t ht
 have := aH1.1 h o (aI5 ho)
 unfold azZ at this
 rw [ht] at this
 exact (aIW (x := t) (y := N)) ▸ this
theorem aoG {ops : Array Oper} (h : ops.all (Tj P) = true) : Ya P ops :=
 fun _ o ho => aH1.1 h o (aI5 ho)
theorem axS {N : Nat} {f : FuncId} {id : Nat} (hd : anX N ops) (hca : Ya P ops)
 {K : Env -> aJa -> Prop} {Q : Exit -> Act -> aJa -> Prop} (hQ : ∀ g a w, Ut N g a -> K g w -> Q .normal a w) {g : Env} {a : Act} {w0 w : aJa} (hr : Ut N g a) :
 ∀ (T : HT) (path : List (Nat × Nat)), XE P N ops path T = true →
   (∀ q ∈ path, (Region.schedule true ops (w0.tape w0.drawn (.order f id))).idxOf q.1 <= (Region.schedule true ops (w0.tape w0.drawn (.order f id))).idxOf q.2 /\ q.1 ≠ q.2) →
   avZ P f id ops T g w0 w K -> wpOps P ops Q (Region.schedule true ops (w0.tape w0.drawn (.order f id))) a w := by
 have lin : asW ops ops.size (Array.replicate ops.size false) (Region.schedule true ops (w0.tape w0.drawn (.order f id))) := by
  unfold Region.schedule
  simp only [Bool.true_or, if_true]
  exact aD2 _ _ _
 generalize hL : Region.schedule true ops (w0.tape w0.drawn (.order f id)) = L at lin ⊢
 intro T
 induction T with
 | leaf an pl =>
   intro path hok _ h
   simp only [XE, aHb] at hok
   exact X1 _ _ _ _ _ (afZ hok.1 hok.2 hd hca hQ hr h) lin
 | perm π es an pl =>
   intro path hok hpath h
   simp only [XE, aHb] at hok
   obtain ⟨⟨⟨⟨⟨h1, h2⟩, h3⟩, h4⟩, h5⟩, h6⟩ := hok
   have p := aDI h2
   have hes : ∀ q ∈ es, L.idxOf q.1 <= L.idxOf q.2 /\ q.1 ≠ q.2 /\ q.1 < ops.size := fun q hq => by
    have := aHM.1 h1 q hq
    simp only [aHb] at this
    have hp := hpath q (aB5 this.1)
    exact ⟨hp.1, hp.2, (aIW (x := q.1) (y := ops.size)) ▸ this.2⟩
   obtain ⟨k1, k2⟩ := aAU (es := es) p hes ops.size (Array.replicate ops.size false) (Array.replicate ops.size false) [] L rfl (by simp) (by simp)
    (fun j hj => by simp [aG5, hj, (p.to j hj).1]) (by simp)
    (fun j hj => by rw [aG5] at hj; by_cases hh : j < ops.size <;> simp [hh] at hj) lin
   have hw := afZ h5 h6 (aqR h3) (aoG h4) hQ hr h
   rw [p.size] at hw
   exact ayT (es := es) p L k2 a w (X1 _ _ _ _ _ hw k1)
 | split x y A B ihA ihB =>
   intro path hok hpath h
   simp only [XE, aHb] at hok
   have hne : x ≠ y := by
    intro e
    have := hok.1.1
    rw [e] at this
    simp at this
   simp only [avZ] at h
   unfold Ord aoR at h
   rw [hL] at h
   cases hb : Nat.ble (L.idxOf x) (L.idxOf y) with
   | true =>
     rw [hb] at h
     refine ihA _ hok.1.2 (fun q hq => ?_) h
     rcases aHE.1 hq with rfl | hq
     .exact ⟨Nat.le_of_ble_eq_true hb, hne⟩
     .exact hpath q hq
   | false =>
     rw [hb] at h
     refine ihB _ hok.2 (fun q hq => ?_) h
     rcases aHE.1 hq with rfl | hq
     .refine ⟨?_, hne.symm⟩
      simp only
      rcases aHd (L.idxOf y) (L.idxOf x) with hh | hh
      .omega
      .have := Nat.ble_eq_true_of_le hh; rw [this] at hb; cases hb
     .exact hpath q hq
end
section
variable {P : Program} {ann : FA}
def pP : List Oper -> List Nat
 | [] => []
 | o :: r => match o.dst with | some d => d :: pP r | none => pP r
def X8 : Code -> List Nat
 | .region _ ops _ => pP ops.toList
 | .seq x y => X8 x ++ X8 y
 | .cond _ x y => X8 x ++ X8 y
 | .block _ c => X8 c
 | .scope c => X8 c
 | .loop c => X8 c
 | _ => []
def nW (l : List Nat) (g g' : Env) : Prop := ∀ s, s ∉ l -> g' s = g s
theorem nW.refl (l : List Nat) (g : Env) : nW l g g := fun _ _ => rfl
theorem nW.trans {l l1 l2 : List Nat} {a b c : Env} (h : nW l1 a b) (k : nW l2 b c) (h1 : ∀ s, s ∈ l1 -> s ∈ l) (h2 : ∀ s, s ∈ l2 -> s ∈ l) : nW l a c :=
 fun s hs => (k s fun h => hs (h2 s h)).trans (h s fun h => hs (h1 s h))
theorem nW.mono {l l1 : List Nat} {a b : Env} (h : nW l1 a b) (h1 : ∀ s, s ∈ l1 -> s ∈ l) : nW l a b := fun s hs => h s fun hh => hs (h1 s hh)
theorem nW.put {l : List Nat} {a : Env} (d : Option Tmp) (v : aJb) (h : ∀ t, d = some t -> t ∈ l) : nW l a (put a d v) := by
 intro s hs
 cases d with
 | none => rfl
 | some t =>
   rw [anA, if_neg (fun e => hs (by rw [e]; exact h t rfl))]
theorem axX {ops : Array Oper} {K : Env -> aJa -> Prop} : ∀ (l : List Oper) (g : Env) (w : aJa), anN P ops l g w K →
 ∃ g' w', K g' w' /\ nW (pP l) g g' /\ ∀ K' : Env -> aJa -> Prop, K' g' w' -> anN P ops l g w K' := by
 intro l
 induction l with
 | nil => intro g w h; exact ⟨g, w, h, nW.refl _ _, fun _ h => h⟩
 | cons o l ih =>
   intro g w h
   obtain ⟨v, w1, hy, h1⟩ := QP h
   obtain ⟨g', w', hk, ha, hall⟩ := ih _ _ h1
   refine ⟨g', w', hk, ?_, fun K' hk' => hy _ (hall K' hk')⟩
   refine nW.trans (nW.put o.dst v (l := pP (o :: l)) fun t ht => by simp [pP, ht]) ha (fun _ h => h) (fun s hs => ?_)
   unfold pP
   split
   .exact aG9 _ hs
   .exact hs
theorem agP {ops : Array Oper} {K : Env -> aJa -> Prop} : ∀ (l : List Oper) (pl : awB) (hist : List Rec) (g : Env) (w : aJa), sZ P ops l pl hist g w K →
 ∃ g' w', K g' w' /\ nW (pP l) g g' /\ ∀ K' : Env -> aJa -> Prop, K' g' w' -> sZ P ops l pl hist g w K' := by
 intro l
 induction l with
 | nil => intro pl hist g w h; unfold sZ at h; exact ⟨g, w, h, nW.refl _ _, fun _ h => (by unfold sZ; exact h)⟩
 | cons o l ih =>
   intro pl hist g w h
   cases pl with
   | nil => exact h.elim
   | cons p pl =>
     obtain ⟨hv, ks⟩ := p
     obtain ⟨v, w1, hy, h1⟩ := QP h
     have tail : ∀ (w2 : aJa) (hist' : List Rec), sZ P ops l pl hist' (put g o.dst v) w2 K →
         ∃ g' w', K g' w' /\ nW (pP (o :: l)) g g' /\ ∀ K' : Env -> aJa -> Prop, K' g' w' -> sZ P ops l pl hist' (put g o.dst v) w2 K' := by
      intro w2 hist' c2
      obtain ⟨g', w', hk, ha, hall⟩ := ih _ _ _ _ c2
      refine ⟨g', w', hk, ?_, hall⟩
      refine nW.trans (nW.put o.dst v (l := pP (o :: l)) fun t ht => by simp [pP, ht]) ha (fun _ h => h) (fun s hs => ?_)
      unfold pP
      split
      .exact aG9 _ hs
      .exact hs
     cases hv with
     | true =>
       cases ks with
       | nil =>
         obtain ⟨g', w', hk, ha, hall⟩ := tail w1 _ h1
         exact ⟨g', w', hk, ha, fun K' hk' => hy _ (hall K' hk')⟩
       | cons k ks =>
         obtain ⟨hc, h1⟩ := h1
         obtain ⟨g', w', hk, ha, hall⟩ := tail w1 _ h1
         exact ⟨g', w', hk, ha, fun K' hk' => hy _ ⟨hc, hall K' hk'⟩⟩
     | false =>
       cases ks with
       | nil =>
         obtain ⟨rfl, h1⟩ := h1
         obtain ⟨g', w', hk, ha, hall⟩ := tail w1 _ h1
         exact ⟨g', w', hk, ha, fun K' hk' => hy _ ⟨rfl, hall K' hk'⟩⟩
       | cons k ks =>
         obtain ⟨rfl, hc, h1⟩ := h1
         obtain ⟨g', w', hk, ha, hall⟩ := tail w1 _ h1
         exact ⟨g', w', hk, ha, fun K' hk' => hy _ ⟨rfl, hc, hall K' hk'⟩⟩
theorem S1 {l : List Oper} {s : Nat} : s ∈ pP l ↔ ∃ o ∈ l, o.dst = some s := by
 induction l with
 | nil => simp [pP]
 | cons o l ih =>
   unfold pP
   cases hd : o.dst with
   | none => simp [ih, hd]
   | some d => simp [ih, hd, eq_comm]
theorem axI {π : List Nat} {es : List (Nat × Nat)} {l : List Oper} {s : Nat} : ∀ (r : List Nat), s ∈ pP (Za π es l r) -> s ∈ pP l := by
 intro r
 induction r with
 | nil => intro h; simp [Za, pP] at h
 | cons i r ih =>
   intro h
   simp only [Za] at h
   cases ho : l[i]? with
   | none => rw [ho] at h; exact ih h
   | some o =>
     rw [ho] at h
     obtain ⟨o', h1, h2⟩ := S1.1 h
     rcases aHE.1 h1 with rfl | h1
     .exact S1.2 ⟨o, aIc ho, h2⟩
     .exact ih (S1.2 ⟨o', h1, h2⟩)
theorem aCb {f : FuncId} {id : Nat} {ops : Array Oper} {K : Env -> aJa -> Prop} {g : Env} {w0 : aJa} : ∀ (T : HT) (w : aJa), avZ P f id ops T g w0 w K →
 ∃ g' w', K g' w' /\ nW (pP ops.toList) g g' /\ ∀ K' : Env -> aJa -> Prop, K' g' w' -> avZ P f id ops T g w0 w K' := by
 intro T
 induction T with
 | leaf an pl => intro w h; exact agP _ _ _ _ _ h
 | perm π es an pl =>
   intro w h
   obtain ⟨g', w', a, b, c⟩ := agP _ _ _ _ _ h
   exact ⟨g', w', a, b.mono (fun s hs => axI π (by simpa [qZ] using hs)), c⟩
 | split x y A B ihA ihB =>
   intro w h
   simp only [avZ, Ord] at h ⊢
   cases hb : aoR f id ops x y w0 with
   | true => rw [hb] at h; exact ihA w h
   | false => rw [hb] at h; exact ihB w h
theorem cG.head {α : Type} {F : (α -> aJa -> Prop) -> α -> aJa -> Prop} (hmono : ∀ X Y g w, (∀ g w, X g w -> Y g w) -> F X g w -> F Y g w)
 {g : α} {w : aJa} (h : F (fun g' w' => cG F g' w') g w) (hdet : ∃ g' w', cG F g' w' /\ ∀ X : α -> aJa -> Prop, X g' w' -> F X g w) : cG F g w := by
 obtain ⟨g1, w1, ⟨I, ⟨n1, h1⟩, hI⟩, hF⟩ := hdet
 refine ⟨fun n g' w' => I n g' w' ∨ (n = n1 + 1 /\ g' = g /\ w' = w), ⟨n1 + 1, .inr ⟨rfl, rfl, rfl⟩⟩, ?_⟩
 rintro n g' w' (h | ⟨rfl, rfl, rfl⟩)
 .exact hmono _ _ _ _ (fun _ _ ⟨m, hm, hh⟩ => ⟨m, hm, .inl hh⟩) (hI _ _ _ h)
 .exact hF _ ⟨n1, by omega, .inl h1⟩
theorem aAE : ∀ (c : Code) (Q : Exit -> Env -> aJa -> Prop) (g : Env) (w : aJa), bH P ann c Q g w →
 ∃ e g' w', Q e g' w' /\ nW (X8 c) g g' /\ ∀ Q' : Exit -> Env -> aJa -> Prop, Q' e g' w' -> bH P ann c Q' g w := by
 intro c
 induction c with
 | skip => intro Q g w h; exact ⟨_, _, _, h, nW.refl _ _, fun _ h => h⟩
 | region id ops draw =>
   intro Q g w h
   cases draw with
   | false =>
     obtain ⟨g', w', a, b, c⟩ := axX _ _ _ h
     exact ⟨.normal, g', w', a, b, fun Q' h => c _ h⟩
   | true =>
     obtain ⟨g', w', a, b, c⟩ := aCb _ _ h
     exact ⟨.normal, g', w', a, b, fun Q' h => c _ h⟩
 | seq x y ihx ihy =>
   intro Q g w h
   obtain ⟨e, g1, w1, a, b, c⟩ := ihx _ _ _ h
   cases e with
   | normal =>
     obtain ⟨e2, g2, w2, a2, b2, c2⟩ := ihy _ _ _ a
     exact ⟨e2, g2, w2, a2, b.trans b2 (fun s h => aIj _ h) (fun s h => aIG _ h), fun Q' h => c _ (c2 _ h)⟩
   | _ => exact ⟨_, g1, w1, a, b.mono (fun s h => aIj _ h), fun Q' h => c _ h⟩
 | cond c x y ihx ihy =>
   intro Q g w h
   simp only [bH] at h ⊢
   unfold eN at h ⊢
   cases hc : ev g c with
   | bool b =>
     rw [hc] at h
     cases b with
     | true =>
       obtain ⟨e, g', w', a, b, c⟩ := ihx _ _ _ h
       exact ⟨e, g', w', a, b.mono (fun s h => aIj _ h), c⟩
     | false =>
       obtain ⟨e, g', w', a, b, c⟩ := ihy _ _ _ h
       exact ⟨e, g', w', a, b.mono (fun s h => aIG _ h), c⟩
   | _ => rw [hc] at h; exact h.elim
 | block id c ih =>
   intro Q g w h
   obtain ⟨e, g', w', a, b, c⟩ := ih _ _ _ h
   cases e with
   | exit i =>
     simp only [blk] at a
     cases hb : Nat.beq i id with
     | true =>
       simp only [hb] at a
       refine ⟨.normal, g', w', a, b, fun Q' h => c _ ?_⟩
       simp only [blk, hb]; exact h
     | false =>
       simp only [hb] at a
       refine ⟨.exit i, g', w', a, b, fun Q' h => c _ ?_⟩
       simp only [blk, hb]; exact h
   | _ => exact ⟨_, g', w', a, b, fun Q' h => c _ h⟩
 | loop c ih =>
   intro Q g w h
   have hmono : ∀ (Q : Exit -> Env -> aJa -> Prop) (X Y : Env -> aJa -> Prop) g w, (∀ g w, X g w -> Y g w) -> bH P ann c (Cf X Q) g w -> bH P ann c (Cf Y Q) g w := by
    intro Q X Y g w hxy h
    obtain ⟨e, g', w', a, _, k⟩ := ih _ _ _ h
    refine k _ ?_
    cases e with
    | normal => exact hxy _ _ a
    | _ => exact a
   obtain ⟨I, ⟨n, h0⟩, hI⟩ := h
   have key : ∀ n g w, I n g w -> ∃ e g' w', Q e g' w' /\ nW (X8 c) g g' /\ ∀ Q' : Exit -> Env -> aJa -> Prop, Q' e g' w' -> cG (fun X g w => bH P ann c (Cf X Q') g w) g w := by
    intro n
    induction n using Nat.strongRecOn with
    | _ n ih2 =>
      intro g w hg
      obtain ⟨e, g1, w1, a, b, k⟩ := ih _ _ _ (hI n g w hg)
      have once : ∀ (Q' : Exit -> Env -> aJa -> Prop), (∀ X : Env -> aJa -> Prop, bH P ann c (Cf X Q') g w) -> cG (fun X g w => bH P ann c (Cf X Q') g w) g w := by
       intro Q' h
       refine ⟨fun n g' w' => g' = g /\ w' = w, ⟨0, rfl, rfl⟩, ?_⟩
       rintro _ g' w' ⟨rfl, rfl⟩
       exact h _
      cases e with
      | normal =>
        obtain ⟨m, hm, hIm⟩ := a
        obtain ⟨e2, g2, w2, a2, b2, k2⟩ := ih2 m hm g1 w1 hIm
        refine ⟨e2, g2, w2, a2, b.trans b2 (fun _ h => h) (fun _ h => h), fun Q' h => ?_⟩
        have hl := k2 Q' h
        exact cG.head (hmono Q') (k _ hl) ⟨g1, w1, hl, fun X hx => k _ hx⟩
      | _ => exact ⟨_, g1, w1, a, b, fun Q' h => once Q' fun X => k _ h⟩
   exact key n g w h0
 | exit id => intro Q g w h; exact ⟨_, _, _, h, nW.refl _ _, fun _ h => h⟩
 | label l => intro Q g w h; exact ⟨_, _, _, h, nW.refl _ _, fun _ h => h⟩
 | scope c ih => intro Q g w h; exact ih Q g w h
 | ret => intro Q g w h; exact ⟨_, _, _, h, nW.refl _ _, fun _ h => h⟩
 | _ => intro Q g w h; exact h.elim
theorem Lg {c : Code} {Q Q' : Exit -> Env -> aJa -> Prop} {g : Env} {w : aJa} (h : bH P ann c Q g w)
 (hq : ∀ e g' w', nW (X8 c) g g' -> Q e g' w' -> Q' e g' w') : bH P ann c Q' g w :=
 let ⟨_, _, _, a, b, k⟩ := aAE c Q g w h
 k _ (hq _ _ _ b a)
def noG (Q : Exit -> Env -> aJa -> Prop) : Exit -> Env -> aJa -> Prop
 | .goto _, _, _ => False
 | e, g, w => Q e g w
theorem awY : ∀ (c : Code) (Q : Exit -> Env -> aJa -> Prop) (g : Env) (w : aJa), bH P ann c Q g w -> bH P ann c (noG Q) g w := by
 intro c
 induction c with
 | skip => intro Q g w h; exact h
 | region id ops draw => intro Q g w h; cases draw <;> exact h
 | seq x y ihx ihy =>
   intro Q g w h
   show bH P ann x (Cf (fun g w => bH P ann y (noG Q) g w) (noG Q)) g w
   refine Lg (ihx _ _ _ h) (fun e g' w' _ hq => ?_)
   cases e with
   | normal => exact ihy _ _ _ hq
   | goto l => exact hq.elim
   | _ => exact hq
 | cond c x y ihx ihy =>
   intro Q g w h
   simp only [bH] at h ⊢
   unfold eN at h ⊢
   cases hc : ev g c with
   | bool b =>
     rw [hc] at h
     cases b with
     | true => exact ihx _ _ _ h
     | false => exact ihy _ _ _ h
   | _ => rw [hc] at h; exact h.elim
 | block id c ih =>
   intro Q g w h
   show bH P ann c (blk id (noG Q)) g w
   refine Lg (ih _ _ _ h) (fun e g' w' _ hq => ?_)
   cases e with
   | exit i =>
     simp only [noG, blk] at hq ⊢
     cases hb : Nat.beq i id with
     | true => rw [hb] at hq; exact hq
     | false => rw [hb] at hq; exact hq
   | goto l => exact hq.elim
   | _ => exact hq
 | loop c ih =>
   intro Q g w h
   obtain ⟨I, h0, hI⟩ := h
   refine ⟨I, h0, fun n g w hi => ?_⟩
   refine Lg (ih _ _ _ (hI n g w hi)) (fun e g' w' _ hq => ?_)
   cases e with
   | normal => exact hq
   | goto l => exact hq.elim
   | _ => exact hq
 | exit id => intro Q g w h; exact h
 | label l => intro Q g w h; exact h
 | scope c ih => intro Q g w h; exact ih Q g w h
 | ret => intro Q g w h; exact h
 | _ => intro Q g w h; exact h.elim
theorem aA6 {N : Nat} (hm : P.follows .mixedOrders = true) : ∀ (c : Code), codeOk P N ann c = true →
 ∀ (Q : Exit -> Env -> aJa -> Prop) (QA : Exit -> Act -> aJa -> Prop) (g : Env) (a : Act) (w : aJa), Ut N g a →
   (∀ e g a w, Ut N g a -> Q e g w -> QA e a w) -> bH P ann c Q g w -> wpF P ann.f c QA a w := by
 intro c
 induction c with
 | skip => intro _ Q QA g a w hr hq h; exact akQ (wp_skip (hq _ _ _ _ hr h))
 | region id ops draw =>
   intro hok Q QA g a w hr hq h
   simp only [codeOk, aHb, aH6, aIt] at hok
   have hd := aqR hok.1.1
   have hca := aoG hok.1.2
   cases draw with
   | false =>
     refine akQ (wp_region ?_)
     have := aBB hd hca (P := P) (Q := QA) (K := Q .normal) (fun g a w => hq .normal g a w) ops.toList 0 g a w (fun j => by simp) hr h
     rw [List.range_eq_range']
     simpa using this
   | true =>
     rcases hok.2 with h1 | h1
     .cases h1
     .exact ajO hm (axS hd hca (fun g a w => hq .normal g a w) hr _ [] h1 (by simp) h)
 | seq x y ihx ihy =>
   intro hok Q QA g a w hr hq h
   simp only [codeOk, aHb] at hok
   refine aD4 (ihx hok.1 _ _ g a w hr (fun e g a w hr h => ?_) h)
   cases e with
   | normal => exact ihy hok.2 _ _ g a w hr hq h
   | _ => exact hq _ _ _ _ hr h
 | cond c x y ihx ihy =>
   intro hok Q QA g a w hr hq h
   simp only [codeOk, aHb] at hok
   simp only [bH] at h
   unfold eN at h
   have he := hr.ev c
   cases hc : ev g c with
   | bool b =>
     rw [hc] at h he
     refine aCT he ?_
     cases b with
     | true => exact ihx hok.1 _ _ g a w hr hq h
     | false => exact ihy hok.2 _ _ g a w hr hq h
   | _ => rw [hc] at h; exact h.elim
 | block id c ih =>
   intro hok Q QA g a w hr hq h
   refine aAJ (ih hok _ _ g a w hr (fun e g a w hr h => ?_) h)
   cases e with
   | exit i =>
     unfold Exit.inBlock
     simp only [blk] at h
     by_cases hi : i = id
     .subst hi
      simp only [if_true]
      simp only [Nat.beq_refl] at h
      exact hq _ _ _ _ hr h
     .simp only [hi, if_false]
      have : Nat.beq i id = false := by
       cases hb : Nat.beq i id
       .rfl
       .exact absurd (aHu hb) hi
      simp only [this] at h
      exact hq _ _ _ _ hr h
   | _ => exact hq _ _ _ _ hr h
 | loop c ih =>
   intro hok Q QA g a w hr hq h
   obtain ⟨I, h0, hround⟩ := h
   have hex : ∀ a w, (∃ n g, Ut N g a /\ I n g w) -> ∃ n, (∃ g, Ut N g a /\ I n g w) /\ ∀ m, (∃ g, Ut N g a /\ I m g w) -> n <= m := by
    rintro a w ⟨n, hn⟩
    induction n using Nat.strongRecOn with
    | _ n ih2 =>
      by_cases hx : ∃ m, m < n /\ ∃ g, Ut N g a /\ I m g w
      .obtain ⟨m, hm, h⟩ := hx; exact ih2 m hm h
      .exact ⟨n, hn, fun m hm => Nat.le_of_not_lt fun hlt => hx ⟨m, hlt, hm⟩⟩
   have hdec : ∀ a w, Decidable (∃ n g, Ut N g a /\ I n g w) := fun a w => Classical.propDecidable _
   let μ : Act -> aJa -> Nat := fun a w => if hh : ∃ n g, Ut N g a /\ I n g w then Classical.choose (hex a w hh) else 0
   have hμ : ∀ a w n g, Ut N g a -> I n g w -> μ a w <= n /\ ∃ g, Ut N g a /\ I (μ a w) g w := by
    intro a w n g hr hI
    have hh : ∃ n g, Ut N g a /\ I n g w := ⟨n, g, hr, hI⟩
    have e : μ a w = Classical.choose (hex a w hh) := dif_pos hh
    have s := Classical.choose_spec (hex a w hh)
    rw [e]
    exact ⟨s.2 n ⟨g, hr, hI⟩, s.1⟩
   obtain ⟨n0, h0⟩ := h0
   refine aCi (fun a w => ∃ n g, Ut N g a /\ I n g w) μ ⟨n0, g, hr, h0⟩ ?_
   rintro a w ⟨n, g, hr, hI⟩
   obtain ⟨_, g', hr', hI'⟩ := hμ a w n g hr hI
   refine ih hok _ _ g' a w hr' (fun e g1 a1 w1 hr1 h => ?_) (hround _ _ _ hI')
   cases e with
   | normal =>
     obtain ⟨m, hm, hIm⟩ := h
     have := hμ a1 w1 m g1 hr1 hIm
     exact ⟨⟨m, g1, hr1, hIm⟩, by omega⟩
   | _ => exact hq _ _ _ _ hr1 h
 | label l => intro _ Q QA g a w hr hq h; exact akQ (wp_label (hq _ _ _ _ hr h))
 | scope c ih =>
   intro hok Q QA g a w hr hq h
   refine aAW (ih hok (noG Q) _ g a w hr (fun e g a w hr h => ?_) (awY c _ g w h))
   cases e with
   | goto l => exact h.elim
   | _ => exact hq _ _ _ _ hr h
 | exit id => intro _ Q QA g a w hr hq h; exact akQ (wp_exit (hq _ _ _ _ hr h))
 | ret => intro _ Q QA g a w hr hq h; exact akQ (wp_ret (hq _ _ _ _ hr h))
 | _ => intro hok; simp [codeOk] at hok
def A5 (P : Program) : List ResultVar -> Env -> aJa -> (List aJb -> Prop) -> Prop
 | [], _, _, K => K []
 | .tmp t :: r, g, w, K => A5 P r g w fun vs => K (g t :: vs)
 | .cell a t :: r, g, w, K => ∃ v, (do loadVar t (<- asAddr (g a)) : Sem aJb).run P w = .ok v w /\ A5 P r g w fun vs => K (v :: vs)
def tup : List aJb -> aJb
 | [v] => v
 | vs => .tuple vs.toArray
def aFp (P : Program) (rs : List ResultVar) (R : aJb -> aJa -> Prop) : Exit -> Env -> aJa -> Prop
 | .normal, g, w => A5 P rs g w fun vs => R (tup vs) w
 | .ret, g, w => A5 P rs g w fun vs => R (tup vs) w
 | _, _, _ => False
theorem awJ {N : Nat} {g : Env} {a : Act} {w : aJa} (hr : Ut N g a) : ∀ (rs : List ResultVar) (K : List aJb -> Prop), A5 P rs g w K →
 ∃ vs, K vs /\ (rs.mapM fun | .tmp t => pure (a.tmps.getD t undef) | .cell b t => do loadVar t (<- asAddr (a.tmps.getD b undef)) : Sem (List aJb)).run P w = .ok vs w := by
 intro rs
 induction rs with
 | nil => intro K h; exact ⟨[], h, by simp⟩
 | cons r rs ih =>
   intro K h
   cases r with
   | tmp t =>
     obtain ⟨vs, h1, h2⟩ := ih _ h
     refine ⟨_, h1, ?_⟩
     rw [List.mapM_cons]
     rw [pure_bind, Sem.run_bind]
     simp only [h2, Result.andThen, Sem.run_pure, hr.2.2 t]
   | cell b t =>
     obtain ⟨v, hv, h⟩ := h
     obtain ⟨vs, h1, h2⟩ := ih _ h
     refine ⟨_, h1, ?_⟩
     rw [List.mapM_cons]
     rw [<- hr.2.2 b] at hv
     rw [Sem.run_bind]
     simp only [hv, Result.andThen]
     rw [Sem.run_bind]
     simp only [h2, Result.andThen]
     rfl
theorem aFt (vs : Array aJb) : (if h : vs.size = 1 then vs[0] else Value.tuple vs) = tup vs.toList := by
 obtain ⟨l⟩ := vs
 match l with
 | [] => rfl
 | [v] => rfl
 | a :: b :: r => simp [tup]
theorem auK {N : Nat} {g : Env} {a : Act} {w : aJa} (fn : Func) {rs : List ResultVar} (hrs : fn.results = rs.toArray) (hr : Ut N g a) {R : aJb -> aJa -> Prop}
 (h : A5 P rs g w fun vs => R (tup vs) w) : ∃ v, (results fn a.tmps).run P w = .ok v w /\ R v w := by
 obtain ⟨vs, h1, h2⟩ := awJ hr rs _ h
 refine ⟨tup vs, ?_, h1⟩
 unfold results
 rw [hrs, Array.mapM_eq_mapM_toList, aIe]
 simp only [bind_assoc, map_eq_pure_bind]
 rw [Sem.run_bind]
 refine Eq.trans (congrArg (fun r => Result.andThen r _) h2) ?_
 simp only [Result.andThen]
 simp only [pure_bind, Sem.run_pure, aFt]
def aAh (args : List aJb) : Env := fun i => args.getD i undef
theorem awK {f : FuncId} {fn : Func} {c : Code} {args : List aJb} {w : aJa} {rs : List ResultVar} {R : aJb -> aJa -> Prop} (hm : P.follows .mixedOrders = true) (hAf : ann.f = f)
 (hf : P.funcs[f]? = some fn) (hb : fn.body = some c) (hrs : fn.results = rs.toArray) {N : Nat} (hN : fn.ntmps = N) (hle : args.length <= N)
 (hok : codeOk P N ann c = true) (h : bH P ann c (aFp P rs R) (aAh args) w) : aR P f args.toArray w R := by
 obtain ⟨e, g', w', hq, _, hall⟩ := aAE _ _ _ _ h
 have hrv : A5 P rs g' w' fun vs => R (tup vs) w' := by cases e <;> first | exact hq | exact hq.elim
 have hex : ∃ v, R v w' /\ ∀ R' : aJb -> aJa -> Prop, R' v w' -> A5 P rs g' w' fun vs => R' (tup vs) w' := by
  have gen : ∀ (rs : List ResultVar) (K : List aJb -> Prop), A5 P rs g' w' K -> ∃ vs, K vs /\ ∀ K' : List aJb -> Prop, K' vs -> A5 P rs g' w' K' := by
   intro rs
   induction rs with
   | nil => intro K h; exact ⟨_, h, fun _ h => h⟩
   | cons r rs ih =>
     intro K h
     cases r with
     | tmp t =>
       obtain ⟨vs, a, b⟩ := ih _ h
       exact ⟨_, a, fun K' h => b _ h⟩
     | cell b t =>
       obtain ⟨v, hv, h⟩ := h
       obtain ⟨vs, a, b⟩ := ih _ h
       exact ⟨_, a, fun K' h => ⟨v, hv, b _ h⟩⟩
  obtain ⟨vs, a, b⟩ := gen _ _ hrv
  exact ⟨_, a, fun R' h => b _ h⟩
 obtain ⟨v, hv, hrest⟩ := hex
 refine ⟨v, w', ?_, hv⟩
 have hrel : Ut N (aAh args) { tmps := args.toArray ++ Array.replicate (fn.ntmps - args.toArray.size) undef, defers := [] } := by
  refine ⟨rfl, by simp [hN]; omega, fun i => ?_⟩
  simp only [aAh, aG5, aG3]
  by_cases hi : i < args.length
  .simp [Array.getElem?_append, hi]
  .simp only [Array.getElem?_append, List.size_toArray, hi, if_false, Array.getElem?_replicate]
   rw [aHa (by omega)]
   split <;> rfl
 refine aqY (f := f) hf hb ?_
 refine hAf ▸ aA6 hm c hok (aFp P rs fun v2 w2 => v2 = v /\ w2 = w') _ _ _ _ hrel ?_ (hall _ ?_)
 .intro e g a w hr h
  have hx : ∀ {w}, (A5 P rs g w fun vs => tup vs = v /\ w = w') -> a.defers = [] /\ ∃ v2, (results fn a.tmps).run P w = .ok v2 w /\ (Ending.returned v2 = .returned v /\ w = w') := by
   intro w h
   obtain ⟨v2, h1, rfl, h3⟩ := auK fn hrs hr (R := fun v2 w2 => v2 = v /\ w2 = w') h
   exact ⟨hr.1, v2, h1, rfl, h3⟩
  cases e with
  | normal => exact hx h
  | ret => exact hx h
  | _ => exact h.elim
 .have := hrest (fun v2 w2 => v2 = v /\ w2 = w') ⟨rfl, rfl⟩
  cases e <;> first | exact this | exact hq.elim
theorem aoL {f : FuncId} {args : Array aJb} {w : aJa} {R : aJb -> aJa -> Prop} (h : aR P f args w R) :
 Calls P f args w fun e w' => ∃ v, e = .returned v /\ R v w' := by
 obtain ⟨v, w', hr, hR⟩ := h
 refine Calls.mono hr ?_
 rintro e w'' ⟨rfl, rfl⟩
 exact ⟨v, rfl, hR⟩
end
def sA : Code -> Code | .seq a _ => a | c => c
def cT : Code -> Code | .cond _ a _ => a | c => c
def cE : Code -> Code | .cond _ _ b => b | c => c
def bI : Code -> Code | .block _ c => c | .loop c => c | .scope c => c | c => c
def cU (f : Func) : Code := match f.body with | some c => c | none => .skip
def aD : Nat -> Code -> Code
 | 0, c => c
 | 1, c => sA c
 | n + 1, .seq a b => .seq a (aD n b)
 | _, c => c
def aB : Nat -> Code -> Code
 | 0, c => c
 | n + 1, .seq _ b => aB n b
 | _, c => c
def azH : Nat -> Code -> Bool
 | 1, .seq _ _ => true
 | n + 1, .seq _ b => azH n b
 | _, _ => false
def dr (w : aJa) : aJa := { w with drawn := w.drawn + 1 }
def kC (P : Program) (t : TypeId) (a : aJb) (w : aJa) (K : aJb -> Prop) : Prop := ∃ v, (do loadVar t (<- asAddr a) : Sem aJb).run P w = .ok v w /\ K v
def exL : List (Nat × (Env -> aJa -> Prop)) -> Nat -> Env -> aJa -> Prop
 | [], _, _, _ => False
 | (j, k) :: r, i, g, w => match Nat.beq i j with | true => k g w | false => exL r i g w
def exQ (kn kr : Env -> aJa -> Prop) (l : List (Nat × (Env -> aJa -> Prop))) : Exit -> Env -> aJa -> Prop
 | .normal, g, w => kn g w
 | .ret, g, w => kr g w
 | .exit i, g, w => exL l i g w
 | _, _, _ => False
def azQ (Q : Exit -> Env -> aJa -> Prop) : List (Nat × (Env -> aJa -> Prop)) -> Prop
 | [] => True
 | (i, k) :: r => (∀ g w, k g w -> Q (.exit i) g w) /\ azQ Q r
def fR (c a b : aJb) : Sem Next := do pure (.value (if <- asBool c then a else b))
def bT (t : TypeId) : Sem Next := V (Instr.alloc t true (.tuple #[]))
def rA (t : TypeId) (x : aJb) : Sem Next := V (Instr.box t x)
def aH (t : TypeId) (a : aJb) : Sem Next := V (Instr.loadAt t a)
def aJ (t : TypeId) (a x : aJb) : Sem Next := U (Instr.storeAt t a x)
def pV (x : aJb) : Sem Next := execOp (fun _ => x) ⟨none, .nilCheck (.tmp 0), 0, default, #[], none⟩
def sUn (op : UnOp) (x : aJb) : Sem Next := V (Op.unary op x)
def fM (s d : TypeId) (x : aJb) : Sem Next := V (convert s d x)
def yK (t : TypeId) (l c : aJb) : Sem Next := V (Instr.makeSlice t l c)
def fJ (t : TypeId) (x : aJb) (lo hi mx : Option aJb) : Sem Next := V (Instr.sliceAt t x lo hi mx)
def aL (t : TypeId) (x : aJb) (f : Nat) : Sem Next := V (Instr.fieldAt t x f)
def bA (t : TypeId) (x i : aJb) : Sem Next := V (Instr.indexAt t x i)
def G4 (t : TypeId) (x i : aJb) : Sem Next := V (Instr.index t x i)
def bB (t : aJb) (i : Nat) : Sem Next := V (Instr.extract t i)
section
variable {P : Program} {ann : FA}
theorem aET {Q : Exit -> Env -> aJa -> Prop} : ∀ {l : List (Nat × (Env -> aJa -> Prop))}, azQ Q l -> ∀ {i : Nat} {g : Env} {w : aJa}, exL l i g w -> Q (.exit i) g w := by
 intro l
 induction l with
 | nil => intro _ i g w h; exact h.elim
 | cons p r ih =>
   obtain ⟨j, k⟩ := p
   rintro ⟨h1, h2⟩ i g w h
   simp only [exL] at h
   cases hb : Nat.beq i j with
   | true =>
     simp only [hb] at h
     obtain rfl := aHu hb
     exact h1 _ _ h
   | false => simp only [hb] at h; exact ih h2 h
theorem aD7 {c : Code} {kn kr : Env -> aJa -> Prop} {l : List (Nat × (Env -> aJa -> Prop))} {Q : Exit -> Env -> aJa -> Prop} {g : Env} {w : aJa} {A : Prop}
 (e : A = bH P ann c (exQ kn kr l) g w) (h : A) (hn : ∀ g w, kn g w -> Q .normal g w) (hr : ∀ g w, kr g w -> Q .ret g w) (hl : azQ Q l) : bH P ann c Q g w := by
 rw [e] at h
 refine Lg h (fun e g' w' _ hq => ?_)
 cases e with
 | normal => exact hn _ _ hq
 | ret => exact hr _ _ hq
 | exit i => exact aET hl hq
 | _ => exact hq.elim
theorem aBo {x y z : Code} {Q : Exit -> Env -> aJa -> Prop} {g : Env} {w : aJa} (h : bH P ann (.seq (.seq x y) z) Q g w) : bH P ann (.seq x (.seq y z)) Q g w := by
 show bH P ann x (Cf (fun g w => bH P ann y (Cf (fun g w => bH P ann z Q g w) Q) g w) Q) g w
 have h : bH P ann x (Cf (fun g w => bH P ann y (Cf (fun g w => bH P ann z Q g w) Q) g w) (Cf (fun g w => bH P ann z Q g w) Q)) g w := h
 refine Lg h (fun e g' w' _ hq => ?_)
 cases e <;> exact hq
theorem aK {K : Env -> aJa -> Prop} {Q : Exit -> Env -> aJa -> Prop} {g : Env} {w : aJa} (h : K g w) : Cf K Q .normal g w := h
theorem aA2 {Q : Exit -> Env -> aJa -> Prop} : ∀ (n : Nat) (c : Code) (g : Env) (w : aJa), azH n c = true -> bH P ann (.seq (aD n c) (aB n c)) Q g w -> bH P ann c Q g w := by
 intro n
 induction n with
 | zero => intro c g w h; simp [azH] at h
 | succ n ih =>
   intro c g w h hd
   cases c with
   | seq a b =>
     cases n with
     | zero => exact hd
     | succ n =>
       have hb : azH (n + 1) b = true := by simpa [azH] using h
       have hd' : bH P ann (.seq (.seq a (aD (n + 1) b)) (aB (n + 1) b)) Q g w := hd
       have := aBo hd'
       show bH P ann a (Cf (fun g w => bH P ann b Q g w) Q) g w
       have h2 : bH P ann a (Cf (fun g w => bH P ann (.seq (aD (n + 1) b) (aB (n + 1) b)) Q g w) Q) g w := this
       refine Lg h2 (fun e g' w' _ hq => ?_)
       cases e with
       | normal => exact ih b g' w' hb hq
       | _ => exact hq
   | _ => cases n <;> simp [azH] at h
def aEK (id : Nat) : Code -> Bool | .block i _ => Nat.beq i id | _ => false
def aDb : Code -> Bool | .loop _ => true | _ => false
def aC2 : Code -> Option Operand | .cond o _ _ => some o | _ => none
theorem aD8 {Q : Exit -> Env -> aJa -> Prop} (id : Nat) (c : Code) (g : Env) (w : aJa) (h : aEK id c = true) (hd : bH P ann (bI c) (blk id Q) g w) : bH P ann c Q g w := by
 cases c with
 | block i c =>
   obtain rfl := aHu (show Nat.beq i id = true from h)
   exact hd
 | _ => cases h
def aEC : Code -> Bool | .scope _ => true | _ => false
theorem aDK {Q : Exit -> Env -> aJa -> Prop} (c : Code) (g : Env) (w : aJa) (h : aEC c = true) (hd : bH P ann (bI c) Q g w) : bH P ann c Q g w := by
 cases c with
 | scope c => exact hd
 | _ => cases h
theorem aDZ {Q : Exit -> Env -> aJa -> Prop} (o : Operand) (c : Code) (g : Env) (w : aJa) (h : aC2 c = some o)
 (hd : eN (ev g o) (bH P ann (cT c) Q g w) (bH P ann (cE c) Q g w)) : bH P ann c Q g w := by
 cases c with
 | cond o' a b => obtain rfl := aG8 h; exact hd
 | _ => cases h
theorem aB7 {v : aJb} {A B A' B' : Prop} (ha : A -> A') (hb : B -> B') (h : eN v A B) : eN v A' B' := by
 unfold eN at *
 cases v with
 | bool b => cases b <;> first | exact ha h | exact hb h
 | _ => exact h
theorem aCe {T : Type} (proj : Env -> T) (F : (T -> aJa -> Prop) -> T -> aJa -> Prop) {c : Code} {Q : Exit -> Env -> aJa -> Prop} {g : Env} {w : aJa}
 (hF : ∀ (X : T -> aJa -> Prop) g' w', nW (X8 c) g g' -> F X (proj g') w' -> bH P ann c (Cf (fun g'' w'' => X (proj g'') w'') Q) g' w')
 (h : cG F (proj g) w) : bH P ann (.loop c) Q g w := by
 obtain ⟨I, ⟨n, h0⟩, hI⟩ := h
 refine ⟨fun n g' w' => nW (X8 c) g g' /\ I n (proj g') w', ⟨n, nW.refl _ _, h0⟩, ?_⟩
 rintro n g' w' ⟨ha, hi⟩
 have := hF _ g' w' ha (hI n _ _ hi)
 refine Lg this (fun e g2 w2 ha2 hq => ?_)
 cases e with
 | normal =>
   obtain ⟨m, hm, hh⟩ := hq
   exact ⟨m, hm, ha.trans ha2 (fun _ h => h) (fun _ h => h), hh⟩
 | _ => exact hq
theorem aAG {T : Type} (proj : Env -> T) (F : (T -> aJa -> Prop) -> T -> aJa -> Prop) (c : Code) {Q : Exit -> Env -> aJa -> Prop} {g : Env} {w : aJa} (hl : aDb c = true)
 (h : cG F (proj g) w)
 (hF : ∀ (X : T -> aJa -> Prop) g' w', nW (X8 (bI c)) g g' -> F X (proj g') w' -> bH P ann (bI c) (Cf (fun g'' w'' => X (proj g'') w'') Q) g' w') : bH P ann c Q g w := by
 cases c with
 | loop c => exact aCe proj F hF h
 | _ => cases hl
theorem ayO {l : List Nat} {s : Nat} (hs : rD s l = false) : s ∉ l := by
 induction l with
 | nil => simp
 | cons a r ih =>
   unfold rD at hs
   cases hb : Nat.beq a s with
   | true => simp only [hb] at hs; cases hs
   | false =>
     simp only [hb] at hs
     intro hm
     rcases aHE.1 hm with e | hm
     .subst e; simp at hb
     .exact ih hs hm
theorem aDy {l : List Nat} {g g' : Env} (h : nW l g g') {s : Nat} (hs : rD s l = false) : g' s = g s := h s (ayO hs)
def Ia (id : Nat) : Code -> Array Oper
 | .region i ops _ => match Nat.beq i id with | true => ops | false => #[]
 | .seq a b => match (Ia id a).size with | 0 => Ia id b | _ + 1 => Ia id a
 | .cond _ a b => match (Ia id a).size with | 0 => Ia id b | _ + 1 => Ia id a
 | .block _ c => Ia id c
 | .loop c => Ia id c
 | .scope c => Ia id c
 | _ => #[]
theorem Ld {b : Bool} {A B : Prop} (ha : A) (hb : B) : Ord b A B := by cases b <;> assumption
theorem cG.rule {α : Type} {F : (α -> aJa -> Prop) -> α -> aJa -> Prop} (I : Nat -> α -> aJa -> Prop) {g : α} {w : aJa} (n : Nat) (h0 : I n g w)
 (hr : ∀ n g w, I n g w -> F (fun g' w' => ∃ m, m < n /\ I m g' w') g w) : cG F g w := ⟨I, ⟨n, h0⟩, hr⟩
theorem aF (A B : Prop) : eN (.bool true) A B = A := Eq.trans rfl rfl
theorem aE (A B : Prop) : eN (.bool false) A B = B := Eq.trans rfl rfl
theorem bP (s : (aJb -> aJa -> Prop) -> Prop) (w : aJa) (K : aJb -> aJa -> Prop) : Gd true s w K = s K := Eq.trans rfl rfl
theorem dV (s : (aJb -> aJa -> Prop) -> Prop) (w : aJa) (K : aJb -> aJa -> Prop) : Gd false s w K = K undef w := Eq.trans rfl rfl
theorem azV (p : Prop) : Gs true p = p := Eq.trans rfl rfl
theorem auZ (p : Prop) : Gs false p = True := Eq.trans rfl rfl
theorem tR : fI (.bool true) true = true := Eq.trans rfl rfl
theorem jE : fI (.bool true) false = false := Eq.trans rfl rfl
theorem ED : fI (.bool false) true = false := Eq.trans rfl rfl
theorem dG : fI (.bool false) false = true := Eq.trans rfl rfl
def aM : Operand := .tmp 0
theorem dR {c : Code} {kn kr : Env -> aJa -> Prop} {l : List (Nat × (Env -> aJa -> Prop))} {Q : Exit -> Env -> aJa -> Prop} {g : Env} {w : aJa} {A : Prop}
 (h : A) (hn : ∀ g w, kn g w -> Q .normal g w) (hr : ∀ g w, kr g w -> Q .ret g w) (hl : azQ Q l) (e : A = bH P ann c (exQ kn kr l) g w := by kernel_rfl) : bH P ann c Q g w := aD7 e h hn hr hl
theorem fQ {Q : Exit -> Env -> aJa -> Prop} (n : Nat) {c : Code} {g : Env} {w : aJa}
 (hd : bH P ann (aD n c) (Cf (fun g w => bH P ann (aB n c) Q g w) Q) g w) (h : azH n c = true := by kernel_rfl) : bH P ann c Q g w := aA2 n c g w h hd
theorem tX {Q : Exit -> Env -> aJa -> Prop} (id : Nat) {c : Code} {g : Env} {w : aJa} (hd : bH P ann (bI c) (blk id Q) g w) (h : aEK id c = true := by kernel_rfl) : bH P ann c Q g w := aD8 id c g w h hd
theorem scD {Q : Exit -> Env -> aJa -> Prop} {c : Code} {g : Env} {w : aJa} (hd : bH P ann (bI c) Q g w) (h : aEC c = true := by kernel_rfl) : bH P ann c Q g w := aDK c g w h hd
theorem cdD {Q : Exit -> Env -> aJa -> Prop} (o : Operand) {c : Code} {g : Env} {w : aJa} {A B : Prop} (ha : A -> bH P ann (cT c) Q g w) (hb : B -> bH P ann (cE c) Q g w) (hd : eN (ev g o) A B) (h : aC2 c = some o := by kernel_rfl) : bH P ann c Q g w :=
 aDZ o c g w h (aB7 ha hb hd)
theorem DO {T : Type} (proj : Env -> T) (F : (T -> aJa -> Prop) -> T -> aJa -> Prop) {c : Code} {Q : Exit -> Env -> aJa -> Prop} {g : Env} {w : aJa}
 (h : cG F (proj g) w)
 (hF : ∀ (X : T -> aJa -> Prop) g' w', nW (X8 (bI c)) g g' -> F X (proj g') w' -> bH P ann (bI c) (Cf (fun g'' w'' => X (proj g'') w'') Q) g' w') (hl : aDb c = true := by kernel_rfl) : bH P ann c Q g w := aAG proj F c hl h hF
theorem fE {l : List Nat} {g g' : Env} (s : Nat) (h : nW l g g') (hs : rD s l = false := by kernel_rfl) : g' s = g s := aDy h hs
theorem rI {ann : FA} (fn : Func) (c : Code) (args : List aJb) (rs : List ResultVar) (N : Nat) {f : FuncId} {w : aJa} {R : aJb -> aJa -> Prop} (hm : P.follows .mixedOrders = true)
 (hf : P.funcs[f]? = some fn) (h : bH P ann c (aFp P rs R) (aAh args) w) (hAf : ann.f = f := by kernel_rfl) (hb : fn.body = some c := by kernel_rfl) (hrs : fn.results = rs.toArray := by kernel_rfl) (hN : fn.ntmps = N := by kernel_rfl) (hle : Nat.ble args.length N = true := by kernel_rfl)
 (hok : codeOk P N ann c = true := by kernel_rfl) : aR P f args.toArray w R := awK hm hAf hf hb hrs hN (Nat.le_of_ble_eq_true hle) hok h
end
end Go.En
namespace Go.Proofs.YtaggdjhhmbnhoaaDoor
open Go Go.En
noncomputable abbrev pg : Program := Tryd.prog
theorem TrydM.mixed : pg.follows .mixedOrders = true := Tryd.checked.mixed
abbrev K0 := aJa -> Prop
abbrev K1 := aJb -> K0
abbrev K2 := aJb -> K1
abbrev K3 := aJb -> K2
abbrev K4 := aJb -> K3
abbrev K5 := aJb -> K4
abbrev K6 := aJb -> K5
abbrev K7 := aJb -> K6
abbrev K8 := aJb -> K7
abbrev K9 := aJb -> K8
abbrev Aw := aJb -> K9
abbrev K11 := aJb -> Aw
abbrev HR (rs : List ResultVar) (R : K1) (Q : Exit -> Env -> aJa -> Prop) : Prop := ∀ g w, (A5 pg rs g w fun vs => R (tup vs) w) -> Q .ret g w
abbrev no : Env -> aJa -> Prop := fun _ _ => False
theorem eQ {Q : Env -> aJa -> Prop} : ∀ g w, no g w -> Q g w := fun _ _ h => h.elim
abbrev wI : FuncId := 3
abbrev FJ : FuncId := 7
abbrev tS : FuncId := 8
abbrev CB : FuncId := 9
abbrev IL : FuncId := 10
abbrev rL : FuncId := 13
abbrev qH : FuncId := 16
abbrev uI : FuncId := 17
abbrev kX : FuncId := 18
abbrev lX : FuncId := 19
abbrev tI : FuncId := 20
abbrev qG : FuncId := 21
abbrev nB : FuncId := 22
abbrev LQ : FuncId := 23
abbrev oY : FuncId := 24
abbrev Qt : FuncId := 25
abbrev oB : FuncId := 26
abbrev xS : FuncId := 27
abbrev nT : FuncId := 28
abbrev Cr : FuncId := 29
abbrev Gl : FuncId := 30
abbrev sC : FuncId := 31
abbrev nN : FuncId := 32
abbrev nM : FuncId := 33
abbrev Dn : FuncId := 34
abbrev xV : FuncId := 35
abbrev IT : FuncId := 36
abbrev vI : FuncId := 37
abbrev gO : FuncId := 38
abbrev xC : FuncId := 39
abbrev nV : FuncId := 40
abbrev uR : FuncId := 41
abbrev nC : FuncId := 42
abbrev sR : FuncId := 43
abbrev zI : FuncId := 44
abbrev EG : FuncId := 45
abbrev iM : FuncId := 47
abbrev jF : FuncId := 48
abbrev AD : FuncId := 49
abbrev zV : FuncId := 50
abbrev nZ : FuncId := 51
abbrev lT : FuncId := 52
abbrev CU : FuncId := 53
abbrev IK : FuncId := 54
abbrev A6 : FuncId := 55
abbrev LS : FuncId := 56
abbrev IB : FuncId := 57
abbrev Iq : FuncId := 58
abbrev AA : FuncId := 59
abbrev Df : FuncId := 60
abbrev uS : FuncId := 61
abbrev Iz : FuncId := 62
abbrev qB : FuncId := 63
abbrev QM : FuncId := 64
abbrev uV : FuncId := 65
abbrev yP : FuncId := 66
abbrev rZ : FuncId := 67
abbrev B9 : FuncId := 68
abbrev sK : FuncId := 69
abbrev CK : FuncId := 70
abbrev pY : FuncId := 71
abbrev L9 : FuncId := 72
abbrev IA : FuncId := 73
abbrev eY : FuncId := 74
abbrev rS : FuncId := 75
abbrev Fj : FuncId := 76
abbrev Ge : FuncId := 77
abbrev Ck : FuncId := 78
abbrev FG : FuncId := 79
abbrev pM : FuncId := 80
abbrev mF : FuncId := 81
abbrev Ix : FuncId := 82
abbrev IE : FuncId := 83
abbrev Fh : FuncId := 84
abbrev yJ : FuncId := 85
abbrev rT : FuncId := 86
abbrev Cv : FuncId := 87
abbrev Dq : FuncId := 88
abbrev rG : FuncId := 89
abbrev CG : FuncId := 90
abbrev qC : FuncId := 91
abbrev wP : FuncId := 92
abbrev wW : FuncId := 93
abbrev kW : FuncId := 94
abbrev DL : FuncId := 95
abbrev zD : FuncId := 96
abbrev sV : FuncId := 97
abbrev AF : FuncId := 98
abbrev LJ : FuncId := 99
abbrev wU : FuncId := 100
abbrev N0 (Q : Exit -> Env -> aJa -> Prop) (k : K0) : Prop := ∀ g w, k w -> Q .normal g w
abbrev E0 (Q : Exit -> Env -> aJa -> Prop) (k : K0) (x0 : Nat) : Prop := ∀ g w, k w -> Q (.exit x0) g w
abbrev N1 (Q : Exit -> Env -> aJa -> Prop) (k : K1) (a_ : Nat) : Prop := ∀ g w, k (g a_) w -> Q .normal g w
abbrev E1 (Q : Exit -> Env -> aJa -> Prop) (k : K1) (x0 : Nat) (a_ : Nat) : Prop := ∀ g w, k (g a_) w -> Q (.exit x0) g w
abbrev N2 (Q : Exit -> Env -> aJa -> Prop) (k : K2) (a_ b_ : Nat) : Prop := ∀ g w, k (g a_) (g b_) w -> Q .normal g w
abbrev E2 (Q : Exit -> Env -> aJa -> Prop) (k : K2) (x0 : Nat) (a_ b_ : Nat) : Prop := ∀ g w, k (g a_) (g b_) w -> Q (.exit x0) g w
abbrev N3 (Q : Exit -> Env -> aJa -> Prop) (k : K3) (a_ b_ c_ : Nat) : Prop := ∀ g w, k (g a_) (g b_) (g c_) w -> Q .normal g w
abbrev E3 (Q : Exit -> Env -> aJa -> Prop) (k : K3) (x0 : Nat) (a_ b_ c_ : Nat) : Prop := ∀ g w, k (g a_) (g b_) (g c_) w -> Q (.exit x0) g w
abbrev N4 (Q : Exit -> Env -> aJa -> Prop) (k : K4) (a_ b_ c_ d_ : Nat) : Prop := ∀ g w, k (g a_) (g b_) (g c_) (g d_) w -> Q .normal g w
abbrev E4 (Q : Exit -> Env -> aJa -> Prop) (k : K4) (x0 : Nat) (a_ b_ c_ d_ : Nat) : Prop := ∀ g w, k (g a_) (g b_) (g c_) (g d_) w -> Q (.exit x0) g w
abbrev N5 (Q : Exit -> Env -> aJa -> Prop) (k : K5) (a_ b_ c_ d_ e_ : Nat) : Prop := ∀ g w, k (g a_) (g b_) (g c_) (g d_) (g e_) w -> Q .normal g w
abbrev E5 (Q : Exit -> Env -> aJa -> Prop) (k : K5) (x0 : Nat) (a_ b_ c_ d_ e_ : Nat) : Prop := ∀ g w, k (g a_) (g b_) (g c_) (g d_) (g e_) w -> Q (.exit x0) g w
abbrev N6 (Q : Exit -> Env -> aJa -> Prop) (k : K6) (a_ b_ c_ d_ e_ f_ : Nat) : Prop := ∀ g w, k (g a_) (g b_) (g c_) (g d_) (g e_) (g f_) w -> Q .normal g w
abbrev E6 (Q : Exit -> Env -> aJa -> Prop) (k : K6) (x0 : Nat) (a_ b_ c_ d_ e_ f_ : Nat) : Prop := ∀ g w, k (g a_) (g b_) (g c_) (g d_) (g e_) (g f_) w -> Q (.exit x0) g w
abbrev N7 (Q : Exit -> Env -> aJa -> Prop) (k : K7) (a_ b_ c_ d_ e_ f_ g_ : Nat) : Prop := ∀ g w, k (g a_) (g b_) (g c_) (g d_) (g e_) (g f_) (g g_) w -> Q .normal g w
abbrev E7 (Q : Exit -> Env -> aJa -> Prop) (k : K7) (x0 : Nat) (a_ b_ c_ d_ e_ f_ g_ : Nat) : Prop := ∀ g w, k (g a_) (g b_) (g c_) (g d_) (g e_) (g f_) (g g_) w -> Q (.exit x0) g w
abbrev N8 (Q : Exit -> Env -> aJa -> Prop) (k : K8) (a_ b_ c_ d_ e_ f_ g_ h_ : Nat) : Prop := ∀ g w, k (g a_) (g b_) (g c_) (g d_) (g e_) (g f_) (g g_) (g h_) w -> Q .normal g w
abbrev E8 (Q : Exit -> Env -> aJa -> Prop) (k : K8) (x0 : Nat) (a_ b_ c_ d_ e_ f_ g_ h_ : Nat) : Prop := ∀ g w, k (g a_) (g b_) (g c_) (g d_) (g e_) (g f_) (g g_) (g h_) w -> Q (.exit x0) g w
abbrev N9 (Q : Exit -> Env -> aJa -> Prop) (k : K9) (a_ b_ c_ d_ e_ f_ g_ h_ i_ : Nat) : Prop := ∀ g w, k (g a_) (g b_) (g c_) (g d_) (g e_) (g f_) (g g_) (g h_) (g i_) w -> Q .normal g w
abbrev N10 (Q : Exit -> Env -> aJa -> Prop) (k : Aw) (a_ b_ c_ d_ e_ f_ g_ h_ i_ j_ : Nat) : Prop := ∀ g w, k (g a_) (g b_) (g c_) (g d_) (g e_) (g f_) (g g_) (g h_) (g i_) (g j_) w -> Q .normal g w
abbrev E10 (Q : Exit -> Env -> aJa -> Prop) (k : Aw) (x0 : Nat) (a_ b_ c_ d_ e_ f_ g_ h_ i_ j_ : Nat) : Prop := ∀ g w, k (g a_) (g b_) (g c_) (g d_) (g e_) (g f_) (g g_) (g h_) (g i_) (g j_) w -> Q (.exit x0) g w
abbrev N11 (Q : Exit -> Env -> aJa -> Prop) (k : K11) (a_ b_ c_ d_ e_ f_ g_ h_ i_ j_ k_ : Nat) : Prop := ∀ g w, k (g a_) (g b_) (g c_) (g d_) (g e_) (g f_) (g g_) (g h_) (g i_) (g j_) (g k_) w -> Q .normal g w
end Go.Proofs.YtaggdjhhmbnhoaaDoor
namespace Go.Proofs.YtaggdjhhmbnhoaaDoor
open Go Go.En
set_option maxRecDepth 20000
attribute [local irreducible] Go.En.bH
variable (Q : Exit -> Env -> aJa -> Prop) (g : Env) (w : aJa)
def B6 : FA := ⟨wI, fun i => .leaf ([], []) []⟩
def CL : List ResultVar := [.tmp 4]
noncomputable def Av : Code := cU Tryd.f3
def uT (R : K1) (Co aFl : aJb) (w : aJa) : Prop :=
 aR pg FJ #[] w fun t14 w =>
 aC pg (sUn .not t14) w fun t16 w =>
 eN t16
  (R (.bool false) w)
  (aC pg (jS .len #[22] 3 [Co]) w fun t18 w =>
  aC pg (aG .gtr 3 aM aM t18 (.int .i64 4)) w fun t19 w =>
  eN t19
   (R (.bool true) w)
   (aC pg (bX 22 0 []) w fun t20 w =>
   aC pg (jS .append #[22, 22] 22 [t20, Co]) w fun t22 w =>
   aC pg (bX 22 1 [(0, aFl)]) w fun t25 w =>
   aC pg (jS .append #[22, 22] 22 [t22, t25]) w fun t26 w =>
   aC pg (bV 29 []) w fun t29 w =>
   aR pg tS #[t26, t29] w fun t30 w =>
   aC pg (bB t30 0) w fun t31 w =>
   aC pg (bB t30 1) w fun t32 w =>
   aC pg (bB t30 2) w fun t33 w =>
   aC pg (bT 29) w fun t8 w =>
   aC pg (aJ 29 t8 t32) w fun _u w =>
   aC pg (bT 36) w fun aD9 w =>
   aC pg (fM 22 9 t26) w fun t36 w =>
   aC pg (aH 36 aD9) w fun t37 w =>
   aR pg CB #[t36, t37] w fun t38 w =>
   aC pg (bB t38 0) w fun t39 w =>
   aC pg (bB t38 1) w fun t40 w =>
   aC pg (bB t38 2) w fun t41 w =>
   aC pg (bT 36) w fun t12 w =>
   aC pg (aJ 36 t12 t40) w fun _u w =>
   aC pg (aG .eql 30 (.tmp 42) (.tmp 43) t33 t41) w fun t44 w =>
   Gd (fI t44 true) (fun K => K t31 w) w fun t46 w =>
   Gd (fI t44 true) (fun K => K t39 w) w fun t47 w =>
   Gd (fI t44 true) (fun K => aR pg IL #[t46, t47] w K) w fun t48 w =>
   aC pg (fR t44 t48 (.bool false)) w fun t49 w =>
   R t49 w))
theorem LA (R : K1) (hr : HR CL R Q) (h : uT R (g 0) (g 1) w) : bH pg B6 Av Q g w :=
 dR (kn := no) (l := []) h eQ hr trivial
def H5 (a0 a1 : aJb) (w : aJa) (R : K1) : Prop :=
 uT R a0 a1 w
theorem MK {a0 a1 : aJb} {w : aJa} {R : K1} (h : H5 a0 a1 w R) : aR pg wI #[a0, a1] w R := by
 refine rI (ann := B6) Tryd.f3 Av [a0, a1] CL 50 TrydM.mixed Tryd.func3 ?_
 exact (LA _ _ _ R (fun _ _ h => h) h)
def Rn : FA := ⟨FJ, fun i => .leaf ([], []) []⟩
def Ta : List ResultVar := [.tmp 0]
noncomputable def O0 : Code := cU Tryd.f7
def KD (R : K1)  (w : aJa) : Prop :=
 aR pg rL #[(.slice none 0 0)] w fun t9 w =>
 aC pg (bB t9 0) w fun t10 w =>
 aC pg (bB t9 1) w fun t11 w =>
 aC pg (bV 47 [(0, (.int .u32 20)), (1, (.int .u32 3)), (2, (.int .u32 9))]) w fun t13 w =>
 aC pg (bV 47 [(0, (.int .u32 0)), (1, (.int .u32 70)), (2, (.int .u32 1))]) w fun t14 w =>
 aC pg (bX 24 2 [(0, t13), (1, t14)]) w fun t15 w =>
 aR pg rL #[t15] w fun t16 w =>
 aC pg (bB t16 0) w fun t17 w =>
 aC pg (bB t16 1) w fun t18 w =>
 aC pg (bV 29 []) w fun t21 w =>
 aR pg tS #[t17, t21] w fun t22 w =>
 aC pg (bB t22 0) w fun t23 w =>
 aC pg (bB t22 1) w fun t24 w =>
 aC pg (bB t22 2) w fun t25 w =>
 aC pg (bT 29) w fun t6 w =>
 aC pg (aJ 29 t6 t24) w fun _u w =>
 aC pg (jS .len #[22] 3 [t10]) w fun t27 w =>
 aC pg (aG .eql 3 (.tmp 27) (.const (.int .i64 1)) t27 (.int .i64 1)) w fun t28 w =>
 Gd (fI t28 true) (fun K => K t10 w) w fun t30 w =>
 Gd (fI t28 true) (fun K => aC pg (bA 22 t30 (.int .i64 0)) w K) w fun t31 w =>
 Gd (fI t28 true) (fun K => aC pg (aH 5 t31) w K) w fun t32 w =>
 Gd (fI t28 true) (fun K => aC pg (aG .eql 5 (.tmp 32) (.const (.int .u8 0)) t32 (.int .u8 0)) w K) w fun t33 w =>
 aC pg (fR t28 t33 (.bool false)) w fun t34 w =>
 Gd (fI t34 true) (fun K => K t11 w) w fun t36 w =>
 Gd (fI t34 true) (fun K => aC pg (aG .eql 30 (.tmp 36) (.const (.int .i64 0)) t36 (.int .i64 0)) w K) w fun t37 w =>
 aC pg (fR t34 t37 (.bool false)) w fun t38 w =>
 Gd (fI t38 true) (fun K => K t18 w) w fun t40 w =>
 Gd (fI t38 true) (fun K => aC pg (aG .eql 30 (.tmp 40) (.const (.int .i64 0)) t40 (.int .i64 0)) w K) w fun t41 w =>
 aC pg (fR t38 t41 (.bool false)) w fun t42 w =>
 Gd (fI t42 true) (fun K => K t25 w) w fun t44 w =>
 Gd (fI t42 true) (fun K => aC pg (aG .eql 30 (.tmp 44) (.const (.int .i64 0)) t44 (.int .i64 0)) w K) w fun t45 w =>
 aC pg (fR t42 t45 (.bool false)) w fun t46 w =>
 Gd (fI t46 true) (fun K => K t23 w) w fun t48 w =>
 Gd (fI t46 true) (fun K => aC pg (jS .len #[24] 3 [t48]) w K) w fun t49 w =>
 Gd (fI t46 true) (fun K => aC pg (aG .eql 3 (.tmp 49) (.const (.int .i64 2)) t49 (.int .i64 2)) w K) w fun t50 w =>
 aC pg (fR t46 t50 (.bool false)) w fun t51 w =>
 Gd (fI t51 true) (fun K => K t23 w) w fun t53 w =>
 Gd (fI t51 true) (fun K => aC pg (bA 24 t53 (.int .i64 0)) w K) w fun t54 w =>
 Gd (fI t51 true) (fun K => aC pg (aL 47 t54 0) w K) w fun t55 w =>
 Gd (fI t51 true) (fun K => aC pg (aH 43 t55) w K) w fun t56 w =>
 Gd (fI t51 true) (fun K => aC pg (aG .eql 43 (.tmp 56) (.const (.int .u32 20)) t56 (.int .u32 20)) w K) w fun t57 w =>
 aC pg (fR t51 t57 (.bool false)) w fun t58 w =>
 Gd (fI t58 true) (fun K => K t23 w) w fun t60 w =>
 Gd (fI t58 true) (fun K => aC pg (bA 24 t60 (.int .i64 0)) w K) w fun t61 w =>
 Gd (fI t58 true) (fun K => aC pg (aL 47 t61 2) w K) w fun t62 w =>
 Gd (fI t58 true) (fun K => aC pg (aH 43 t62) w K) w fun t63 w =>
 Gd (fI t58 true) (fun K => aC pg (aG .eql 43 (.tmp 63) (.const (.int .u32 9)) t63 (.int .u32 9)) w K) w fun t64 w =>
 aC pg (fR t58 t64 (.bool false)) w fun t65 w =>
 Gd (fI t65 true) (fun K => K t23 w) w fun t67 w =>
 Gd (fI t65 true) (fun K => aC pg (bA 24 t67 (.int .i64 1)) w K) w fun t68 w =>
 Gd (fI t65 true) (fun K => aC pg (aL 47 t68 1) w K) w fun t69 w =>
 Gd (fI t65 true) (fun K => aC pg (aH 43 t69) w K) w fun t70 w =>
 Gd (fI t65 true) (fun K => aC pg (aG .eql 43 (.tmp 70) (.const (.int .u32 70)) t70 (.int .u32 70)) w K) w fun t71 w =>
 aC pg (fR t65 t71 (.bool false)) w fun t72 w =>
 Gd (fI t72 true) (fun K => K t23 w) w fun t74 w =>
 Gd (fI t72 true) (fun K => aC pg (bA 24 t74 (.int .i64 1)) w K) w fun t75 w =>
 Gd (fI t72 true) (fun K => aC pg (aL 47 t75 2) w K) w fun t76 w =>
 Gd (fI t72 true) (fun K => aC pg (aH 43 t76) w K) w fun t77 w =>
 Gd (fI t72 true) (fun K => aC pg (aG .eql 43 (.tmp 77) (.const (.int .u32 1)) t77 (.int .u32 1)) w K) w fun t78 w =>
 aC pg (fR t72 t78 (.bool false)) w fun t79 w =>
 Gd (fI t79 true) (fun K => aC pg (bA 29 t6 (.int .i64 0)) w K) w fun t81 w =>
 Gd (fI t79 true) (fun K => aC pg (aL 27 t81 1) w K) w fun t82 w =>
 Gd (fI t79 true) (fun K => aC pg (aH 25 t82) w K) w fun t83 w =>
 Gd (fI t79 true) (fun K => aC pg (jS .len #[25] 3 [t83]) w K) w fun t84 w =>
 Gd (fI t79 true) (fun K => aC pg (aG .gtr 3 aM aM t84 (.int .i64 0)) w K) w fun t85 w =>
 aC pg (fR t79 t85 (.bool false)) w fun t86 w =>
 R t86 w
theorem YO (R : K1) (hr : HR Ta R Q) (h : KD R w) : bH pg Rn O0 Q g w :=
 dR (kn := no) (l := []) h eQ hr trivial
def agA (w : aJa) (R : K1) : Prop :=
 KD R w
theorem acP {w : aJa} {R : K1} (h : agA w R) : aR pg FJ #[] w R := by
 refine rI (ann := Rn) Tryd.f7 O0 [] Ta 87 TrydM.mixed Tryd.func7 ?_
 exact (YO _ _ _ R (fun _ _ h => h) h)
def dN : FA := ⟨tS, fun i => match Nat.beq i 8 with | true => .leaf ([2], []) [(false, []), (false, []), (true, []), (false, [])] | false => match Nat.beq i 34 with | true => .leaf ([8, 10], []) [(false, []), (false, []), (false, []), (false, []), (false, []), (false, []), (false, []), (false, []), (true, []), (false, []), (true, [])] | false => match Nat.beq i 41 with | true => .leaf ([3], []) [(false, []), (false, []), (false, []), (true, []), (false, [])] | false => .leaf ([], []) []⟩
def wO : List ResultVar := [.tmp 4, .cell 5 29, .tmp 6]
noncomputable def dF : Code := cU Tryd.f8
def wX (R : K1) (t5 t9 gZ eU : aJb) (w : aJa) : Prop :=
 aR pg oB #[gZ] w fun t127 w =>
 aC pg (aG .lss 3 aM aM t127 (.int .i64 0)) w fun t128 w =>
 eN t128
  (aC pg (bV 29 []) w fun t129 w =>
  aC pg (aJ 29 t5 t129) w fun _u w =>
  kC pg 29 t5 w fun r1 => R (.tuple #[(.slice none 0 0), r1, (.int .i64 11)]) w)
  (aR pg oB #[gZ] w fun t132 w =>
  aC pg (aG .gtr 3 aM aM t132 (.int .i64 0)) w fun t133 w =>
  eN t133
   (aC pg (bV 29 []) w fun t134 w =>
   aC pg (aJ 29 t5 t134) w fun _u w =>
   kC pg 29 t5 w fun r1 => R (.tuple #[(.slice none 0 0), r1, (.int .i64 15)]) w)
   ((dr w) = (dr w) /\
   aC pg (aH 29 t9) (dr w) fun t136 w_ => w_ = (dr w) /\
   (dr w) = (dr w) /\
   aC pg (aJ 29 t5 t136) (dr w) fun _u3 aAF =>
   aAF = aAF /\
   kC pg 29 t5 aAF fun r1 => R (.tuple #[eU, r1, (.int .i64 0)]) aAF))
theorem Uf (R : K1) (hr : HR wO R Q) (h : wX R (g 5) (g 9) (g 11) (g 14) w) : bH pg dN (aB 1 (aB 1 (aB 1 (aB 9 dF)))) Q g w :=
 dR (kn := no) (l := []) h eQ hr trivial
def wZ (kn : K8) (t5 tU t9 gZ bD eU t76 t77 : aJb) (w : aJa) : Prop :=
 aC pg (aG .add 3 aM aM t77 (.int .i64 1)) w fun t124 w =>
 kn t5 tU t9 gZ bD eU t76 t124 w
theorem SQ (kn : K8) (hn : N8 Q kn 5 8 9 11 12 14 76 77) (h : wZ kn (g 5) (g 8) (g 9) (g 11) (g 12) (g 14) (g 76) (g 77) w) : bH pg dN (aB 1 (aB 2 (bI (bI (aB 1 (aD 1 (aB 1 (aB 1 (aB 9 dF))))))))) Q g w :=
 dR (kr := no) (l := []) h hn eQ trivial
def wN (kn : Aw) (k5 : K8) (t5 tU t9 gZ bD eU t76 t77 t109 t110 : aJb) (w : aJa) : Prop :=
 aC pg (aG .lss 3 aM aM t110 (.int .i64 3)) w fun t111 w =>
 eN t111
  (aC pg (G4 67 t109 t110) w fun t112 w =>
  (dr w) = (dr w) /\
  (dr w) = (dr w) /\
  aC pg (bA 29 t9 t112) (dr w) fun t115 w_ => w_ = (dr w) /\
  aC pg (aH 27 t115) (dr w) fun t116 w_ => w_ = (dr w) /\
  (dr w) = (dr w) /\
  aC pg (bA 67 bD t112) (dr w) fun t118 w_ => w_ = (dr w) /\
  aC pg (aH 3 t118) (dr w) fun t119 w_ => w_ = (dr w) /\
  (dr w) = (dr w) /\
  aR pg Qt #[t116, t119, gZ] (dr w) fun t121 aDx =>
  aC pg (bA 67 bD t112) aDx fun t122 w_ => w_ = aDx /\
  aC pg (aJ 3 t122 t121) aDx fun _u10 aFw =>
  aC pg (aG .add 3 aM aM t110 (.int .i64 1)) aFw fun t123 w =>
  kn t5 tU t9 gZ bD eU t76 t77 t109 t123 w)
  (k5 t5 tU t9 gZ bD eU t76 t77 w)
theorem S0 (kn : Aw) (k5 : K8) (hn : N10 Q kn 5 8 9 11 12 14 76 77 109 110) (h5 : E8 Q k5 5 5 8 9 11 12 14 76 77) (h : wN kn k5 (g 5) (g 8) (g 9) (g 11) (g 12) (g 14) (g 76) (g 77) (g 109) (g 110) w) : bH pg dN (bI (bI (aB 8 (bI (aD 1 (aB 2 (bI (bI (aB 1 (aD 1 (aB 1 (aB 1 (aB 9 dF))))))))))))) Q g w :=
 dR (kr := no) (l := [(5, fun g w => k5 (g 5) (g 8) (g 9) (g 11) (g 12) (g 14) (g 76) (g 77) w)]) h hn eQ ⟨h5, trivial⟩
def xA (k5 : K8) (t5 tU t9 gZ bD eU t76 t77 t109 t110 : aJb) (w : aJa) : Prop :=
 cG (fun (X : aJb -> K0) (t : aJb) (w : aJa) => wN (fun _ _ _ _ _ _ _ _ _ t110 w => X t110 w) k5 t5 tU t9 gZ bD eU t76 t77 t109 t w) t110 w
theorem T6 (k5 : K8) (h5 : E8 Q k5 5 5 8 9 11 12 14 76 77) (h : xA k5 (g 5) (g 8) (g 9) (g 11) (g 12) (g 14) (g 76) (g 77) (g 109) (g 110) w) : bH pg dN (bI (aB 8 (bI (aD 1 (aB 2 (bI (bI (aB 1 (aD 1 (aB 1 (aB 1 (aB 9 dF)))))))))))) Q g w := by
 refine DO (fun g : Env => g 110) (fun X t w => wN (fun _ _ _ _ _ _ _ _ _ t110 w => X t110 w) k5 (g 5) (g 8) (g 9) (g 11) (g 12) (g 14) (g 76) (g 77) (g 109) t w) h (fun X g1 w1 ha hL => ?_)
 rw [<- fE 5 ha, <- fE 8 ha, <- fE 9 ha, <- fE 11 ha, <- fE 12 ha, <- fE 14 ha, <- fE 76 ha, <- fE 77 ha, <- fE 109 ha] at hL
 exact (S0 _ g1 w1 (fun _ _ _ _ _ _ _ _ _ t110 w => X t110 w) k5 (fun _ _ h => h) h5 hL)
def C8 (kn : K8) (t5 tU t9 gZ bD eU t76 t77 t109 t110 : aJb) (w : aJa) : Prop :=
 xA kn t5 tU t9 gZ bD eU t76 t77 t109 t110 w
def Dh (kn : Aw) (k3 : K4) (t5 tU t9 gZ bD eU t76 t77 : aJb) (w : aJa) : Prop :=
 aC pg (bT 47) w fun Ir w =>
 aC pg (bA 29 t9 (.int .i64 1)) w fun t80 w =>
 aC pg (aH 27 t80) w fun t81 w =>
 aC pg (bA 67 bD (.int .i64 1)) w fun t82 w =>
 aC pg (aH 3 t82) w fun t83 w =>
 aR pg oY #[(.int .i64 1), t81, t83, gZ] w fun t85 w =>
 aC pg (aL 47 Ir 2) w fun t86 w =>
 aC pg (aJ 43 t86 t85) w fun _u w =>
 aC pg (bA 29 t9 (.int .i64 2)) w fun t87 w =>
 aC pg (aH 27 t87) w fun t88 w =>
 aC pg (bA 67 bD (.int .i64 2)) w fun t89 w =>
 aC pg (aH 3 t89) w fun t90 w =>
 aR pg oY #[(.int .i64 2), t88, t90, gZ] w fun t92 w =>
 aC pg (aL 47 Ir 1) w fun t93 w =>
 aC pg (aJ 43 t93 t92) w fun _u w =>
 aC pg (bA 29 t9 (.int .i64 0)) w fun t94 w =>
 aC pg (aH 27 t94) w fun t95 w =>
 aC pg (bA 67 bD (.int .i64 0)) w fun t96 w =>
 aC pg (aH 3 t96) w fun t97 w =>
 aR pg oY #[(.int .i64 0), t95, t97, gZ] w fun t99 w =>
 aC pg (aL 47 Ir 0) w fun t100 w =>
 aC pg (aJ 43 t100 t99) w fun _u w =>
 aC pg (aH 47 Ir) w fun t102 w =>
 aC pg (bX 24 1 [(0, t102)]) w fun t103 w =>
 aC pg (jS .append #[24, 24] 24 [eU, t103]) w fun t104 w =>
 aC pg (aG .sub 3 aM aM tU (.int .i64 1)) w fun t107 w =>
 aC pg (aG .eql 3 (.tmp 105) (.tmp 107) t77 t107) w fun t108 w =>
 eN t108
  (k3 t5 t9 gZ t104 w)
  (aC pg (bV 67 [(0, (.int .i64 0)), (1, (.int .i64 2)), (2, (.int .i64 1))]) w fun t109 w =>
  kn t5 tU t9 gZ bD t104 t76 t77 t109 (.int .i64 0) w)
theorem Td (kn : Aw) (k3 : K4) (hn : N10 Q kn 5 8 9 11 12 14 76 77 109 110) (h3 : E4 Q k3 3 5 9 11 14) (h : Dh kn k3 (g 5) (g 8) (g 9) (g 11) (g 12) (g 14) (g 76) (g 77) w) : bH pg dN (aD 8 (bI (aD 1 (aB 2 (bI (bI (aB 1 (aD 1 (aB 1 (aB 1 (aB 9 dF))))))))))) Q g w :=
 dR (kr := no) (l := [(3, fun g w => k3 (g 5) (g 9) (g 11) (g 14) w)]) h hn eQ ⟨h3, trivial⟩
def Mb (kn : K8) (k3 : K4) (t5 tU t9 gZ bD eU t76 t77 : aJb) (w : aJa) : Prop :=
 Dh (fun t5 tU t9 gZ bD eU t76 t77 t109 t110 w => C8 kn t5 tU t9 gZ bD eU t76 t77 t109 t110 w) k3 t5 tU t9 gZ bD eU t76 t77 w
def C9 (kn : K8) (k3 : K4) (t5 tU t9 gZ bD eU t76 t77 : aJb) (w : aJa) : Prop :=
 Mb kn k3 t5 tU t9 gZ bD eU t76 t77 w
def DK (kn : K8) (k3 : K4) (t5 tU t9 gZ bD eU t76 t77 : aJb) (w : aJa) : Prop :=
 C9 (fun t5 tU t9 gZ bD eU t76 t77 w => wZ kn t5 tU t9 gZ bD eU t76 t77 w) k3 t5 tU t9 gZ bD eU t76 t77 w
theorem S7 (kn : K8) (k3 : K4) (hn : N8 Q kn 5 8 9 11 12 14 76 77) (h3 : E4 Q k3 3 5 9 11 14) (h : C9 kn k3 (g 5) (g 8) (g 9) (g 11) (g 12) (g 14) (g 76) (g 77) w) : bH pg dN (aD 1 (aB 2 (bI (bI (aB 1 (aD 1 (aB 1 (aB 1 (aB 9 dF))))))))) Q g w :=
 tX 4 (fQ 8 (Td _ g w (C8 kn) k3 (fun g w h => aK (tX 5 (T6 _ g w kn hn h))) h3 h))
def BR (kn : K8) (k3 : K4) (t5 tU t9 gZ bD eU t76 t77 : aJb) (w : aJa) : Prop :=
 aC pg (aG .lss 3 aM aM t77 t76) w fun t78 w =>
 eN t78
  (kn t5 tU t9 gZ bD eU t76 t77 w)
  (k3 t5 t9 gZ eU w)
theorem R0 (kn : K8) (k3 : K4) (hn : N8 Q kn 5 8 9 11 12 14 76 77) (h3 : E4 Q k3 3 5 9 11 14) (h : BR kn k3 (g 5) (g 8) (g 9) (g 11) (g 12) (g 14) (g 76) (g 77) w) : bH pg dN (aD 2 (bI (bI (aB 1 (aD 1 (aB 1 (aB 1 (aB 9 dF)))))))) Q g w :=
 dR (kr := no) (l := [(3, fun g w => k3 (g 5) (g 9) (g 11) (g 14) w)]) h hn eQ ⟨h3, trivial⟩
def uH (kn : K8) (k3 : K4) (t5 tU t9 gZ bD eU t76 t77 : aJb) (w : aJa) : Prop :=
 BR (fun t5 tU t9 gZ bD eU t76 t77 w => DK kn k3 t5 tU t9 gZ bD eU t76 t77 w) k3 t5 tU t9 gZ bD eU t76 t77 w
def uP (k3 : K4) (t5 tU t9 gZ bD eU t76 t77 : aJb) (w : aJa) : Prop :=
 cG (fun (X : (aJb × aJb) -> K0) (t : aJb × aJb) (w : aJa) => uH (fun _ _ _ _ _ eU _ t77 w => X (eU, t77) w) k3 t5 tU t9 gZ bD t.1 t76 t.2 w) (eU, t77) w
theorem RP (kn : K8) (k3 : K4) (hn : N8 Q kn 5 8 9 11 12 14 76 77) (h3 : E4 Q k3 3 5 9 11 14) (h : uH kn k3 (g 5) (g 8) (g 9) (g 11) (g 12) (g 14) (g 76) (g 77) w) : bH pg dN (bI (bI (aB 1 (aD 1 (aB 1 (aB 1 (aB 9 dF))))))) Q g w :=
 fQ 2 (R0 _ g w (DK kn k3) k3 (fun g w h => aK (fQ 1 (S7 _ g w (wZ kn) k3 (fun g w h => aK (SQ _ g w kn hn h)) h3 h))) h3 h)
theorem Sm (k3 : K4) (h3 : E4 Q k3 3 5 9 11 14) (h : uP k3 (g 5) (g 8) (g 9) (g 11) (g 12) (g 14) (g 76) (g 77) w) : bH pg dN (bI (aB 1 (aD 1 (aB 1 (aB 1 (aB 9 dF)))))) Q g w := by
 refine DO (fun g : Env => (g 14, g 77)) (fun X t w => uH (fun _ _ _ _ _ eU _ t77 w => X (eU, t77) w) k3 (g 5) (g 8) (g 9) (g 11) (g 12) t.1 (g 76) t.2 w) h (fun X g1 w1 ha hL => ?_)
 rw [<- fE 5 ha, <- fE 8 ha, <- fE 9 ha, <- fE 11 ha, <- fE 12 ha, <- fE 76 ha] at hL
 exact (RP _ g1 w1 (fun _ _ _ _ _ eU _ t77 w => X (eU, t77) w) k3 (fun _ _ h => h) h3 hL)
def Bf (kn : K4) (t5 tU t9 gZ bD eU t76 t77 : aJb) (w : aJa) : Prop :=
 uP kn t5 tU t9 gZ bD eU t76 t77 w
def BZ (kn : K8) (t5 tU t9 gZ bD eU : aJb) (w : aJa) : Prop :=
 kn t5 tU t9 gZ bD eU tU (.int .i64 0) w
theorem R9 (kn : K8) (hn : N8 Q kn 5 8 9 11 12 14 76 77) (h : BZ kn (g 5) (g 8) (g 9) (g 11) (g 12) (g 14) w) : bH pg dN (aD 1 (aD 1 (aB 1 (aB 1 (aB 9 dF))))) Q g w :=
 dR (kr := no) (l := []) h hn eQ trivial
def Bp (kn : K4) (t5 tU t9 gZ bD eU : aJb) (w : aJa) : Prop :=
 BZ (fun t5 tU t9 gZ bD eU t76 t77 w => Bf kn t5 tU t9 gZ bD eU t76 t77 w) t5 tU t9 gZ bD eU w
def Bu (R : K1) (t5 tU t9 gZ bD eU : aJb) (w : aJa) : Prop :=
 Bp (fun t5 t9 gZ eU w => wX R t5 t9 gZ eU w) t5 tU t9 gZ bD eU w
theorem R2 (kn : K4) (hn : N4 Q kn 5 9 11 14) (h : Bp kn (g 5) (g 8) (g 9) (g 11) (g 12) (g 14) w) : bH pg dN (aD 1 (aB 1 (aB 1 (aB 9 dF)))) Q g w :=
 fQ 1 (R9 _ g w (Bf kn) (fun g w h => aK (tX 3 (Sm _ g w kn hn h))) h)
def BH (kn : K6) (t5 tU t9 gZ bD : aJb) (w : aJa) : Prop :=
 kn t5 tU t9 gZ bD (.slice none 0 0) w
theorem R8 (kn : K6) (hn : N6 Q kn 5 8 9 11 12 14) (h : BH kn (g 5) (g 8) (g 9) (g 11) (g 12) w) : bH pg dN (aD 1 (aB 1 (aB 9 dF))) Q g w :=
 dR (kr := no) (l := []) h hn eQ trivial
def Bw (R : K1) (t5 tU t9 gZ bD : aJb) (w : aJa) : Prop :=
 BH (fun t5 tU t9 gZ bD eU w => Bu R t5 tU t9 gZ bD eU w) t5 tU t9 gZ bD w
def vG (kn : K6) (k1 : K5) (t5 tU t9 gZ bD t65 : aJb) (w : aJa) : Prop :=
 aC pg (aG .lss 3 aM aM t65 (.int .i64 3)) w fun t66 w =>
 eN t66
  (aC pg (bA 29 t9 t65) w fun t70 w =>
  aC pg (aH 27 t70) w fun t71 w =>
  aR pg LQ #[t71, gZ] w fun t73 w =>
  aC pg (bA 67 bD t65) w fun t74 w =>
  aC pg (aJ 3 t74 t73) w fun _u w =>
  aC pg (aG .add 3 aM aM t65 (.int .i64 1)) w fun t75 w =>
  kn t5 tU t9 gZ bD t75 w)
  (k1 t5 tU t9 gZ bD w)
theorem Sy (kn : K6) (k1 : K5) (hn : N6 Q kn 5 8 9 11 12 65) (h1 : E5 Q k1 1 5 8 9 11 12) (h : vG kn k1 (g 5) (g 8) (g 9) (g 11) (g 12) (g 65) w) : bH pg dN (bI (bI (aB 1 (aD 1 (aB 9 dF))))) Q g w :=
 dR (kr := no) (l := [(1, fun g w => k1 (g 5) (g 8) (g 9) (g 11) (g 12) w)]) h hn eQ ⟨h1, trivial⟩
def uW (k1 : K5) (t5 tU t9 gZ bD t65 : aJb) (w : aJa) : Prop :=
 cG (fun (X : aJb -> K0) (t : aJb) (w : aJa) => vG (fun _ _ _ _ _ t65 w => X t65 w) k1 t5 tU t9 gZ bD t w) t65 w
theorem RK (k1 : K5) (h1 : E5 Q k1 1 5 8 9 11 12) (h : uW k1 (g 5) (g 8) (g 9) (g 11) (g 12) (g 65) w) : bH pg dN (bI (aB 1 (aD 1 (aB 9 dF)))) Q g w := by
 refine DO (fun g : Env => g 65) (fun X t w => vG (fun _ _ _ _ _ t65 w => X t65 w) k1 (g 5) (g 8) (g 9) (g 11) (g 12) t w) h (fun X g1 w1 ha hL => ?_)
 rw [<- fE 5 ha, <- fE 8 ha, <- fE 9 ha, <- fE 11 ha, <- fE 12 ha] at hL
 exact (Sy _ g1 w1 (fun _ _ _ _ _ t65 w => X t65 w) k1 (fun _ _ h => h) h1 hL)
def BV (kn : K5) (t5 tU t9 gZ bD t65 : aJb) (w : aJa) : Prop :=
 uW kn t5 tU t9 gZ bD t65 w
def BJ (kn : K6) (t5 tU t9 gZ bD : aJb) (w : aJa) : Prop :=
 kn t5 tU t9 gZ bD (.int .i64 0) w
theorem RV (kn : K6) (hn : N6 Q kn 5 8 9 11 12 65) (h : BJ kn (g 5) (g 8) (g 9) (g 11) (g 12) w) : bH pg dN (aD 1 (aD 1 (aB 9 dF))) Q g w :=
 dR (kr := no) (l := []) h hn eQ trivial
def Br (kn : K5) (t5 tU t9 gZ bD : aJb) (w : aJa) : Prop :=
 BJ (fun t5 tU t9 gZ bD t65 w => BV kn t5 tU t9 gZ bD t65 w) t5 tU t9 gZ bD w
def B2 (R : K1) (t5 tU t9 gZ bD : aJb) (w : aJa) : Prop :=
 Br (fun t5 tU t9 gZ bD w => Bw R t5 tU t9 gZ bD w) t5 tU t9 gZ bD w
theorem Sg (kn : K5) (hn : N5 Q kn 5 8 9 11 12) (h : Br kn (g 5) (g 8) (g 9) (g 11) (g 12) w) : bH pg dN (aD 1 (aB 9 dF)) Q g w :=
 fQ 1 (RV _ g w (BV kn) (fun g w h => aK (tX 1 (RK _ g w kn hn h))) h)
def BO (kn : K5) (R : K1) (Co KJ : aJb) (w : aJa) : Prop :=
 aC pg (rA 29 KJ) w fun cI w =>
 aC pg (bT 29) w fun t5 w =>
 aR pg qH #[Co] w fun t20 w =>
 aR pg uI #[t20] w fun t22 w =>
 aR pg kX #[t20] w fun t25 w =>
 aC pg (aG .neq 30 (.tmp 25) (.const (.int .i64 0)) t25 (.int .i64 0)) w fun t26 w =>
 eN t26
  (aC pg (bV 29 []) w fun t27 w =>
  aR pg kX #[t20] w fun t29 w =>
  aC pg (aJ 29 t5 t27) w fun _u w =>
  kC pg 29 t5 w fun r1 => R (.tuple #[(.slice none 0 0), r1, t29]) w)
  (aC pg (aG .eql 3 (.tmp 31) (.const (.int .i64 0)) t22 (.int .i64 0)) w fun t32 w =>
  Gd (fI t32 true) (fun K => K t20 w) w fun t34 w =>
  Gd (fI t32 true) (fun K => aR pg lX #[t34] w K) w fun t35 w =>
  Gd (fI t32 true) (fun K => aC pg (aG .gtr 3 aM aM t35 (.int .i64 0)) w K) w fun t36 w =>
  aC pg (fR t32 t36 (.bool false)) w fun t37 w =>
  eN t37
   (aC pg (bV 29 []) w fun t38 w =>
   aC pg (aJ 29 t5 t38) w fun _u w =>
   kC pg 29 t5 w fun r1 => R (.tuple #[(.slice none 0 0), r1, (.int .i64 15)]) w)
   (aC pg (aG .eql 3 (.tmp 40) (.const (.int .i64 0)) t22 (.int .i64 0)) w fun t41 w =>
   eN t41
    (aC pg (aH 29 cI) (dr w) fun t42 w_ => w_ = (dr w) /\
    (dr w) = (dr w) /\
    aC pg (aJ 29 t5 t42) (dr w) fun _u2 aaD =>
    aaD = aaD /\
    kC pg 29 t5 aaD fun r1 => R (.tuple #[(.slice none 0 0), r1, (.int .i64 0)]) aaD)
    (aC pg (aH 29 cI) w fun t45 w =>
    aR pg tI #[t20, t45] w fun t46 w =>
    aC pg (bB t46 0) w fun t47 w =>
    aC pg (bB t46 1) w fun t48 w =>
    aC pg (bT 29) w fun t9 w =>
    aC pg (aJ 29 t9 t47) w fun _u w =>
    aC pg (aG .neq 30 (.tmp 49) (.const (.int .i64 0)) t48 (.int .i64 0)) w fun t50 w =>
    eN t50
     (aC pg (bV 29 []) w fun t51 w =>
     aC pg (aJ 29 t5 t51) w fun _u w =>
     kC pg 29 t5 w fun r1 => R (.tuple #[(.slice none 0 0), r1, t48]) w)
     (aR pg lX #[t20] w fun t56 w =>
     aR pg nB #[t20, t56] w fun t57 w =>
     aR pg qG #[t57] w fun t58 w =>
     aC pg (bB t58 0) w fun t59 w =>
     aC pg (bB t58 1) w fun t60 w =>
     aC pg (aG .neq 30 (.tmp 61) (.const (.int .i64 0)) t60 (.int .i64 0)) w fun t62 w =>
     eN t62
      (aC pg (bV 29 []) w fun t63 w =>
      aC pg (aJ 29 t5 t63) w fun _u w =>
      kC pg 29 t5 w fun r1 => R (.tuple #[(.slice none 0 0), r1, t60]) w)
      (aC pg (bT 67) w fun bD w =>
      kn t5 t22 t9 t59 bD w)))))
theorem SB (kn : K5) (R : K1) (hn : N5 Q kn 5 8 9 11 12) (hr : HR wO R Q) (h : BO kn R (g 0) (g 1) w) : bH pg dN (aD 9 dF) Q g w :=
 dR (l := []) h hn hr trivial
def Bj (R : K1) (Co KJ : aJb) (w : aJa) : Prop :=
 BO (fun t5 tU t9 gZ bD w => B2 R t5 tU t9 gZ bD w) R Co KJ w
theorem RI (R : K1) (hr : HR wO R Q) (h : Bj R (g 0) (g 1) w) : bH pg dN dF Q g w :=
 fQ 9 (SB _ g w (B2 R) R (fun g w h => aK (fQ 1 (Sg _ g w (Bw R) (fun g w h => aK (fQ 1 (R8 _ g w (Bu R) (fun g w h => aK (fQ 1 (R2 _ g w (wX R) (fun g w h => aK (Uf _ g w R hr h)) h))) h))) h))) hr h)
def TE (a0 a1 : aJb) (w : aJa) (R : K1) : Prop :=
 Bj R a0 a1 w
theorem U4 {a0 a1 : aJb} {w : aJa} {R : K1} (h : TE a0 a1 w R) : aR pg tS #[a0, a1] w R := by
 refine rI (ann := dN) Tryd.f8 dF [a0, a1] wO 137 TrydM.mixed Tryd.func8 ?_
 exact (RI _ _ _ R (fun _ _ h => h) h)
def cY : FA := ⟨CB, fun i => match Nat.beq i 4 with | true => .leaf ([4], [(1, 4), (2, 4)]) [(false, []), (false, []), (false, []), (false, []), (true, [1, 2]), (false, [])] | false => match Nat.beq i 7 with | true => .leaf ([2], []) [(false, []), (false, []), (true, []), (false, [])] | false => match Nat.beq i 8 with | true => .leaf ([2], []) [(false, []), (false, []), (true, []), (false, [])] | false => match Nat.beq i 11 with | true => .leaf ([4], [(1, 4), (2, 4)]) [(false, []), (false, []), (false, []), (false, []), (true, [1, 2]), (false, [])] | false => match Nat.beq i 13 with | true => .leaf ([2], []) [(false, []), (false, []), (true, []), (false, [])] | false => match Nat.beq i 20 with | true => .split 9 14 (.perm [0, 1, 2, 3, 4, 5, 6, 7, 8, 9, 10, 11, 12, 13, 14, 15, 16, 17] [(9, 14)] ([9, 14, 15], [(11, 14), (12, 14), (12, 15), (13, 14), (13, 15)]) [(false, []), (false, []), (false, []), (false, []), (false, []), (false, []), (false, []), (false, []), (false, []), (true, []), (false, []), (false, []), (false, []), (false, []), (true, [0, 1, 2]), (true, [1, 2]), (false, []), (false, [])]) (.perm [0, 1, 2, 3, 4, 5, 6, 7, 8, 14, 9, 10, 11, 12, 13, 15, 16, 17] [(14, 9)] ([9, 10, 15], [(3, 9), (4, 9), (7, 9), (8, 9), (13, 15), (14, 15)]) [(false, []), (false, []), (false, []), (false, []), (false, []), (false, []), (false, []), (false, []), (false, []), (true, [0, 1, 4, 5]), (true, []), (false, []), (false, []), (false, []), (false, []), (true, [0, 1]), (false, []), (false, [])]) | false => match Nat.beq i 22 with | true => .leaf ([3], []) [(false, []), (false, []), (false, []), (true, []), (false, [])] | false => match Nat.beq i 27 with | true => .leaf ([3], []) [(false, []), (false, []), (false, []), (true, []), (false, [])] | false => match Nat.beq i 46 with | true => .leaf ([2], []) [(false, []), (false, []), (true, []), (false, [])] | false => match Nat.beq i 48 with | true => .leaf ([2], []) [(false, []), (false, []), (true, []), (false, [])] | false => match Nat.beq i 49 with | true => .leaf ([3], []) [(false, []), (false, []), (false, []), (true, []), (false, [])] | false => .leaf ([], []) []⟩
def iY : List ResultVar := [.tmp 4, .cell 5 36, .tmp 6]
noncomputable def cF : Code := cU Tryd.f9
def FP (R : K1) (t5 bG t12 gT eF : aJb) (w : aJa) : Prop :=
 aC pg (aH 82 gT) w fun t199 w =>
 aR pg Dn #[t199] w fun t200 w =>
 aC pg (aG .lss 3 aM aM t200 (.int .i64 0)) w fun t202 w =>
 eN t202
  (aC pg (aH 36 bG) (dr w) fun t203 w_ => w_ = (dr w) /\
  (dr w) = (dr w) /\
  aC pg (aJ 36 t5 t203) (dr w) fun _u2 azP =>
  azP = azP /\
  kC pg 36 t5 azP fun r1 => R (.tuple #[(.slice none 0 0), r1, (.int .i64 11)]) azP)
  (aC pg (aG .gtr 3 aM aM t200 (.int .i64 0)) w fun t205 w =>
  eN t205
   (aC pg (aH 36 bG) (dr w) fun t206 w_ => w_ = (dr w) /\
   (dr w) = (dr w) /\
   aC pg (aJ 36 t5 t206) (dr w) fun _u2 aAl =>
   aAl = aAl /\
   kC pg 36 t5 aAl fun r1 => R (.tuple #[(.slice none 0 0), r1, (.int .i64 15)]) aAl)
   ((dr w) = (dr w) /\
   aC pg (aH 36 t12) (dr w) fun t208 w_ => w_ = (dr w) /\
   (dr w) = (dr w) /\
   aC pg (aJ 36 t5 t208) (dr w) fun _u3 aAg =>
   aAg = aAg /\
   kC pg 36 t5 aAg fun r1 => R (.tuple #[eF, r1, (.int .i64 0)]) aAg))
theorem acZ (R : K1) (hr : HR iY R Q) (h : FP R (g 5) (g 7) (g 12) (g 18) (g 23) w) : bH pg cY (aB 1 (aB 6 (aB 1 (aB 11 cF)))) Q g w :=
 dR (kn := no) (l := []) h eQ hr trivial
def Au (kn : Aw) (t5 bG lJ t12 gT gQ gR gS eF mW : aJb) (w : aJa) : Prop :=
 aC pg (aG .add 73 aM aM mW (.int .u64 1)) w fun t139 w =>
 kn t5 bG lJ t12 gT gQ gR gS eF t139 w
theorem afR (kn : Aw) (hn : N10 Q kn 5 7 9 12 18 20 21 22 23 24) (h : Au kn (g 5) (g 7) (g 9) (g 12) (g 18) (g 20) (g 21) (g 22) (g 23) (g 24) w) : bH pg cY (aB 2 (bI (bI (aB 1 (aD 1 (aB 6 (aB 1 (aB 11 cF)))))))) Q g w :=
 dR (kr := no) (l := []) h hn eQ trivial
def Gu (kn : Aw) (t5 bG lJ t12 gT gQ gR gS eF mW t174 : aJb) (w : aJa) : Prop :=
 eN t174
  (aC pg (bA 36 t12 (.int .i64 0)) w fun t176 w =>
  aC pg (aH 35 t176) w fun t177 w =>
  aC pg (aH 82 gT) w fun t179 w =>
  aR pg nM #[t177, gQ, t179] w fun t180 w =>
  aC pg (bB t180 0) w fun t181 w =>
  aC pg (bB t180 1) w fun t182 w =>
  aC pg (aJ 82 gT t181) w fun _u w =>
  aC pg (bA 36 t12 (.int .i64 2)) w fun t184 w =>
  aC pg (aH 35 t184) w fun t185 w =>
  aC pg (aH 82 gT) w fun t187 w =>
  aR pg nM #[t185, gS, t187] w fun t188 w =>
  aC pg (bB t188 0) w fun t189 w =>
  aC pg (bB t188 1) w fun t190 w =>
  aC pg (aJ 82 gT t189) w fun _u w =>
  aC pg (bA 36 t12 (.int .i64 1)) w fun t192 w =>
  aC pg (aH 35 t192) w fun t193 w =>
  aC pg (aH 82 gT) w fun t195 w =>
  aR pg nM #[t193, gR, t195] w fun t196 w =>
  aC pg (bB t196 0) w fun t197 w =>
  aC pg (bB t196 1) w fun t198 w =>
  aC pg (aJ 82 gT t197) w fun _u w =>
  kn t5 bG lJ t12 gT t182 t198 t190 eF mW w)
  (kn t5 bG lJ t12 gT gQ gR gS eF mW w)
theorem We (kn : Aw) (hn : N10 Q kn 5 7 9 12 18 20 21 22 23 24) (h : Gu kn (g 5) (g 7) (g 9) (g 12) (g 18) (g 20) (g 21) (g 22) (g 23) (g 24) (g 174) w) : bH pg cY (aB 3 (aB 3 (bI (aB 1 (aD 2 (bI (bI (aB 1 (aD 1 (aB 6 (aB 1 (aB 11 cF)))))))))))) Q g w :=
 dR (kr := no) (l := []) h hn eQ trivial
def RC (kn : K11) (t5 bG lJ t12 gT gQ gR gS eF mW Uj : aJb) (w : aJa) : Prop :=
 aC pg (bA 36 t12 (.int .i64 0)) w fun t159 w =>
 aC pg (aH 35 t159) w fun t160 w =>
 aC pg (aH 82 gT) w fun t162 w =>
 aR pg nN #[(.int .i64 0), t160, gQ, t162] w fun t163 w =>
 aC pg (bB t163 0) w fun t164 w =>
 aC pg (bB t163 1) w fun t165 w =>
 aC pg (aJ 82 gT t164) w fun _u w =>
 aC pg (aL 47 Uj 0) w fun t166 w =>
 aC pg (aJ 43 t166 t165) w fun _u w =>
 aC pg (aH 47 Uj) w fun t168 w =>
 aC pg (bX 24 1 [(0, t168)]) w fun t169 w =>
 aC pg (jS .append #[24, 24] 24 [eF, t169]) w fun t170 w =>
 aC pg (aG .add 73 aM aM mW (.int .u64 1)) w fun t172 w =>
 aC pg (aG .lss 73 aM aM t172 lJ) w fun t174 w =>
 kn t5 bG lJ t12 gT gQ gR gS t170 mW t174 w
theorem Wk (kn : K11) (hn : N11 Q kn 5 7 9 12 18 20 21 22 23 24 174) (h : RC kn (g 5) (g 7) (g 9) (g 12) (g 18) (g 20) (g 21) (g 22) (g 23) (g 24) (g 25) w) : bH pg cY (aD 3 (aB 3 (bI (aB 1 (aD 2 (bI (bI (aB 1 (aD 1 (aB 6 (aB 1 (aB 11 cF)))))))))))) Q g w :=
 dR (kr := no) (l := []) h hn eQ trivial
def Q5 (kn : Aw) (t5 bG lJ t12 gT gQ gR gS eF mW Uj : aJb) (w : aJa) : Prop :=
 RC (fun t5 bG lJ t12 gT gQ gR gS eF mW t174 w => Gu kn t5 bG lJ t12 gT gQ gR gS eF mW t174 w) t5 bG lJ t12 gT gQ gR gS eF mW Uj w
def Ru (kn : K11) (t5 bG lJ t12 gT gQ gR gS eF mW : aJb) (w : aJa) : Prop :=
 aC pg (bT 47) w fun Uj w =>
 aC pg (bA 36 t12 (.int .i64 1)) w fun t141 w =>
 aC pg (aH 35 t141) w fun t142 w =>
 aC pg (aH 82 gT) w fun t144 w =>
 aR pg nN #[(.int .i64 1), t142, gR, t144] w fun t145 w =>
 aC pg (bB t145 0) w fun t146 w =>
 aC pg (bB t145 1) w fun t147 w =>
 aC pg (aJ 82 gT t146) w fun _u w =>
 aC pg (aL 47 Uj 2) w fun t148 w =>
 aC pg (aJ 43 t148 t147) w fun _u w =>
 aC pg (bA 36 t12 (.int .i64 2)) w fun t150 w =>
 aC pg (aH 35 t150) w fun t151 w =>
 aC pg (aH 82 gT) w fun t153 w =>
 aR pg nN #[(.int .i64 2), t151, gS, t153] w fun t154 w =>
 aC pg (bB t154 0) w fun t155 w =>
 aC pg (bB t154 1) w fun t156 w =>
 aC pg (aJ 82 gT t155) w fun _u w =>
 aC pg (aL 47 Uj 1) w fun t157 w =>
 aC pg (aJ 43 t157 t156) w fun _u w =>
 kn t5 bG lJ t12 gT gQ gR gS eF mW Uj w
theorem WL (kn : K11) (hn : N11 Q kn 5 7 9 12 18 20 21 22 23 24 25) (h : Ru kn (g 5) (g 7) (g 9) (g 12) (g 18) (g 20) (g 21) (g 22) (g 23) (g 24) w) : bH pg cY (aD 3 (bI (aB 1 (aD 2 (bI (bI (aB 1 (aD 1 (aB 6 (aB 1 (aB 11 cF))))))))))) Q g w :=
 dR (kr := no) (l := []) h hn eQ trivial
def aiE (kn : Aw) (t5 bG lJ t12 gT gQ gR gS eF mW : aJb) (w : aJa) : Prop :=
 Ru (fun t5 bG lJ t12 gT gQ gR gS eF mW Uj w => Q5 kn t5 bG lJ t12 gT gQ gR gS eF mW Uj w) t5 bG lJ t12 gT gQ gR gS eF mW w
def Rt (kn : Aw) (t5 bG lJ t12 gT gQ gR gS eF mW : aJb) (w : aJa) : Prop :=
 aiE kn t5 bG lJ t12 gT gQ gR gS eF mW w
def Rq (kn : Aw) (k2 : K5) (t5 bG lJ t12 gT gQ gR gS eF mW : aJb) (w : aJa) : Prop :=
 aC pg (aG .lss 73 aM aM mW lJ) w fun t137 w =>
 eN t137
  (kn t5 bG lJ t12 gT gQ gR gS eF mW w)
  (k2 t5 bG t12 gT eF w)
theorem Wl (kn : Aw) (k2 : K5) (hn : N10 Q kn 5 7 9 12 18 20 21 22 23 24) (h2 : E5 Q k2 2 5 7 12 18 23) (h : Rq kn k2 (g 5) (g 7) (g 9) (g 12) (g 18) (g 20) (g 21) (g 22) (g 23) (g 24) w) : bH pg cY (aD 1 (aD 2 (bI (bI (aB 1 (aD 1 (aB 6 (aB 1 (aB 11 cF))))))))) Q g w :=
 dR (kr := no) (l := [(2, fun g w => k2 (g 5) (g 7) (g 12) (g 18) (g 23) w)]) h hn eQ ⟨h2, trivial⟩
def ahJ (kn : Aw) (k2 : K5) (t5 bG lJ t12 gT gQ gR gS eF mW : aJb) (w : aJa) : Prop :=
 Rq (fun t5 bG lJ t12 gT gQ gR gS eF mW w => Rt kn t5 bG lJ t12 gT gQ gR gS eF mW w) k2 t5 bG lJ t12 gT gQ gR gS eF mW w
theorem Wg (kn : Aw) (k2 : K5) (hn : N10 Q kn 5 7 9 12 18 20 21 22 23 24) (h2 : E5 Q k2 2 5 7 12 18 23) (h : ahJ kn k2 (g 5) (g 7) (g 9) (g 12) (g 18) (g 20) (g 21) (g 22) (g 23) (g 24) w) : bH pg cY (aD 2 (bI (bI (aB 1 (aD 1 (aB 6 (aB 1 (aB 11 cF)))))))) Q g w :=
 fQ 1 (Wl _ g w (Rt kn) k2 (fun g w h => aK (tX 3 (fQ 3 (WL _ g w (Q5 kn) (fun g w h => aK (fQ 3 (Wk _ g w (Gu kn) (fun g w h => aK (We _ g w kn hn h)) h))) h)))) h2 h)
def No (kn : Aw) (k2 : K5) (t5 bG lJ t12 gT gQ gR gS eF mW : aJb) (w : aJa) : Prop :=
 aC pg (aG .lss 73 aM aM mW lJ) w fun t137 w =>
 eN t137
  (aC pg (bT 47) w fun Uj w =>
  aC pg (bA 36 t12 (.int .i64 1)) w fun t141 w =>
  aC pg (aH 35 t141) w fun t142 w =>
  aC pg (aH 82 gT) w fun t144 w =>
  aR pg nN #[(.int .i64 1), t142, gR, t144] w fun t145 w =>
  aC pg (bB t145 0) w fun t146 w =>
  aC pg (bB t145 1) w fun t147 w =>
  aC pg (aJ 82 gT t146) w fun _u w =>
  aC pg (aL 47 Uj 2) w fun t148 w =>
  aC pg (aJ 43 t148 t147) w fun _u w =>
  aC pg (bA 36 t12 (.int .i64 2)) w fun t150 w =>
  aC pg (aH 35 t150) w fun t151 w =>
  aC pg (aH 82 gT) w fun t153 w =>
  aR pg nN #[(.int .i64 2), t151, gS, t153] w fun t154 w =>
  aC pg (bB t154 0) w fun t155 w =>
  aC pg (bB t154 1) w fun t156 w =>
  aC pg (aJ 82 gT t155) w fun _u w =>
  aC pg (aL 47 Uj 1) w fun t157 w =>
  aC pg (aJ 43 t157 t156) w fun _u w =>
  aC pg (bA 36 t12 (.int .i64 0)) w fun t159 w =>
  aC pg (aH 35 t159) w fun t160 w =>
  aC pg (aH 82 gT) w fun t162 w =>
  aR pg nN #[(.int .i64 0), t160, gQ, t162] w fun t163 w =>
  aC pg (bB t163 0) w fun t164 w =>
  aC pg (bB t163 1) w fun t165 w =>
  aC pg (aJ 82 gT t164) w fun _u w =>
  aC pg (aL 47 Uj 0) w fun t166 w =>
  aC pg (aJ 43 t166 t165) w fun _u w =>
  aC pg (aH 47 Uj) w fun t168 w =>
  aC pg (bX 24 1 [(0, t168)]) w fun t169 w =>
  aC pg (jS .append #[24, 24] 24 [eF, t169]) w fun t170 w =>
  aC pg (aG .add 73 aM aM mW (.int .u64 1)) w fun t172 w =>
  aC pg (aG .lss 73 aM aM t172 lJ) w fun t174 w =>
  eN t174
   (aC pg (bA 36 t12 (.int .i64 0)) w fun t176 w =>
   aC pg (aH 35 t176) w fun t177 w =>
   aC pg (aH 82 gT) w fun t179 w =>
   aR pg nM #[t177, gQ, t179] w fun t180 w =>
   aC pg (bB t180 0) w fun t181 w =>
   aC pg (bB t180 1) w fun t182 w =>
   aC pg (aJ 82 gT t181) w fun _u w =>
   aC pg (bA 36 t12 (.int .i64 2)) w fun t184 w =>
   aC pg (aH 35 t184) w fun t185 w =>
   aC pg (aH 82 gT) w fun t187 w =>
   aR pg nM #[t185, gS, t187] w fun t188 w =>
   aC pg (bB t188 0) w fun t189 w =>
   aC pg (bB t188 1) w fun t190 w =>
   aC pg (aJ 82 gT t189) w fun _u w =>
   aC pg (bA 36 t12 (.int .i64 1)) w fun t192 w =>
   aC pg (aH 35 t192) w fun t193 w =>
   aC pg (aH 82 gT) w fun t195 w =>
   aR pg nM #[t193, gR, t195] w fun t196 w =>
   aC pg (bB t196 0) w fun t197 w =>
   aC pg (bB t196 1) w fun t198 w =>
   aC pg (aJ 82 gT t197) w fun _u w =>
   kn t5 bG lJ t12 gT t182 t198 t190 t170 mW w)
   (kn t5 bG lJ t12 gT gQ gR gS t170 mW w))
  (k2 t5 bG t12 gT eF w)
theorem abF (kn : Aw) (k2 : K5) (hn : N10 Q kn 5 7 9 12 18 20 21 22 23 24) (h2 : E5 Q k2 2 5 7 12 18 23) (h : No kn k2 (g 5) (g 7) (g 9) (g 12) (g 18) (g 20) (g 21) (g 22) (g 23) (g 24) w) : bH pg cY (aD 2 (bI (bI (aB 1 (aD 1 (aB 6 (aB 1 (aB 11 cF)))))))) Q g w :=
 Wg Q g w kn k2 hn h2 (Eq.mp (by kernel_rfl) h)
def Fv (kn : Aw) (k2 : K5) (t5 bG lJ t12 gT gQ gR gS eF mW : aJb) (w : aJa) : Prop :=
 No (fun t5 bG lJ t12 gT gQ gR gS eF mW w => Au kn t5 bG lJ t12 gT gQ gR gS eF mW w) k2 t5 bG lJ t12 gT gQ gR gS eF mW w
def FM (k2 : K5) (t5 bG lJ t12 gT gQ gR gS eF mW : aJb) (w : aJa) : Prop :=
 cG (fun (X : (aJb × aJb × aJb × aJb × aJb) -> K0) (t : aJb × aJb × aJb × aJb × aJb) (w : aJa) => Fv (fun _ _ _ _ _ gQ gR gS eF mW w => X (gQ, gR, gS, eF, mW) w) k2 t5 bG lJ t12 gT t.1 t.2.1 t.2.2.1 t.2.2.2.1 t.2.2.2.2 w) (gQ, gR, gS, eF, mW) w
theorem acK (kn : Aw) (k2 : K5) (hn : N10 Q kn 5 7 9 12 18 20 21 22 23 24) (h2 : E5 Q k2 2 5 7 12 18 23) (h : Fv kn k2 (g 5) (g 7) (g 9) (g 12) (g 18) (g 20) (g 21) (g 22) (g 23) (g 24) w) : bH pg cY (bI (bI (aB 1 (aD 1 (aB 6 (aB 1 (aB 11 cF))))))) Q g w :=
 fQ 2 (abF _ g w (Au kn) k2 (fun g w h => aK (afR _ g w kn hn h)) h2 h)
theorem aaZ (k2 : K5) (h2 : E5 Q k2 2 5 7 12 18 23) (h : FM k2 (g 5) (g 7) (g 9) (g 12) (g 18) (g 20) (g 21) (g 22) (g 23) (g 24) w) : bH pg cY (bI (aB 1 (aD 1 (aB 6 (aB 1 (aB 11 cF)))))) Q g w := by
 refine DO (fun g : Env => (g 20, g 21, g 22, g 23, g 24)) (fun X t w => Fv (fun _ _ _ _ _ gQ gR gS eF mW w => X (gQ, gR, gS, eF, mW) w) k2 (g 5) (g 7) (g 9) (g 12) (g 18) t.1 t.2.1 t.2.2.1 t.2.2.2.1 t.2.2.2.2 w) h (fun X g1 w1 ha hL => ?_)
 rw [<- fE 5 ha, <- fE 7 ha, <- fE 9 ha, <- fE 12 ha, <- fE 18 ha] at hL
 exact (acK _ g1 w1 (fun _ _ _ _ _ gQ gR gS eF mW w => X (gQ, gR, gS, eF, mW) w) k2 (fun _ _ h => h) h2 hL)
def NU (kn : K5) (t5 bG lJ t12 gT gQ gR gS eF mW : aJb) (w : aJa) : Prop :=
 FM kn t5 bG lJ t12 gT gQ gR gS eF mW w
def Mu (kn : Aw) (t5 bG lJ t12 gT gQ gR gS eF : aJb) (w : aJa) : Prop :=
 kn t5 bG lJ t12 gT gQ gR gS eF (.int .u64 0) w
theorem abO (kn : Aw) (hn : N10 Q kn 5 7 9 12 18 20 21 22 23 24) (h : Mu kn (g 5) (g 7) (g 9) (g 12) (g 18) (g 20) (g 21) (g 22) (g 23) w) : bH pg cY (aD 1 (aD 1 (aB 6 (aB 1 (aB 11 cF))))) Q g w :=
 dR (kr := no) (l := []) h hn eQ trivial
def MD (kn : K5) (t5 bG lJ t12 gT gQ gR gS eF : aJb) (w : aJa) : Prop :=
 Mu (fun t5 bG lJ t12 gT gQ gR gS eF mW w => NU kn t5 bG lJ t12 gT gQ gR gS eF mW w) t5 bG lJ t12 gT gQ gR gS eF w
def NF (R : K1) (t5 bG lJ t12 gT gQ gR gS eF : aJb) (w : aJa) : Prop :=
 MD (fun t5 bG t12 gT eF w => FP R t5 bG t12 gT eF w) t5 bG lJ t12 gT gQ gR gS eF w
theorem afM (kn : K5) (hn : N5 Q kn 5 7 12 18 23) (h : MD kn (g 5) (g 7) (g 9) (g 12) (g 18) (g 20) (g 21) (g 22) (g 23) w) : bH pg cY (aD 1 (aB 6 (aB 1 (aB 11 cF)))) Q g w :=
 fQ 1 (abO _ g w (NU kn) (fun g w h => aK (tX 2 (aaZ _ g w kn hn h))) h)
def KU (kn : K9) (R : K1) (t5 bG lJ t12 dL : aJb) (w : aJa) : Prop :=
 aR pg Gl #[dL] w fun t107 w =>
 aC pg (bB t107 0) w fun t108 w =>
 aC pg (bB t107 1) w fun t109 w =>
 aC pg (bT 82) w fun gT w =>
 aC pg (aJ 82 gT t108) w fun _u w =>
 aC pg (aG .neq 30 (.tmp 110) (.const (.int .i64 0)) t109 (.int .i64 0)) w fun t111 w =>
 eN t111
  (aC pg (aH 36 bG) (dr w) fun t112 w_ => w_ = (dr w) /\
  (dr w) = (dr w) /\
  (dr w) = (dr w) /\
  aC pg (aJ 36 t5 t112) (dr w) fun _u3 aAz =>
  aAz = aAz /\
  kC pg 36 t5 aAz fun r1 => R (.tuple #[(.slice none 0 0), r1, t109]) aAz)
  (aC pg (bA 36 t12 (.int .i64 0)) w fun t115 w =>
  aC pg (aH 35 t115) w fun t116 w =>
  aC pg (aH 82 gT) w fun t117 w =>
  aR pg sC #[t116, t117] w fun t118 w =>
  aC pg (bB t118 0) w fun t119 w =>
  aC pg (bB t118 1) w fun t120 w =>
  aC pg (aJ 82 gT t119) w fun _u w =>
  aC pg (bA 36 t12 (.int .i64 1)) w fun t122 w =>
  aC pg (aH 35 t122) w fun t123 w =>
  aC pg (aH 82 gT) w fun t124 w =>
  aR pg sC #[t123, t124] w fun t125 w =>
  aC pg (bB t125 0) w fun t126 w =>
  aC pg (bB t125 1) w fun t127 w =>
  aC pg (aJ 82 gT t126) w fun _u w =>
  aC pg (bA 36 t12 (.int .i64 2)) w fun t129 w =>
  aC pg (aH 35 t129) w fun t130 w =>
  aC pg (aH 82 gT) w fun t131 w =>
  aR pg sC #[t130, t131] w fun t132 w =>
  aC pg (bB t132 0) w fun t133 w =>
  aC pg (bB t132 1) w fun t134 w =>
  aC pg (aJ 82 gT t133) w fun _u w =>
  kn t5 bG lJ t12 gT t120 t127 t134 (.slice none 0 0) w)
theorem Z4 (kn : K9) (R : K1) (hn : N9 Q kn 5 7 9 12 18 20 21 22 23) (hr : HR iY R Q) (h : KU kn R (g 5) (g 7) (g 9) (g 12) (g 13) w) : bH pg cY (aD 6 (aB 1 (aB 11 cF))) Q g w :=
 dR (l := []) h hn hr trivial
def CH (R : K1) (t5 bG lJ t12 dL : aJb) (w : aJa) : Prop :=
 KU (fun t5 bG lJ t12 gT gQ gR gS eF w => NF R t5 bG lJ t12 gT gQ gR gS eF w) R t5 bG lJ t12 dL w
def xM (kn : K8) (cI t5 bG lJ dX t12 dL oR : aJb) (w : aJa) : Prop :=
 aC pg (aG .add 3 aM aM oR (.int .i64 1)) w fun t80 w =>
 kn cI t5 bG lJ dX t12 dL t80 w
theorem Ze (kn : K8) (hn : N8 Q kn 3 5 7 9 11 12 13 14) (h : xM kn (g 3) (g 5) (g 7) (g 9) (g 11) (g 12) (g 13) (g 14) w) : bH pg cY (aB 1 (aB 1 (bI (bI (aB 1 (aD 1 (aB 11 cF))))))) Q g w :=
 dR (kr := no) (l := []) h hn eQ trivial
def qL (kn : K8) (R : K1) (cI t5 bG lJ dX t12 dL oR alK ZX aAM : aJb) (w : aJa) : Prop :=
 aC pg (aG .neq 30 (.tmp 95) (.const (.int .i64 0)) aAM (.int .i64 0)) w fun t96 w =>
 eN t96
  (aC pg (aH 36 bG) (dr w) fun t97 w_ => w_ = (dr w) /\
  (dr w) = (dr w) /\
  (dr w) = (dr w) /\
  aC pg (aJ 36 t5 t97) (dr w) fun _u3 azT =>
  azT = azT /\
  kC pg 36 t5 azT fun r1 => R (.tuple #[(.slice none 0 0), r1, aAM]) azT)
  (aC pg (aH 35 alK) w fun t100 w =>
  aC pg (bA 36 t12 oR) w fun t101 w =>
  aC pg (aJ 35 t101 t100) w fun _u w =>
  aC pg (fJ 9 dL (some ZX) none none) w fun t104 w =>
  kn cI t5 bG lJ dX t12 t104 oR w)
theorem XR (kn : K8) (R : K1) (hn : N8 Q kn 3 5 7 9 11 12 13 14) (hr : HR iY R Q) (h : qL kn R (g 3) (g 5) (g 7) (g 9) (g 11) (g 12) (g 13) (g 14) (g 15) (g 16) (g 17) w) : bH pg cY (aB 1 (bI (aD 1 (aB 1 (bI (bI (aB 1 (aD 1 (aB 11 cF))))))))) Q g w :=
 dR (l := []) h hn hr trivial
def Lh (kn : K11) (cI t5 bG lJ dX t12 dL oR : aJb) (w : aJa) : Prop :=
 Ord (aoR CB 20 (Ia 20 cF) 9 14 w)
  ((dr w) = (dr w) /\
  (dr w) = (dr w) /\
  (dr w) = (dr w) /\
  aC pg (bA 77 dX oR) (dr w) fun t85 w_ => w_ = (dr w) /\
  aC pg (aH 3 t85) (dr w) fun t86 w_ => w_ = (dr w) /\
  (dr w) = (dr w) /\
  (dr w) = (dr w) /\
  aC pg (bA 36 cI oR) (dr w) fun t89 w_ => w_ = (dr w) /\
  aC pg (aH 35 t89) (dr w) fun t90 w_ => w_ = (dr w) /\
  aR pg Cr #[oR, t86, dL, t90] (dr w) fun t91 JK =>
  JK = JK /\
  aC pg (bB t91 0) JK fun t92 w_ => w_ = JK /\
  aC pg (bB t91 1) JK fun t93 w_ => w_ = JK /\
  aC pg (bB t91 2) JK fun t94 w_ => w_ = JK /\
  aC pg (bT 35) JK fun alK asF =>
  (eC pg (bB t91 2) t94 asF /\ eC pg (bB t91 1) t93 asF /\ eC pg (bB t91 0) t92 asF /\ True) /\
  aC pg (aJ 35 alK t92) asF fun _u15 BK =>
  (eC pg (bB t91 2) t94 BK /\ eC pg (bB t91 1) t93 BK /\ True) /\
  BK = BK /\
  BK = BK /\
  kn cI t5 bG lJ dX t12 dL oR alK t93 t94 BK)
  ((dr w) = (dr w) /\
  (dr w) = (dr w) /\
  (dr w) = (dr w) /\
  aC pg (bA 77 dX oR) (dr w) fun t85 w_ => w_ = (dr w) /\
  aC pg (aH 3 t85) (dr w) fun t86 w_ => w_ = (dr w) /\
  (dr w) = (dr w) /\
  (dr w) = (dr w) /\
  aC pg (bA 36 cI oR) (dr w) fun t89 w_ => w_ = (dr w) /\
  aC pg (aH 35 t89) (dr w) fun t90 w_ => w_ = (dr w) /\
  aC pg (bT 35) (dr w) fun alK JK =>
  (eC pg (aH 35 t89) t90 JK /\ eC pg (bA 36 cI oR) t89 JK /\ eC pg (aH 3 t85) t86 JK /\ eC pg (bA 77 dX oR) t85 JK /\ True) /\
  aR pg Cr #[oR, t86, dL, t90] JK fun t91 Qg =>
  Qg = Qg /\
  aC pg (bB t91 0) Qg fun t92 w_ => w_ = Qg /\
  aC pg (bB t91 1) Qg fun t93 w_ => w_ = Qg /\
  aC pg (bB t91 2) Qg fun t94 w_ => w_ = Qg /\
  aC pg (aJ 35 alK t92) Qg fun _u15 BK =>
  (eC pg (bB t91 2) t94 BK /\ eC pg (bB t91 1) t93 BK /\ True) /\
  BK = BK /\
  BK = BK /\
  kn cI t5 bG lJ dX t12 dL oR alK t93 t94 BK)
theorem Y4 (kn : K11) (hn : N11 Q kn 3 5 7 9 11 12 13 14 15 16 17) (h : Lh kn (g 3) (g 5) (g 7) (g 9) (g 11) (g 12) (g 13) (g 14) w) : bH pg cY (aD 1 (bI (aD 1 (aB 1 (bI (bI (aB 1 (aD 1 (aB 11 cF))))))))) Q g w :=
 dR (kr := no) (l := []) h hn eQ trivial
def SW (kn : K8) (R : K1) (cI t5 bG lJ dX t12 dL oR : aJb) (w : aJa) : Prop :=
 Lh (fun cI t5 bG lJ dX t12 dL oR alK ZX aAM w => qL kn R cI t5 bG lJ dX t12 dL oR alK ZX aAM w) cI t5 bG lJ dX t12 dL oR w
def KY (kn : K8) (R : K1) (cI t5 bG lJ dX t12 dL oR : aJb) (w : aJa) : Prop :=
 SW kn R cI t5 bG lJ dX t12 dL oR w
def KP (kn : K8) (R : K1) (cI t5 bG lJ dX t12 dL oR : aJb) (w : aJa) : Prop :=
 KY (fun cI t5 bG lJ dX t12 dL oR w => xM kn cI t5 bG lJ dX t12 dL oR w) R cI t5 bG lJ dX t12 dL oR w
theorem YN (kn : K8) (R : K1) (hn : N8 Q kn 3 5 7 9 11 12 13 14) (hr : HR iY R Q) (h : KY kn R (g 3) (g 5) (g 7) (g 9) (g 11) (g 12) (g 13) (g 14) w) : bH pg cY (aD 1 (aB 1 (bI (bI (aB 1 (aD 1 (aB 11 cF))))))) Q g w :=
 tX 1 (fQ 1 (Y4 _ g w (qL kn R) (fun g w h => aK (XR _ g w kn R hn hr h)) h))
def Lq (kn : K8) (k0 : K5) (cI t5 bG lJ dX t12 dL oR : aJb) (w : aJa) : Prop :=
 aC pg (aG .lss 3 aM aM oR (.int .i64 3)) w fun t78 w =>
 eN t78
  (kn cI t5 bG lJ dX t12 dL oR w)
  (k0 t5 bG lJ t12 dL w)
theorem Zy (kn : K8) (k0 : K5) (hn : N8 Q kn 3 5 7 9 11 12 13 14) (h0 : E5 Q k0 0 5 7 9 12 13) (h : Lq kn k0 (g 3) (g 5) (g 7) (g 9) (g 11) (g 12) (g 13) (g 14) w) : bH pg cY (aD 1 (bI (bI (aB 1 (aD 1 (aB 11 cF)))))) Q g w :=
 dR (kr := no) (l := [(0, fun g w => k0 (g 5) (g 7) (g 9) (g 12) (g 13) w)]) h hn eQ ⟨h0, trivial⟩
def DH (kn : K8) (k0 : K5) (R : K1) (cI t5 bG lJ dX t12 dL oR : aJb) (w : aJa) : Prop :=
 Lq (fun cI t5 bG lJ dX t12 dL oR w => KP kn R cI t5 bG lJ dX t12 dL oR w) k0 cI t5 bG lJ dX t12 dL oR w
def DF (k0 : K5) (R : K1) (cI t5 bG lJ dX t12 dL oR : aJb) (w : aJa) : Prop :=
 cG (fun (X : (aJb × aJb) -> K0) (t : aJb × aJb) (w : aJa) => DH (fun _ _ _ _ _ _ dL oR w => X (dL, oR) w) k0 R cI t5 bG lJ dX t12 t.1 t.2 w) (dL, oR) w
theorem YU (kn : K8) (k0 : K5) (R : K1) (hn : N8 Q kn 3 5 7 9 11 12 13 14) (h0 : E5 Q k0 0 5 7 9 12 13) (hr : HR iY R Q) (h : DH kn k0 R (g 3) (g 5) (g 7) (g 9) (g 11) (g 12) (g 13) (g 14) w) : bH pg cY (bI (bI (aB 1 (aD 1 (aB 11 cF))))) Q g w :=
 fQ 1 (Zy _ g w (KP kn R) k0 (fun g w h => aK (fQ 1 (YN _ g w (xM kn) R (fun g w h => aK (Ze _ g w kn hn h)) hr h))) h0 h)
theorem Yf (k0 : K5) (R : K1) (h0 : E5 Q k0 0 5 7 9 12 13) (hr : HR iY R Q) (h : DF k0 R (g 3) (g 5) (g 7) (g 9) (g 11) (g 12) (g 13) (g 14) w) : bH pg cY (bI (aB 1 (aD 1 (aB 11 cF)))) Q g w := by
 refine DO (fun g : Env => (g 13, g 14)) (fun X t w => DH (fun _ _ _ _ _ _ dL oR w => X (dL, oR) w) k0 R (g 3) (g 5) (g 7) (g 9) (g 11) (g 12) t.1 t.2 w) h (fun X g1 w1 ha hL => ?_)
 rw [<- fE 3 ha, <- fE 5 ha, <- fE 7 ha, <- fE 9 ha, <- fE 11 ha, <- fE 12 ha] at hL
 exact (YU _ g1 w1 (fun _ _ _ _ _ _ dL oR w => X (dL, oR) w) k0 R (fun _ _ h => h) h0 hr hL)
def J9 (kn : K5) (R : K1) (cI t5 bG lJ dX t12 dL oR : aJb) (w : aJa) : Prop :=
 DF kn R cI t5 bG lJ dX t12 dL oR w
def Kl (kn : K8) (cI t5 bG lJ dX t12 dL : aJb) (w : aJa) : Prop :=
 kn cI t5 bG lJ dX t12 dL (.int .i64 0) w
theorem ZI (kn : K8) (hn : N8 Q kn 3 5 7 9 11 12 13 14) (h : Kl kn (g 3) (g 5) (g 7) (g 9) (g 11) (g 12) (g 13) w) : bH pg cY (aD 1 (aD 1 (aB 11 cF))) Q g w :=
 dR (kr := no) (l := []) h hn eQ trivial
def Ka (kn : K5) (R : K1) (cI t5 bG lJ dX t12 dL : aJb) (w : aJa) : Prop :=
 Kl (fun cI t5 bG lJ dX t12 dL oR w => J9 kn R cI t5 bG lJ dX t12 dL oR w) cI t5 bG lJ dX t12 dL w
def KE (R : K1) (cI t5 bG lJ dX t12 dL : aJb) (w : aJa) : Prop :=
 Ka (fun t5 bG lJ t12 dL w => CH R t5 bG lJ t12 dL w) R cI t5 bG lJ dX t12 dL w
theorem ZB (kn : K5) (R : K1) (hn : N5 Q kn 5 7 9 12 13) (hr : HR iY R Q) (h : Ka kn R (g 3) (g 5) (g 7) (g 9) (g 11) (g 12) (g 13) w) : bH pg cY (aD 1 (aB 11 cF)) Q g w :=
 fQ 1 (ZI _ g w (J9 kn R) (fun g w h => aK (tX 0 (Yf _ g w kn R hn hr h))) h)
def EH (kn : K7) (R : K1) (cI t5 bG RL lJ avR : aJb) (w : aJa) : Prop :=
 aC pg (aG .rem 73 aM aM avR (.int .u64 4)) w fun t59 w =>
 aC pg (aG .neq 73 (.tmp 59) (.const (.int .u64 0)) t59 (.int .u64 0)) w fun t60 w =>
 eN t60
  (aC pg (aH 36 bG) (dr w) fun t61 w_ => w_ = (dr w) /\
  (dr w) = (dr w) /\
  aC pg (aJ 36 t5 t61) (dr w) fun _u2 Yh =>
  Yh = Yh /\
  kC pg 36 t5 Yh fun r1 => R (.tuple #[(.slice none 0 0), r1, (.int .i64 11)]) Yh)
  (aC pg (aG .quo 73 aM aM avR (.int .u64 64)) w fun t63 w =>
  aC pg (fM 73 3 t63) w fun t64 w =>
  aC pg (aG .quo 73 aM aM avR (.int .u64 16)) w fun t66 w =>
  aC pg (aG .rem 73 aM aM t66 (.int .u64 4)) w fun t67 w =>
  aC pg (fM 73 3 t67) w fun t68 w =>
  aC pg (aG .quo 73 aM aM avR (.int .u64 4)) w fun t70 w =>
  aC pg (aG .rem 73 aM aM t70 (.int .u64 4)) w fun t71 w =>
  aC pg (fM 73 3 t71) w fun t72 w =>
  aC pg (bX 77 3 [(0, t64), (1, t68), (2, t72)]) w fun t73 w =>
  aC pg (aH 36 cI) w fun t74 w =>
  aC pg (bT 36) w fun t12 w =>
  aC pg (aJ 36 t12 t74) w fun _u w =>
  aC pg (aL 72 RL 0) w fun t75 w =>
  aC pg (aH 9 t75) w fun t76 w =>
  kn cI t5 bG lJ t73 t12 t76 w)
theorem U3 (kn : K7) (R : K1) (hn : N7 Q kn 3 5 7 9 11 12 13) (hr : HR iY R Q) (h : EH kn R (g 3) (g 5) (g 7) (g 8) (g 9) (g 10) w) : bH pg cY (aB 3 (aB 4 (aD 11 cF))) Q g w :=
 dR (l := []) h hn hr trivial
def OX (kn : K6) (R : K1) (cI t5 bG RL lJ : aJb) (w : aJa) : Prop :=
 aC pg (aG .eql 73 (.tmp 39) (.const (.int .u64 0)) lJ (.int .u64 0)) w fun t40 w =>
 eN t40
  (aC pg (aL 72 RL 0) w fun t41 w =>
  aC pg (aH 9 t41) w fun t42 w =>
  aC pg (jS .len #[9] 3 [t42]) w fun t43 w =>
  aC pg (aG .gtr 3 aM aM t43 (.int .i64 0)) w fun t44 w =>
  eN t44
   (aC pg (aH 36 bG) (dr w) fun t45 w_ => w_ = (dr w) /\
   (dr w) = (dr w) /\
   aC pg (aJ 36 t5 t45) (dr w) fun _u2 atA =>
   atA = atA /\
   kC pg 36 t5 atA fun r1 => R (.tuple #[(.slice none 0 0), r1, (.int .i64 15)]) atA)
   (aC pg (aH 36 cI) (dr w) fun t46 w_ => w_ = (dr w) /\
   (dr w) = (dr w) /\
   aC pg (aJ 36 t5 t46) (dr w) fun _u2 aaD =>
   aaD = aaD /\
   kC pg 36 t5 aaD fun r1 => R (.tuple #[(.slice none 0 0), r1, (.int .i64 0)]) aaD))
  (aC pg (aH 72 RL) w fun t48 w =>
  aR pg nT #[t48, (.int .i64 1)] w fun t49 w =>
  aC pg (bB t49 0) w fun t50 w =>
  aC pg (bB t49 1) w fun t51 w =>
  aC pg (aJ 72 RL t50) w fun _u w =>
  aC pg (aL 72 RL 1) w fun t52 w =>
  aC pg (aH 30 t52) w fun t53 w =>
  aC pg (aG .neq 30 (.tmp 53) (.const (.int .i64 0)) t53 (.int .i64 0)) w fun t54 w =>
  eN t54
   (aC pg (aH 36 bG) (dr w) fun t55 w_ => w_ = (dr w) /\
   aC pg (aL 72 RL 1) (dr w) fun t56 w_ => w_ = (dr w) /\
   aC pg (aH 30 t56) (dr w) fun t57 w_ => w_ = (dr w) /\
   (dr w) = (dr w) /\
   aC pg (aJ 36 t5 t55) (dr w) fun _u4 OY =>
   (eC pg (aH 30 t56) t57 OY /\ eC pg (aL 72 RL 1) t56 OY /\ True) /\
   OY = OY /\
   kC pg 36 t5 OY fun r1 => R (.tuple #[(.slice none 0 0), r1, t57]) OY)
   (kn cI t5 bG RL lJ t51 w))
theorem Vh (kn : K6) (R : K1) (hn : N6 Q kn 3 5 7 8 9 10) (hr : HR iY R Q) (h : OX kn R (g 3) (g 5) (g 7) (g 8) (g 9) w) : bH pg cY (aD 3 (aB 4 (aD 11 cF))) Q g w :=
 dR (l := []) h hn hr trivial
def Pn (kn : K7) (R : K1) (cI t5 bG RL lJ : aJb) (w : aJa) : Prop :=
 OX (fun cI t5 bG RL lJ avR w => EH kn R cI t5 bG RL lJ avR w) R cI t5 bG RL lJ w
def OD (kn : K5) (R : K1) (wB KJ : aJb) (w : aJa) : Prop :=
 aC pg (rA 36 KJ) w fun cI w =>
 aC pg (bT 36) w fun t5 w =>
 aC pg (bT 36) w fun bG w =>
 aC pg (bV 72 [(0, wB)]) w fun t29 w =>
 aR pg xS #[t29] w fun t30 w =>
 aC pg (bB t30 0) w fun t31 w =>
 aC pg (bB t30 1) w fun t32 w =>
 aC pg (bT 72) w fun RL w =>
 aC pg (aJ 72 RL t31) w fun _u w =>
 aC pg (aL 72 RL 1) w fun t33 w =>
 aC pg (aH 30 t33) w fun t34 w =>
 aC pg (aG .neq 30 (.tmp 34) (.const (.int .i64 0)) t34 (.int .i64 0)) w fun t35 w =>
 eN t35
  (aC pg (aH 36 bG) (dr w) fun t36 w_ => w_ = (dr w) /\
  aC pg (aL 72 RL 1) (dr w) fun t37 w_ => w_ = (dr w) /\
  aC pg (aH 30 t37) (dr w) fun t38 w_ => w_ = (dr w) /\
  (dr w) = (dr w) /\
  aC pg (aJ 36 t5 t36) (dr w) fun _u4 adH =>
  (eC pg (aH 30 t37) t38 adH /\ eC pg (aL 72 RL 1) t37 adH /\ True) /\
  adH = adH /\
  kC pg 36 t5 adH fun r1 => R (.tuple #[(.slice none 0 0), r1, t38]) adH)
  (kn cI t5 bG RL t32 w)
theorem Vm (kn : K5) (R : K1) (hn : N5 Q kn 3 5 7 8 9) (hr : HR iY R Q) (h : OD kn R (g 0) (g 1) w) : bH pg cY (aD 4 (aD 11 cF)) Q g w :=
 dR (l := []) h hn hr trivial
def acV (kn : K7) (R : K1) (wB KJ : aJb) (w : aJa) : Prop :=
 OD (fun cI t5 bG RL lJ w => Pn kn R cI t5 bG RL lJ w) R wB KJ w
theorem Vd (kn : K7) (R : K1) (hn : N7 Q kn 3 5 7 9 11 12 13) (hr : HR iY R Q) (h : acV kn R (g 0) (g 1) w) : bH pg cY (aD 11 cF) Q g w :=
 fQ 4 (Vm _ g w (Pn kn R) R (fun g w h => aK (fQ 3 (Vh _ g w (EH kn R) R (fun g w h => aK (U3 _ g w kn R hn hr h)) hr h))) hr h)
def Je (kn : K7) (R : K1) (wB KJ : aJb) (w : aJa) : Prop :=
 aC pg (rA 36 KJ) w fun cI w =>
 aC pg (bT 36) w fun t5 w =>
 aC pg (bT 36) w fun bG w =>
 aC pg (bV 72 [(0, wB)]) w fun t29 w =>
 aR pg xS #[t29] w fun t30 w =>
 aC pg (bB t30 0) w fun t31 w =>
 aC pg (bB t30 1) w fun t32 w =>
 aC pg (bT 72) w fun RL w =>
 aC pg (aJ 72 RL t31) w fun _u w =>
 aC pg (aL 72 RL 1) w fun t33 w =>
 aC pg (aH 30 t33) w fun t34 w =>
 aC pg (aG .neq 30 (.tmp 34) (.const (.int .i64 0)) t34 (.int .i64 0)) w fun t35 w =>
 eN t35
  (aC pg (aH 36 bG) (dr w) fun t36 w_ => w_ = (dr w) /\
  aC pg (aL 72 RL 1) (dr w) fun t37 w_ => w_ = (dr w) /\
  aC pg (aH 30 t37) (dr w) fun t38 w_ => w_ = (dr w) /\
  (dr w) = (dr w) /\
  aC pg (aJ 36 t5 t36) (dr w) fun _u4 adH =>
  (eC pg (aH 30 t37) t38 adH /\ eC pg (aL 72 RL 1) t37 adH /\ True) /\
  adH = adH /\
  kC pg 36 t5 adH fun r1 => R (.tuple #[(.slice none 0 0), r1, t38]) adH)
  (aC pg (aG .eql 73 (.tmp 39) (.const (.int .u64 0)) t32 (.int .u64 0)) w fun t40 w =>
  eN t40
   (aC pg (aL 72 RL 0) w fun t41 w =>
   aC pg (aH 9 t41) w fun t42 w =>
   aC pg (jS .len #[9] 3 [t42]) w fun t43 w =>
   aC pg (aG .gtr 3 aM aM t43 (.int .i64 0)) w fun t44 w =>
   eN t44
    (aC pg (aH 36 bG) (dr w) fun t45 w_ => w_ = (dr w) /\
    (dr w) = (dr w) /\
    aC pg (aJ 36 t5 t45) (dr w) fun _u2 atA =>
    atA = atA /\
    kC pg 36 t5 atA fun r1 => R (.tuple #[(.slice none 0 0), r1, (.int .i64 15)]) atA)
    (aC pg (aH 36 cI) (dr w) fun t46 w_ => w_ = (dr w) /\
    (dr w) = (dr w) /\
    aC pg (aJ 36 t5 t46) (dr w) fun _u2 aaD =>
    aaD = aaD /\
    kC pg 36 t5 aaD fun r1 => R (.tuple #[(.slice none 0 0), r1, (.int .i64 0)]) aaD))
   (aC pg (aH 72 RL) w fun t48 w =>
   aR pg nT #[t48, (.int .i64 1)] w fun t49 w =>
   aC pg (bB t49 0) w fun t50 w =>
   aC pg (bB t49 1) w fun t51 w =>
   aC pg (aJ 72 RL t50) w fun _u w =>
   aC pg (aL 72 RL 1) w fun t52 w =>
   aC pg (aH 30 t52) w fun t53 w =>
   aC pg (aG .neq 30 (.tmp 53) (.const (.int .i64 0)) t53 (.int .i64 0)) w fun t54 w =>
   eN t54
    (aC pg (aH 36 bG) (dr w) fun t55 w_ => w_ = (dr w) /\
    aC pg (aL 72 RL 1) (dr w) fun t56 w_ => w_ = (dr w) /\
    aC pg (aH 30 t56) (dr w) fun t57 w_ => w_ = (dr w) /\
    (dr w) = (dr w) /\
    aC pg (aJ 36 t5 t55) (dr w) fun _u4 OY =>
    (eC pg (aH 30 t56) t57 OY /\ eC pg (aL 72 RL 1) t56 OY /\ True) /\
    OY = OY /\
    kC pg 36 t5 OY fun r1 => R (.tuple #[(.slice none 0 0), r1, t57]) OY)
    (aC pg (aG .rem 73 aM aM t51 (.int .u64 4)) w fun t59 w =>
    aC pg (aG .neq 73 (.tmp 59) (.const (.int .u64 0)) t59 (.int .u64 0)) w fun t60 w =>
    eN t60
     (aC pg (aH 36 bG) (dr w) fun t61 w_ => w_ = (dr w) /\
     (dr w) = (dr w) /\
     aC pg (aJ 36 t5 t61) (dr w) fun _u2 Yh =>
     Yh = Yh /\
     kC pg 36 t5 Yh fun r1 => R (.tuple #[(.slice none 0 0), r1, (.int .i64 11)]) Yh)
     (aC pg (aG .quo 73 aM aM t51 (.int .u64 64)) w fun t63 w =>
     aC pg (fM 73 3 t63) w fun t64 w =>
     aC pg (aG .quo 73 aM aM t51 (.int .u64 16)) w fun t66 w =>
     aC pg (aG .rem 73 aM aM t66 (.int .u64 4)) w fun t67 w =>
     aC pg (fM 73 3 t67) w fun t68 w =>
     aC pg (aG .quo 73 aM aM t51 (.int .u64 4)) w fun t70 w =>
     aC pg (aG .rem 73 aM aM t70 (.int .u64 4)) w fun t71 w =>
     aC pg (fM 73 3 t71) w fun t72 w =>
     aC pg (bX 77 3 [(0, t64), (1, t68), (2, t72)]) w fun t73 w =>
     aC pg (aH 36 cI) w fun t74 w =>
     aC pg (bT 36) w fun t12 w =>
     aC pg (aJ 36 t12 t74) w fun _u w =>
     aC pg (aL 72 RL 0) w fun t75 w =>
     aC pg (aH 9 t75) w fun t76 w =>
     kn cI t5 bG t32 t73 t12 t76 w))))
theorem Z9 (kn : K7) (R : K1) (hn : N7 Q kn 3 5 7 9 11 12 13) (hr : HR iY R Q) (h : Je kn R (g 0) (g 1) w) : bH pg cY (aD 11 cF) Q g w :=
 Vd Q g w kn R hn hr (Eq.mp (by kernel_rfl) h)
def Jv (R : K1) (wB KJ : aJb) (w : aJa) : Prop :=
 Je (fun cI t5 bG lJ dX t12 dL w => KE R cI t5 bG lJ dX t12 dL w) R wB KJ w
theorem Yw (R : K1) (hr : HR iY R Q) (h : Jv R (g 0) (g 1) w) : bH pg cY cF Q g w :=
 fQ 11 (Z9 _ g w (KE R) R (fun g w h => aK (fQ 1 (ZB _ g w (CH R) R (fun g w h => aK (fQ 6 (Z4 _ g w (NF R) R (fun g w h => aK (fQ 1 (afM _ g w (FP R) (fun g w h => aK (acZ _ g w R hr h)) h))) hr h))) hr h))) hr h)
def amG (a0 a1 : aJb) (w : aJa) (R : K1) : Prop :=
 Jv R a0 a1 w
theorem ajU {a0 a1 : aJb} {w : aJa} {R : K1} (h : amG a0 a1 w R) : aR pg CB #[a0, a1] w R := by
 refine rI (ann := cY) Tryd.f9 cF [a0, a1] iY 209 TrydM.mixed Tryd.func9 ?_
 exact (Yw _ _ _ R (fun _ _ h => h) h)
def nX : FA := ⟨IL, fun i => match Nat.beq i 6 with | true => .leaf ([], []) [(false, []), (false, []), (false, []), (false, []), (false, []), (false, []), (false, []), (false, []), (false, [])] | false => .leaf ([], []) []⟩
def sL : List ResultVar := [.tmp 4]
noncomputable def mS : Code := cU Tryd.f10
def FY (R : K1)  (w : aJa) : Prop :=
 R (.bool true) w
theorem afJ (R : K1) (hr : HR sL R Q) (h : FY R w) : bH pg nX (aB 1 (aB 2 mS)) Q g w :=
 dR (kn := no) (l := []) h eQ hr trivial
def Fy (kn : K3) (k0 : K0) (R : K1) (a_0 VI TP : aJb) (w : aJa) : Prop :=
 aC pg (jS .len #[24] 3 [a_0]) w fun t13 w =>
 aC pg (aG .lss 3 aM aM TP t13) w fun t14 w =>
 eN t14
  ((dr w) = (dr w) /\
  (dr w) = (dr w) /\
  aC pg (bA 24 a_0 TP) (dr w) fun t19 w_ => w_ = (dr w) /\
  aC pg (aH 47 t19) (dr w) fun t20 w_ => w_ = (dr w) /\
  (dr w) = (dr w) /\
  (dr w) = (dr w) /\
  aC pg (bA 24 VI TP) (dr w) fun t23 w_ => w_ = (dr w) /\
  aC pg (aH 47 t23) (dr w) fun t24 w_ => w_ = (dr w) /\
  aC pg (aG .neq 47 (.tmp 20) (.tmp 24) t20 t24) (dr w) fun t25 w_ => w_ = (dr w) /\
  eN t25
   (R (.bool false) (dr w))
   (aC pg (aG .add 3 aM aM TP (.int .i64 1)) (dr w) fun t16 w =>
   kn a_0 VI t16 w))
  (k0 w)
theorem aaR (kn : K3) (k0 : K0) (R : K1) (hn : N3 Q kn 0 1 5) (h0 : E0 Q k0 0) (hr : HR sL R Q) (h : Fy kn k0 R (g 0) (g 1) (g 5) w) : bH pg nX (bI (bI (aB 1 (aD 1 (aB 2 mS))))) Q g w :=
 dR (l := [(0, fun g w => k0 w)]) h hn hr ⟨h0, trivial⟩
def Mr (k0 : K0) (R : K1) (a_0 VI TP : aJb) (w : aJa) : Prop :=
 cG (fun (X : aJb -> K0) (t : aJb) (w : aJa) => Fy (fun _ _ TP w => X TP w) k0 R a_0 VI t w) TP w
theorem afS (k0 : K0) (R : K1) (h0 : E0 Q k0 0) (hr : HR sL R Q) (h : Mr k0 R (g 0) (g 1) (g 5) w) : bH pg nX (bI (aB 1 (aD 1 (aB 2 mS)))) Q g w := by
 refine DO (fun g : Env => g 5) (fun X t w => Fy (fun _ _ TP w => X TP w) k0 R (g 0) (g 1) t w) h (fun X g1 w1 ha hL => ?_)
 rw [<- fE 0 ha, <- fE 1 ha] at hL
 exact (aaR _ g1 w1 (fun _ _ TP w => X TP w) k0 R (fun _ _ h => h) h0 hr hL)
def Ok (kn : K0) (R : K1) (a_0 VI TP : aJb) (w : aJa) : Prop :=
 Mr kn R a_0 VI TP w
def Ob (kn : K3) (a_0 VI : aJb) (w : aJa) : Prop :=
 kn a_0 VI (.int .i64 0) w
theorem abN (kn : K3) (hn : N3 Q kn 0 1 5) (h : Ob kn (g 0) (g 1) w) : bH pg nX (aD 1 (aD 1 (aB 2 mS))) Q g w :=
 dR (kr := no) (l := []) h hn eQ trivial
def NP (kn : K0) (R : K1) (a_0 VI : aJb) (w : aJa) : Prop :=
 Ob (fun a_0 VI TP w => Ok kn R a_0 VI TP w) a_0 VI w
def Og (R : K1) (a_0 VI : aJb) (w : aJa) : Prop :=
 NP (fun  w => FY R w) R a_0 VI w
theorem aeQ (kn : K0) (R : K1) (hn : N0 Q kn) (hr : HR sL R Q) (h : NP kn R (g 0) (g 1) w) : bH pg nX (aD 1 (aB 2 mS)) Q g w :=
 fQ 1 (abN _ g w (Ok kn R) (fun g w h => aK (tX 0 (afS _ g w kn R hn hr h))) h)
def Nc (kn : K2) (R : K1) (a_0 VI : aJb) (w : aJa) : Prop :=
 aC pg (jS .len #[24] 3 [a_0]) w fun t7 w =>
 aC pg (jS .len #[24] 3 [VI]) w fun t9 w =>
 aC pg (aG .neq 3 (.tmp 7) (.tmp 9) t7 t9) w fun t10 w =>
 eN t10
  (R (.bool false) w)
  (kn a_0 VI w)
theorem afA (kn : K2) (R : K1) (hn : N2 Q kn 0 1) (hr : HR sL R Q) (h : Nc kn R (g 0) (g 1) w) : bH pg nX (aD 2 mS) Q g w :=
 dR (l := []) h hn hr trivial
def Ms (R : K1) (a_0 VI : aJb) (w : aJa) : Prop :=
 Nc (fun a_0 VI w => Og R a_0 VI w) R a_0 VI w
theorem acL (R : K1) (hr : HR sL R Q) (h : Ms R (g 0) (g 1) w) : bH pg nX mS Q g w :=
 fQ 2 (afA _ g w (Og R) R (fun g w h => aK (fQ 1 (aeQ _ g w (fun  w => FY R w) R (fun g w h => aK (afJ _ g w R hr h)) hr h))) hr h)
def alD (a0 a1 : aJb) (w : aJa) (R : K1) : Prop :=
 Ms R a0 a1 w
theorem aiU {a0 a1 : aJb} {w : aJa} {R : K1} (h : alD a0 a1 w R) : aR pg IL #[a0, a1] w R := by
 refine rI (ann := nX) Tryd.f10 mS [a0, a1] sL 26 TrydM.mixed Tryd.func10 ?_
 exact (acL _ _ _ R (fun _ _ h => h) h)
def iJ : FA := ⟨rL, fun i => .leaf ([], []) []⟩
def kI : List ResultVar := [.tmp 2, .tmp 3]
noncomputable def iA : Code := cU Tryd.f13
def uJ (R : K1) (hZ kM mD t8 iV t10 : aJb) (w : aJa) : Prop :=
 aC pg (aH 98 mD) w fun t95 w =>
 aC pg (aH 29 t8) w fun t96 w =>
 aR pg uR #[hZ, t95, t96] w fun t97 w =>
 aC pg (bB t97 0) w fun t98 w =>
 aC pg (bB t97 1) w fun t99 w =>
 aC pg (aG .neq 30 (.tmp 100) (.const (.int .i64 0)) t99 (.int .i64 0)) w fun t101 w =>
 eN t101
  (R (.tuple #[(.slice none 0 0), t99]) w)
  (aC pg (fM 3 73 iV) w fun t105 w =>
  aR pg gO #[kM, t105, (.int .i64 1)] w fun t106 w =>
  aR pg nC #[kM, t10] w fun t109 w =>
  aR pg nC #[kM, t98] w fun t112 w =>
  aR pg sR #[kM] w fun t114 w =>
  R (.tuple #[t114, (.int .i64 0)]) w)
theorem Sd (R : K1) (hr : HR kI R Q) (h : uJ R (g 0) (g 4) (g 6) (g 8) (g 9) (g 10) w) : bH pg iJ (aB 1 (aB 5 (aB 3 iA))) Q g w :=
 dR (kn := no) (l := []) h eQ hr trivial
def vH (kn : K7) (k1 : K6) (R : K1) (hZ kM mD t8 iV t10 t63 : aJb) (w : aJa) : Prop :=
 aC pg (aG .lss 3 aM aM t63 (.int .i64 3)) w fun t64 w =>
 eN t64
  (aC pg (bA 98 mD t63) w fun t69 w =>
  aC pg (aH 77 t69) w fun t70 w =>
  aR pg nV #[t63, t70] w fun t71 w =>
  aC pg (bB t71 0) w fun t72 w =>
  aC pg (bB t71 1) w fun t73 w =>
  aC pg (bB t71 2) w fun t74 w =>
  aC pg (bB t71 3) w fun t75 w =>
  aC pg (bT 27) w fun aFN w =>
  aC pg (aJ 27 aFN t72) w fun _u w =>
  aC pg (aG .neq 30 (.tmp 76) (.const (.int .i64 0)) t75 (.int .i64 0)) w fun t77 w =>
  eN t77
   (R (.tuple #[(.slice none 0 0), t75]) w)
   (aC pg (aH 27 aFN) w fun t80 w =>
   aC pg (bA 29 t8 t63) w fun t81 w =>
   aC pg (aJ 27 t81 t80) w fun _u w =>
   aC pg (aG .mul 3 aM aM (.int .i64 2) t63) w fun t85 w =>
   aC pg (aG .sub 3 aM aM (.int .i64 6) t85) w fun t86 w =>
   aC pg (aG .shl 3 aM aM t73 t86) w fun t87 w =>
   aC pg (aG .or 3 aM aM iV t87) w fun t88 w =>
   aC pg (jS .append #[22, 22] 22 [t10, t74]) w fun t91 w =>
   aC pg (aG .add 3 aM aM t63 (.int .i64 1)) w fun t92 w =>
   kn hZ kM mD t8 t88 t91 t92 w))
  (k1 hZ kM mD t8 iV t10 w)
theorem RJ (kn : K7) (k1 : K6) (R : K1) (hn : N7 Q kn 0 4 6 8 9 10 63) (h1 : E6 Q k1 1 0 4 6 8 9 10) (hr : HR kI R Q) (h : vH kn k1 R (g 0) (g 4) (g 6) (g 8) (g 9) (g 10) (g 63) w) : bH pg iJ (bI (bI (aB 1 (aD 1 (aB 5 (aB 3 iA)))))) Q g w :=
 dR (l := [(1, fun g w => k1 (g 0) (g 4) (g 6) (g 8) (g 9) (g 10) w)]) h hn hr ⟨h1, trivial⟩
def uX (k1 : K6) (R : K1) (hZ kM mD t8 iV t10 t63 : aJb) (w : aJa) : Prop :=
 cG (fun (X : (aJb × aJb × aJb) -> K0) (t : aJb × aJb × aJb) (w : aJa) => vH (fun _ _ _ _ iV t10 t63 w => X (iV, t10, t63) w) k1 R hZ kM mD t8 t.1 t.2.1 t.2.2 w) (iV, t10, t63) w
theorem Sr (k1 : K6) (R : K1) (h1 : E6 Q k1 1 0 4 6 8 9 10) (hr : HR kI R Q) (h : uX k1 R (g 0) (g 4) (g 6) (g 8) (g 9) (g 10) (g 63) w) : bH pg iJ (bI (aB 1 (aD 1 (aB 5 (aB 3 iA))))) Q g w := by
 refine DO (fun g : Env => (g 9, g 10, g 63)) (fun X t w => vH (fun _ _ _ _ iV t10 t63 w => X (iV, t10, t63) w) k1 R (g 0) (g 4) (g 6) (g 8) t.1 t.2.1 t.2.2 w) h (fun X g1 w1 ha hL => ?_)
 rw [<- fE 0 ha, <- fE 4 ha, <- fE 6 ha, <- fE 8 ha] at hL
 exact (RJ _ g1 w1 (fun _ _ _ _ iV t10 t63 w => X (iV, t10, t63) w) k1 R (fun _ _ h => h) h1 hr hL)
def BF (kn : K6) (R : K1) (hZ kM mD t8 iV t10 t63 : aJb) (w : aJa) : Prop :=
 uX kn R hZ kM mD t8 iV t10 t63 w
def Bm (kn : K7) (hZ kM mD t8 iV t10 : aJb) (w : aJa) : Prop :=
 kn hZ kM mD t8 iV t10 (.int .i64 0) w
theorem R5 (kn : K7) (hn : N7 Q kn 0 4 6 8 9 10 63) (h : Bm kn (g 0) (g 4) (g 6) (g 8) (g 9) (g 10) w) : bH pg iJ (aD 1 (aD 1 (aB 5 (aB 3 iA)))) Q g w :=
 dR (kr := no) (l := []) h hn eQ trivial
def BM (kn : K6) (R : K1) (hZ kM mD t8 iV t10 : aJb) (w : aJa) : Prop :=
 Bm (fun hZ kM mD t8 iV t10 t63 w => BF kn R hZ kM mD t8 iV t10 t63 w) hZ kM mD t8 iV t10 w
def Bg (R : K1) (hZ kM mD t8 iV t10 : aJb) (w : aJa) : Prop :=
 BM (fun hZ kM mD t8 iV t10 w => uJ R hZ kM mD t8 iV t10 w) R hZ kM mD t8 iV t10 w
theorem RS (kn : K6) (R : K1) (hn : N6 Q kn 0 4 6 8 9 10) (hr : HR kI R Q) (h : BM kn R (g 0) (g 4) (g 6) (g 8) (g 9) (g 10) w) : bH pg iJ (aD 1 (aB 5 (aB 3 iA))) Q g w :=
 fQ 1 (R5 _ g w (BF kn R) (fun g w h => aK (tX 1 (Sr _ g w kn R hn hr h))) h)
def Bi (kn : K6) (R : K1) (hZ kM : aJb) (w : aJa) : Prop :=
 aR pg xC #[hZ] w fun t57 w =>
 aC pg (bB t57 0) w fun t58 w =>
 aC pg (bB t57 1) w fun t59 w =>
 aC pg (bT 98) w fun mD w =>
 aC pg (aJ 98 mD t58) w fun _u w =>
 aC pg (aG .neq 30 (.tmp 60) (.const (.int .i64 0)) t59 (.int .i64 0)) w fun t61 w =>
 eN t61
  (R (.tuple #[(.slice none 0 0), t59]) w)
  (aC pg (bT 29) w fun t8 w =>
  kn hZ kM mD t8 (.int .i64 0) (.slice none 0 0) w)
theorem R6 (kn : K6) (R : K1) (hn : N6 Q kn 0 4 6 8 9 10) (hr : HR kI R Q) (h : Bi kn R (g 0) (g 4) w) : bH pg iJ (aD 5 (aB 3 iA)) Q g w :=
 dR (l := []) h hn hr trivial
def uU (R : K1) (hZ kM : aJb) (w : aJa) : Prop :=
 Bi (fun hZ kM mD t8 iV t10 w => Bg R hZ kM mD t8 iV t10 w) R hZ kM w
def Aa (kn : K2) (R : K1) (hZ : aJb) (w : aJa) : Prop :=
 aR pg vI #[] w fun t17 w =>
 aC pg (jS .len #[24] 3 [hZ]) w fun t19 w =>
 aC pg (aG .gtr 3 aM aM t19 (.int .i64 98047)) w fun t29 w =>
 eN t29
  (R (.tuple #[(.slice none 0 0), (.int .i64 1)]) w)
  (aC pg (aG .eql 3 (.tmp 31) (.const (.int .i64 0)) t19 (.int .i64 0)) w fun t32 w =>
  eN t32
   (aC pg (bX 22 1 [(0, (.int .u8 0))]) w fun t33 w =>
   R (.tuple #[t33, (.int .i64 0)]) w)
   (aC pg (aG .lss 3 aM aM t19 (.int .i64 128)) w fun t36 w =>
   eN t36
    (aC pg (fM 3 73 t19) w fun t39 w =>
    aR pg gO #[t17, t39, (.int .i64 1)] w fun t40 w =>
    kn hZ t17 w)
    (aC pg (aG .lss 3 aM aM t19 (.int .i64 32512)) w fun t43 w =>
    eN t43
     (aC pg (aG .shr 3 aM aM t19 (.int .u64 8)) w fun t46 w =>
     aC pg (aG .add 3 aM aM t46 (.int .i64 128)) w fun t47 w =>
     aC pg (fM 3 73 t47) w fun t48 w =>
     aR pg gO #[t17, t48, (.int .i64 1)] w fun t49 w =>
     aC pg (aG .and 3 aM aM t19 (.int .i64 255)) w fun t52 w =>
     aC pg (fM 3 73 t52) w fun t53 w =>
     aR pg gO #[t17, t53, (.int .i64 1)] w fun t54 w =>
     kn hZ t17 w)
     (aR pg gO #[t17, (.int .u64 255), (.int .i64 1)] w fun t21 w =>
     aC pg (aG .sub 3 aM aM t19 (.int .i64 32512)) w fun t24 w =>
     aC pg (fM 3 73 t24) w fun t25 w =>
     aR pg gO #[t17, t25, (.int .i64 2)] w fun t26 w =>
     kn hZ t17 w))))
theorem PQ (kn : K2) (R : K1) (hn : N2 Q kn 0 4) (hr : HR kI R Q) (h : Aa kn R (g 0) w) : bH pg iJ (aD 3 iA) Q g w :=
 dR (l := []) h hn hr trivial
def Ah (R : K1) (hZ : aJb) (w : aJa) : Prop :=
 Aa (fun hZ kM w => uU R hZ kM w) R hZ w
theorem PH (R : K1) (hr : HR kI R Q) (h : Ah R (g 0) w) : bH pg iJ iA Q g w :=
 fQ 3 (PQ _ g w (uU R) R (fun g w h => aK (fQ 5 (R6 _ g w (Bg R) R (fun g w h => aK (fQ 1 (RS _ g w (uJ R) R (fun g w h => aK (Sd _ g w R hr h)) hr h))) hr h))) hr h)
def Rg (a0 : aJb) (w : aJa) (R : K1) : Prop :=
 Ah R a0 w
theorem S8 {a0 : aJb} {w : aJa} {R : K1} (h : Rg a0 w R) : aR pg rL #[a0] w R := by
 refine rI (ann := iJ) Tryd.f13 iA [a0] kI 115 TrydM.mixed Tryd.func13 ?_
 exact (PH _ _ _ R (fun _ _ h => h) h)
def Gm : FA := ⟨qH, fun i => .leaf ([], []) []⟩
def Ic : List ResultVar := [.tmp 2]
noncomputable def D4 : Code := cU Tryd.f16
def Ap (R : K1) (Co : aJb) (w : aJa) : Prop :=
 aR pg iM #[Co] w fun t4 w =>
 aC pg (bV 112 [(0, t4)]) w fun t5 w =>
 aC pg (rA 112 t5) w fun t6 w =>
 R t6 w
theorem QO (R : K1) (hr : HR Ic R Q) (h : Ap R (g 0) w) : bH pg Gm D4 Q g w :=
 dR (kn := no) (l := []) h eQ hr trivial
def O6 (a0 : aJb) (w : aJa) (R : K1) : Prop :=
 Ap R a0 w
theorem Si {a0 : aJb} {w : aJa} {R : K1} (h : O6 a0 w R) : aR pg qH #[a0] w R := by
 refine rI (ann := Gm) Tryd.f16 D4 [a0] Ic 7 TrydM.mixed Tryd.func16 ?_
 exact (QO _ _ _ R (fun _ _ h => h) h)
def F3 : FA := ⟨uI, fun i => .leaf ([], []) []⟩
def Ib : List ResultVar := [.tmp 2]
noncomputable def DX : Code := cU Tryd.f17
def Am (R : K1) (mR : aJb) (w : aJa) : Prop :=
 aR pg jF #[mR, (.int .i64 1)] w fun t5 w =>
 aC pg (fM 73 3 t5) w fun t6 w =>
 aC pg (aG .lss 3 aM aM t6 (.int .i64 128)) w fun t9 w =>
 eN t9
  (R t6 w)
  (aC pg (aG .lss 3 aM aM t6 (.int .i64 255)) w fun t13 w =>
  eN t13
   (aC pg (aG .sub 3 aM aM t6 (.int .i64 128)) w fun t15 w =>
   aC pg (aG .shl 3 aM aM t15 (.int .u64 8)) w fun t16 w =>
   aR pg jF #[mR, (.int .i64 1)] w fun t18 w =>
   aC pg (fM 73 3 t18) w fun t19 w =>
   aC pg (aG .or 3 aM aM t16 t19) w fun t20 w =>
   R t20 w)
   (aR pg jF #[mR, (.int .i64 2)] w fun t22 w =>
   aC pg (fM 73 3 t22) w fun t23 w =>
   aC pg (aG .add 3 aM aM t23 (.int .i64 32512)) w fun t24 w =>
   R t24 w))
theorem PN (R : K1) (hr : HR Ib R Q) (h : Am R (g 0) w) : bH pg F3 DX Q g w :=
 dR (kn := no) (l := []) h eQ hr trivial
def O5 (a0 : aJb) (w : aJa) (R : K1) : Prop :=
 Am R a0 w
theorem RZ {a0 : aJb} {w : aJa} {R : K1} (h : O5 a0 w R) : aR pg uI #[a0] w R := by
 refine rI (ann := F3) Tryd.f17 DX [a0] Ib 25 TrydM.mixed Tryd.func17 ?_
 exact (PN _ _ _ R (fun _ _ h => h) h)
def D8 : FA := ⟨kX, fun i => .leaf ([], []) []⟩
def Gb : List ResultVar := [.tmp 2]
noncomputable def Cy : Code := cU Tryd.f18
def xX (R : K1) (mR : aJb) (w : aJa) : Prop :=
 aC pg (aG .eql 56 (.tmp 3) (.const (.pointer none)) mR (.pointer none)) w fun t4 w =>
 eN t4
  (R (.int .i64 1) w)
  (aC pg (pV mR) w fun t6 w =>
  aC pg (aL 112 t6 1) w fun t7 w =>
  aC pg (aH 30 t7) w fun t8 w =>
  R t8 w)
theorem Om (R : K1) (hr : HR Gb R Q) (h : xX R (g 0) w) : bH pg D8 Cy Q g w :=
 dR (kn := no) (l := []) h eQ hr trivial
def LM (a0 : aJb) (w : aJa) (R : K1) : Prop :=
 xX R a0 w
theorem Ql {a0 : aJb} {w : aJa} {R : K1} (h : LM a0 w R) : aR pg kX #[a0] w R := by
 refine rI (ann := D8) Tryd.f18 Cy [a0] Gb 9 TrydM.mixed Tryd.func18 ?_
 exact (Om _ _ _ R (fun _ _ h => h) h)
def Cz : FA := ⟨lX, fun i => .leaf ([], []) []⟩
def D2 : List ResultVar := [.tmp 2]
noncomputable def Ca : Code := cU Tryd.f19
def wK (R : K1) (mR : aJb) (w : aJa) : Prop :=
 aC pg (aG .eql 56 (.tmp 3) (.const (.pointer none)) mR (.pointer none)) w fun t4 w =>
 eN t4
  (R (.int .i64 0) w)
  (aC pg (pV mR) w fun t6 w =>
  aC pg (aL 112 t6 0) w fun t7 w =>
  aC pg (aH 22 t7) w fun t8 w =>
  aC pg (jS .len #[22] 3 [t8]) w fun t9 w =>
  R t9 w)
theorem Mf (R : K1) (hr : HR D2 R Q) (h : wK R (g 0) w) : bH pg Cz Ca Q g w :=
 dR (kn := no) (l := []) h eQ hr trivial
def Kt (a0 : aJb) (w : aJa) (R : K1) : Prop :=
 wK R a0 w
theorem OZ {a0 : aJb} {w : aJa} {R : K1} (h : Kt a0 w R) : aR pg lX #[a0] w R := by
 refine rI (ann := Cz) Tryd.f19 Ca [a0] D2 10 TrydM.mixed Tryd.func19 ?_
 exact (Mf _ _ _ R (fun _ _ h => h) h)
def fP : FA := ⟨tI, fun i => match Nat.beq i 11 with | true => .split 11 16 (.perm [0, 1, 2, 3, 4, 5, 6, 7, 8, 9, 10, 11, 12, 13, 14, 15, 16, 17, 18, 19] [(11, 16)] ([11, 16, 17], [(13, 16), (14, 16), (14, 17), (15, 16), (15, 17)]) [(false, []), (false, []), (false, []), (false, []), (false, []), (false, []), (false, []), (false, []), (false, []), (false, []), (false, []), (true, []), (false, []), (false, []), (false, []), (false, []), (true, [0, 1, 2]), (true, [1, 2]), (false, []), (false, [])]) (.perm [0, 1, 2, 3, 4, 5, 6, 7, 8, 9, 10, 16, 11, 12, 13, 14, 15, 17, 18, 19] [(16, 11)] ([11, 12, 17], [(3, 11), (4, 11), (5, 11), (6, 11), (9, 11), (10, 11), (15, 17), (16, 17)]) [(false, []), (false, []), (false, []), (false, []), (false, []), (false, []), (false, []), (false, []), (false, []), (false, []), (false, []), (true, [0, 1, 4, 5, 6, 7]), (true, []), (false, []), (false, []), (false, []), (false, []), (true, [0, 1]), (false, []), (false, [])]) | false => match Nat.beq i 14 with | true => .leaf ([6], [(4, 6)]) [(false, []), (false, []), (false, []), (false, []), (false, []), (false, []), (true, [1]), (false, [])] | false => .leaf ([], []) []⟩
def jW : List ResultVar := [.cell 4 29, .tmp 5]
noncomputable def fA : Code := cU Tryd.f20
def wS (R : K1) (mR t4 As t8 : aJb) (w : aJa) : Prop :=
 aR pg qH #[As] w fun t65 w =>
 aC pg (pV t65) w fun t66 w =>
 aC pg (aH 112 t66) w fun t67 w =>
 aC pg (pV mR) w fun t68 w =>
 aC pg (aJ 112 t68 t67) w fun _u w =>
 aC pg (aH 29 t8) w fun t69 w =>
 aC pg (aJ 29 t4 t69) w fun _u w =>
 kC pg 29 t4 w fun r0 => R (.tuple #[r0, (.int .i64 0)]) w
theorem Tt (R : K1) (hr : HR jW R Q) (h : wS R (g 0) (g 4) (g 7) (g 8) w) : bH pg fP (aB 1 (aB 5 fA)) Q g w :=
 dR (kn := no) (l := []) h eQ hr trivial
def sB (kn : K7) (mR cI t4 fC As t8 t33 : aJb) (w : aJa) : Prop :=
 aC pg (aG .add 3 aM aM t33 (.int .i64 1)) w fun t62 w =>
 kn mR cI t4 fC As t8 t62 w
theorem T8 (kn : K7) (hn : N7 Q kn 0 3 4 6 7 8 33) (h : sB kn (g 0) (g 3) (g 4) (g 6) (g 7) (g 8) (g 33) w) : bH pg fP (aB 1 (aB 2 (bI (bI (aB 1 (aD 1 (aB 5 fA))))))) Q g w :=
 dR (kr := no) (l := []) h hn eQ trivial
def mH (kn : K7) (R : K1) (mR cI t4 fC As t8 alJ uE aAI aBb t33 : aJb) (w : aJa) : Prop :=
 aC pg (aG .neq 30 (.tmp 52) (.const (.int .i64 0)) aBb (.int .i64 0)) w fun t53 w =>
 eN t53
  (aC pg (bV 29 []) w fun t54 w =>
  aC pg (aJ 29 t4 t54) w fun _u w =>
  kC pg 29 t4 w fun r0 => R (.tuple #[r0, aBb]) w)
  ((dr w) = (dr w) /\
  aC pg (aH 27 uE) (dr w) fun t57 w_ => w_ = (dr w) /\
  (dr w) = (dr w) /\
  (dr w) = (dr w) /\
  aC pg (fJ 22 As (some aAI) none none) (dr w) fun t60 w_ => w_ = (dr w) /\
  aC pg (bA 29 t8 alJ) (dr w) fun t61 w_ => w_ = (dr w) /\
  aC pg (aJ 27 t61 t57) (dr w) fun _u6 aAr =>
  (eC pg (fJ 22 As (some aAI) none none) t60 aAr /\ True) /\
  aAr = aAr /\
  kn mR cI t4 fC t60 t8 t33 aAr)
theorem S9 (kn : K7) (R : K1) (hn : N7 Q kn 0 3 4 6 7 8 33) (hr : HR jW R Q) (h : mH kn R (g 0) (g 3) (g 4) (g 6) (g 7) (g 8) (g 9) (g 10) (g 11) (g 12) (g 33) w) : bH pg fP (aB 2 (bI (aD 1 (aB 2 (bI (bI (aB 1 (aD 1 (aB 5 fA))))))))) Q g w :=
 dR (l := []) h hn hr trivial
def CJ (kn : K11) (mR cI t4 fC As t8 t33 : aJb) (w : aJa) : Prop :=
 Ord (aoR tI 11 (Ia 11 fA) 11 16 w)
  ((dr w) = (dr w) /\
  (dr w) = (dr w) /\
  (dr w) = (dr w) /\
  aC pg (aG .mul 3 aM aM (.int .i64 2) t33) (dr w) fun t40 w_ => w_ = (dr w) /\
  aC pg (aG .sub 3 aM aM (.int .i64 6) t40) (dr w) fun t41 w_ => w_ = (dr w) /\
  aC pg (aG .shr 3 aM aM fC t41) (dr w) fun t42 w_ => w_ = (dr w) /\
  aC pg (aG .and 3 aM aM t42 (.int .i64 3)) (dr w) fun t43 w_ => w_ = (dr w) /\
  (dr w) = (dr w) /\
  (dr w) = (dr w) /\
  aC pg (bA 29 cI t33) (dr w) fun t46 w_ => w_ = (dr w) /\
  aC pg (aH 27 t46) (dr w) fun t47 w_ => w_ = (dr w) /\
  aR pg AD #[t33, t43, As, t47] (dr w) fun t48 yO =>
  yO = yO /\
  aC pg (bB t48 0) yO fun t49 w_ => w_ = yO /\
  aC pg (bB t48 1) yO fun t50 w_ => w_ = yO /\
  aC pg (bB t48 2) yO fun t51 w_ => w_ = yO /\
  aC pg (bT 27) yO fun uE aqW =>
  (eC pg (bB t48 2) t51 aqW /\ eC pg (bB t48 1) t50 aqW /\ eC pg (bB t48 0) t49 aqW /\ True) /\
  aC pg (aJ 27 uE t49) aqW fun _u17 BX =>
  (eC pg (bB t48 2) t51 BX /\ eC pg (bB t48 1) t50 BX /\ True) /\
  BX = BX /\
  BX = BX /\
  kn mR cI t4 fC As t8 t33 uE t50 t51 t33 BX)
  ((dr w) = (dr w) /\
  (dr w) = (dr w) /\
  (dr w) = (dr w) /\
  aC pg (aG .mul 3 aM aM (.int .i64 2) t33) (dr w) fun t40 w_ => w_ = (dr w) /\
  aC pg (aG .sub 3 aM aM (.int .i64 6) t40) (dr w) fun t41 w_ => w_ = (dr w) /\
  aC pg (aG .shr 3 aM aM fC t41) (dr w) fun t42 w_ => w_ = (dr w) /\
  aC pg (aG .and 3 aM aM t42 (.int .i64 3)) (dr w) fun t43 w_ => w_ = (dr w) /\
  (dr w) = (dr w) /\
  (dr w) = (dr w) /\
  aC pg (bA 29 cI t33) (dr w) fun t46 w_ => w_ = (dr w) /\
  aC pg (aH 27 t46) (dr w) fun t47 w_ => w_ = (dr w) /\
  aC pg (bT 27) (dr w) fun uE yO =>
  (eC pg (aH 27 t46) t47 yO /\ eC pg (bA 29 cI t33) t46 yO /\ eC pg (aG .and 3 aM aM t42 (.int .i64 3)) t43 yO /\ eC pg (aG .shr 3 aM aM fC t41) t42 yO /\ eC pg (aG .sub 3 aM aM (.int .i64 6) t40) t41 yO /\ eC pg (aG .mul 3 aM aM (.int .i64 2) t33) t40 yO /\ True) /\
  aR pg AD #[t33, t43, As, t47] yO fun t48 P8 =>
  P8 = P8 /\
  aC pg (bB t48 0) P8 fun t49 w_ => w_ = P8 /\
  aC pg (bB t48 1) P8 fun t50 w_ => w_ = P8 /\
  aC pg (bB t48 2) P8 fun t51 w_ => w_ = P8 /\
  aC pg (aJ 27 uE t49) P8 fun _u17 BX =>
  (eC pg (bB t48 2) t51 BX /\ eC pg (bB t48 1) t50 BX /\ True) /\
  BX = BX /\
  BX = BX /\
  kn mR cI t4 fC As t8 t33 uE t50 t51 t33 BX)
theorem TU (kn : K11) (hn : N11 Q kn 0 3 4 6 7 8 9 10 11 12 33) (h : CJ kn (g 0) (g 3) (g 4) (g 6) (g 7) (g 8) (g 33) w) : bH pg fP (aD 2 (bI (aD 1 (aB 2 (bI (bI (aB 1 (aD 1 (aB 5 fA))))))))) Q g w :=
 dR (kr := no) (l := []) h hn eQ trivial
def L5 (kn : K7) (R : K1) (mR cI t4 fC As t8 t33 : aJb) (w : aJa) : Prop :=
 CJ (fun mR cI t4 fC As t8 alJ uE aAI aBb t33 w => mH kn R mR cI t4 fC As t8 alJ uE aAI aBb t33 w) mR cI t4 fC As t8 t33 w
def CO (kn : K7) (R : K1) (mR cI t4 fC As t8 t33 : aJb) (w : aJa) : Prop :=
 L5 kn R mR cI t4 fC As t8 t33 w
def Cs (kn : K7) (R : K1) (mR cI t4 fC As t8 t33 : aJb) (w : aJa) : Prop :=
 CO (fun mR cI t4 fC As t8 t33 w => sB kn mR cI t4 fC As t8 t33 w) R mR cI t4 fC As t8 t33 w
theorem Ti (kn : K7) (R : K1) (hn : N7 Q kn 0 3 4 6 7 8 33) (hr : HR jW R Q) (h : CO kn R (g 0) (g 3) (g 4) (g 6) (g 7) (g 8) (g 33) w) : bH pg fP (aD 1 (aB 2 (bI (bI (aB 1 (aD 1 (aB 5 fA))))))) Q g w :=
 tX 2 (fQ 2 (TU _ g w (mH kn R) (fun g w h => aK (S9 _ g w kn R hn hr h)) h))
def C2 (kn : K7) (k1 : K4) (mR cI t4 fC As t8 t33 : aJb) (w : aJa) : Prop :=
 aC pg (aG .lss 3 aM aM t33 (.int .i64 3)) w fun t34 w =>
 eN t34
  (kn mR cI t4 fC As t8 t33 w)
  (k1 mR t4 As t8 w)
theorem SK (kn : K7) (k1 : K4) (hn : N7 Q kn 0 3 4 6 7 8 33) (h1 : E4 Q k1 1 0 4 7 8) (h : C2 kn k1 (g 0) (g 3) (g 4) (g 6) (g 7) (g 8) (g 33) w) : bH pg fP (aD 2 (bI (bI (aB 1 (aD 1 (aB 5 fA)))))) Q g w :=
 dR (kr := no) (l := [(1, fun g w => k1 (g 0) (g 4) (g 7) (g 8) w)]) h hn eQ ⟨h1, trivial⟩
def wM (kn : K7) (k1 : K4) (R : K1) (mR cI t4 fC As t8 t33 : aJb) (w : aJa) : Prop :=
 C2 (fun mR cI t4 fC As t8 t33 w => Cs kn R mR cI t4 fC As t8 t33 w) k1 mR cI t4 fC As t8 t33 w
def BY (k1 : K4) (R : K1) (mR cI t4 fC As t8 t33 : aJb) (w : aJa) : Prop :=
 cG (fun (X : (aJb × aJb) -> K0) (t : aJb × aJb) (w : aJa) => wM (fun _ _ _ _ As _ t33 w => X (As, t33) w) k1 R mR cI t4 fC t.1 t8 t.2 w) (As, t33) w
theorem SZ (kn : K7) (k1 : K4) (R : K1) (hn : N7 Q kn 0 3 4 6 7 8 33) (h1 : E4 Q k1 1 0 4 7 8) (hr : HR jW R Q) (h : wM kn k1 R (g 0) (g 3) (g 4) (g 6) (g 7) (g 8) (g 33) w) : bH pg fP (bI (bI (aB 1 (aD 1 (aB 5 fA))))) Q g w :=
 fQ 2 (SK _ g w (Cs kn R) k1 (fun g w h => aK (fQ 1 (Ti _ g w (sB kn) R (fun g w h => aK (T8 _ g w kn hn h)) hr h))) h1 h)
theorem So (k1 : K4) (R : K1) (h1 : E4 Q k1 1 0 4 7 8) (hr : HR jW R Q) (h : BY k1 R (g 0) (g 3) (g 4) (g 6) (g 7) (g 8) (g 33) w) : bH pg fP (bI (aB 1 (aD 1 (aB 5 fA)))) Q g w := by
 refine DO (fun g : Env => (g 7, g 33)) (fun X t w => wM (fun _ _ _ _ As _ t33 w => X (As, t33) w) k1 R (g 0) (g 3) (g 4) (g 6) t.1 (g 8) t.2 w) h (fun X g1 w1 ha hL => ?_)
 rw [<- fE 0 ha, <- fE 3 ha, <- fE 4 ha, <- fE 6 ha, <- fE 8 ha] at hL
 exact (SZ _ g1 w1 (fun _ _ _ _ As _ t33 w => X (As, t33) w) k1 R (fun _ _ h => h) h1 hr hL)
def BW (kn : K4) (R : K1) (mR cI t4 fC As t8 t33 : aJb) (w : aJa) : Prop :=
 BY kn R mR cI t4 fC As t8 t33 w
def B1 (kn : K7) (mR cI t4 fC As t8 : aJb) (w : aJa) : Prop :=
 kn mR cI t4 fC As t8 (.int .i64 0) w
theorem Sj (kn : K7) (hn : N7 Q kn 0 3 4 6 7 8 33) (h : B1 kn (g 0) (g 3) (g 4) (g 6) (g 7) (g 8) w) : bH pg fP (aD 1 (aD 1 (aB 5 fA))) Q g w :=
 dR (kr := no) (l := []) h hn eQ trivial
def Bo (kn : K4) (R : K1) (mR cI t4 fC As t8 : aJb) (w : aJa) : Prop :=
 B1 (fun mR cI t4 fC As t8 t33 w => BW kn R mR cI t4 fC As t8 t33 w) mR cI t4 fC As t8 w
def Bx (R : K1) (mR cI t4 fC As t8 : aJb) (w : aJa) : Prop :=
 Bo (fun mR t4 As t8 w => wS R mR t4 As t8 w) R mR cI t4 fC As t8 w
theorem RW (kn : K4) (R : K1) (hn : N4 Q kn 0 4 7 8) (hr : HR jW R Q) (h : Bo kn R (g 0) (g 3) (g 4) (g 6) (g 7) (g 8) w) : bH pg fP (aD 1 (aB 5 fA)) Q g w :=
 fQ 1 (Sj _ g w (BW kn R) (fun g w h => aK (tX 1 (So _ g w kn R hn hr h))) h)
def Bn (kn : K6) (R : K1) (mR KJ : aJb) (w : aJa) : Prop :=
 aC pg (rA 29 KJ) w fun cI w =>
 aC pg (bT 29) w fun t4 w =>
 aR pg jF #[mR, (.int .i64 1)] w fun t14 w =>
 aC pg (fM 73 3 t14) w fun t15 w =>
 aR pg kX #[mR] w fun t18 w =>
 aC pg (aG .neq 30 (.tmp 18) (.const (.int .i64 0)) t18 (.int .i64 0)) w fun t19 w =>
 eN t19
  (aC pg (bV 29 []) w fun t20 w =>
  aR pg kX #[mR] w fun t22 w =>
  aC pg (aJ 29 t4 t20) w fun _u w =>
  kC pg 29 t4 w fun r0 => R (.tuple #[r0, t22]) w)
  (aC pg (aG .and 3 aM aM t15 (.int .i64 3)) w fun t25 w =>
  aC pg (aG .neq 3 (.tmp 25) (.const (.int .i64 0)) t25 (.int .i64 0)) w fun t26 w =>
  eN t26
   (aC pg (bV 29 []) w fun t27 w =>
   aC pg (aJ 29 t4 t27) w fun _u w =>
   kC pg 29 t4 w fun r0 => R (.tuple #[r0, (.int .i64 11)]) w)
   (aR pg lX #[mR] w fun t30 w =>
   aR pg nB #[mR, t30] w fun t31 w =>
   aC pg (aH 29 cI) w fun t32 w =>
   aC pg (bT 29) w fun t8 w =>
   aC pg (aJ 29 t8 t32) w fun _u w =>
   kn mR cI t4 t15 t31 t8 w))
theorem Su (kn : K6) (R : K1) (hn : N6 Q kn 0 3 4 6 7 8) (hr : HR jW R Q) (h : Bn kn R (g 0) (g 1) w) : bH pg fP (aD 5 fA) Q g w :=
 dR (l := []) h hn hr trivial
def Bz (R : K1) (mR KJ : aJb) (w : aJa) : Prop :=
 Bn (fun mR cI t4 fC As t8 w => Bx R mR cI t4 fC As t8 w) R mR KJ w
theorem RY (R : K1) (hr : HR jW R Q) (h : Bz R (g 0) (g 1) w) : bH pg fP fA Q g w :=
 fQ 5 (Su _ g w (Bx R) R (fun g w h => aK (fQ 1 (RW _ g w (wS R) R (fun g w h => aK (Tt _ g w R hr h)) hr h))) hr h)
def TM (a0 a1 : aJb) (w : aJa) (R : K1) : Prop :=
 Bz R a0 a1 w
theorem UR {a0 a1 : aJb} {w : aJa} {R : K1} (h : TM a0 a1 w R) : aR pg tI #[a0, a1] w R := by
 refine rI (ann := fP) Tryd.f20 fA [a0, a1] jW 70 TrydM.mixed Tryd.func20 ?_
 exact (RY _ _ _ R (fun _ _ h => h) h)
def F6 : FA := ⟨qG, fun i => match Nat.beq i 3 with | true => .leaf ([1, 12, 16], [(1, 3), (1, 4), (1, 5), (1, 8), (1, 9), (1, 10), (1, 11), (3, 12), (4, 12), (5, 12)]) [(false, []), (true, []), (false, []), (false, [1]), (false, [2]), (false, [3]), (false, []), (false, []), (false, [6]), (false, [7]), (false, [8]), (false, [9]), (true, [6, 7, 8]), (false, []), (false, []), (false, []), (true, []), (false, []), (false, [])] | false => .leaf ([], []) []⟩
def Ih : List ResultVar := [.tmp 2, .tmp 3]
noncomputable def D1 : Code := cU Tryd.f21
def sS (R : K1) (Co : aJb) (w : aJa) : Prop :=
 aC pg (jS .len #[22] 3 [Co]) w fun t5 w =>
 aC pg (aG .eql 3 (.tmp 5) (.const (.int .i64 0)) t5 (.int .i64 0)) w fun t6 w =>
 Gd (fI t6 false) (fun K => K Co w) w fun t8 w =>
 Gd (fI t6 false) (fun K => K Co w) w fun t9 w =>
 Gd (fI t6 false) (fun K => aC pg (jS .len #[22] 3 [t9]) w K) w fun t10 w =>
 Gd (fI t6 false) (fun K => aC pg (aG .sub 3 aM aM t10 (.int .i64 1)) w K) w fun t11 w =>
 Gd (fI t6 false) (fun K => aC pg (bA 22 t8 t11) w K) w fun t12 w =>
 Gd (fI t6 false) (fun K => aC pg (aH 5 t12) w K) w fun t13 w =>
 Gd (fI t6 false) (fun K => aC pg (aG .eql 5 (.tmp 13) (.const (.int .u8 0)) t13 (.int .u8 0)) w K) w fun t14 w =>
 aC pg (fR t6 (.bool true) t14) w fun t15 w =>
 eN t15
  (R (.tuple #[(.pointer none), (.int .i64 11)]) w)
  ((dr w) = (dr w) /\
  aR pg iM #[Co] (dr w) fun t17 NA =>
  NA = NA /\
  aC pg (jS .len #[22] 3 [Co]) NA fun t19 w_ => w_ = NA /\
  (eC pg (jS .len #[22] 3 [Co]) t19 (dr w) /\ True) /\
  aC pg (aG .sub 3 aM aM t19 (.int .i64 1)) NA fun t20 w_ => w_ = NA /\
  (eC pg (aG .sub 3 aM aM t19 (.int .i64 1)) t20 (dr w) /\ True) /\
  aC pg (aG .mul 3 aM aM (.int .i64 8) t20) NA fun t21 w_ => w_ = NA /\
  (eC pg (aG .mul 3 aM aM (.int .i64 8) t20) t21 (dr w) /\ True) /\
  NA = NA /\
  NA = NA /\
  aC pg (jS .len #[22] 3 [Co]) NA fun t24 w_ => w_ = NA /\
  (eC pg (jS .len #[22] 3 [Co]) t24 (dr w) /\ True) /\
  aC pg (aG .sub 3 aM aM t24 (.int .i64 1)) NA fun t25 w_ => w_ = NA /\
  (eC pg (aG .sub 3 aM aM t24 (.int .i64 1)) t25 (dr w) /\ True) /\
  aC pg (bA 22 Co t25) NA fun t26 w_ => w_ = NA /\
  (eC pg (bA 22 Co t25) t26 (dr w) /\ True) /\
  aC pg (aH 5 t26) NA fun t27 w_ => w_ = NA /\
  (eC pg (aH 5 t26) t27 (dr w) /\ True) /\
  aR pg zV #[t27] NA fun t28 Vo =>
  (eC pg (aG .mul 3 aM aM (.int .i64 8) t20) t21 Vo /\ eC pg (aG .sub 3 aM aM t19 (.int .i64 1)) t20 Vo /\ eC pg (jS .len #[22] 3 [Co]) t19 Vo /\ True) /\
  aC pg (aG .add 3 aM aM t21 t28) Vo fun t29 w_ => w_ = Vo /\
  aC pg (aG .sub 3 aM aM t29 (.int .i64 1)) Vo fun t30 w_ => w_ = Vo /\
  aC pg (bV 118 [(0, t17), (1, t30)]) Vo fun t31 w_ => w_ = Vo /\
  aC pg (rA 118 t31) Vo fun t32 avK =>
  avK = avK /\
  avK = avK /\
  R (.tuple #[t32, (.int .i64 0)]) avK)
theorem P5 (R : K1) (hr : HR Ih R Q) (h : sS R (g 0) w) : bH pg F6 D1 Q g w :=
 dR (kn := no) (l := []) h eQ hr trivial
def EV (a0 : aJb) (w : aJa) (R : K1) : Prop :=
 sS R a0 w
theorem D3 {a0 : aJb} {w : aJa} {R : K1} (h : EV a0 w R) : aR pg qG #[a0] w R := by
 refine rI (ann := F6) Tryd.f21 D1 [a0] Ih 33 TrydM.mixed Tryd.func21 ?_
 exact (P5 _ _ _ R (fun _ _ h => h) h)
def Cb : FA := ⟨nB, fun i => .leaf ([], []) []⟩
def C4 : List ResultVar := [.tmp 4]
noncomputable def AB : Code := cU Tryd.f22
def uG (R : K1) (mR pK : aJb) (w : aJa) : Prop :=
 aC pg (aG .eql 56 (.tmp 5) (.const (.pointer none)) mR (.pointer none)) w fun t6 w =>
 eN t6
  (R (.slice none 0 0) w)
  (aC pg (aG .geq 3 aM aM pK (.int .i64 0)) w fun t10 w =>
  aR pg nZ #[mR, pK, t10] w fun t11 w =>
  R t11 w)
theorem Lz (R : K1) (hr : HR C4 R Q) (h : uG R (g 0) (g 1) w) : bH pg Cb AB Q g w :=
 dR (kn := no) (l := []) h eQ hr trivial
def Ie (a0 a1 : aJb) (w : aJa) (R : K1) : Prop :=
 uG R a0 a1 w
theorem NK {a0 a1 : aJb} {w : aJa} {R : K1} (h : Ie a0 a1 w R) : aR pg nB #[a0, a1] w R := by
 refine rI (ann := Cb) Tryd.f22 AB [a0, a1] C4 12 TrydM.mixed Tryd.func22 ?_
 exact (Lz _ _ _ R (fun _ _ h => h) h)
def VH : FA := ⟨LQ, fun i => .leaf ([], []) []⟩
def Y1 : List ResultVar := [.tmp 4]
noncomputable def TZ : Code := cU Tryd.f23
def QJ (R : K1) (t0 r_1 : aJb) (w : aJa) : Prop :=
 aC pg (rA 27 t0) w fun t2 w =>
 aC pg (aL 27 t2 0) w fun t6 w =>
 aC pg (aH 3 t6) w fun t7 w =>
 aR pg lT #[r_1, t7] w fun t8 w =>
 aC pg (fM 73 3 t8) w fun t9 w =>
 R t9 w
theorem ahQ (R : K1) (hr : HR Y1 R Q) (h : QJ R (g 0) (g 1) w) : bH pg VH TZ Q g w :=
 dR (kn := no) (l := []) h eQ hr trivial
def apC (a0 a1 : aJb) (w : aJa) (R : K1) : Prop :=
 QJ R a0 a1 w
theorem anI {a0 a1 : aJb} {w : aJa} {R : K1} (h : apC a0 a1 w R) : aR pg LQ #[a0, a1] w R := by
 refine rI (ann := VH) Tryd.f23 TZ [a0, a1] Y1 10 TrydM.mixed Tryd.func23 ?_
 exact (ahQ _ _ _ R (fun _ _ h => h) h)
def H8 : FA := ⟨oY, fun i => .leaf ([], []) []⟩
def Jh : List ResultVar := [.tmp 8]
noncomputable def F8 : Code := cU Tryd.f24
def BI (R : K1) (aQ t1 Yo r_3 : aJb) (w : aJa) : Prop :=
 aC pg (rA 27 t1) w fun t5 w =>
 aC pg (aG .lss 3 aM aM Yo (.int .i64 0)) w fun t13 w =>
 Gd (fI t13 false) (fun K => K Yo w) w fun t15 w =>
 Gd (fI t13 false) (fun K => aC pg (aL 27 t5 1) w K) w fun t16 w =>
 Gd (fI t13 false) (fun K => aC pg (aH 25 t16) w K) w fun t17 w =>
 Gd (fI t13 false) (fun K => aC pg (jS .len #[25] 3 [t17]) w K) w fun t18 w =>
 Gd (fI t13 false) (fun K => aC pg (aG .geq 3 aM aM t15 t18) w K) w fun t19 w =>
 aC pg (fR t13 (.bool true) t19) w fun t20 w =>
 eN t20
  (R (.int .u32 0) w)
  (aC pg (aL 27 t5 1) w fun t23 w =>
  aC pg (aH 25 t23) w fun t24 w =>
  aC pg (bA 25 t24 Yo) w fun t26 w =>
  aC pg (aL 123 t26 0) w fun t27 w =>
  aC pg (aH 5 t27) w fun t28 w =>
  aC pg (fM 5 3 t28) w fun t29 w =>
  aR pg CU #[aQ, t29] w fun t30 w =>
  aC pg (bB t30 0) w fun t31 w =>
  aC pg (bB t30 1) w fun t32 w =>
  aC pg (bB t30 2) w fun t33 w =>
  aR pg lT #[r_3, t32] w fun t37 w =>
  aC pg (fM 73 43 t37) w fun t38 w =>
  aC pg (aG .add 43 aM aM t31 t38) w fun t39 w =>
  R t39 w)
theorem R3 (R : K1) (hr : HR Jh R Q) (h : BI R (g 0) (g 1) (g 2) (g 3) w) : bH pg H8 F8 Q g w :=
 dR (kn := no) (l := []) h eQ hr trivial
def Re (a0 a1 a2 a3 : aJb) (w : aJa) (R : K1) : Prop :=
 BI R a0 a1 a2 a3 w
theorem TB {a0 a1 a2 a3 : aJb} {w : aJa} {R : K1} (h : Re a0 a1 a2 a3 w R) : aR pg oY #[a0, a1, a2, a3] w R := by
 refine rI (ann := H8) Tryd.f24 F8 [a0, a1, a2, a3] Jh 40 TrydM.mixed Tryd.func24 ?_
 exact (R3 _ _ _ R (fun _ _ h => h) h)
def Yl : FA := ⟨Qt, fun i => match Nat.beq i 4 with | true => .leaf ([5], [(0, 5), (1, 5)]) [(false, []), (false, []), (false, []), (false, []), (false, []), (true, [3, 4]), (false, []), (false, []), (false, [])] | false => .leaf ([], []) []⟩
def agX : List ResultVar := [.tmp 6]
noncomputable def VJ : Code := cU Tryd.f25
def TX (R : K1) (t0 hP EI : aJb) (w : aJa) : Prop :=
 aC pg (rA 27 t0) w fun t3 w =>
 aC pg (aG .lss 3 aM aM hP (.int .i64 0)) w fun t9 w =>
 Gd (fI t9 false) (fun K => K hP w) w fun t11 w =>
 Gd (fI t9 false) (fun K => aC pg (aL 27 t3 1) w K) w fun t12 w =>
 Gd (fI t9 false) (fun K => aC pg (aH 25 t12) w K) w fun t13 w =>
 Gd (fI t9 false) (fun K => aC pg (jS .len #[25] 3 [t13]) w K) w fun t14 w =>
 Gd (fI t9 false) (fun K => aC pg (aG .geq 3 aM aM t11 t14) w K) w fun t15 w =>
 aC pg (fR t9 (.bool true) t15) w fun t16 w =>
 eN t16
  (R (.int .i64 0) w)
  (aC pg (aL 27 t3 1) w fun t17 w =>
  aC pg (aH 25 t17) w fun t18 w =>
  aC pg (bA 25 t18 hP) w fun t20 w =>
  aC pg (aH 123 t20) w fun t21 w =>
  aC pg (bT 123) w fun oQ w =>
  aC pg (aJ 123 oQ t21) w fun _u w =>
  aC pg (aL 123 oQ 2) (dr w) fun t22 w_ => w_ = (dr w) /\
  aC pg (aH 3 t22) (dr w) fun t23 w_ => w_ = (dr w) /\
  (dr w) = (dr w) /\
  aC pg (aL 123 oQ 1) (dr w) fun t25 w_ => w_ = (dr w) /\
  aC pg (aH 3 t25) (dr w) fun t26 w_ => w_ = (dr w) /\
  aR pg lT #[EI, t26] (dr w) fun t27 asG =>
  (eC pg (aH 3 t22) t23 asG /\ eC pg (aL 123 oQ 2) t22 asG /\ True) /\
  aC pg (fM 73 3 t27) asG fun t28 w_ => w_ = asG /\
  aC pg (aG .add 3 aM aM t23 t28) asG fun t29 w_ => w_ = asG /\
  asG = asG /\
  R t29 asG)
theorem alH (R : K1) (hr : HR agX R Q) (h : TX R (g 0) (g 1) (g 2) w) : bH pg Yl VJ Q g w :=
 dR (kn := no) (l := []) h eQ hr trivial
def auR (a0 a1 a2 : aJb) (w : aJa) (R : K1) : Prop :=
 TX R a0 a1 a2 w
theorem aoM {a0 a1 a2 : aJb} {w : aJa} {R : K1} (h : auR a0 a1 a2 w R) : aR pg Qt #[a0, a1, a2] w R := by
 refine rI (ann := Yl) Tryd.f25 VJ [a0, a1, a2] agX 30 TrydM.mixed Tryd.func25 ?_
 exact (alH _ _ _ R (fun _ _ h => h) h)
def Dp : FA := ⟨oB, fun i => .leaf ([], []) []⟩
def DW : List ResultVar := [.tmp 2]
noncomputable def Ci : Code := cU Tryd.f26
def wG (R : K1) (mR : aJb) (w : aJa) : Prop :=
 aC pg (aG .eql 63 (.tmp 3) (.const (.pointer none)) mR (.pointer none)) w fun t4 w =>
 eN t4
  (R (.int .i64 0) w)
  (aC pg (pV mR) w fun t6 w =>
  aC pg (aL 118 t6 1) w fun t7 w =>
  aC pg (aH 3 t7) w fun t8 w =>
  R t8 w)
theorem ND (R : K1) (hr : HR DW R Q) (h : wG R (g 0) w) : bH pg Dp Ci Q g w :=
 dR (kn := no) (l := []) h eQ hr trivial
def KC (a0 : aJb) (w : aJa) (R : K1) : Prop :=
 wG R a0 w
theorem Pw {a0 : aJb} {w : aJa} {R : K1} (h : KC a0 w R) : aR pg oB #[a0] w R := by
 refine rI (ann := Dp) Tryd.f26 Ci [a0] DW 9 TrydM.mixed Tryd.func26 ?_
 exact (ND _ _ _ R (fun _ _ h => h) h)
def Pj : FA := ⟨xS, fun i => .leaf ([], []) []⟩
def Ri : List ResultVar := [.cell 2 72, .tmp 3]
noncomputable def LY : Code := cU Tryd.f27
def GR (R : K1) (mR : aJb) (w : aJa) : Prop :=
 aC pg (rA 72 mR) w fun r_1 w =>
 aC pg (bT 72) w fun t2 w =>
 aC pg (aH 72 r_1) w fun t10 w =>
 aR pg nT #[t10, (.int .i64 1)] w fun t11 w =>
 aC pg (bB t11 0) w fun t12 w =>
 aC pg (bB t11 1) w fun t13 w =>
 aC pg (aJ 72 r_1 t12) w fun _u w =>
 aC pg (aG .lss 73 aM aM t13 (.int .u64 128)) w fun t15 w =>
 eN t15
  (aC pg (aH 72 r_1) w fun t16 w =>
  aC pg (aJ 72 t2 t16) w fun _u w =>
  kC pg 72 t2 w fun r0 => R (.tuple #[r0, t13]) w)
  (aC pg (aG .lss 73 aM aM t13 (.int .u64 255)) w fun t19 w =>
  eN t19
   (aC pg (aH 72 r_1) w fun t21 w =>
   aR pg nT #[t21, (.int .i64 1)] w fun t22 w =>
   aC pg (bB t22 0) w fun t23 w =>
   aC pg (bB t22 1) w fun t24 w =>
   aC pg (bT 72) w fun s_5 w =>
   aC pg (aJ 72 s_5 t23) w fun _u w =>
   aC pg (aH 72 s_5) w fun t25 w =>
   aC pg (aG .sub 73 aM aM t13 (.int .u64 128)) w fun t27 w =>
   aC pg (aG .mul 73 aM aM t27 (.int .u64 256)) w fun t28 w =>
   aC pg (aG .add 73 aM aM t28 t24) w fun t30 w =>
   aC pg (aJ 72 t2 t25) w fun _u w =>
   kC pg 72 t2 w fun r0 => R (.tuple #[r0, t30]) w)
   (aC pg (aH 72 r_1) w fun t32 w =>
   aR pg nT #[t32, (.int .i64 2)] w fun t33 w =>
   aC pg (bB t33 0) w fun t34 w =>
   aC pg (bB t33 1) w fun t35 w =>
   aC pg (bT 72) w fun s_7 w =>
   aC pg (aJ 72 s_7 t34) w fun _u w =>
   aC pg (aH 72 s_7) w fun t36 w =>
   aC pg (aG .add 73 aM aM t35 (.int .u64 32512)) w fun t38 w =>
   aC pg (aJ 72 t2 t36) w fun _u w =>
   kC pg 72 t2 w fun r0 => R (.tuple #[r0, t38]) w))
theorem WZ (R : K1) (hr : HR Ri R Q) (h : GR R (g 0) w) : bH pg Pj LY Q g w :=
 dR (kn := no) (l := []) h eQ hr trivial
def XO (a0 : aJb) (w : aJa) (R : K1) : Prop :=
 GR R a0 w
theorem ZU {a0 : aJb} {w : aJa} {R : K1} (h : XO a0 w R) : aR pg xS #[a0] w R := by
 refine rI (ann := Pj) Tryd.f27 LY [a0] Ri 39 TrydM.mixed Tryd.func27 ?_
 exact (WZ _ _ _ R (fun _ _ h => h) h)
def kN : FA := ⟨nT, fun i => .leaf ([], []) []⟩
def HF : List ResultVar := [.cell 4 72, .tmp 5]
noncomputable def jV : Code := cU Tryd.f28
def AZ (R : K1) (EI t4 oQ : aJb) (w : aJa) : Prop :=
 aC pg (aH 72 EI) w fun t44 w =>
 aC pg (aJ 72 t4 t44) w fun _u w =>
 kC pg 72 t4 w fun r0 => R (.tuple #[r0, oQ]) w
theorem Xo (R : K1) (hr : HR HF R Q) (h : AZ R (g 2) (g 4) (g 7) w) : bH pg kN (aB 1 (aB 3 (aB 2 jV))) Q g w :=
 dR (kn := no) (l := []) h eQ hr trivial
def AJ (kn : K6) (k0 : K3) (EI t4 s_6 oQ m_8 i_9 : aJb) (w : aJa) : Prop :=
 aC pg (jS .len #[9] 3 [s_6]) w fun t30 w =>
 aC pg (aG .lss 3 aM aM i_9 t30) w fun t31 w =>
 eN t31
  (aC pg (G4 9 s_6 i_9) w fun t37 w =>
  aC pg (fM 5 73 t37) w fun t38 w =>
  aC pg (aG .mul 73 aM aM t38 m_8) w fun t40 w =>
  aC pg (aG .add 73 aM aM oQ t40) w fun t41 w =>
  aC pg (aG .mul 73 aM aM m_8 (.int .u64 256)) w fun t43 w =>
  aC pg (aG .add 3 aM aM i_9 (.int .i64 1)) w fun t33 w =>
  kn EI t4 s_6 t41 t43 t33 w)
  (k0 EI t4 oQ w)
theorem Wf (kn : K6) (k0 : K3) (hn : N6 Q kn 2 4 6 7 8 9) (h0 : E3 Q k0 0 2 4 7) (h : AJ kn k0 (g 2) (g 4) (g 6) (g 7) (g 8) (g 9) w) : bH pg kN (bI (bI (aB 1 (aD 1 (aB 3 (aB 2 jV)))))) Q g w :=
 dR (kr := no) (l := [(0, fun g w => k0 (g 2) (g 4) (g 7) w)]) h hn eQ ⟨h0, trivial⟩
def H0 (k0 : K3) (EI t4 s_6 oQ m_8 i_9 : aJb) (w : aJa) : Prop :=
 cG (fun (X : (aJb × aJb × aJb) -> K0) (t : aJb × aJb × aJb) (w : aJa) => AJ (fun _ _ _ oQ m_8 i_9 w => X (oQ, m_8, i_9) w) k0 EI t4 s_6 t.1 t.2.1 t.2.2 w) (oQ, m_8, i_9) w
theorem XA (k0 : K3) (h0 : E3 Q k0 0 2 4 7) (h : H0 k0 (g 2) (g 4) (g 6) (g 7) (g 8) (g 9) w) : bH pg kN (bI (aB 1 (aD 1 (aB 3 (aB 2 jV))))) Q g w := by
 refine DO (fun g : Env => (g 7, g 8, g 9)) (fun X t w => AJ (fun _ _ _ oQ m_8 i_9 w => X (oQ, m_8, i_9) w) k0 (g 2) (g 4) (g 6) t.1 t.2.1 t.2.2 w) h (fun X g1 w1 ha hL => ?_)
 rw [<- fE 2 ha, <- fE 4 ha, <- fE 6 ha] at hL
 exact (Wf _ g1 w1 (fun _ _ _ oQ m_8 i_9 w => X (oQ, m_8, i_9) w) k0 (fun _ _ h => h) h0 hL)
def GD (kn : K3) (EI t4 s_6 oQ m_8 i_9 : aJb) (w : aJa) : Prop :=
 H0 kn EI t4 s_6 oQ m_8 i_9 w
def Ht (kn : K6) (EI t4 s_6 oQ m_8 : aJb) (w : aJa) : Prop :=
 kn EI t4 s_6 oQ m_8 (.int .i64 0) w
theorem Xs (kn : K6) (hn : N6 Q kn 2 4 6 7 8 9) (h : Ht kn (g 2) (g 4) (g 6) (g 7) (g 8) w) : bH pg kN (aD 1 (aD 1 (aB 3 (aB 2 jV)))) Q g w :=
 dR (kr := no) (l := []) h hn eQ trivial
def GV (kn : K3) (EI t4 s_6 oQ m_8 : aJb) (w : aJa) : Prop :=
 Ht (fun EI t4 s_6 oQ m_8 i_9 w => GD kn EI t4 s_6 oQ m_8 i_9 w) EI t4 s_6 oQ m_8 w
def H3 (R : K1) (EI t4 s_6 oQ m_8 : aJb) (w : aJa) : Prop :=
 GV (fun EI t4 oQ w => AZ R EI t4 oQ w) EI t4 s_6 oQ m_8 w
theorem WJ (kn : K3) (hn : N3 Q kn 2 4 7) (h : GV kn (g 2) (g 4) (g 6) (g 7) (g 8) w) : bH pg kN (aD 1 (aB 3 (aB 2 jV))) Q g w :=
 fQ 1 (Xs _ g w (GD kn) (fun g w h => aK (tX 0 (XA _ g w kn hn h))) h)
def HU (kn : K5) (pK EI t4 : aJb) (w : aJa) : Prop :=
 aC pg (aH 72 EI) w fun t23 w =>
 aR pg IK #[t23, pK] w fun t25 w =>
 aC pg (bB t25 0) w fun t26 w =>
 aC pg (bB t25 1) w fun t27 w =>
 aC pg (aJ 72 EI t26) w fun _u w =>
 kn EI t4 t27 (.int .u64 0) (.int .u64 1) w
theorem Wo (kn : K5) (hn : N5 Q kn 2 4 6 7 8) (h : HU kn (g 1) (g 2) (g 4) w) : bH pg kN (aD 3 (aB 2 jV)) Q g w :=
 dR (kr := no) (l := []) h hn eQ trivial
def AN (R : K1) (pK EI t4 : aJb) (w : aJa) : Prop :=
 HU (fun EI t4 s_6 oQ m_8 w => H3 R EI t4 s_6 oQ m_8 w) pK EI t4 w
def Ef (kn : K3) (mR pK : aJb) (w : aJa) : Prop :=
 aC pg (rA 72 mR) w fun EI w =>
 aC pg (bT 72) w fun t4 w =>
 aC pg (aL 72 EI 1) w fun t10 w =>
 aC pg (aH 30 t10) w fun t11 w =>
 aC pg (aG .eql 30 (.tmp 11) (.const (.int .i64 0)) t11 (.int .i64 0)) w fun t12 w =>
 Gd (fI t12 true) (fun K => K pK w) w fun t14 w =>
 Gd (fI t12 true) (fun K => aC pg (aG .lss 3 aM aM t14 (.int .i64 1)) w K) w fun t15 w =>
 Gd (fI t12 true) (fun K => K t15 w) w fun t16 w =>
 Gd (fI t16 false) (fun K => K pK w) w fun t17 w =>
 Gd (fI t16 false) (fun K => aC pg (aG .gtr 3 aM aM t17 (.int .i64 8)) w K) w fun t18 w =>
 Gd (fI t12 true) (fun K => aC pg (fR t16 (.bool true) t18) w K) w fun t19 w =>
 aC pg (fR t12 t19 (.bool false)) w fun t20 w =>
 eN t20
  (aC pg (aL 72 EI 1) w fun t21 w =>
  aC pg (aJ 30 t21 (.int .i64 1)) w fun _u w =>
  kn pK EI t4 w)
  (kn pK EI t4 w)
theorem Ve (kn : K3) (hn : N3 Q kn 1 2 4) (h : Ef kn (g 0) (g 1) w) : bH pg kN (aD 2 jV) Q g w :=
 dR (kr := no) (l := []) h hn eQ trivial
def Ea (R : K1) (mR pK : aJb) (w : aJa) : Prop :=
 Ef (fun pK EI t4 w => AN R pK EI t4 w) mR pK w
theorem Vg (R : K1) (hr : HR HF R Q) (h : Ea R (g 0) (g 1) w) : bH pg kN jV Q g w :=
 fQ 2 (Ve _ g w (AN R) (fun g w h => aK (fQ 3 (Wo _ g w (H3 R) (fun g w h => aK (fQ 1 (WJ _ g w (AZ R) (fun g w h => aK (Xo _ g w R hr h)) h))) h))) h)
def Yj (a0 a1 : aJb) (w : aJa) (R : K1) : Prop :=
 Ea R a0 a1 w
theorem ZN {a0 a1 : aJb} {w : aJa} {R : K1} (h : Yj a0 a1 w R) : aR pg nT #[a0, a1] w R := by
 refine rI (ann := kN) Tryd.f28 jV [a0, a1] HF 46 TrydM.mixed Tryd.func28 ?_
 exact (Vg _ _ _ R (fun _ _ h => h) h)
def Tv : FA := ⟨Cr, fun i => .leaf ([], []) []⟩
def Vy : List ResultVar := [.cell 8 35, .tmp 9, .tmp 10]
noncomputable def Ra : Code := cU Tryd.f29
def MP (R : K1) (aQ Ki CS cI : aJb) (w : aJa) : Prop :=
 aC pg (rA 35 cI) w fun avB w =>
 aC pg (bT 35) w fun t8 w =>
 aR pg xV #[aQ] w fun t19 w =>
 aC pg (jS .len #[91] 3 [t19]) w fun t20 w =>
 aC pg (aG .eql 3 (.tmp 21) (.const (.int .i64 0)) t20 (.int .i64 0)) w fun t22 w =>
 Gd (fI t22 false) (fun K => K Ki w) w fun t24 w =>
 Gd (fI t22 false) (fun K => aC pg (aG .lss 3 aM aM t24 (.int .i64 0)) w K) w fun t25 w =>
 aC pg (fR t22 (.bool true) t25) w fun t26 w =>
 Gd (fI t26 false) (fun K => K Ki w) w fun t28 w =>
 Gd (fI t26 false) (fun K => aC pg (aG .gtr 3 aM aM t28 (.int .i64 3)) w K) w fun t29 w =>
 aC pg (fR t26 (.bool true) t29) w fun t30 w =>
 eN t30
  (aC pg (bV 35 []) w fun t31 w =>
  aC pg (aJ 35 t8 t31) w fun _u w =>
  kC pg 35 t8 w fun r0 => R (.tuple #[r0, (.int .i64 0), (.int .i64 1)]) w)
  (aC pg (aG .eql 3 (.tmp 32) (.const (.int .i64 0)) Ki (.int .i64 0)) w fun t33 w =>
  eN t33
   (aR pg A6 #[aQ] w fun t36 w =>
   aC pg (bB t36 0) w fun t37 w =>
   aC pg (bB t36 1) w fun t38 w =>
   aC pg (bT 35) w fun t12 w =>
   aC pg (aJ 35 t12 t37) w fun _u w =>
   aC pg (aH 35 t12) w fun t39 w =>
   aC pg (aJ 35 t8 t39) w fun _u w =>
   kC pg 35 t8 w fun r0 => R (.tuple #[r0, (.int .i64 0), t38]) w)
   (aC pg (aG .eql 3 (.tmp 41) (.const (.int .i64 1)) Ki (.int .i64 1)) w fun t42 w =>
   eN t42
    (aC pg (aG .eql 9 (.tmp 43) (.const (.string ⟨#[]⟩)) CS (.string ⟨#[]⟩)) w fun t44 w =>
    eN t44
     (aC pg (bV 35 []) w fun t45 w =>
     aC pg (aJ 35 t8 t45) w fun _u w =>
     kC pg 35 t8 w fun r0 => R (.tuple #[r0, (.int .i64 0), (.int .i64 10)]) w)
     (aC pg (G4 9 CS (.int .i64 0)) w fun t47 w =>
     aC pg (fM 5 3 t47) w fun t48 w =>
     aC pg (aG .geq 3 aM aM t48 t20) w fun t50 w =>
     eN t50
      (aC pg (bV 35 []) w fun t51 w =>
      aC pg (aJ 35 t8 t51) w fun _u w =>
      kC pg 35 t8 w fun r0 => R (.tuple #[r0, (.int .i64 0), (.int .i64 11)]) w)
      (aC pg (G4 9 CS (.int .i64 0)) w fun t53 w =>
      aC pg (fM 5 3 t53) w fun t54 w =>
      aR pg LS #[t54] w fun t55 w =>
      aC pg (aJ 35 t8 t55) w fun _u w =>
      kC pg 35 t8 w fun r0 => R (.tuple #[r0, (.int .i64 1), (.int .i64 0)]) w)))
    (aC pg (aG .eql 3 (.tmp 56) (.const (.int .i64 3)) Ki (.int .i64 3)) w fun t57 w =>
    eN t57
     (aC pg (aL 35 avB 1) w fun t58 w =>
     aC pg (aH 33 t58) w fun t59 w =>
     aC pg (jS .len #[33] 3 [t59]) w fun t60 w =>
     aC pg (aG .eql 3 (.tmp 60) (.const (.int .i64 0)) t60 (.int .i64 0)) w fun t61 w =>
     eN t61
      (aC pg (bV 35 []) w fun t62 w =>
      aC pg (aJ 35 t8 t62) w fun _u w =>
      kC pg 35 t8 w fun r0 => R (.tuple #[r0, (.int .i64 0), (.int .i64 11)]) w)
      (aC pg (aH 35 avB) w fun t63 w =>
      aC pg (aJ 35 t8 t63) w fun _u w =>
      kC pg 35 t8 w fun r0 => R (.tuple #[r0, (.int .i64 0), (.int .i64 0)]) w))
     (aR pg Iq #[aQ] w fun t67 w =>
     aR pg IB #[CS, t67, t20] w fun t69 w =>
     aC pg (bB t69 0) w fun t70 w =>
     aC pg (bB t69 1) w fun t71 w =>
     aC pg (bB t69 2) w fun t72 w =>
     aC pg (bT 130) w fun aCt w =>
     aC pg (aJ 130 aCt t70) w fun _u w =>
     aC pg (aG .neq 30 (.tmp 73) (.const (.int .i64 0)) t72 (.int .i64 0)) w fun t74 w =>
     eN t74
      (aC pg (bV 35 []) w fun t75 w =>
      aC pg (aJ 35 t8 t75) w fun _u w =>
      kC pg 35 t8 w fun r0 => R (.tuple #[r0, (.int .i64 0), t72]) w)
      (aC pg (aH 130 aCt) w fun t78 w =>
      aR pg AA #[t78] w fun t79 w =>
      aC pg (bB t79 0) w fun t80 w =>
      aC pg (bB t79 1) w fun t81 w =>
      aC pg (bT 35) w fun t17 w =>
      aC pg (aJ 35 t17 t80) w fun _u w =>
      aC pg (aG .neq 30 (.tmp 82) (.const (.int .i64 0)) t81 (.int .i64 0)) w fun t83 w =>
      eN t83
       (aC pg (bV 35 []) w fun t84 w =>
       aC pg (aJ 35 t8 t84) w fun _u w =>
       kC pg 35 t8 w fun r0 => R (.tuple #[r0, (.int .i64 0), t81]) w)
       (aC pg (aH 35 t17) w fun t86 w =>
       aC pg (aJ 35 t8 t86) w fun _u w =>
       kC pg 35 t8 w fun r0 => R (.tuple #[r0, t71, (.int .i64 0)]) w))))))
theorem afP (R : K1) (hr : HR Vy R Q) (h : MP R (g 0) (g 1) (g 2) (g 3) w) : bH pg Tv Ra Q g w :=
 dR (kn := no) (l := []) h eQ hr trivial
def alN (a0 a1 a2 a3 : aJb) (w : aJa) (R : K1) : Prop :=
 MP R a0 a1 a2 a3 w
theorem ajV {a0 a1 a2 a3 : aJb} {w : aJa} {R : K1} (h : alN a0 a1 a2 a3 w R) : aR pg Cr #[a0, a1, a2, a3] w R := by
 refine rI (ann := Tv) Tryd.f29 Ra [a0, a1, a2, a3] Vy 88 TrydM.mixed Tryd.func29 ?_
 exact (afP _ _ _ R (fun _ _ h => h) h)
def sI : FA := ⟨Gl, fun i => .leaf ([], []) []⟩
def IM : List ResultVar := [.cell 2 82, .tmp 3]
noncomputable def qF : Code := cU Tryd.f30
def Iy (R : K1) (t2 l_4 eJ : aJb) (w : aJa) : Prop :=
 aC pg (fJ 80 l_4 none (some eJ) none) w fun t31 w =>
 aC pg (bV 82 [(0, t31)]) w fun t32 w =>
 aC pg (aJ 82 t2 t32) w fun _u w =>
 kC pg 82 t2 w fun r0 => R (.tuple #[r0, (.int .i64 0)]) w
theorem aiX (R : K1) (hr : HR IM R Q) (h : Iy R (g 2) (g 4) (g 5) w) : bH pg sI (aB 1 (aB 4 qF)) Q g w :=
 dR (kn := no) (l := []) h eQ hr trivial
def II (kn : K3) (k0 : K3) (t2 l_4 eJ : aJb) (w : aJa) : Prop :=
 aC pg (bA 80 l_4 eJ) w fun t24 w =>
 aC pg (aH 4 t24) w fun t25 w =>
 aC pg (sUn .not t25) w fun t26 w =>
 eN t26
  (aC pg (aG .sub 3 aM aM eJ (.int .i64 1)) w fun t28 w =>
  kn t2 l_4 t28 w)
  (k0 t2 l_4 eJ w)
theorem ajI (kn : K3) (k0 : K3) (hn : N3 Q kn 2 4 5) (h0 : E3 Q k0 0 2 4 5) (h : II kn k0 (g 2) (g 4) (g 5) w) : bH pg sI (bI (bI (aD 1 (aB 4 qF)))) Q g w :=
 dR (kr := no) (l := [(0, fun g w => k0 (g 2) (g 4) (g 5) w)]) h hn eQ ⟨h0, trivial⟩
def QN (k0 : K3) (t2 l_4 eJ : aJb) (w : aJa) : Prop :=
 cG (fun (X : aJb -> K0) (t : aJb) (w : aJa) => II (fun _ _ eJ w => X eJ w) k0 t2 l_4 t w) eJ w
theorem ahW (k0 : K3) (h0 : E3 Q k0 0 2 4 5) (h : QN k0 (g 2) (g 4) (g 5) w) : bH pg sI (bI (aD 1 (aB 4 qF))) Q g w := by
 refine DO (fun g : Env => g 5) (fun X t w => II (fun _ _ eJ w => X eJ w) k0 (g 2) (g 4) t w) h (fun X g1 w1 ha hL => ?_)
 rw [<- fE 2 ha, <- fE 4 ha] at hL
 exact (ajI _ g1 w1 (fun _ _ eJ w => X eJ w) k0 (fun _ _ h => h) h0 hL)
def PV (kn : K3) (t2 l_4 eJ : aJb) (w : aJa) : Prop :=
 QN kn t2 l_4 eJ w
def QQ (R : K1) (t2 l_4 eJ : aJb) (w : aJa) : Prop :=
 PV (fun t2 l_4 eJ w => Iy R t2 l_4 eJ w) t2 l_4 eJ w
theorem aiW (kn : K3) (hn : N3 Q kn 2 4 5) (h : PV kn (g 2) (g 4) (g 5) w) : bH pg sI (aD 1 (aB 4 qF)) Q g w :=
 tX 0 (ahW _ g w kn hn h)
def IC (kn : K3) (R : K1) (wB : aJb) (w : aJa) : Prop :=
 aC pg (bT 82) w fun t2 w =>
 aC pg (aG .eql 9 (.tmp 6) (.const (.string ⟨#[]⟩)) wB (.string ⟨#[]⟩)) w fun t7 w =>
 Gd (fI t7 false) (fun K => K wB w) w fun t9 w =>
 Gd (fI t7 false) (fun K => K wB w) w fun t10 w =>
 Gd (fI t7 false) (fun K => aC pg (jS .len #[9] 3 [t10]) w K) w fun t11 w =>
 Gd (fI t7 false) (fun K => aC pg (aG .sub 3 aM aM t11 (.int .i64 1)) w K) w fun t12 w =>
 Gd (fI t7 false) (fun K => aC pg (G4 9 t9 t12) w K) w fun t13 w =>
 Gd (fI t7 false) (fun K => aC pg (aG .eql 5 (.tmp 13) (.const (.int .u8 0)) t13 (.int .u8 0)) w K) w fun t14 w =>
 aC pg (fR t7 (.bool true) t14) w fun t15 w =>
 eN t15
  (aC pg (bV 82 []) w fun t16 w =>
  aC pg (aJ 82 t2 t16) w fun _u w =>
  kC pg 82 t2 w fun r0 => R (.tuple #[r0, (.int .i64 11)]) w)
  (aR pg Df #[wB] w fun t18 w =>
  aC pg (jS .len #[80] 3 [t18]) w fun t20 w =>
  aC pg (aG .sub 3 aM aM t20 (.int .i64 1)) w fun t21 w =>
  kn t2 t18 t21 w)
theorem aiI (kn : K3) (R : K1) (hn : N3 Q kn 2 4 5) (hr : HR IM R Q) (h : IC kn R (g 0) w) : bH pg sI (aD 4 qF) Q g w :=
 dR (l := []) h hn hr trivial
def IQ (R : K1) (wB : aJb) (w : aJa) : Prop :=
 IC (fun t2 l_4 eJ w => QQ R t2 l_4 eJ w) R wB w
theorem aiH (R : K1) (hr : HR IM R Q) (h : IQ R (g 0) w) : bH pg sI qF Q g w :=
 fQ 4 (aiI _ g w (QQ R) R (fun g w h => aK (fQ 1 (aiW _ g w (Iy R) (fun g w h => aK (aiX _ g w R hr h)) h))) hr h)
def acO (a0 : aJb) (w : aJa) (R : K1) : Prop :=
 IQ R a0 w
theorem SS {a0 : aJb} {w : aJa} {R : K1} (h : acO a0 w R) : aR pg Gl #[a0] w R := by
 refine rI (ann := sI) Tryd.f30 qF [a0] IM 33 TrydM.mixed Tryd.func30 ?_
 exact (aiH _ _ _ R (fun _ _ h => h) h)
def Ry : FA := ⟨sC, fun i => .leaf ([], []) []⟩
def TR : List ResultVar := [.cell 4 82, .tmp 5]
noncomputable def On : Code := cU Tryd.f31
def JL (R : K1) (t0 VI : aJb) (w : aJa) : Prop :=
 aC pg (rA 35 t0) w fun t2 w =>
 aC pg (rA 82 VI) w fun b_3 w =>
 aC pg (bT 82) w fun t4 w =>
 aC pg (aH 82 b_3) w fun t8 w =>
 aC pg (aL 35 t2 0) w fun t9 w =>
 aC pg (aH 3 t9) w fun t10 w =>
 aR pg uS #[t8, t10] w fun t11 w =>
 aC pg (bB t11 0) w fun t12 w =>
 aC pg (bB t11 1) w fun t13 w =>
 aC pg (aJ 82 b_3 t12) w fun _u w =>
 aC pg (aH 82 b_3) w fun t14 w =>
 aC pg (fM 73 3 t13) w fun t16 w =>
 aC pg (aJ 82 t4 t14) w fun _u w =>
 kC pg 82 t4 w fun r0 => R (.tuple #[r0, t16]) w
theorem Zv (R : K1) (hr : HR TR R Q) (h : JL R (g 0) (g 1) w) : bH pg Ry On Q g w :=
 dR (kn := no) (l := []) h eQ hr trivial
def agQ (a0 a1 : aJb) (w : aJa) (R : K1) : Prop :=
 JL R a0 a1 w
theorem abP {a0 a1 : aJb} {w : aJa} {R : K1} (h : agQ a0 a1 w R) : aR pg sC #[a0, a1] w R := by
 refine rI (ann := Ry) Tryd.f31 On [a0, a1] TR 17 TrydM.mixed Tryd.func31 ?_
 exact (Zv _ _ _ R (fun _ _ h => h) h)
def RA : FA := ⟨nN, fun i => .leaf ([], []) []⟩
def Ty : List ResultVar := [.cell 8 82, .tmp 9]
noncomputable def Pm : Code := cU Tryd.f32
def KQ (R : K1) (aQ t1 Yo b_3 : aJb) (w : aJa) : Prop :=
 aC pg (rA 35 t1) w fun t5 w =>
 aC pg (rA 82 b_3) w fun As w =>
 aC pg (bT 82) w fun t8 w =>
 aC pg (aL 35 t5 1) w fun t16 w =>
 aC pg (aH 33 t16) w fun t17 w =>
 aC pg (bA 33 t17 Yo) w fun t19 w =>
 aC pg (aL 139 t19 0) w fun t20 w =>
 aC pg (aH 3 t20) w fun t21 w =>
 aR pg Iz #[aQ, t21] w fun t22 w =>
 aC pg (bB t22 0) w fun t23 w =>
 aC pg (bB t22 1) w fun t24 w =>
 aC pg (bB t22 2) w fun t25 w =>
 aC pg (aH 82 As) w fun t27 w =>
 aR pg uS #[t27, t24] w fun t29 w =>
 aC pg (bB t29 0) w fun t30 w =>
 aC pg (bB t29 1) w fun t31 w =>
 aC pg (aJ 82 As t30) w fun _u w =>
 aC pg (aH 82 As) w fun t32 w =>
 aC pg (fM 73 43 t31) w fun t35 w =>
 aC pg (aG .add 43 aM aM t23 t35) w fun t36 w =>
 aC pg (aJ 82 t8 t32) w fun _u w =>
 kC pg 82 t8 w fun r0 => R (.tuple #[r0, t36]) w
theorem Yp (R : K1) (hr : HR Ty R Q) (h : KQ R (g 0) (g 1) (g 2) (g 3) w) : bH pg RA Pm Q g w :=
 dR (kn := no) (l := []) h eQ hr trivial
def agU (a0 a1 a2 a3 : aJb) (w : aJa) (R : K1) : Prop :=
 KQ R a0 a1 a2 a3 w
theorem aeL {a0 a1 a2 a3 : aJb} {w : aJa} {R : K1} (h : agU a0 a1 a2 a3 w R) : aR pg nN #[a0, a1, a2, a3] w R := by
 refine rI (ann := RA) Tryd.f32 Pm [a0, a1, a2, a3] Ty 37 TrydM.mixed Tryd.func32 ?_
 exact (Yp _ _ _ R (fun _ _ h => h) h)
def T5 : FA := ⟨nM, fun i => match Nat.beq i 3 with | true => .leaf ([7, 11], [(10, 11)]) [(false, []), (false, []), (false, []), (false, []), (false, []), (false, []), (false, []), (true, []), (false, []), (false, []), (false, []), (true, [0]), (false, [])] | false => match Nat.beq i 4 with | true => .leaf ([10], [(1, 10), (2, 10), (4, 10), (5, 10), (6, 10), (8, 10), (9, 10)]) [(false, []), (false, []), (false, []), (false, []), (false, []), (false, []), (false, []), (false, []), (false, []), (false, []), (true, [0, 1, 3, 4, 5, 7, 8]), (false, [])] | false => .leaf ([], []) []⟩
def VN : List ResultVar := [.cell 6 82, .tmp 7]
noncomputable def Q9 : Code := cU Tryd.f33
def MB (R : K1) (t0 hP CS : aJb) (w : aJa) : Prop :=
 aC pg (rA 35 t0) w fun t3 w =>
 aC pg (rA 82 CS) w fun b_5 w =>
 aC pg (bT 82) w fun t6 w =>
 aC pg (aG .lss 3 aM aM hP (.int .i64 0)) w fun t10 w =>
 Gd (fI t10 false) (fun K => K hP w) w fun t12 w =>
 Gd (fI t10 false) (fun K => aC pg (aL 35 t3 1) w K) w fun t13 w =>
 Gd (fI t10 false) (fun K => aC pg (aH 33 t13) w K) w fun t14 w =>
 Gd (fI t10 false) (fun K => aC pg (jS .len #[33] 3 [t14]) w K) w fun t15 w =>
 Gd (fI t10 false) (fun K => aC pg (aG .geq 3 aM aM t12 t15) w K) w fun t16 w =>
 aC pg (fR t10 (.bool true) t16) w fun t17 w =>
 eN t17
  (aC pg (aH 82 b_5) w fun t18 w =>
  aC pg (aJ 82 t6 t18) w fun _u w =>
  kC pg 82 t6 w fun r0 => R (.tuple #[r0, (.int .i64 0)]) w)
  (aC pg (aH 82 b_5) (dr w) fun t20 w_ => w_ = (dr w) /\
  aC pg (aL 35 t3 1) (dr w) fun t21 w_ => w_ = (dr w) /\
  aC pg (aH 33 t21) (dr w) fun t22 w_ => w_ = (dr w) /\
  (dr w) = (dr w) /\
  aC pg (bA 33 t22 hP) (dr w) fun t24 w_ => w_ = (dr w) /\
  aC pg (aL 139 t24 1) (dr w) fun t25 w_ => w_ = (dr w) /\
  aC pg (aH 3 t25) (dr w) fun t26 w_ => w_ = (dr w) /\
  aR pg uS #[t20, t26] (dr w) fun t27 azN =>
  azN = azN /\
  aC pg (bB t27 0) azN fun t28 w_ => w_ = azN /\
  aC pg (bB t27 1) azN fun t29 w_ => w_ = azN /\
  aC pg (aJ 82 b_5 t28) azN fun _u11 wY =>
  (eC pg (bB t27 1) t29 wY /\ True) /\
  wY = wY /\
  aC pg (aH 82 b_5) (dr wY) fun t30 w_ => w_ = (dr wY) /\
  aC pg (aL 35 t3 1) (dr wY) fun t31 w_ => w_ = (dr wY) /\
  aC pg (aH 33 t31) (dr wY) fun t32 w_ => w_ = (dr wY) /\
  (dr wY) = (dr wY) /\
  aC pg (bA 33 t32 hP) (dr wY) fun t34 w_ => w_ = (dr wY) /\
  aC pg (aL 139 t34 2) (dr wY) fun t35 w_ => w_ = (dr wY) /\
  aC pg (aH 3 t35) (dr wY) fun t36 w_ => w_ = (dr wY) /\
  (dr wY) = (dr wY) /\
  aC pg (fM 73 3 t29) (dr wY) fun t38 w_ => w_ = (dr wY) /\
  aC pg (aG .add 3 aM aM t36 t38) (dr wY) fun t39 w_ => w_ = (dr wY) /\
  aC pg (aJ 82 t6 t30) (dr wY) fun _u10 SO =>
  (eC pg (aG .add 3 aM aM t36 t38) t39 SO /\ eC pg (fM 73 3 t29) t38 SO /\ eC pg (aH 3 t35) t36 SO /\ eC pg (aL 139 t34 2) t35 SO /\ eC pg (bA 33 t32 hP) t34 SO /\ eC pg (aH 33 t31) t32 SO /\ eC pg (aL 35 t3 1) t31 SO /\ True) /\
  SO = SO /\
  kC pg 82 t6 SO fun r0 => R (.tuple #[r0, t39]) SO)
theorem adY (R : K1) (hr : HR VN R Q) (h : MB R (g 0) (g 1) (g 2) w) : bH pg T5 Q9 Q g w :=
 dR (kn := no) (l := []) h eQ hr trivial
def akT (a0 a1 a2 : aJb) (w : aJa) (R : K1) : Prop :=
 MB R a0 a1 a2 w
theorem ajY {a0 a1 a2 : aJb} {w : aJa} {R : K1} (h : akT a0 a1 a2 w R) : aR pg nM #[a0, a1, a2] w R := by
 refine rI (ann := T5) Tryd.f33 Q9 [a0, a1, a2] VN 40 TrydM.mixed Tryd.func33 ?_
 exact (adY _ _ _ R (fun _ _ h => h) h)
def T1 : FA := ⟨Dn, fun i => .leaf ([], []) []⟩
def VG : List ResultVar := [.tmp 2]
noncomputable def Q8 : Code := cU Tryd.f34
def M0 (R : K1) (Co : aJb) (w : aJa) : Prop :=
 aC pg (rA 82 Co) w fun VI w =>
 aC pg (aL 82 VI 0) w fun t3 w =>
 aC pg (aH 80 t3) w fun t4 w =>
 aC pg (jS .len #[80] 3 [t4]) w fun t5 w =>
 aC pg (aL 82 VI 1) w fun t6 w =>
 aC pg (aH 3 t6) w fun t7 w =>
 aC pg (aG .sub 3 aM aM t5 t7) w fun t8 w =>
 R t8 w
theorem abS (R : K1) (hr : HR VG R Q) (h : M0 R (g 0) w) : bH pg T1 Q8 Q g w :=
 dR (kn := no) (l := []) h eQ hr trivial
def alB (a0 : aJb) (w : aJa) (R : K1) : Prop :=
 M0 R a0 w
theorem ahR {a0 : aJb} {w : aJa} {R : K1} (h : alB a0 w R) : aR pg Dn #[a0] w R := by
 refine rI (ann := T1) Tryd.f34 Q8 [a0] VG 9 TrydM.mixed Tryd.func34 ?_
 exact (abS _ _ _ R (fun _ _ h => h) h)
def lU : FA := ⟨xV, fun i => .leaf ([], []) []⟩
def Bd : List ResultVar := [.tmp 2]
noncomputable def lA : Code := cU Tryd.f35
def vT (R : K1) (cC : aJb) (w : aJa) : Prop :=
 R cC w
theorem WI (R : K1) (hr : HR Bd R Q) (h : vT R (g 3) w) : bH pg lU (aB 1 (aB 5 lA)) Q g w :=
 dR (kn := no) (l := []) h eQ hr trivial
def vU (kn : K4) (k0 : K1) (aQ cC x_4 TP : aJb) (w : aJa) : Prop :=
 aC pg (aG .lss 3 aM aM TP (.int .i64 32)) w fun t13 w =>
 Gd (fI t13 true) (fun K => K aQ w) w fun t15 w =>
 Gd (fI t13 true) (fun K => aC pg (aG .eql 3 (.tmp 15) (.const (.int .i64 1)) t15 (.int .i64 1)) w K) w fun t16 w =>
 aC pg (fR t13 t16 (.bool false)) w fun t17 w =>
 eN t17
  (aC pg (bX 91 1 [(0, x_4)]) w fun t22 w =>
  aC pg (jS .append #[91, 91] 91 [cC, t22]) w fun t23 w =>
  aC pg (aG .mul 43 aM aM x_4 (.int .u32 2)) w fun t25 w =>
  aC pg (aG .add 3 aM aM TP (.int .i64 1)) w fun t19 w =>
  kn aQ t23 t25 t19 w)
  (k0 cC w)
theorem Xk (kn : K4) (k0 : K1) (hn : N4 Q kn 0 3 4 5) (h0 : E1 Q k0 0 3) (h : vU kn k0 (g 0) (g 3) (g 4) (g 5) w) : bH pg lU (bI (bI (aB 1 (aD 1 (aB 5 lA))))) Q g w :=
 dR (kr := no) (l := [(0, fun g w => k0 (g 3) w)]) h hn eQ ⟨h0, trivial⟩
def Hx (k0 : K1) (aQ cC x_4 TP : aJb) (w : aJa) : Prop :=
 cG (fun (X : (aJb × aJb × aJb) -> K0) (t : aJb × aJb × aJb) (w : aJa) => vU (fun _ cC x_4 TP w => X (cC, x_4, TP) w) k0 aQ t.1 t.2.1 t.2.2 w) (cC, x_4, TP) w
theorem Wn (k0 : K1) (h0 : E1 Q k0 0 3) (h : Hx k0 (g 0) (g 3) (g 4) (g 5) w) : bH pg lU (bI (aB 1 (aD 1 (aB 5 lA)))) Q g w := by
 refine DO (fun g : Env => (g 3, g 4, g 5)) (fun X t w => vU (fun _ cC x_4 TP w => X (cC, x_4, TP) w) k0 (g 0) t.1 t.2.1 t.2.2 w) h (fun X g1 w1 ha hL => ?_)
 rw [<- fE 0 ha] at hL
 exact (Xk _ g1 w1 (fun _ cC x_4 TP w => X (cC, x_4, TP) w) k0 (fun _ _ h => h) h0 hL)
def HN (kn : K1) (aQ cC x_4 TP : aJb) (w : aJa) : Prop :=
 Hx kn aQ cC x_4 TP w
def Hk (kn : K4) (aQ cC x_4 : aJb) (w : aJa) : Prop :=
 kn aQ cC x_4 (.int .i64 0) w
theorem Wu (kn : K4) (hn : N4 Q kn 0 3 4 5) (h : Hk kn (g 0) (g 3) (g 4) w) : bH pg lU (aD 1 (aD 1 (aB 5 lA))) Q g w :=
 dR (kr := no) (l := []) h hn eQ trivial
def GA (kn : K1) (aQ cC x_4 : aJb) (w : aJa) : Prop :=
 Hk (fun aQ cC x_4 TP w => HN kn aQ cC x_4 TP w) aQ cC x_4 w
def Hl (R : K1) (aQ cC x_4 : aJb) (w : aJa) : Prop :=
 GA (fun cC w => vT R cC w) aQ cC x_4 w
theorem V7 (kn : K1) (hn : N1 Q kn 3) (h : GA kn (g 0) (g 3) (g 4) w) : bH pg lU (aD 1 (aB 5 lA)) Q g w :=
 fQ 1 (Wu _ g w (HN kn) (fun g w h => aK (tX 0 (Wn _ g w kn hn h))) h)
def HK (kn : K3) (R : K1) (aQ : aJb) (w : aJa) : Prop :=
 aC pg (aG .eql 3 (.tmp 6) (.const (.int .i64 0)) aQ (.int .i64 0)) w fun t7 w =>
 eN t7
  (aC pg (bX 91 36 [(0, (.int .u32 0)), (1, (.int .u32 1)), (2, (.int .u32 2)), (3, (.int .u32 3)), (4, (.int .u32 4)), (5, (.int .u32 5)), (6, (.int .u32 6)), (7, (.int .u32 7)), (8, (.int .u32 8)), (9, (.int .u32 9)), (10, (.int .u32 10)), (11, (.int .u32 11)), (12, (.int .u32 12)), (13, (.int .u32 13)), (14, (.int .u32 14)), (15, (.int .u32 15)), (16, (.int .u32 16)), (17, (.int .u32 18)), (18, (.int .u32 20)), (19, (.int .u32 22)), (20, (.int .u32 24)), (21, (.int .u32 28)), (22, (.int .u32 32)), (23, (.int .u32 40)), (24, (.int .u32 48)), (25, (.int .u32 64)), (26, (.int .u32 128)), (27, (.int .u32 256)), (28, (.int .u32 512)), (29, (.int .u32 1024)), (30, (.int .u32 2048)), (31, (.int .u32 4096)), (32, (.int .u32 8192)), (33, (.int .u32 16384)), (34, (.int .u32 32768)), (35, (.int .u32 65536))]) w fun t8 w =>
  R t8 w)
  (aC pg (aG .eql 3 (.tmp 9) (.const (.int .i64 2)) aQ (.int .i64 2)) w fun t10 w =>
  eN t10
   (aC pg (bX 91 53 [(0, (.int .u32 3)), (1, (.int .u32 4)), (2, (.int .u32 5)), (3, (.int .u32 6)), (4, (.int .u32 7)), (5, (.int .u32 8)), (6, (.int .u32 9)), (7, (.int .u32 10)), (8, (.int .u32 11)), (9, (.int .u32 12)), (10, (.int .u32 13)), (11, (.int .u32 14)), (12, (.int .u32 15)), (13, (.int .u32 16)), (14, (.int .u32 17)), (15, (.int .u32 18)), (16, (.int .u32 19)), (17, (.int .u32 20)), (18, (.int .u32 21)), (19, (.int .u32 22)), (20, (.int .u32 23)), (21, (.int .u32 24)), (22, (.int .u32 25)), (23, (.int .u32 26)), (24, (.int .u32 27)), (25, (.int .u32 28)), (26, (.int .u32 29)), (27, (.int .u32 30)), (28, (.int .u32 31)), (29, (.int .u32 32)), (30, (.int .u32 33)), (31, (.int .u32 34)), (32, (.int .u32 35)), (33, (.int .u32 37)), (34, (.int .u32 39)), (35, (.int .u32 41)), (36, (.int .u32 43)), (37, (.int .u32 47)), (38, (.int .u32 51)), (39, (.int .u32 59)), (40, (.int .u32 67)), (41, (.int .u32 83)), (42, (.int .u32 99)), (43, (.int .u32 131)), (44, (.int .u32 259)), (45, (.int .u32 515)), (46, (.int .u32 1027)), (47, (.int .u32 2051)), (48, (.int .u32 4099)), (49, (.int .u32 8195)), (50, (.int .u32 16387)), (51, (.int .u32 32771)), (52, (.int .u32 65539))]) w fun t11 w =>
   R t11 w)
   (kn aQ (.slice none 0 0) (.int .u32 1) w))
theorem VR (kn : K3) (R : K1) (hn : N3 Q kn 0 3 4) (hr : HR Bd R Q) (h : HK kn R (g 0) w) : bH pg lU (aD 5 lA) Q g w :=
 dR (l := []) h hn hr trivial
def HW (R : K1) (aQ : aJb) (w : aJa) : Prop :=
 HK (fun aQ cC x_4 w => Hl R aQ cC x_4 w) R aQ w
theorem Xh (R : K1) (hr : HR Bd R Q) (h : HW R (g 0) w) : bH pg lU lA Q g w :=
 fQ 5 (VR _ g w (Hl R) R (fun g w h => aK (fQ 1 (V7 _ g w (vT R) (fun g w h => aK (WI _ g w R hr h)) h))) hr h)
def Yk (a0 : aJb) (w : aJa) (R : K1) : Prop :=
 HW R a0 w
theorem XM {a0 : aJb} {w : aJa} {R : K1} (h : Yk a0 w R) : aR pg xV #[a0] w R := by
 refine rI (ann := lU) Tryd.f35 lA [a0] Bd 27 TrydM.mixed Tryd.func35 ?_
 exact (Xh _ _ _ R (fun _ _ h => h) h)
def oK : FA := ⟨IT, fun i => .leaf ([], []) []⟩
def Fc : List ResultVar := [.tmp 2]
noncomputable def mT : Code := cU Tryd.f36
def FR (R : K1) (cC : aJb) (w : aJa) : Prop :=
 R cC w
theorem aaJ (R : K1) (hr : HR Fc R Q) (h : FR R (g 3) w) : bH pg oK (aB 1 (aB 4 mT)) Q g w :=
 dR (kn := no) (l := []) h eQ hr trivial
def FD (kn : K3) (k0 : K1) (aQ cC jH : aJb) (w : aJa) : Prop :=
 aC pg (aG .lss 3 aM aM jH (.int .i64 32)) w fun t12 w =>
 Gd (fI t12 true) (fun K => K aQ w) w fun t14 w =>
 Gd (fI t12 true) (fun K => aC pg (aG .eql 3 (.tmp 14) (.const (.int .i64 1)) t14 (.int .i64 1)) w K) w fun t15 w =>
 aC pg (fR t12 t15 (.bool false)) w fun t16 w =>
 eN t16
  (aC pg (bX 77 1 [(0, jH)]) w fun t21 w =>
  aC pg (jS .append #[77, 77] 77 [cC, t21]) w fun t22 w =>
  aC pg (aG .add 3 aM aM jH (.int .i64 1)) w fun t18 w =>
  kn aQ t22 t18 w)
  (k0 cC w)
theorem adN (kn : K3) (k0 : K1) (hn : N3 Q kn 0 3 4) (h0 : E1 Q k0 0 3) (h : FD kn k0 (g 0) (g 3) (g 4) w) : bH pg oK (bI (bI (aB 1 (aD 1 (aB 4 mT))))) Q g w :=
 dR (kr := no) (l := [(0, fun g w => k0 (g 3) w)]) h hn eQ ⟨h0, trivial⟩
def M5 (k0 : K1) (aQ cC jH : aJb) (w : aJa) : Prop :=
 cG (fun (X : (aJb × aJb) -> K0) (t : aJb × aJb) (w : aJa) => FD (fun _ cC jH w => X (cC, jH) w) k0 aQ t.1 t.2 w) (cC, jH) w
theorem aaM (k0 : K1) (h0 : E1 Q k0 0 3) (h : M5 k0 (g 0) (g 3) (g 4) w) : bH pg oK (bI (aB 1 (aD 1 (aB 4 mT)))) Q g w := by
 refine DO (fun g : Env => (g 3, g 4)) (fun X t w => FD (fun _ cC jH w => X (cC, jH) w) k0 (g 0) t.1 t.2 w) h (fun X g1 w1 ha hL => ?_)
 rw [<- fE 0 ha] at hL
 exact (adN _ g1 w1 (fun _ cC jH w => X (cC, jH) w) k0 (fun _ _ h => h) h0 hL)
def NH (kn : K1) (aQ cC jH : aJb) (w : aJa) : Prop :=
 M5 kn aQ cC jH w
def M1 (kn : K3) (aQ cC : aJb) (w : aJa) : Prop :=
 kn aQ cC (.int .i64 0) w
theorem afG (kn : K3) (hn : N3 Q kn 0 3 4) (h : M1 kn (g 0) (g 3) w) : bH pg oK (aD 1 (aD 1 (aB 4 mT))) Q g w :=
 dR (kr := no) (l := []) h hn eQ trivial
def Od (kn : K1) (aQ cC : aJb) (w : aJa) : Prop :=
 M1 (fun aQ cC jH w => NH kn aQ cC jH w) aQ cC w
def Np (R : K1) (aQ cC : aJb) (w : aJa) : Prop :=
 Od (fun cC w => FR R cC w) aQ cC w
theorem acT (kn : K1) (hn : N1 Q kn 3) (h : Od kn (g 0) (g 3) w) : bH pg oK (aD 1 (aB 4 mT)) Q g w :=
 fQ 1 (afG _ g w (NH kn) (fun g w h => aK (tX 0 (aaM _ g w kn hn h))) h)
def Ni (kn : K2) (R : K1) (aQ : aJb) (w : aJa) : Prop :=
 aC pg (aG .eql 3 (.tmp 5) (.const (.int .i64 0)) aQ (.int .i64 0)) w fun t6 w =>
 eN t6
  (aC pg (bX 77 36 [(0, (.int .i64 0)), (1, (.int .i64 0)), (2, (.int .i64 0)), (3, (.int .i64 0)), (4, (.int .i64 0)), (5, (.int .i64 0)), (6, (.int .i64 0)), (7, (.int .i64 0)), (8, (.int .i64 0)), (9, (.int .i64 0)), (10, (.int .i64 0)), (11, (.int .i64 0)), (12, (.int .i64 0)), (13, (.int .i64 0)), (14, (.int .i64 0)), (15, (.int .i64 0)), (16, (.int .i64 1)), (17, (.int .i64 1)), (18, (.int .i64 1)), (19, (.int .i64 1)), (20, (.int .i64 2)), (21, (.int .i64 2)), (22, (.int .i64 3)), (23, (.int .i64 3)), (24, (.int .i64 4)), (25, (.int .i64 6)), (26, (.int .i64 7)), (27, (.int .i64 8)), (28, (.int .i64 9)), (29, (.int .i64 10)), (30, (.int .i64 11)), (31, (.int .i64 12)), (32, (.int .i64 13)), (33, (.int .i64 14)), (34, (.int .i64 15)), (35, (.int .i64 16))]) w fun t7 w =>
  R t7 w)
  (aC pg (aG .eql 3 (.tmp 8) (.const (.int .i64 2)) aQ (.int .i64 2)) w fun t9 w =>
  eN t9
   (aC pg (bX 77 53 [(0, (.int .i64 0)), (1, (.int .i64 0)), (2, (.int .i64 0)), (3, (.int .i64 0)), (4, (.int .i64 0)), (5, (.int .i64 0)), (6, (.int .i64 0)), (7, (.int .i64 0)), (8, (.int .i64 0)), (9, (.int .i64 0)), (10, (.int .i64 0)), (11, (.int .i64 0)), (12, (.int .i64 0)), (13, (.int .i64 0)), (14, (.int .i64 0)), (15, (.int .i64 0)), (16, (.int .i64 0)), (17, (.int .i64 0)), (18, (.int .i64 0)), (19, (.int .i64 0)), (20, (.int .i64 0)), (21, (.int .i64 0)), (22, (.int .i64 0)), (23, (.int .i64 0)), (24, (.int .i64 0)), (25, (.int .i64 0)), (26, (.int .i64 0)), (27, (.int .i64 0)), (28, (.int .i64 0)), (29, (.int .i64 0)), (30, (.int .i64 0)), (31, (.int .i64 0)), (32, (.int .i64 1)), (33, (.int .i64 1)), (34, (.int .i64 1)), (35, (.int .i64 1)), (36, (.int .i64 2)), (37, (.int .i64 2)), (38, (.int .i64 3)), (39, (.int .i64 3)), (40, (.int .i64 4)), (41, (.int .i64 4)), (42, (.int .i64 5)), (43, (.int .i64 7)), (44, (.int .i64 8)), (45, (.int .i64 9)), (46, (.int .i64 10)), (47, (.int .i64 11)), (48, (.int .i64 12)), (49, (.int .i64 13)), (50, (.int .i64 14)), (51, (.int .i64 15)), (52, (.int .i64 16))]) w fun t10 w =>
   R t10 w)
   (kn aQ (.slice none 0 0) w))
theorem aaU (kn : K2) (R : K1) (hn : N2 Q kn 0 3) (hr : HR Fc R Q) (h : Ni kn R (g 0) w) : bH pg oK (aD 4 mT) Q g w :=
 dR (l := []) h hn hr trivial
def MY (R : K1) (aQ : aJb) (w : aJa) : Prop :=
 Ni (fun aQ cC w => Np R aQ cC w) R aQ w
theorem afC (R : K1) (hr : HR Fc R Q) (h : MY R (g 0) w) : bH pg oK mT Q g w :=
 fQ 4 (aaU _ g w (Np R) R (fun g w h => aK (fQ 1 (acT _ g w (FR R) (fun g w h => aK (aaJ _ g w R hr h)) h))) hr h)
def amQ (a0 : aJb) (w : aJa) (R : K1) : Prop :=
 MY R a0 w
theorem ahS {a0 : aJb} {w : aJa} {R : K1} (h : amQ a0 w R) : aR pg IT #[a0] w R := by
 refine rI (ann := oK) Tryd.f36 mT [a0] Fc 24 TrydM.mixed Tryd.func36 ?_
 exact (afC _ _ _ R (fun _ _ h => h) h)
def Gr : FA := ⟨vI, fun i => .leaf ([], []) []⟩
def Ig : List ResultVar := [.tmp 0]
noncomputable def DQ : Code := cU Tryd.f37
def Al (R : K1)  (w : aJa) : Prop :=
 aC pg (bV 141 []) w fun t1 w =>
 aC pg (rA 141 t1) w fun t2 w =>
 R t2 w
theorem QV (R : K1) (hr : HR Ig R Q) (h : Al R w) : bH pg Gr DQ Q g w :=
 dR (kn := no) (l := []) h eQ hr trivial
def Ps (w : aJa) (R : K1) : Prop :=
 Al R w
theorem Sc {w : aJa} {R : K1} (h : Ps w R) : aR pg vI #[] w R := by
 refine rI (ann := Gr) Tryd.f37 DQ [] Ig 3 TrydM.mixed Tryd.func37 ?_
 exact (QV _ _ _ R (fun _ _ h => h) h)
def lO : FA := ⟨gO, fun i => .leaf ([], []) []⟩
def tC : List ResultVar := []
noncomputable def kU : Code := cU Tryd.f38
def pE (kn : K4) (k0 : K0) (tV DY t17 t18 : aJb) (w : aJa) : Prop :=
 aC pg (aG .lss 3 aM aM t18 t17) w fun t19 w =>
 eN t19
  (aC pg (pV tV) w fun t23 w =>
  aC pg (aL 141 t23 0) w fun t24 w =>
  aC pg (aH 22 t24) w fun t25 w =>
  aC pg (aG .mul 3 aM aM (.int .i64 8) t18) w fun t28 w =>
  aC pg (fM 3 94 t28) w fun t29 w =>
  aC pg (aG .shr 73 aM aM DY t29) w fun t30 w =>
  aC pg (fM 73 5 t30) w fun t31 w =>
  aC pg (bX 22 1 [(0, t31)]) w fun t32 w =>
  aC pg (jS .append #[22, 22] 22 [t25, t32]) w fun t33 w =>
  aC pg (pV tV) w fun t34 w =>
  aC pg (aL 141 t34 0) w fun t35 w =>
  aC pg (aJ 22 t35 t33) w fun _u w =>
  aC pg (aG .add 3 aM aM t18 (.int .i64 1)) w fun t36 w =>
  kn tV DY t17 t36 w)
  (k0 w)
theorem Jx (kn : K4) (k0 : K0) (hn : N4 Q kn 0 1 17 18) (h0 : E0 Q k0 0) (h : pE kn k0 (g 0) (g 1) (g 17) (g 18) w) : bH pg lO (bI (bI (aB 2 kU))) Q g w :=
 dR (kr := no) (l := [(0, fun g w => k0 w)]) h hn eQ ⟨h0, trivial⟩
def tP (k0 : K0) (tV DY t17 t18 : aJb) (w : aJa) : Prop :=
 cG (fun (X : aJb -> K0) (t : aJb) (w : aJa) => pE (fun _ _ _ t18 w => X t18 w) k0 tV DY t17 t w) t18 w
theorem Jd (k0 : K0) (h0 : E0 Q k0 0) (h : tP k0 (g 0) (g 1) (g 17) (g 18) w) : bH pg lO (bI (aB 2 kU)) Q g w := by
 refine DO (fun g : Env => g 18) (fun X t w => pE (fun _ _ _ t18 w => X t18 w) k0 (g 0) (g 1) (g 17) t w) h (fun X g1 w1 ha hL => ?_)
 rw [<- fE 0 ha, <- fE 1 ha, <- fE 17 ha] at hL
 exact (Jx _ g1 w1 (fun _ _ _ t18 w => X t18 w) k0 (fun _ _ h => h) h0 hL)
def tE (kn : K0) (tV DY t17 t18 : aJb) (w : aJa) : Prop :=
 tP kn tV DY t17 t18 w
def tJ (kn : K4) (R : K1) (tV DY AW : aJb) (w : aJa) : Prop :=
 aC pg (aG .eql 95 (.tmp 7) (.const (.pointer none)) tV (.pointer none)) w fun t8 w =>
 Gd (fI t8 false) (fun K => K AW w) w fun t10 w =>
 Gd (fI t8 false) (fun K => aC pg (aG .lss 3 aM aM t10 (.int .i64 1)) w K) w fun t11 w =>
 aC pg (fR t8 (.bool true) t11) w fun t12 w =>
 Gd (fI t12 false) (fun K => K AW w) w fun t14 w =>
 Gd (fI t12 false) (fun K => aC pg (aG .gtr 3 aM aM t14 (.int .i64 8)) w K) w fun t15 w =>
 aC pg (fR t12 (.bool true) t15) w fun t16 w =>
 eN t16
  (R (.tuple #[]) w)
  (kn tV DY AW (.int .i64 0) w)
theorem Ji (kn : K4) (R : K1) (hn : N4 Q kn 0 1 17 18) (hr : HR tC R Q) (h : tJ kn R (g 0) (g 1) (g 2) w) : bH pg lO (aD 2 kU) Q g w :=
 dR (l := []) h hn hr trivial
def tQ (kn : K0) (R : K1) (tV DY AW : aJb) (w : aJa) : Prop :=
 tJ (fun tV DY t17 t18 w => tE kn tV DY t17 t18 w) R tV DY AW w
theorem Ks (kn : K0) (R : K1) (hn : N0 Q kn) (hr : HR tC R Q) (h : tQ kn R (g 0) (g 1) (g 2) w) : bH pg lO kU Q g w :=
 fQ 2 (Ji _ g w (tE kn) R (fun g w h => aK (tX 0 (Jd _ g w kn hn h))) hr h)
def Gp (a0 a1 a2 : aJb) (w : aJa) (R : K1) : Prop :=
 tQ (fun  w => R (.tuple #[]) w) R a0 a1 a2 w
theorem LD {a0 a1 a2 : aJb} {w : aJa} {R : K1} (h : Gp a0 a1 a2 w R) : aR pg gO #[a0, a1, a2] w R := by
 refine rI (ann := lO) Tryd.f38 kU [a0, a1, a2] tC 37 TrydM.mixed Tryd.func38 ?_
 exact (Ks _ _ _ (fun  w => R (.tuple #[]) w) R (fun _ _ h => h) (fun _ _ h => h) h)
end Go.Proofs.YtaggdjhhmbnhoaaDoor

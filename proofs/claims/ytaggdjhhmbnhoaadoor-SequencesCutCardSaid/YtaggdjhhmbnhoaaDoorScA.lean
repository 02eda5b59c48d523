/- Parts of the proof of SequencesCut: merged and given short names by a program of ours. -/
import Derived.Orders
import Derived.Below
import Derived.KernelRfl
import Derived.Eval
import Derived.Laws.Sem
import Derived.Scope
import Derived.Test.YtaggdjhhmbnhoaaDoorRows
set_option linter.unusedVariables false
set_option linter.unusedSimpArgs false
open Array renaming getD_eq_getD_getElem? → aHY, getElem?_setIfInBounds_self_of_lt → aIE, getElem?_setIfInBounds_ne → aIK, all_eq_true' → aIU, length_toList → aIZ, getElem?_eq_getElem → aIi, mem_of_getElem? → aJY, getElem?_eq_none → aJw
open Bool renaming and_eq_true → aH4, false_eq_true → aHP, or_eq_true → aI0, not_true → aIt, or_eq_false_iff → aJE, not_eq_true' → aJo
open List renaming mem_cons_of_mem → aH0, getElem?_eq_none → aH3, length_cons → aH5, getElem?_cons_succ → aHK, getElem?_eq_getElem → aHQ, getD_eq_getElem?_getD → aHX, mem_append → aI2, map_congr_left → aI8, toList_toArray → aI9, all_eq_true → aIF, mem_cons_self → aIL, mem_of_getElem? → aIX, getElem_of_mem → aIf, drop_eq_getElem_cons → aIh, length_eq_zero_iff → aIk, mem_range → aIw, mem_map → aIx, mem_cons → aIz, mem_append_right → aJA, length_erase_of_mem → aJL, mem_filter → aJZ, mem_append_left → aJd, map_cons → aJh
open Nat renaming lt_or_ge → aH6, zero_add → aHI, le_refl → aHS, mod_lt → aI1, add_assoc → aI5, le_trans → aIM, eq_of_beq_eq_true → aIq, blt_eq → aJP, lt_trichotomy → aJg
open Option renaming map_some → aIu, getD_some → aJX
open Option.some renaming inj → aH2
namespace Go.En
open Go
abbrev aJ2 := World
abbrev aJ3 := Value
abbrev Env := Nat -> aJ3
def put (g : Env) (d : Option Tmp) (v : aJ3) : Env :=
 match d with
 | some d => fun i => match Nat.beq i d with | true => v | false => g i
 | none => g
def ev (g : Env) : Operand -> aJ3
 | .tmp t => g t
 | .const v => v
 | .global b => .pointer (some ⟨b, 0, none⟩)
 | .func f => .func (.func f) #[] #[]
def Ret (P : Program) (f : FuncId) (args : Array aJ3) (w : aJ2) (v : aJ3) (w' : aJ2) : Prop :=
 Calls P f args w fun e w'' => e = .returned v /\ w'' = w'
def aR (P : Program) (f : FuncId) (args : Array aJ3) (w : aJ2) (R : aJ3 -> aJ2 -> Prop) : Prop :=
 ∃ v w', Ret P f args w v w' /\ R v w'
theorem aR.mono {P : Program} {f : FuncId} {args : Array aJ3} {w : aJ2} {R R' : aJ3 -> aJ2 -> Prop} (h : aR P f args w R)
 (hr : ∀ v w', R v w' -> R' v w') : aR P f args w R' :=
 let ⟨v, w', a, b⟩ := h; ⟨v, w', a, hr _ _ b⟩
def aD1 (P : Program) (r : Result Next) (K : aJ3 -> aJ2 -> Prop) : Prop :=
 match r with
 | .ok (.value v) w => K v w
 | .ok .skip w => K undef w
 | .ok (.enter f args) w => aR P f args w K
 | _ => False
theorem aA (P : Program) (v : aJ3) (w : aJ2) (K : aJ3 -> aJ2 -> Prop) : aD1 P (.ok (.value v) w) K = K v w := Eq.trans rfl rfl
theorem stepR_skip (P : Program) (w : aJ2) (K : aJ3 -> aJ2 -> Prop) : aD1 P (.ok .skip w) K = K undef w := Eq.trans rfl rfl
def aC (P : Program) (s : Sem Next) (w : aJ2) (K : aJ3 -> aJ2 -> Prop) : Prop := aD1 P (s.run P w) K
def eD (P : Program) (s : Sem Next) (v : aJ3) (w : aJ2) : Prop := s.run P w = .ok (.value v) w
def Gd (b : Bool) (s : (aJ3 -> aJ2 -> Prop) -> Prop) (w : aJ2) (K : aJ3 -> aJ2 -> Prop) : Prop :=
 match b with
 | true => s K
 | false => K undef w
def asB (v : aJ3) : Option Bool := match v with | .bool b => some b | _ => none
def eX (v : aJ3) (want : Bool) : Bool := asB v == some want
def eM (v : aJ3) (A B : Prop) : Prop :=
 match v with
 | .bool b => (match b with | true => A | false => B)
 | _ => False
def Fg (ops : Array Oper) (j : Nat) : Option Tmp := (ops[j]?).bind (·.dst)
def A7 (g : Env) (t : Option Tmp) (want : Bool) : Bool := match t with | some t => eX (g t) want | none => false
def V (s : Sem aJ3) : Sem Next := do pure (.value (<- s))
def U (s : Sem Unit) : Sem Next := do s; pure .skip
def JY (op : BinOp) : Bool := match op with | .eql | .neq => true | _ => false
def aG (op : BinOp) (t : TypeId) (ox oy : Operand) (x y : aJ3) : Sem Next :=
 match JY op with
 | true => V (do eqGuard op t ox oy x y; binOp op t x y)
 | false => V (binOp op t x y)
def jM (b : Builtin) (ats : Array TypeId) (ty : TypeId) (args : List aJ3) : Sem Next := builtin b ats ty #[] args.toArray
def bV (t : TypeId) (ps : List (Nat × aJ3)) : Sem Next := V (Instr.build t ps.toArray)
def bX (t : TypeId) (n : Nat) (ps : List (Nat × aJ3)) : Sem Next := V (Instr.buildSlice t n ps.toArray)
def O3 (g : Env) (o : Oper) : Sem Next :=
 match o.op with
 | .binOp op t x y _ => aG op t x y (ev g x) (ev g y)
 | .build t ps => bV t (ps.toList.map fun p => (p.1, ev g p.2))
 | .buildSlice t n ps => bX t n (ps.toList.map fun p => (p.1, ev g p.2))
 | .call c => (match c.callee with
   | .builtin b => jM b c.argTypes o.type (c.args.toList.map (ev g))
   | _ => execOp (ev g) o)
 | _ => execOp (ev g) o
def Mi (P : Program) (g : Env) (o : Oper) (w : aJ2) (K : aJ3 -> aJ2 -> Prop) : Prop :=
 match o.op with
 | .move x => K (ev g x) w
 | .assign x => K (ev g x) w
 | .call c => (match c.callee with
   | .value (.func f) => aR P f (c.args.toList.map (ev g)).toArray w K
   | _ => aC P (O3 g o) w K)
 | _ => aC P (O3 g o) w K
def JZ (P : Program) (ops : Array Oper) (g : Env) (o : Oper) (w : aJ2) (K : aJ3 -> aJ2 -> Prop) : Prop :=
 match o.guard with
 | none => Mi P g o w K
 | some (j, want) => Gd (A7 g (Fg ops j) want) (Mi P g o w) w K
def anE (P : Program) (ops : Array Oper) : List Oper -> Env -> aJ2 -> (Env -> aJ2 -> Prop) -> Prop
 | [], g, w, K => K g w
 | o :: rest, g, w, K => JZ P ops g o w fun v w' => anE P ops rest (put g o.dst v) w' K
structure Rec where
 heavy : Bool
 o : Oper
 g : Env
 w : aJ2
 v : aJ3
def gOf (ops : Array Oper) (o : Oper) (g : Env) : Bool := match o.guard with | none => true | some (j, want) => A7 g (Fg ops j) want
def Gs (b : Bool) (p : Prop) : Prop := match b with | true => p | false => True
def W1 (P : Program) (ops : Array Oper) (q : Rec) (o : Oper) (g : Env) (w' : aJ2) (v : aJ3) : Prop :=
 match q.heavy with
 | true => Gs (gOf ops o g) (eD P (O3 g o) v q.w)
 | false => Gs (gOf ops q.o q.g) (eD P (O3 q.g q.o) q.v w')
def amZ (i j : Nat) : List (Nat × Nat) -> Bool
 | [] => false
 | (a, b) :: r => match Nat.beq a i with
   | true => (match Nat.beq b j with | true => true | false => amZ i j r)
   | false => amZ i j r
def rP (i : Nat) : List Nat -> Bool
 | [] => false
 | a :: r => match Nat.beq a i with | true => true | false => rP i r
def ayD : List Rec -> Nat -> Option Rec
 | [], _ => none
 | q :: _, 0 => some q
 | _ :: r, n + 1 => ayD r n
def aE4 (P : Program) (ops : Array Oper) (o : Oper) (g : Env) (w' : aJ2) (v : aJ3) (hist : List Rec) : List Nat -> Prop
 | [] => True
 | k :: ks => (match ayD hist k with
   | some q => W1 P ops q o g w' v
   | none => False) /\ aE4 P ops o g w' v hist ks
abbrev Ann := List Nat × List (Nat × Nat)
abbrev avF := List (Bool × List Nat)
def tE (P : Program) (ops : Array Oper) : List Oper -> avF -> List Rec -> Env -> aJ2 -> (Env -> aJ2 -> Prop) -> Prop
 | [], _, _, g, w, K => K g w
 | _ :: _, [], _, _, _, _ => False
 | o :: rest, (hv, ks) :: pl, hist, g, w, K =>
   JZ P ops g o w fun v w' =>
    match hv, ks with
    | true, [] => tE P ops rest pl (⟨true, o, g, w, v⟩ :: hist) (put g o.dst v) w' K
    | true, k :: ks => aE4 P ops o g w' v hist (k :: ks) /\ tE P ops rest pl (⟨true, o, g, w, v⟩ :: hist) (put g o.dst v) w' K
    | false, [] => w' = w /\ tE P ops rest pl (⟨false, o, g, w, v⟩ :: hist) (put g o.dst v) w K
    | false, k :: ks => w' = w /\ aE4 P ops o g w v hist (k :: ks) /\ tE P ops rest pl (⟨false, o, g, w, v⟩ :: hist) (put g o.dst v) w K
def cG {α : Type} (F : (α -> aJ2 -> Prop) -> α -> aJ2 -> Prop) (g : α) (w : aJ2) : Prop :=
 ∃ I : Nat -> α -> aJ2 -> Prop, (∃ n, I n g w) /\ ∀ n g w, I n g w -> F (fun g' w' => ∃ m, m < n /\ I m g' w') g w
def Cu (K : Env -> aJ2 -> Prop) (Q : Exit -> Env -> aJ2 -> Prop) : Exit -> Env -> aJ2 -> Prop
 | .normal, g, w => K g w
 | e, g, w => Q e g w
def blk (id : Nat) (Q : Exit -> Env -> aJ2 -> Prop) : Exit -> Env -> aJ2 -> Prop
 | .exit i, g, w => (match Nat.beq i id with | true => Q .normal g w | false => Q (.exit i) g w)
 | e, g, w => Q e g w
inductive HT where
 | leaf (an : Ann) (pl : avF)
 | perm (π : List Nat) (es : List (Nat × Nat)) (an : Ann) (pl : avF)
 | split (a b : Nat) (x y : HT)
structure FA where
 f : FuncId
 t : Nat -> HT
def zM : List Nat -> Nat -> Nat
 | [], _ => 0
 | a :: r, i => match Nat.beq a i with | true => 0 | false => zM r i + 1
def Jk (π : List Nat) (i : Nat) : List (Nat × Nat) -> List Edge
 | [] => []
 | (a, b) :: r => match Nat.beq b i with | true => ⟨zM π a, .data⟩ :: Jk π i r | false => Jk π i r
def LQ (π : List Nat) (es : List (Nat × Nat)) (i : Nat) (o : Oper) : Oper :=
 { dst := o.dst, op := o.op, type := o.type, pos := o.pos, after := (o.after.toList.map (fun e => (⟨zM π e.on, e.ground⟩ : Edge)) ++ Jk π i es).toArray,
   guard := match o.guard with | none => none | some (j, b) => some (zM π j, b) }
def Zx (π : List Nat) (es : List (Nat × Nat)) (l : List Oper) : List Nat -> List Oper
 | [] => []
 | i :: r => match l[i]? with | some o => LQ π es i o :: Zx π es l r | none => Zx π es l r
def rF (π : List Nat) (es : List (Nat × Nat)) (ops : Array Oper) : Array Oper := (Zx π es ops.toList π).toArray
def aqK (f : FuncId) (id : Nat) (ops : Array Oper) (a b : Nat) (w : aJ2) : Bool :=
 Nat.ble ((Region.schedule true ops (w.tape w.drawn (.order f id))).idxOf a) ((Region.schedule true ops (w.tape w.drawn (.order f id))).idxOf b)
def Ord (b : Bool) (A B : Prop) : Prop := match b with | true => A | false => B
def awH (P : Program) (f : FuncId) (id : Nat) (ops : Array Oper) : HT -> Env -> aJ2 -> aJ2 -> (Env -> aJ2 -> Prop) -> Prop
 | .leaf _ pl, g, _, w, K => tE P ops ops.toList pl [] g w K
 | .perm π es _ pl, g, _, w, K => tE P (rF π es ops) (rF π es ops).toList pl [] g w K
 | .split a b x y, g, w0, w, K => Ord (aqK f id ops a b w0) (awH P f id ops x g w0 w K) (awH P f id ops y g w0 w K)
def bH (P : Program) (ann : FA) : Code -> (Exit -> Env -> aJ2 -> Prop) -> Env -> aJ2 -> Prop
 | .skip, Q, g, w => Q .normal g w
 | .region id ops draw, Q, g, w => match draw with
   | false => anE P ops ops.toList g w (Q .normal)
   | true => awH P ann.f id ops (ann.t id) g w { w with drawn := w.drawn + 1 } (Q .normal)
 | .seq x y, Q, g, w => bH P ann x (Cu (fun g w => bH P ann y Q g w) Q) g w
 | .cond c x y, Q, g, w => eM (ev g c) (bH P ann x Q g w) (bH P ann y Q g w)
 | .block id c, Q, g, w => bH P ann c (blk id Q) g w
 | .loop c, Q, g, w => cG (fun X g w => bH P ann c (Cu X Q) g w) g w
 | .scope c, Q, g, w => bH P ann c Q g w
 | .label _, Q, g, w => Q .normal g w
 | .exit id, Q, g, w => Q (.exit id) g w
 | .ret, Q, g, w => Q .ret g w
 | _, _, _, _ => False
def aBm (N : Nat) (o : Oper) : Bool := match o.dst with | some d => Nat.blt d N | none => true
def bef (b : Array Nat) (i j : Nat) : Bool := (b.getD j 0).testBit i
def looks (ops : Array Oper) (o : Oper) : List Tmp :=
 (o.op.operands.toList.filterMap fun | .tmp t => some t | _ => none) ++ (match o.guard with | some (j, _) => (Fg ops j).toList | none => [])
def aDU (ops : Array Oper) (x y : Oper) : Bool :=
 (match x.dst with | some d => (looks ops y).contains d || y.dst == some d | none => false) ||
 (match y.dst with | some d => (looks ops x).contains d | none => false)
def axF (o : Oper) : Bool := match o.op with | .select .. => true | _ => false
def aEm (o : Oper) : Bool := match o.op with | .call { callee := .value (.func _), .. } => true | _ => false
def Ty (P : Program) (o : Oper) : Bool :=
 match o.op with
 | .call c => (match c.callee with
   | .value (.func f) => (match P.funcs[f]? with | some fn => fn.body.isSome && !(fn.name == "runtime.NumGoroutine") | none => false)
   | .builtin b => (match b with | .print | .println => false | _ => true)
   | _ => true)
 | _ => true
def Rg (o : Oper) : Bool := match o.op with | .move _ | .assign _ => true | _ => false
def UI (ops : Array Oper) (b : Array Nat) (an : Ann) (i j : Nat) (x y : Oper) : Bool :=
 bef b i j ||
 (!aDU ops x y &&
   match rP i an.1, rP j an.1 with
   | true, true => false
   | false, false => true
   | true, false => Rg y || amZ i j an.2
   | false, true => Rg x || amZ i j an.2)
def ayG (ops : Array Oper) (b : Array Nat) (an : Ann) : Bool :=
 (List.range ops.size).all fun j => (List.range j).all fun i =>
  match ops[i]?, ops[j]? with
  | some x, some y => UI ops b an i j x y
  | _, _ => false
def arZ (ops : Array Oper) : Bool :=
 (List.range ops.size).all fun i => match ops[i]? with
  | some o => o.after.all fun e => !Region.binds .any e || Nat.blt e.on i
  | none => false
def arS (ops : Array Oper) (b : Array Nat) : Bool :=
 (List.range ops.size).all fun j => (List.range ops.size).all fun i =>
  !bef b i j || (match ops[j]? with
   | some o => o.after.any fun e => Region.binds .any e && (Nat.beq e.on i || bef b i e.on)
   | none => false)
def aoF (ops : Array Oper) (an : Ann) : Bool :=
 arZ ops && arS ops (Region.before ops) && ayG ops (Region.before ops) an && (ops.all fun o => !axF o) &&
  (List.range ops.size).all fun i => match ops[i]? with | some o => !aEm o || rP i an.1 | none => false
def apA (n : Nat) (an : Ann) (pl : avF) : Bool :=
 (List.range n).all fun i => match pl[i]? with
  | some (h, ks) => h == rP i an.1 && an.2.all fun p => !Nat.beq p.2 i || (Nat.blt p.1 i && ks.contains (i - 1 - p.1))
  | none => false
def aAz (π : List Nat) (ops : Array Oper) : Bool :=
 Nat.beq π.length ops.size && ((List.range ops.size).all fun k => match π[k]? with | some i => Nat.beq (zM π i) k && Nat.blt i ops.size | none => false) &&
  ((List.range ops.size).all fun i => match π[zM π i]? with | some j => Nat.beq j i | none => false) &&
  ((List.range ops.size).all fun i => match ops[i]? with
    | some o => (o.after.all fun e => Nat.blt e.on ops.size) && (match o.guard with | some (j, _) => Nat.blt j ops.size | none => true)
    | none => false)
def Xi (P : Program) (N : Nat) (ops : Array Oper) : List (Nat × Nat) -> HT -> Bool
 | _, .leaf an pl => aoF ops an && apA ops.size an pl
 | path, .perm π es an pl => (es.all fun p => amZ p.1 p.2 path && Nat.blt p.1 ops.size) && aAz π ops && (rF π es ops).all (aBm N) && (rF π es ops).all (Ty P) &&
  aoF (rF π es ops) an && apA (rF π es ops).size an pl
 | path, .split a b x y => !Nat.beq a b && Xi P N ops ((a, b) :: path) x && Xi P N ops ((b, a) :: path) y
def codeOk (P : Program) (N : Nat) (ann : FA) : Code -> Bool
 | .skip | .exit _ | .ret | .label _ => true
 | .scope c => codeOk P N ann c
 | .region id ops draw => ops.all (aBm N) && ops.all (Ty P) && (!draw || Xi P N ops [] (ann.t id))
 | .seq x y => codeOk P N ann x && codeOk P N ann y
 | .cond _ x y => codeOk P N ann x && codeOk P N ann y
 | .block _ c => codeOk P N ann c
 | .loop c => codeOk P N ann c
 | _ => false
theorem amB (g : Env) (d i : Nat) (v : aJ3) : put g (some d) v i = if i = d then v else g i := by
 unfold put
 by_cases h : i = d
 .subst h; simp
 .have : Nat.beq i d = false := by
   cases hb : Nat.beq i d
   .rfl
   .exact absurd (aIq hb) h
  simp [this, h]
def UZ (N : Nat) (g : Env) (a : Act) : Prop := a.defers = [] /\ a.tmps.size = N /\ ∀ i, a.tmps.getD i undef = g i
theorem UZ.ev {N : Nat} {g : Env} {a : Act} (h : UZ N g a) (x : Operand) : a.eval x = ev g x := by
 cases x <;> simp [Act.eval, En.ev, <- h.2.2]
theorem UZ.evs {N : Nat} {g : Env} {a : Act} (h : UZ N g a) : a.eval = En.ev g := funext h.ev
theorem UZ.put {N : Nat} {g : Env} {a : Act} (h : UZ N g a) (d : Option Tmp) (v : aJ3) (hd : ∀ t, d = some t -> t < N) :
 UZ N (put g d v) (a.put d v) := by
 cases d with
 | none => exact h
 | some t =>
   obtain ⟨h1, h2, h3⟩ := h
   have ht := hd t rfl
   refine ⟨h1, by simp [Act.put, h2], fun i => ?_⟩
   rw [amB, <- h3 i]
   by_cases hi : i = t
   .subst hi; simp [Act.put, h2, ht]
   .have hi' : t ≠ i := fun e => hi e.symm
    simp [Act.put, hi, aIK hi']
theorem UZ.wanted {N : Nat} {g : Env} {a : Act} (h : UZ N g a) (ops : Array Oper) (o : Oper) :
 Region.wanted o (yielded ops a.tmps) = match o.guard with | none => true | some (j, want) => A7 g (Fg ops j) want := by
 unfold Region.wanted
 cases o.guard with
 | none => rfl
 | some p =>
   obtain ⟨j, want⟩ := p
   simp only [yielded, A7, Fg]
   cases (ops[j]?).bind (·.dst) with
   | none => simp
   | some t =>
     have h3 := h.2.2 t
     simp only [Option.bind_some, eX, asB, <- h3]
     simp only [aHY]
     cases ht : a.tmps[t]? with
     | none => simp [undef]
     | some v => cases v <;> simp
section
variable {P : Program} {ops : Array Oper}
def aiB (P : Program) (ops : Array Oper) (g : Env) (o : Oper) (w : aJ2) (v : aJ3) (w' : aJ2) : Prop :=
 ∀ K : aJ3 -> aJ2 -> Prop, K v w' -> JZ P ops g o w K
theorem aA0 {s : Sem Next} {w : aJ2} {K : aJ3 -> aJ2 -> Prop} (h : aC P s w K) :
 ∃ v w', (∀ K' : aJ3 -> aJ2 -> Prop, K' v w' -> aC P s w K') /\ K v w' := by
 unfold aC at *
 generalize s.run P w = r at *
 match r, h with
 | .ok (.value v) w1, h => exact ⟨v, w1, fun _ h' => h', h⟩
 | .ok .skip w1, h => exact ⟨undef, w1, fun _ h' => h', h⟩
 | .ok (.enter f args) w1, h =>
   obtain ⟨v, w', hr, hk⟩ := h
   exact ⟨v, w', fun _ h' => ⟨v, w', hr, h'⟩, hk⟩
theorem aqS {g : Env} {o : Oper} {w : aJ2} {K : aJ3 -> aJ2 -> Prop} (h : Mi P g o w K) :
 ∃ v w', (∀ K' : aJ3 -> aJ2 -> Prop, K' v w' -> Mi P g o w K') /\ K v w' := by
 unfold Mi at *
 split at h
 .exact ⟨_, _, fun _ h' => h', h⟩
 .exact ⟨_, _, fun _ h' => h', h⟩
 .split at h
  .obtain ⟨v, w', a, b⟩ := h
   exact ⟨v, w', fun _ h' => ⟨v, w', a, h'⟩, b⟩
  .exact aA0 h
 .exact aA0 h
theorem aEL (op : BinOp) (t : TypeId) (ox oy : Operand) (x y : aJ3) : aG op t ox oy x y = V (do eqGuard op t ox oy x y; binOp op t x y) := by
 cases op <;> simp [aG, JY, eqGuard]
theorem aEj {g : Env} {o : Oper} (ho : Ty P o = true) : O3 g o = execOp (ev g) o := by
 unfold O3
 split
 .rename_i op t x y yt hx
  simp only [execOp, hx, aEL, V]
 .rename_i t ps hx
  have e : (List.map (fun p : Nat × Operand => (p.1, ev g p.2)) ps.toList).toArray = ps.map (fun p => (p.1, ev g p.2)) := by obtain ⟨l⟩ := ps; simp
  simp only [execOp, hx, bV, V, e]
 .rename_i t n ps hx
  have e : (List.map (fun p : Nat × Operand => (p.1, ev g p.2)) ps.toList).toArray = ps.map (fun p => (p.1, ev g p.2)) := by obtain ⟨l⟩ := ps; simp
  simp only [execOp, hx, bX, V, e]
 .rename_i c hx
  split
  .rename_i b hb
   simp only [execOp, hx, resolve, hb, pure_bind, invoke, jM]
   unfold Ty at ho
   simp only [hx, hb] at ho
   have e : (List.map (ev g) c.args.toList).toArray = c.args.map (ev g) := by obtain ⟨l⟩ := c.args; simp
   rw [e]
   cases b <;> first | rfl | (cases ho)
  .rfl
 .rfl
theorem auN {f : FuncId} {fn : Func} (hf : P.funcs[f]? = some fn) (hb : fn.body.isSome = true) (hn : (fn.name == "runtime.NumGoroutine") = false)
 (args : Array aJ3) (w : aJ2) : (callFunc f args).run P w = .ok (.enter f args) w := by
 unfold callFunc
 have hb' : fn.body.isNone = false := by cases h : fn.body <;> simp_all
 show Sem.run P (Sem.program fun p => _) w = _
 simp only [Sem.run]
 simp only [bind, Sem.bind, hf, hn, hb', aHP, if_false]
 rfl
theorem Qa {g : Env} {o : Oper} {w : aJ2} {K : aJ3 -> aJ2 -> Prop} (h : JZ P ops g o w K) :
 ∃ v w', aiB P ops g o w v w' /\ K v w' := by
 unfold aiB
 unfold JZ at *
 split at h
 .obtain ⟨v, w', h1, h2⟩ := aqS h
  exact ⟨v, w', h1, h2⟩
 .rename_i j want hg
  unfold Gd at *
  cases hb : A7 g (Fg ops j) want with
  | true =>
    simp only [hb] at h
    obtain ⟨v, w', h1, h2⟩ := aqS h
    exact ⟨v, w', fun K hk => h1 K hk, h2⟩
  | false =>
    simp only [hb] at h
    exact ⟨_, _, fun K hk => hk, h⟩
theorem ahX {N i : Nat} {g : Env} {a : Act} {o : Oper} {w w' : aJ2} {v : aJ3} {Q : Exit -> Act -> aJ2 -> Prop} {next : Act -> aJ2 -> Prop}
 (hi : ops[i]? = some o) (hc : Ty P o = true) (hr : UZ N g a) (hy : aiB P ops g o w v w') (hn : next (a.put o.dst v) w') : wpOp P ops Q i next a w := by
 have h := hy (fun v2 w2 => v2 = v /\ w2 = w') ⟨rfl, rfl⟩
 unfold wpOp
 rw [hi]
 simp only [hr.wanted]
 have run : Mi P g o w (fun v2 w2 => v2 = v /\ w2 = w') -> o.wp P a w next Q := by
  intro h
  have stp : aC P (O3 g o) w (fun v2 w2 => v2 = v /\ w2 = w') -> o.upon P a next Q ((execOp (ev g) o).run P w) := by
   intro h
   rw [aEj hc] at h
   unfold aC at h
   generalize (execOp (ev g) o).run P w = r at *
   match r, h with
   | .ok (.value v) w1, h => obtain ⟨rfl, rfl⟩ := h; exact hn
   | .ok .skip w1, h => obtain ⟨rfl, rfl⟩ := h; exact hn
   | .ok (.enter f args) w1, h =>
     obtain ⟨v2, w2, hret, rfl, rfl⟩ := h
     simp only [Oper.upon_enter]
     refine Calls.mono hret ?_
     rintro e w'' ⟨rfl, rfl⟩
     exact hn
  unfold Oper.wp
  rw [hr.evs]
  unfold Mi at h
  split at h
  .rename_i x hx
   obtain ⟨rfl, rfl⟩ := h
   simp only [execOp, hx]; exact hn
  .rename_i x hx
   obtain ⟨rfl, rfl⟩ := h
   simp only [execOp, hx]; exact hn
  .rename_i c hx
   split at h
   .rename_i f hcal
    obtain ⟨v2, w2, hret, rfl, rfl⟩ := h
    have e : (execOp (ev g) o).run P w = .ok (.enter f (List.map (ev g) c.args.toList).toArray) w := by
     unfold Ty at hc
     simp only [hx, hcal] at hc
     cases hfn : P.funcs[f]? with
     | none => rw [hfn] at hc; cases hc
     | some fn =>
       rw [hfn] at hc
       simp only [aH4, aJo] at hc
       have ea : (List.map (ev g) c.args.toList).toArray = c.args.map (ev g) := by obtain ⟨l⟩ := c.args; simp
       rw [ea]
       simp only [execOp, hx, resolve, hcal, ev, Deferred.ofValue, pure_bind, invoke]
       simp only [Array.empty_append, Array.append_empty]
       exact auN hfn hc.1 hc.2 _ w
    rw [e]
    simp only [Oper.upon_enter]
    refine Calls.mono hret ?_
    rintro e w'' ⟨rfl, rfl⟩
    exact hn
   .exact stp h
  .exact stp h
 unfold JZ at h
 cases hg : o.guard with
 | none =>
   rw [hg] at h
   simp only [if_true]
   exact .inl (run h)
 | some p =>
   obtain ⟨j, want⟩ := p
   simp only [hg] at h
   simp only
   by_cases hb : A7 g (Fg ops j) want = true
   .rw [if_pos hb]
    simp only [hb, Gd] at h
    exact .inl (run h)
   .rw [if_neg hb]
    have hb' : A7 g (Fg ops j) want = false := by simpa using hb
    simp only [hb', Gd] at h
    obtain ⟨rfl, rfl⟩ := h
    exact hn
def amC (N : Nat) (ops : Array Oper) : Prop := ∀ (i : Nat) (o : Oper), ops[i]? = some o -> ∀ t, o.dst = some t -> t < N
def abB (P : Program) (ops : Array Oper) : Prop := ∀ (i : Nat) (o : Oper), ops[i]? = some o -> Ty P o = true
theorem aCd {N : Nat} (hd : amC N ops) (hca : abB P ops) {Q : Exit -> Act -> aJ2 -> Prop} {K : Env -> aJ2 -> Prop}
 (hQ : ∀ g a w, UZ N g a -> K g w -> Q .normal a w) :
 ∀ (l : List Oper) (k : Nat) (g : Env) (a : Act) (w : aJ2), (∀ j, l[j]? = ops[k + j]?) -> UZ N g a -> anE P ops l g w K →
   wpOps P ops Q (List.range' k l.length) a w := by
 intro l
 induction l with
 | nil => intro k g a w _ hr h; exact hQ _ _ _ hr h
 | cons o l ih =>
   intro k g a w hl hr h
   have h0 : ops[k]? = some o := by have := hl 0; simpa using this.symm
   obtain ⟨v, w', hy, hk⟩ := Qa h
   rw [aH5, List.range'_succ, wpOps_cons]
   refine ahX h0 (hca k o h0) hr hy ?_
   refine ih (k + 1) _ _ _ (fun j => ?_) (hr.put _ _ (hd k o h0)) hk
   have := hl (j + 1)
   simp only [aHK] at this
   rw [this]; congr 1; omega
def aiG (an : Ann) (O : Nat -> Oper) (G : Nat -> Env) (W : Nat -> aJ2) (V : Nat -> aJ3) (i : Nat) : Rec :=
 ⟨rP i an.1, O i, G i, W i, V i⟩
def aBh (P : Program) (ops : Array Oper) (an : Ann) (O : Nat -> Oper) (G : Nat -> Env) (W : Nat -> aJ2) (V : Nat -> aJ3) (i j : Nat) : Prop :=
 W1 P ops (aiG an O G W V i) (O j) (G j) (W (j + 1)) (V j)
structure Run (P : Program) (ops : Array Oper) (an : Ann) (g0 : Env) (w0 : aJ2) (n : Nat) (O : Nat -> Oper) (G : Nat -> Env) (W : Nat -> aJ2) (V : Nat -> aJ3) : Prop where
 g0 : G 0 = g0
 w0 : W 0 = w0
 op : ∀ i, i < n -> ops[i]? = some (O i)
 yld : ∀ i, i < n -> aiB P ops (G i) (O i) (W i) (V i) (W (i + 1))
 light : ∀ i, i < n -> rP i an.1 = false -> W (i + 1) = W i
 env : ∀ i, i < n -> G (i + 1) = put (G i) (O i).dst (V i)
 chk : ∀ i j, i < j -> j < n -> amZ i j an.2 = true -> aBh P ops an O G W V i j
theorem axY {o : Oper} {g : Env} {w' : aJ2} {v : aJ3} {hist : List Rec} : ∀ {ks : List Nat}, aE4 P ops o g w' v hist ks -> ∀ k ∈ ks, ∃ q, ayD hist k = some q /\ W1 P ops q o g w' v := by
 intro ks
 induction ks with
 | nil => intro _ k hk; cases hk
 | cons a ks ih =>
   rintro ⟨h1, h2⟩ k hk
   rcases aIz.1 hk with rfl | hk
   .cases hn : ayD hist k with
    | none => rw [hn] at h1; exact h1.elim
    | some q => rw [hn] at h1; exact ⟨q, rfl, h1⟩
   .exact ih h2 k hk
theorem aCi {n : Nat} {an : Ann} {pl : avF} (h : apA n an pl = true) {i : Nat} (hi : i < n) :
 ∃ ks, pl[i]? = some (rP i an.1, ks) /\ ∀ j, amZ j i an.2 = true -> j < i /\ (i - 1 - j) ∈ ks := by
 have := aIF.1 h i (aIw.2 hi)
 cases hp : pl[i]? with
 | none => rw [hp] at this; cases this
 | some p =>
   obtain ⟨hv, ks⟩ := p
   rw [hp] at this
   simp only [aH4] at this
   obtain ⟨h1, h2⟩ := this
   have h1 : hv = rP i an.1 := by simpa using h1
   refine ⟨ks, by rw [h1], fun j hj => ?_⟩
   have mm : ∀ (l : List (Nat × Nat)), amZ j i l = true -> (j, i) ∈ l := by
    intro l
    induction l with
    | nil => intro h; cases h
    | cons q r ih =>
      obtain ⟨a, b⟩ := q
      intro h
      unfold amZ at h
      cases ha : Nat.beq a j with
      | true =>
        simp only [ha] at h
        cases hb : Nat.beq b i with
        | true =>
          obtain rfl := aIq ha
          obtain rfl := aIq hb
          exact aIL
        | false => simp only [hb] at h; exact aH0 _ (ih h)
      | false => simp only [ha] at h; exact aH0 _ (ih h)
   have := aIF.1 h2 (j, i) (mm _ hj)
   simp only [Nat.beq_refl, aIt, Bool.false_or, aH4] at this
   refine ⟨?_, by simpa using this.2⟩
   have hlt := this.1
   exact (aJP (x := j) (y := i)) ▸ hlt
theorem awX {an : Ann} {pl : avF} {g0 : Env} {w0 : aJ2} {K : Env -> aJ2 -> Prop} (hpl : apA ops.size an pl = true) :
 ∀ (l : List Oper) (m : Nat) (hist : List Rec) (O : Nat -> Oper) (G : Nat -> Env) (W : Nat -> aJ2) (V : Nat -> aJ3),
   (∀ j, l[j]? = ops[m + j]?) -> m + l.length = ops.size -> Run P ops an g0 w0 m O G W V -> (∀ i, i < m -> ayD hist (m - 1 - i) = some (aiG an O G W V i)) →
   tE P ops l (pl.drop m) hist (G m) (W m) K →
   ∃ (O : Nat -> Oper) (G : Nat -> Env) (W : Nat -> aJ2) (V : Nat -> aJ3), Run P ops an g0 w0 (m + l.length) O G W V /\ K (G (m + l.length)) (W (m + l.length)) := by
 intro l
 induction l with
 | nil => intro m hist O G W V _ _ hr _ h; exact ⟨O, G, W, V, hr, by unfold tE at h; exact h⟩
 | cons o l ih =>
   intro m hist O G W V hl hlen hr hh h
   have h0 : ops[m]? = some o := by have := hl 0; simpa using this.symm
   have hmn : m < ops.size := by rw [aH5] at hlen; omega
   obtain ⟨ks, hk1, hk2⟩ := aCi hpl hmn
   have hdrop : pl.drop m = (rP m an.1, ks) :: pl.drop (m + 1) := by
    have hlt : m < pl.length := by
     rcases aH6 m pl.length with h | h
     .exact h
     .rw [aH3 h] at hk1; cases hk1
    rw [aIh hlt]
    rw [aHQ hlt] at hk1
    rw [aH2 hk1]
   rw [hdrop] at h
   obtain ⟨v, w', hy, hk⟩ := Qa h
   have key : (rP m an.1 = false -> w' = W m) /\ (∀ k ∈ ks, ∃ q, ayD hist k = some q /\ W1 P ops q o (G m) w' v) /\
       (tE P ops l (pl.drop (m + 1)) (⟨rP m an.1, o, G m, W m, v⟩ :: hist) (put (G m) o.dst v) w' K) := by
    have nil : ∀ w', ∀ k ∈ ([] : List Nat), ∃ q, ayD hist k = some q /\ W1 P ops q o (G m) w' v := fun _ k hk => (by cases hk)
    cases hm : rP m an.1 with
    | true =>
      rw [hm] at hk
      cases ks with
      | nil => exact ⟨fun e => (by cases e), nil _, hk⟩
      | cons k ks => exact ⟨fun e => (by cases e), axY hk.1, hk.2⟩
    | false =>
      rw [hm] at hk
      cases ks with
      | nil => obtain ⟨rfl, hk⟩ := hk; exact ⟨fun _ => rfl, nil _, hk⟩
      | cons k ks => obtain ⟨rfl, hc, hk⟩ := hk; exact ⟨fun _ => rfl, axY hc, hk⟩
   obtain ⟨kl, c1, c2⟩ := key
   let O' : Nat -> Oper := fun i => if i = m then o else O i
   let V' : Nat -> aJ3 := fun i => if i = m then v else V i
   let G' : Nat -> Env := fun i => if i = m + 1 then put (G m) o.dst v else G i
   let W' : Nat -> aJ2 := fun i => if i = m + 1 then w' else W i
   have eO : ∀ i, i < m -> O' i = O i := fun i hi => if_neg (by omega)
   have eV : ∀ i, i < m -> V' i = V i := fun i hi => if_neg (by omega)
   have eG : ∀ i, i <= m -> G' i = G i := fun i hi => if_neg (by omega)
   have eW : ∀ i, i <= m -> W' i = W i := fun i hi => if_neg (by omega)
   have oO : O' m = o := if_pos rfl
   have oV : V' m = v := if_pos rfl
   have oG : G' (m + 1) = put (G m) o.dst v := if_pos rfl
   have oW : W' (m + 1) = w' := if_pos rfl
   have eR : ∀ i, i < m -> aiG an O' G' W' V' i = aiG an O G W V i := fun i hi => by
    simp only [aiG, eO i hi, eV i hi, eG i (by omega), eW i (by omega)]
   have hr' : Run P ops an g0 w0 (m + 1) O' G' W' V' := by
    refine ⟨by rw [eG 0 (by omega)]; exact hr.g0, by rw [eW 0 (by omega)]; exact hr.w0, fun i hi => ?_, fun i hi => ?_, fun i hi hm => ?_, fun i hi => ?_, fun i j hij hj hm => ?_⟩
    .by_cases hi' : i = m
     .subst hi'; rw [oO]; exact h0
     .rw [eO i (by omega)]; exact hr.op i (by omega)
    .by_cases hi' : i = m
     .subst hi'; rw [oO, oV, oW, eG i (by omega), eW i (by omega)]; exact hy
     .rw [eO i (by omega), eV i (by omega), eG i (by omega), eW i (by omega), eW (i + 1) (by omega)]; exact hr.yld i (by omega)
    .by_cases hi' : i = m
     .subst hi'; rw [oW, eW i (by omega)]; exact kl hm
     .rw [eW i (by omega), eW (i + 1) (by omega)]; exact hr.light i (by omega) hm
    .by_cases hi' : i = m
     .subst hi'; rw [oO, oV, oG, eG i (by omega)]
     .rw [eO i (by omega), eV i (by omega), eG i (by omega), eG (i + 1) (by omega)]; exact hr.env i (by omega)
    .unfold aBh
     by_cases hj' : j = m
     .subst hj'
      rw [eR i (by omega), oO, oV, oW, eG j (by omega)]
      obtain ⟨q, hq, hc⟩ := c1 _ (hk2 i hm).2
      rw [hh i hij] at hq
      obtain rfl := aH2 hq
      exact hc
     .rw [eR i (by omega), eO j (by omega), eV j (by omega), eG j (by omega), eW (j + 1) (by omega)]
      exact hr.chk i j hij (by omega) hm
   have := ih (m + 1) (⟨rP m an.1, o, G m, W m, v⟩ :: hist) O' G' W' V' (fun j => by
       have := hl (j + 1)
       simp only [aHK] at this
       rw [this]; congr 1; omega) (by rw [aH5] at hlen; omega) hr' (fun i hi => by
       by_cases hi' : i = m
       .subst hi'
        rw [show i + 1 - 1 - i = 0 from by omega]
        simp only [ayD, aiG, oO, oV, eG i (by omega), eW i (by omega)]
       .rw [eR i (by omega), show m + 1 - 1 - i = (m - 1 - i) + 1 from by omega]
        exact hh i (by omega)) (by rw [oG, oW]; exact c2)
   rw [aH5, show m + (l.length + 1) = m + 1 + l.length from by omega]
   exact this
end
section
variable {P : Program} {ops : Array Oper} {an : Ann} {g0 : Env} {w0 : aJ2} {O : Nat -> Oper} {G : Nat -> Env} {W : Nat -> aJ2} {V : Nat -> aJ3}
def QB (n : Nat) (O : Nat -> Oper) (V : Nat -> aJ3) (g0 : Env) (S : Nat -> Prop) (g : Env) : Prop :=
 ∀ s, (∃ j, j < n /\ S j /\ (O j).dst = some s /\ (∀ k, k < n -> S k -> (O k).dst = some s -> k <= j) /\ g s = V j) ∨
   ((∀ j, j < n -> S j -> (O j).dst ≠ some s) /\ g s = g0 s)
theorem QB.agree {n : Nat} {S T : Nat -> Prop} {g g' : Env} (h : QB n O V g0 S g) (h' : QB n O V g0 T g') (s : Nat)
 (hs : ∀ j, j < n -> (O j).dst = some s -> (S j ↔ T j)) : g s = g' s := by
 rcases h s with ⟨j, h1, h2, h3, h4, h5⟩ | ⟨h1, h2⟩ <;> rcases h' s with ⟨k, k1, k2, k3, k4, k5⟩ | ⟨k1, k2⟩
 .have a := h4 k k1 ((hs k k1 k3).2 k2) k3
  have b := k4 j h1 ((hs j h1 h3).1 h2) h3
  have : j = k := by omega
  subst this; rw [h5, k5]
 .exact absurd h3 (k1 j h1 ((hs j h1 h3).1 h2))
 .exact absurd k3 (h1 k k1 ((hs k k1 k3).2 k2))
 .rw [h2, k2]
theorem QB.step {n : Nat} {S : Nat -> Prop} {g : Env} (h : QB n O V g0 S g) (i : Nat) (hi : i < n)
 (hw : ∀ s, (O i).dst = some s -> ∀ j, j < n -> j ≠ i -> (O j).dst = some s -> S j -> j < i) :
 QB n O V g0 (fun j => S j ∨ j = i) (put g (O i).dst (V i)) := by
 intro s
 cases hd : (O i).dst with
 | none =>
   rcases h s with ⟨j, h1, h2, h3, h4, h5⟩ | ⟨h1, h2⟩
   .refine .inl ⟨j, h1, .inl h2, h3, fun k k1 k2 k3 => ?_, h5⟩
    rcases k2 with k2 | rfl
    .exact h4 k k1 k2 k3
    .rw [hd] at k3; cases k3
   .refine .inr ⟨fun j h3 h4 h5 => ?_, h2⟩
    rcases h4 with h4 | rfl
    .exact h1 j h3 h4 h5
    .rw [hd] at h5; cases h5
 | some t =>
   rw [amB]
   by_cases hst : s = t
   .subst hst
    rw [if_pos rfl]
    refine .inl ⟨i, hi, .inr rfl, hd, fun k k1 k2 k3 => ?_, rfl⟩
    rcases k2 with k2 | rfl
    .by_cases hk : k = i
     .omega
     .have := hw s hd k k1 hk k3 k2; omega
    .omega
   .rw [if_neg hst]
    rcases h s with ⟨j, h1, h2, h3, h4, h5⟩ | ⟨h1, h2⟩
    .refine .inl ⟨j, h1, .inl h2, h3, fun k k1 k2 k3 => ?_, h5⟩
     rcases k2 with k2 | rfl
     .exact h4 k k1 k2 k3
     .rw [hd] at k3; exact absurd (aH2 k3).symm hst
    .refine .inr ⟨fun j h3 h4 h5 => ?_, h2⟩
     rcases h4 with h4 | rfl
     .exact h1 j h3 h4 h5
     .rw [hd] at h5; exact absurd (aH2 h5).symm hst
theorem Run.envFor {n : Nat} (r : Run P ops an g0 w0 n O G W V) : ∀ i, i <= n -> QB n O V g0 (fun j => j < i) (G i) := by
 intro i
 induction i with
 | zero => intro _ s; exact .inr ⟨fun j _ h => absurd h (by omega), by rw [r.g0]⟩
 | succ i ih =>
   intro hi
   have h := ih (by omega)
   have := h.step (V := V) i (by omega) (fun s _ j _ _ _ hj => hj)
   rw [<- r.env i (by omega)] at this
   intro s
   rcases this s with ⟨j, h1, h2, h3, h4, h5⟩ | ⟨h1, h2⟩
   .exact .inl ⟨j, h1, by omega, h3, fun k k1 k2 k3 => h4 k k1 (by omega) k3, h5⟩
   .exact .inr ⟨fun j a b => h1 j a (by omega), h2⟩
theorem Run.still {n : Nat} (r : Run P ops an g0 w0 n O G W V) (i : Nat) : ∀ d, i + d <= n -> (∀ h, i <= h -> h < i + d -> rP h an.1 = false) -> W (i + d) = W i := by
 intro d
 induction d with
 | zero => intro _ _; rfl
 | succ d ih =>
   intro h1 h2
   rw [<- aI5, r.light (i + d) (by omega) (h2 _ (by omega) (by omega))]
   exact ih (by omega) (fun h a b => h2 h a (by omega))
theorem Run.still' {n : Nat} (r : Run P ops an g0 w0 n O G W V) {i k : Nat} (hik : i <= k) (hk : k <= n) (hh : ∀ h, i <= h -> h < k -> rP h an.1 = false) : W k = W i := by
 have := r.still i (k - i) (by omega) (fun h a b => hh h a (by omega))
 rwa [show i + (k - i) = k from by omega] at this
theorem avO {i k : Nat} : (∃ h, i <= h /\ h < k /\ rP h an.1 = true) -> ∃ h, i <= h /\ h < k /\ rP h an.1 = true /\ ∀ h', i <= h' -> h' < h -> rP h' an.1 = false := by
 rintro ⟨h, h1, h2, h3⟩
 induction h using Nat.strongRecOn with
 | _ h ih =>
   by_cases hx : ∃ h', i <= h' /\ h' < h /\ rP h' an.1 = true
   .obtain ⟨h', a, b, c⟩ := hx
    exact ih h' b a (by omega) c
   .refine ⟨h, h1, h2, h3, fun h' a b => ?_⟩
    cases hm : rP h' an.1
    .rfl
    .exact absurd ⟨h', a, b, hm⟩ hx
theorem amF {i k : Nat} : (∃ h, i <= h /\ h < k /\ rP h an.1 = true) -> ∃ h, i <= h /\ h < k /\ rP h an.1 = true /\ ∀ h', h < h' -> h' < k -> rP h' an.1 = false := by
 rintro ⟨h, h1, h2, h3⟩
 induction hd : k - h using Nat.strongRecOn generalizing h with
 | _ d ih =>
   by_cases hx : ∃ h', h < h' /\ h' < k /\ rP h' an.1 = true
   .obtain ⟨h', a, b, c⟩ := hx
    exact ih (k - h') (by omega) h' (by omega) b c rfl
   .refine ⟨h, h1, h2, h3, fun h' a b => ?_⟩
    cases hm : rP h' an.1
    .rfl
    .exact absurd ⟨h', a, b, hm⟩ hx
structure anI (ops : Array Oper) (an : Ann) (O : Nat -> Oper) (b : Array Nat) : Prop where
 back : ∀ i, i < ops.size -> ∀ e ∈ (O i).after, Region.binds .any e = true -> e.on < i
 closed : ∀ i j, i < ops.size -> j < ops.size -> bef b i j = true -> ∃ e ∈ (O j).after, Region.binds .any e = true /\ (e.on = i ∨ bef b i e.on = true)
 pair : ∀ i j, i < j -> j < ops.size -> UI ops b an i j (O i) (O j) = true
 sel : ∀ i, i < ops.size -> axF (O i) = false
 fn : ∀ i, i < ops.size -> aEm (O i) = true -> rP i an.1 = true
theorem aB6 (h : aoF ops an = true) (ho : ∀ i, i < ops.size -> ops[i]? = some (O i)) : anI ops an O (Region.before ops) := by
 unfold aoF at h
 simp only [aH4] at h
 obtain ⟨⟨⟨⟨h1, h2⟩, h3⟩, h5⟩, h6⟩ := h
 refine ⟨fun i hi e he hb => ?_, fun i j hi hj hb => ?_, fun i j hij hj => ?_, fun i hi => ?_, fun i hi hf => ?_⟩
 .unfold arZ at h1
  have := aIF.1 h1 i (aIw.2 hi)
  rw [ho i hi] at this
  have := aIU.1 this e he
  simp only [hb, aIt, Bool.false_or] at this
  exact (aJP (x := e.on) (y := i)) ▸ this
 .unfold arS at h2
  have := aIF.1 (aIF.1 h2 j (aIw.2 hj)) i (aIw.2 hi)
  rw [ho j hj] at this
  simp only [hb, aIt, Bool.false_or] at this
  obtain ⟨e, he, h⟩ := Array.any_eq_true'.1 this
  simp only [aH4, aI0] at h
  refine ⟨e, he, h.1, h.2.imp (fun h => aIq h) id⟩
 .unfold ayG at h3
  have := aIF.1 (aIF.1 h3 j (aIw.2 hj)) i (aIw.2 hij)
  rw [ho i (by omega), ho j hj] at this
  exact this
 .have := aIU.1 h5 (O i) (aJY (ho i hi))
  simpa using this
 .have := aIF.1 h6 i (aIw.2 hi)
  rw [ho i hi] at this
  simpa [hf] using this
theorem aEd {i j : Nat} : ∀ {l : List (Nat × Nat)}, amZ i j l = true -> (i, j) ∈ l := by
 intro l
 induction l with
 | nil => intro h; cases h
 | cons p r ih =>
   obtain ⟨a, b⟩ := p
   intro h
   unfold amZ at h
   cases ha : Nat.beq a i with
   | true =>
     simp only [ha] at h
     cases hb : Nat.beq b j with
     | true =>
       obtain rfl := aIq ha
       obtain rfl := aIq hb
       exact aIL
     | false => simp only [hb] at h; exact aH0 _ (ih h)
   | false => simp only [ha] at h; exact aH0 _ (ih h)
theorem anI.order {b : Array Nat} (st : anI ops an O b) {S : Nat -> Prop} {i : Nat} (hi : i < ops.size)
 (hdown : ∀ j k, j < ops.size -> k < ops.size -> S k -> bef b j k = true -> S j) (hbi : ∀ j, j < ops.size -> bef b j i = true -> S j) (hni : ¬ S i)
 {s : Nat} (hs : s ∈ looks ops (O i) ∨ (O i).dst = some s) {j : Nat} (hj : j < ops.size) (hji : j ≠ i) (hd : (O j).dst = some s) : S j ↔ j < i := by
 rcases aH6 j i with h | h
 .refine ⟨fun _ => h, fun _ => ?_⟩
  have p := st.pair j i h hi
  unfold UI at p
  simp only [aI0, aH4, aJo] at p
  rcases p with p | p
  .exact hbi j hj p
  .exfalso
   have p1 := p.1
   unfold aDU at p1
   simp only [hd, aJE] at p1
   rcases hs with hs | hs
   .have := p1.1.1; simp [hs] at this
   .have := p1.1.2; simp [hs] at this
 .have h' : i < j := by omega
  refine ⟨fun hS => ?_, fun hh => by omega⟩
  exfalso
  have p := st.pair i j h' hj
  unfold UI at p
  simp only [aI0, aH4, aJo] at p
  rcases p with p | p
  .exact hni (hdown i j hi hj hS p)
  .have p1 := p.1
   unfold aDU at p1
   simp only [hd, aJE] at p1
   rcases hs with hs | hs
   .have := p1.2; simp [hs] at this
   .have := p1.1; rw [hs] at this; simp at this
theorem PL {g g' : Env} {o : Oper} (h : ∀ s ∈ looks ops o, g s = g' s) : ∀ x ∈ o.op.operands, ev g x = ev g' x := by
 intro x hx
 cases x with
 | tmp t => exact h t (aJd _ (List.mem_filterMap.2 ⟨.tmp t, by simpa using hx, rfl⟩))
 | _ => rfl
theorem ayA {g g' : Env} {o : Oper} (hs : axF o = false) (h : ∀ s ∈ looks ops o, g s = g' s) : O3 g o = O3 g' o := by
 have e := execOp_congr o (fun cs b he => by simp [axF, he] at hs) (PL h)
 have k := PL h
 unfold O3
 split
 .rename_i op t x y yt hx
  rw [k x (by simp [hx, Op.operands]), k y (by simp [hx, Op.operands])]
 .rename_i t ps hx
  congr 1
  refine aI8 fun p hp => ?_
  rw [k p.2 (by simp [hx, Op.operands]; exact ⟨p.1, by simpa using hp⟩)]
 .rename_i t n ps hx
  congr 1
  refine aI8 fun p hp => ?_
  rw [k p.2 (by simp [hx, Op.operands]; exact ⟨p.1, by simpa using hp⟩)]
 .rename_i c hx
  split
  .rename_i b hb
   congr 1
   refine aI8 fun p hp => ?_
   exact k p (by simp [hx, Op.operands, Call.operands, hb]; simpa using hp)
  .exact e
 .exact e
theorem aqN {g g' : Env} {o : Oper} {j : Nat} {want : Bool} (hg : o.guard = some (j, want)) (h : ∀ s ∈ looks ops o, g s = g' s) :
 A7 g (Fg ops j) want = A7 g' (Fg ops j) want := by
 cases hs : Fg ops j with
 | none => rfl
 | some t =>
   have := h t (aJA _ (by simp [hg, hs]))
   simp [A7, this]
theorem ZE {g g' : Env} {o : Oper} {w : aJ2} {K : aJ3 -> aJ2 -> Prop} (hs : axF o = false) (h : ∀ s ∈ looks ops o, g s = g' s)
 (hk : JZ P ops g o w K) : JZ P ops g' o w K := by
 have e := ayA (ops := ops) hs h
 have run : Mi P g o w = Mi P g' o w := by
  funext K
  unfold Mi
  split
  .rename_i x hx
   have := PL (ops := ops) h x (by simp [hx, Op.operands])
   rw [this]
  .rename_i x hx
   have := PL (ops := ops) h x (by simp [hx, Op.operands])
   rw [this]
  .rename_i c hx
   have k := PL h
   have : List.map (ev g) c.args.toList = List.map (ev g') c.args.toList := aI8 fun p hp => k p (by simp [hx, Op.operands, Call.operands]; exact .inr (by simpa using hp))
   rw [this, e]
  .rw [e]
 unfold JZ at *
 cases hg : o.guard with
 | none => rw [hg] at hk; simp only at hk ⊢; rwa [<- run]
 | some p =>
   obtain ⟨j, want⟩ := p
   simp only [hg] at hk ⊢
   rw [<- run, <- aqN hg h]
   exact hk
theorem avZ {n : Nat} (hn : n = ops.size) {b : Array Nat} (r : Run P ops an g0 w0 n O G W V) (st : anI ops an O b) {S : Nat -> Prop} {i k : Nat} (hi : i < n) (hk : k <= n)
 (hdown : ∀ j k, j < ops.size -> k < ops.size -> S k -> bef b j k = true -> S j) (hbi : ∀ j, j < ops.size -> bef b j i = true -> S j) (hni : ¬ S i)
 (hS : ∀ h, h < n -> rP h an.1 = true -> (S h ↔ h < k)) (hl : rP i an.1 = false) :
 aiB P ops (G i) (O i) (W k) (V i) (W k) := by
 subst hn
 have same : Gs (gOf ops (O i) (G i)) (eD P (O3 (G i) (O i)) (V i) (W k)) -> Rg (O i) = false -> aiB P ops (G i) (O i) (W k) (V i) (W k) := by
  intro hs hm K hK
  have run : eD P (O3 (G i) (O i)) (V i) (W k) -> Mi P (G i) (O i) (W k) K := by
   intro hs
   unfold eD at hs
   have stp : aC P (O3 (G i) (O i)) (W k) K := by unfold aC; rw [hs]; exact hK
   unfold Mi
   split
   .rename_i x hx; simp [Rg, hx] at hm
   .rename_i x hx; simp [Rg, hx] at hm
   .rename_i c hx
    have hf : aEm (O i) = false := by
     cases hh : aEm (O i)
     .rfl
     .rw [st.fn i hi hh] at hl; cases hl
    obtain ⟨cal, cargs, cats⟩ := c
    cases cal with
    | value f =>
      cases f with
      | func f => simp [aEm, hx] at hf
      | _ => exact stp
    | _ => exact stp
   .exact stp
  have hy := r.yld i hi (fun v _ => v = V i) rfl
  unfold JZ at hy ⊢
  unfold gOf at hs
  cases hg : (O i).guard with
  | none => rw [hg] at hs; exact run hs
  | some p =>
    obtain ⟨j, want⟩ := p
    rw [hg] at hs
    simp only [hg] at hs hy ⊢
    cases hb : A7 (G i) (Fg ops j) want with
    | true => rw [hb] at hs; exact run hs
    | false =>
      rw [hb] at hy
      have : undef = V i := hy
      show K undef (W k)
      rw [this]; exact hK
 have moved : Rg (O i) = true -> aiB P ops (G i) (O i) (W k) (V i) (W k) := by
  intro hm K hK
  have hy := r.yld i hi (fun v _ => v = V i) rfl
  unfold JZ at hy ⊢
  have mv : ∀ (K' : aJ3 -> aJ2 -> Prop) w, Mi P (G i) (O i) w K' ↔ ∃ x, ((O i).op = .move x ∨ (O i).op = .assign x) /\ K' (ev (G i) x) w := by
   intro K' w
   unfold Mi
   unfold Rg at hm
   split
   .rename_i x hx; constructor
    .intro h; exact ⟨x, .inl hx, h⟩
    .rintro ⟨y, h | h, h'⟩
     .rw [hx] at h; cases h; exact h'
     .rw [hx] at h; cases h
   .rename_i x hx; constructor
    .intro h; exact ⟨x, .inr hx, h⟩
    .rintro ⟨y, h | h, h'⟩
     .rw [hx] at h; cases h
     .rw [hx] at h; cases h; exact h'
   .rename_i c hx; simp [hx] at hm
   .rename_i h1 h2 _; split at hm
    .rename_i x hx; exact absurd hx (h1 x)
    .rename_i x hx; exact absurd hx (h2 x)
    .cases hm
  cases hg : (O i).guard with
  | none =>
    rw [hg] at hy
    simp only at hy ⊢
    rw [mv] at hy ⊢
    obtain ⟨x, hx, h⟩ := hy
    exact ⟨x, hx, h ▸ hK⟩
  | some p =>
    obtain ⟨j, want⟩ := p
    simp only [hg] at hy ⊢
    unfold Gd at *
    cases hb : A7 (G i) (Fg ops j) want with
    | true =>
      simp only [hb] at hy ⊢
      rw [mv] at hy ⊢
      obtain ⟨x, hx, h⟩ := hy
      exact ⟨x, hx, h ▸ hK⟩
    | false =>
      simp only [hb] at hy ⊢
      rwa [hy]
 rcases Nat.le_total k i with hki | hki
 .by_cases hx : ∃ h, k <= h /\ h < i /\ rP h an.1 = true
  .obtain ⟨h, h1, h2, h3, h4⟩ := avO hx
   have e : W h = W k := r.still' h1 (by omega) h4
   have p := st.pair h i h2 hi
   unfold UI at p
   simp only [aI0, aH4, aJo] at p
   rcases p with p | p
   .have := hbi h (by omega) p
    have := (hS h (by omega) h3).1 this
    omega
   .have p2 := p.2
    rw [h3, hl] at p2
    simp only [aI0] at p2
    cases hmv : Rg (O i) with
    | true => exact moved hmv
    | false =>
      rcases p2 with p2 | p2
      .rw [hmv] at p2; cases p2
      .refine same ?_ hmv
       have c := r.chk h i h2 hi p2
       unfold aBh W1 aiG at c
       simp only [h3] at c
       rw [<- e]; exact c
  .have e : W i = W k := r.still' hki (by omega) (fun h a b => by
    cases hm : rP h an.1
    .rfl
    .exact absurd ⟨h, a, b, hm⟩ hx)
   have hy := r.yld i hi
   rw [r.light i hi hl, e] at hy
   exact hy
 .by_cases hx : ∃ h, i <= h /\ h < k /\ rP h an.1 = true
  .obtain ⟨h, h1, h2, h3, h4⟩ := amF hx
   have hne : h ≠ i := fun e => by rw [e, hl] at h3; cases h3
   have e : W k = W (h + 1) := r.still' (by omega) hk (fun h' a b => h4 h' (by omega) b)
   have p := st.pair i h (by omega) (by omega)
   unfold UI at p
   simp only [aI0, aH4, aJo] at p
   rcases p with p | p
   .exact absurd (hdown i h (by omega) (by omega) ((hS h (by omega) h3).2 h2) p) hni
   .have p2 := p.2
    rw [h3, hl] at p2
    simp only [aI0] at p2
    cases hmv : Rg (O i) with
    | true => exact moved hmv
    | false =>
      rcases p2 with p2 | p2
      .rw [hmv] at p2; cases p2
      .refine same ?_ hmv
       have c := r.chk i h (by omega) (by omega) p2
       unfold aBh W1 aiG at c
       simp only [hl] at c
       rw [e]; exact c
  .have e : W k = W i := r.still' hki hk (fun h a b => by
    cases hm : rP h an.1
    .rfl
    .exact absurd ⟨h, a, b, hm⟩ hx)
   have hy := r.yld i hi
   rw [r.light i hi hl, <- e] at hy
   exact hy
def nF (listed : Array Bool) (i : Nat) : Prop := listed.getD i false = true
theorem aD6 {N n : Nat} (hn : n = ops.size) (hd : amC N ops) (hca : abB P ops) {b : Array Nat} (r : Run P ops an g0 w0 n O G W V) (st : anI ops an O b)
 {Q : Exit -> Act -> aJ2 -> Prop} (hQ : ∀ a, UZ N (G n) a -> Q .normal a (W n)) :
 ∀ (fuel : Nat) (listed : Array Bool) (g : Env) (a : Act) (k : Nat), listed.size = n -> UZ N g a -> k <= n →
   (∀ j, j < n -> nF listed j -> ∀ e ∈ (O j).after, Region.binds .any e = true -> nF listed e.on) →
   QB n O V g0 (nF listed) g -> (∀ h, h < n -> rP h an.1 = true -> (nF listed h ↔ h < k)) →
   ((List.range n).filter fun i => !listed.getD i false).length <= fuel →
   wpAny P .any ops Q fuel listed a (W k) := by
 subst hn
 have ready_iff : ∀ (listed : Array Bool), listed.size = ops.size -> ∀ i, i ∈ Region.ready .any ops listed ↔ (i < ops.size /\ ¬ nF listed i /\ ∀ e ∈ (O i).after, Region.binds .any e = true -> nF listed e.on) := by
  intro listed hsz i
  unfold Region.ready nF
  rw [aJZ, aIw]
  constructor
  .rintro ⟨h1, h2⟩
   rw [r.op i h1] at h2
   simp only [aH4, aIu, aJX] at h2
   refine ⟨h1, ?_, fun e he hb => ?_⟩
   .have := h2.1
    rw [aHY] at this ⊢
    rw [aIi (by omega)] at this ⊢
    simpa using this
   .have := aIU.1 h2.2 e he
    simpa [hb] using this
  .rintro ⟨h1, h2, h3⟩
   refine ⟨h1, ?_⟩
   rw [r.op i h1]
   simp only [aH4, aIu, aJX]
   refine ⟨?_, aIU.2 fun e he => ?_⟩
   .rw [aHY] at h2 ⊢
    rw [aIi (by omega)] at h2 ⊢
    simpa using h2
   .by_cases hb : Region.binds .any e = true
    .simp [hb, h3 e he hb]
    .simp [hb]
 have none_ready : ∀ (listed : Array Bool), listed.size = ops.size -> Region.ready .any ops listed = [] -> ∀ i, i < ops.size -> nF listed i := by
  intro listed hsz hr i
  induction i using Nat.strongRecOn with
  | _ i ih =>
    intro hi
    refine Classical.byContradiction fun hl => ?_
    have : i ∈ Region.ready .any ops listed := (ready_iff listed hsz i).2 ⟨hi, hl, fun e he hb => by
     have := st.back i hi e he hb
     exact ih e.on this (by omega)⟩
    rw [hr] at this; cases this
 have all_done : ∀ (listed : Array Bool) (g : Env) (a : Act) (k : Nat), UZ N g a -> k <= ops.size -> QB ops.size O V g0 (nF listed) g →
     (∀ h, h < ops.size -> rP h an.1 = true -> (nF listed h ↔ h < k)) -> (∀ i, i < ops.size -> nF listed i) -> Q .normal a (W k) := by
  intro listed g a k hr hk he hh hall
  have e : W ops.size = W k := r.still' hk (aHS _) (fun h h1 h2 => by
   cases hm : rP h an.1
   .rfl
   .have := (hh h h2 hm).1 (hall h h2); omega)
  have eg : g = G ops.size := funext fun s => he.agree (r.envFor ops.size (aHS _)) s (fun j hj _ => ⟨fun _ => hj, fun _ => hall j hj⟩)
  rw [<- e]; exact hQ a (eg ▸ hr)
 intro fuel
 induction fuel with
 | zero =>
   intro listed g a k hsz hr hk hdep henv hh hc
   have hall : ∀ i, i < ops.size -> nF listed i := by
    intro i hi
    have hnil : ((List.range ops.size).filter fun i => !listed.getD i false) = [] := aIk.1 (by omega)
    have := List.filter_eq_nil_iff.1 hnil i (aIw.2 hi)
    unfold nF; simpa using this
   refine ⟨?_, all_done listed g a k hr hk henv hh hall⟩
   rw [List.eq_nil_iff_forall_not_mem]
   intro i hi
   have := (ready_iff listed hsz i).1 hi
   exact this.2.1 (hall i this.1)
 | succ fuel ih =>
   intro listed g a k hsz hr hk hdep henv hh hc
   refine ⟨fun hn => all_done listed g a k hr hk henv hh (none_ready listed hsz hn), fun i hi => ?_⟩
   obtain ⟨h1, h2, h3⟩ := (ready_iff listed hsz i).1 hi
   have hdown : ∀ k j, j < ops.size -> k < ops.size -> nF listed k -> bef b j k = true -> nF listed j := by
    intro k
    induction k using Nat.strongRecOn with
    | _ k ihk =>
      intro j hj hk hl hb
      obtain ⟨e, he, hbi, h⟩ := st.closed j k hj hk hb
      have hle := hdep k hk hl e he hbi
      rcases h with h | h
      .exact h ▸ hle
      .have hlt := st.back k hk e he hbi
       exact ihk e.on hlt j hj (by omega) hle h
   have hbi : ∀ j, j < ops.size -> bef b j i = true -> nF listed j := by
    intro j hj hb
    obtain ⟨e, he, hbi, h⟩ := st.closed j i hj h1 hb
    have hle := h3 e he hbi
    rcases h with h | h
    .exact h ▸ hle
    .have hlt := st.back i h1 e he hbi
     exact hdown e.on j hj (by omega) hle h
   have hdown' : ∀ j k, j < ops.size -> k < ops.size -> nF listed k -> bef b j k = true -> nF listed j := fun j k => hdown k j
   have hlooks : ∀ s ∈ looks ops (O i), (G i) s = g s := fun s hs =>
    (r.envFor i (by omega)).agree henv s (fun j hj hd => by
      by_cases hji : j = i
      .subst hji
       exact ⟨fun h => absurd h (by omega), fun h => absurd h h2⟩
      .exact (st.order h1 hdown' hbi h2 (.inl hs) hj hji hd).symm)
   have hl' : ∀ j, nF (listed.setIfInBounds i true) j ↔ (nF listed j ∨ j = i) := by
    intro j
    unfold nF
    rw [aHY, aHY]
    by_cases hji : j = i
    .subst hji
     rw [aIE (by omega)]
     simp
    .rw [aIK (fun e => hji e.symm)]
     simp [hji]
   have next : ∀ k', k' <= ops.size -> (∀ h, h < ops.size -> rP h an.1 = true -> ((nF listed h ∨ h = i) ↔ h < k')) -> aiB P ops g (O i) (W k) (V i) (W k') →
       wpOp P ops Q i (wpAny P .any ops Q fuel (listed.setIfInBounds i true)) a (W k) := by
    intro k' hk' hh' hy
    refine ahX (r.op i h1) (hca i _ (r.op i h1)) hr hy ?_
    refine ih _ (put g (O i).dst (V i)) _ k' (by simp [hsz]) (hr.put _ _ (hd i _ (r.op i h1))) hk' ?_ ?_ ?_ ?_
    .intro j hj hlj e he hb
     rw [hl'] at hlj ⊢
     rcases hlj with hlj | rfl
     .exact .inl (hdep j hj hlj e he hb)
     .exact .inl (h3 e he hb)
    .have := henv.step i h1 (fun s hs j hj hji hd hlj => (st.order h1 hdown' hbi h2 (.inr hs) hj hji hd).1 hlj)
     intro s
     rcases this s with ⟨j, j1, j2, j3, j4, j5⟩ | ⟨j1, j2⟩
     .exact .inl ⟨j, j1, (hl' j).2 j2, j3, fun k k1 k2 k3 => j4 k k1 ((hl' k).1 k2) k3, j5⟩
     .exact .inr ⟨fun j a b => j1 j a ((hl' j).1 b), j2⟩
    .intro h a b; rw [hl']; exact hh' h a b
    .have hin : i ∈ (List.range ops.size).filter fun i => !listed.getD i false :=
      aJZ.2 ⟨aIw.2 h1, by unfold nF at h2; simpa using h2⟩
     have e1 : ((List.range ops.size).filter fun j => !(listed.setIfInBounds i true).getD j false) = ((List.range ops.size).filter fun j => !listed.getD j false).filter fun j => j != i := by
      rw [List.filter_filter]
      refine List.filter_congr fun j _ => ?_
      have := hl' j
      unfold nF at this
      by_cases hji : j = i
      .have hh : (listed.setIfInBounds i true).getD j false = true := this.2 (.inr hji)
       rw [hh, hji]; simp
      .have hne : (j != i) = true := by simpa using hji
       rw [hne, Bool.true_and]
       cases ha : listed.getD j false with
       | true => rw [this.2 (.inl ha)]
       | false =>
         cases hb : (listed.setIfInBounds i true).getD j false with
         | false => rfl
         | true => rcases this.1 hb with h | h
                   .rw [ha] at h; cases h
                   .exact absurd h hji
     have hnd : ((List.range ops.size).filter fun j => !listed.getD j false).Nodup := List.nodup_range.filter _
     rw [e1, <- List.Nodup.erase_eq_filter hnd, aJL hin]
     omega
   cases hm : rP i an.1 with
   | true =>
     have hS : ∀ h, h < ops.size -> rP h an.1 = true -> (nF listed h ↔ h < i) := by
      intro h hh1 hhm
      rcases aJg h i with hlt | heq | hgt
      .refine ⟨fun _ => hlt, fun _ => ?_⟩
       have p := st.pair h i hlt h1
       unfold UI at p
       rw [hhm, hm] at p
       simp only [aI0, aH4, aHP, and_false, or_false] at p
       exact hbi h hh1 p
      .subst heq; exact ⟨fun hh => absurd hh h2, fun hh => absurd hh (by omega)⟩
      .refine ⟨fun hl => ?_, fun hh => absurd hh (by omega)⟩
       have p := st.pair i h hgt hh1
       unfold UI at p
       rw [hhm, hm] at p
       simp only [aI0, aH4, aHP, and_false, or_false] at p
       exact absurd (hdown h i h1 hh1 hl p) h2
     have eW : W k = W i := by
      rcases Nat.le_total k i with hki | hki
      .exact (r.still' hki (by omega) (fun h a b => by
        cases hx : rP h an.1
        .rfl
        .have := (hh h (by omega) hx).1 ((hS h (by omega) hx).2 b); omega)).symm
      .exact r.still' hki hk (fun h a b => by
        cases hx : rP h an.1
        .rfl
        .have := (hS h (by omega) hx).1 ((hh h (by omega) hx).2 b); omega)
     refine next (i + 1) (by omega) (fun h a b => ?_) ?_
     .rw [hS h a b]; omega
     .rw [eW]
      intro K hK
      exact ZE (ops := ops) (st.sel i h1) hlooks (r.yld i h1 K hK)
   | false =>
     refine next k hk (fun h a b => ?_) ?_
     .rw [<- hh h a b]
      constructor
      .rintro (h' | rfl)
       .exact h'
       .rw [hm] at b; cases b
      .exact .inl
     .intro K hK
      exact ZE (ops := ops) (st.sel i h1) hlooks (avZ rfl r st h1 hk hdown' hbi h2 hh hm K hK)
end
def wpF (P : Program) (f : FuncId) (c : Code) (Q : Exit -> Act -> aJ2 -> Prop) (a : Act) (w : aJ2) : Prop :=
 ∀ (b : Frame) (k : List Item) (cs : List Frame), b.fn = f -> ∃ e a' w', Q e a' w' /\ Arrives P (lone (b.at a (.code c :: k)) cs w) b k cs e a' w'
section
variable {P : Program} {f : FuncId} {Q : Exit -> Act -> aJ2 -> Prop} {a : Act} {w : aJ2}
theorem anN {c : Code} (h : c.wp P Q a w) : wpF P f c Q a w := fun b k cs _ => h b k cs
theorem aEE {x y : Code} (h : wpF P f x (Exit.then (wpF P f y Q) Q) a w) : wpF P f (.seq x y) Q a w := by
 intro b k cs hb
 obtain ⟨e, a1, w1, hq, har⟩ := h b (.code y :: k) cs hb
 cases e with
 | normal =>
   obtain ⟨e2, a2, w2, hq2, har2⟩ := hq b k cs hb
   exact ⟨e2, a2, w2, hq2, .of_steps (.head step_seq har) har2⟩
 | _ => exact ⟨_, a1, w1, hq, .of_steps (.one step_seq) (.pass (x := .code y) rfl (fun _ _ => .inl (by simp)) har)⟩
theorem aCX {c : Operand} {x y : Code} {t : Bool} (hc : a.eval c = .bool t) (h : wpF P f (if t then x else y) Q a w) : wpF P f (.cond c x y) Q a w :=
 fun b k cs hb => let ⟨e, a1, w1, q, r⟩ := h b k cs hb; ⟨e, a1, w1, q, .of_steps (.one (step_cond hc)) r⟩
theorem aBC {id : Nat} {c : Code} (h : wpF P f c (Exit.inBlock id Q) a w) : wpF P f (.block id c) Q a w := by
 intro b k cs hb
 obtain ⟨e, a1, w1, hq, har⟩ := h b (.inBlock id :: k) cs hb
 cases e with
 | normal => exact ⟨.normal, a1, w1, hq, .head step_block (Steps.trans har (.one step_inBlock))⟩
 | exit i =>
   by_cases hid : i = id
   .simp only [Exit.inBlock, hid, if_true] at hq
    exact ⟨.normal, a1, w1, hq, .head step_block (har k (by simp [exitTo, hid]))⟩
   .simp only [Exit.inBlock, hid, if_false] at hq
    refine ⟨.exit i, a1, w1, hq, fun k' hk => .head step_block (har k' ?_)⟩
    have : (id == i) = false := by simp; exact fun h => hid h.symm
    simp [exitTo, this, hk]
 | goto l => exact ⟨_, a1, w1, hq, fun k' hk => .head step_block (har k' (by simp [gotoIn, hk]))⟩
 | outgrown => exact ⟨_, a1, w1, hq, .of_steps (b := b) (k := k) (cs := cs) (e := .outgrown) (.one step_block) har⟩
 | _ => exact ⟨_, a1, w1, hq, .of_steps (.one step_block) har⟩
theorem aCq {c : Code} (h : wpF P f c (Exit.noGoto Q) a w) : wpF P f (.scope c) Q a w := by
 intro b k cs hb
 obtain ⟨e, a1, w1, hq, har⟩ := h b (.inScope c :: k) cs hb
 cases e with
 | normal => exact ⟨.normal, a1, w1, hq, .head step_scope (Steps.trans har (.one step_inScope))⟩
 | exit id => exact ⟨.exit id, a1, w1, hq, fun k' hk => .head step_scope (har k' (by simp [exitTo, hk]))⟩
 | goto l => exact hq.elim
 | _ => exact ⟨_, a1, w1, hq, .of_steps (.one step_scope) har⟩
theorem aD9 {c : Code} (I : Act -> aJ2 -> Prop) (μ : Act -> aJ2 -> Nat) (h0 : I a w)
 (round : ∀ a w, I a w -> wpF P f c (Exit.then (fun a' w' => I a' w' /\ μ a' w' < μ a w) Q) a w) : wpF P f (.loop c) Q a w := by
 intro b k cs hb
 have key : ∀ n a w, μ a w = n -> I a w →
     ∃ e a' w', Q e a' w' /\ Arrives P (lone (b.at a (.code c :: .inLoop c :: k)) cs w) b k cs e a' w' := by
  intro n
  induction n using Nat.strongRecOn with
  | _ n ih =>
    intro a w hn hI
    obtain ⟨e, a1, w1, hq, har⟩ := round a w hI b (.inLoop c :: k) cs hb
    cases e with
    | normal =>
      obtain ⟨hI1, hlt⟩ := hq
      obtain ⟨e2, a2, w2, hq2, har2⟩ := ih (μ a1 w1) (hn ▸ hlt) a1 w1 rfl hI1
      exact ⟨e2, a2, w2, hq2, .of_steps (Steps.trans har (.one step_inLoop)) har2⟩
    | _ => exact ⟨_, a1, w1, hq, .pass (x := .inLoop c) rfl (fun _ _ => .inl (by simp)) har⟩
 obtain ⟨e, a', w', hq, har⟩ := key _ a w rfl h0
 exact ⟨e, a', w', hq, .of_steps (.one step_loop) har⟩
theorem akR (hm : P.follows .mixedOrders = true) {id : Nat} {ops : Array Oper}
 (h : wpOps P ops Q (Region.schedule true ops (w.tape w.drawn (.order f id))) a { w with drawn := w.drawn + 1 }) : wpF P f (.region id ops true) Q a w := by
 intro b k cs hb
 obtain ⟨e, a1, w1, q, r⟩ := wp_ops _ a _ h b k cs
 refine ⟨e, a1, w1, q, .of_steps (.one ?_) r⟩
 have := @step_region_draw P b a k cs w ops id
 rw [hm, hb] at this
 exact this
theorem asO {fn : Func} {c : Code} {args : Array aJ3} {w : aJ2} {R : Ending -> aJ2 -> Prop}
 (hf : P.funcs[f]? = some fn) (hb : fn.body = some c)
 (h : wpF P f c (bodyPost P fn R) { tmps := args ++ Array.replicate (fn.ntmps - args.size) undef, defers := [] } w) : Calls P f args w R := by
 intro cs
 let b : Frame := { (default : Frame) with fn := f, kind := .normal }
 have henter : Frame.enter P f args .normal = b.at { tmps := args ++ Array.replicate (fn.ntmps - args.size) undef, defers := [] } [.code c] := by
  simp [Frame.enter, Frame.at, hf, hb, b]
 obtain ⟨e, a', w', hq, har⟩ := h b [] cs rfl
 rw [<- henter] at har
 cases e with
 | normal =>
   obtain ⟨hd, v, hr, hR⟩ := hq
   exact ⟨.returned v, w', _, hR, Steps.trans har (.one step_end), rfl, rfl, hd, rfl, fn, hf, hr⟩
 | ret =>
   obtain ⟨hd, v, hr, hR⟩ := hq
   obtain ⟨todo, hs⟩ := har
   exact ⟨.returned v, w', _, hR, hs, rfl, rfl, hd, rfl, fn, hf, hr⟩
 | panic chain =>
   obtain ⟨hd, hR⟩ := hq
   obtain ⟨todo, hs⟩ := har
   exact ⟨.panicked chain, w', _, hR, hs, rfl, rfl, hd, fn, hf⟩
 | exit id => exact hq.elim
 | goto l => exact hq.elim
 | outgrown => exact ⟨.outgrown, w', b, hq, har.resolve_left (by simp [b]), rfl, trivial⟩
end
def atD (ops : Array Oper) : Nat -> Array Bool -> List Nat -> Prop
 | 0, _, L => L = []
 | _ + 1, listed, [] => Region.ready .any ops listed = []
 | n + 1, listed, i :: L => i ∈ Region.ready .any ops listed /\ atD ops n (listed.setIfInBounds i true) L
section
variable {P : Program} {ops : Array Oper} {Q : Exit -> Act -> aJ2 -> Prop}
theorem aEG : ∀ (fuel t : Nat) (listed : Array Bool), atD ops fuel listed (Region.linearise.go .any ops fuel t listed []) := by
 intro fuel
 induction fuel with
 | zero => intro t listed; simp [Region.linearise.go, atD]
 | succ fuel ih =>
   intro t listed
   simp only [Region.linearise.go]
   change atD ops (fuel + 1) listed (match (Region.ready .any ops listed)[t % (Region.ready .any ops listed).length]? with
    | some i => Region.linearise.go .any ops fuel (t / (Region.ready .any ops listed).length) (listed.setIfInBounds i true) [i]
    | none => [].reverse)
   cases hi : (Region.ready .any ops listed)[t % (Region.ready .any ops listed).length]? with
   | none =>
     have : Region.ready .any ops listed = [] := by
      cases hr : Region.ready .any ops listed with
      | nil => rfl
      | cons x xs =>
        rw [hr] at hi
        have hlt : t % (x :: xs).length < (x :: xs).length := aI1 _ (by simp)
        rw [aHQ hlt] at hi
        cases hi
     simpa [atD] using this
   | some i =>
     simp only []
     rw [linearise_go_acc]
     exact ⟨aIX hi, ih _ _⟩
theorem Yt : ∀ (fuel : Nat) (listed : Array Bool) (L : List Nat) (a : Act) (w : aJ2), wpAny P .any ops Q fuel listed a w -> atD ops fuel listed L -> wpOps P ops Q L a w := by
 intro fuel
 induction fuel with
 | zero => intro listed L a w h hL; obtain rfl : L = [] := hL; exact h.2
 | succ fuel ih =>
   intro listed L a w h hL
   cases L with
   | nil => exact h.1 hL
   | cons i L =>
     rw [wpOps_cons]
     exact wpOp_mono (fun a w hh => ih _ _ a w hh hL.2) (h.2 i hL.1)
end
structure Perm (π : List Nat) (ops : Array Oper) : Prop where
 len : π.length = ops.size
 to : ∀ i, i < ops.size -> zM π i < ops.size /\ π[zM π i]? = some i
 back : ∀ k, k < ops.size -> ∃ i, π[k]? = some i /\ zM π i = k /\ i < ops.size
 after : ∀ (i : Nat) (o : Oper), ops[i]? = some o -> ∀ e ∈ o.after, e.on < ops.size
 guard : ∀ (i : Nat) (o : Oper) (j : Nat) (b : Bool), ops[i]? = some o -> o.guard = some (j, b) -> j < ops.size
theorem aEX {π : List Nat} {ops : Array Oper} (h : aAz π ops = true) : Perm π ops := by
 unfold aAz at h
 simp only [aH4] at h
 obtain ⟨⟨⟨h1, h2⟩, h3⟩, h4⟩ := h
 have h1 := aIq h1
 have at4 : ∀ (i : Nat) (o : Oper), ops[i]? = some o -> (o.after.all fun e => Nat.blt e.on ops.size) = true /\ (match o.guard with | some (j, _) => Nat.blt j ops.size | none => true) = true := by
  intro i o ho
  have hi : i < ops.size := by
   rcases aH6 i ops.size with h | h
   .exact h
   .rw [aJw h] at ho; cases ho
  have := aIF.1 h4 i (aIw.2 hi)
  rw [ho] at this
  simp only [aH4] at this
  refine ⟨this.1, ?_⟩
  have h := this.2
  revert h
  cases o.guard <;> exact id
 refine ⟨h1, fun i hi => ?_, fun k hk => ?_, fun i o ho e he => ?_, fun i o j b ho hg => ?_⟩
 .have := aIF.1 h3 i (aIw.2 hi)
  cases hp : π[zM π i]? with
  | none => rw [hp] at this; cases this
  | some j =>
    rw [hp] at this
    obtain rfl := aIq this
    refine ⟨?_, rfl⟩
    rcases aH6 (zM π j) π.length with h | h
    .omega
    .rw [aH3 h] at hp; cases hp
 .have := aIF.1 h2 k (aIw.2 hk)
  cases hp : π[k]? with
  | none => rw [hp] at this; cases this
  | some i =>
    rw [hp] at this
    simp only [aH4] at this
    exact ⟨i, rfl, aIq this.1, (aJP (x := i) (y := ops.size)) ▸ this.2⟩
 .have := aIU.1 (at4 i o ho).1 e he
  exact (aJP (x := e.on) (y := ops.size)) ▸ this
 .have := (at4 i o ho).2
  rw [hg] at this
  exact (aJP (x := j) (y := ops.size)) ▸ this
theorem arX {π : List Nat} {es : List (Nat × Nat)} {l : List Oper} : ∀ (r : List Nat), (∀ i ∈ r, i < l.length) -> (Zx π es l r).length = r.length /\ ∀ k i : Nat, r[k]? = some i -> (Zx π es l r)[k]? = (l[i]?).map (LQ π es i) := by
 intro r
 induction r with
 | nil => intro _; exact ⟨rfl, fun k i h => by simp at h⟩
 | cons j r ih =>
   intro h
   obtain ⟨h1, h2⟩ := ih fun i hi => h i (aH0 _ hi)
   have hj : j < l.length := h j (by simp)
   simp only [Zx, aHQ hj]
   refine ⟨by simp [h1], fun k i hk => ?_⟩
   cases k with
   | zero => simp at hk; subst hk; simp [aHQ hj]
   | succ k => simp at hk ⊢; exact h2 k i hk
section
variable {P : Program} {ops : Array Oper} {Q : Exit -> Act -> aJ2 -> Prop} {π : List Nat} {es : List (Nat × Nat)}
theorem Perm.mem (p : Perm π ops) : ∀ i ∈ π, i < ops.toList.length := by
 intro i hi
 obtain ⟨k, hk, e⟩ := aIf hi
 obtain ⟨j, h1, _, h2⟩ := p.back k (by rw [<- p.len]; exact hk)
 rw [aHQ hk] at h1
 cases h1
 rw [<- e]; simpa using h2
theorem Perm.size (p : Perm π ops) : (rF π es ops).size = ops.size := by
 unfold rF
 rw [List.size_toArray, (arX (es := es) (π := π) π p.mem).1, p.len]
theorem Perm.get (p : Perm π ops) {i : Nat} (hi : i < ops.size) : (rF π es ops)[zM π i]? = (ops[i]?).map (LQ π es i) := by
 unfold rF
 have := (arX (es := es) (π := π) π p.mem).2 (zM π i) i (p.to i hi).2
 rw [Array.getElem?_toList] at this
 simpa using this
theorem aBU {i : Nat} {o : Oper} {a : Act} {w : aJ2} {K : Act -> aJ2 -> Prop} : (LQ π es i o).wp P a w K Q = o.wp P a w K Q := by
 unfold Oper.wp
 have : execOp a.eval (LQ π es i o) = execOp a.eval o := by
  obtain ⟨d, op, ty, ps, af, g⟩ := o
  cases op <;> rfl
 rw [this]
 generalize (execOp a.eval o).run P w = r
 cases r with
 | ok n w => cases n <;> rfl
 | halt x w => cases x <;> rfl
theorem axX {i : Nat} {o : Oper} {a : Act} {w : aJ2} : (LQ π es i o).asks P a w = o.asks P a w := by
 unfold Oper.asks
 have : execOp a.eval (LQ π es i o) = execOp a.eval o := by
  obtain ⟨d, op, ty, ps, af, g⟩ := o
  cases op <;> rfl
 rw [this]
theorem axL (p : Perm π ops) {i : Nat} {o : Oper} (ho : ops[i]? = some o) (tmps : Array aJ3) :
 Region.wanted (LQ π es i o) (yielded (rF π es ops) tmps) = Region.wanted o (yielded ops tmps) := by
 unfold Region.wanted LQ
 simp only
 cases hg : o.guard with
 | none => rfl
 | some q =>
   obtain ⟨j, b⟩ := q
   simp only
   have hj := p.guard i o j b ho hg
   have : (rF π es ops)[zM π j]?.bind (·.dst) = (ops[j]?).bind (·.dst) := by
    rw [p.get hj]
    cases ops[j]? <;> rfl
   unfold yielded
   rw [this]
theorem ayY (p : Perm π ops) : ∀ (L : List Nat), (∀ i ∈ L, i < ops.size) -> ∀ (a : Act) (w : aJ2), wpOps P (rF π es ops) Q (L.map (zM π)) a w -> wpOps P ops Q L a w := by
 intro L
 induction L with
 | nil => intro _ a w h; exact h
 | cons i L ih =>
   intro hL a w h
   rw [aJh, wpOps_cons] at h
   rw [wpOps_cons]
   have hi := hL i (by simp)
   have ih := ih fun i hi => hL i (aH0 _ hi)
   unfold wpOp at h ⊢
   rw [p.get hi] at h
   rw [aIi hi] at h ⊢
   simp only [aIu] at h
   rw [axL p (aIi hi)] at h
   simp only
   split
   .rename_i hw
    rw [if_pos hw, aBU, axX] at h
    exact h.imp (Oper.wp_mono fun a w => ih a w) id
   .rename_i hw
    rw [if_neg hw] at h
    exact ih _ _ h
theorem U3 {ops : Array Oper} {listed : Array Bool} (hsz : listed.size = ops.size) (i : Nat) :
 i ∈ Region.ready .any ops listed ↔ (i < ops.size /\ listed.getD i false = false /\ ∀ o, ops[i]? = some o -> ∀ e ∈ o.after, Region.binds .any e = true -> listed.getD e.on false = true) := by
 unfold Region.ready
 rw [aJZ, aIw]
 constructor
 .rintro ⟨h1, h2⟩
  rw [aIi h1] at h2
  simp only [aH4, aIu, aJX] at h2
  refine ⟨h1, ?_, fun o ho e he hb => ?_⟩
  .have := h2.1
   rw [aHY] at this ⊢
   rw [aIi (by omega)] at this ⊢
   simpa using this
  .rw [aIi h1] at ho
   cases ho
   have := aIU.1 h2.2 e he
   simpa [hb] using this
 .rintro ⟨h1, h2, h3⟩
  refine ⟨h1, ?_⟩
  rw [aIi h1]
  simp only [aH4, aIu, aJX]
  refine ⟨?_, aIU.2 fun e he => ?_⟩
  .rw [aHY] at h2 ⊢
   rw [aIi (by omega)] at h2 ⊢
   simpa using h2
  .by_cases hb : Region.binds .any e = true
   .simp [hb, h3 _ (aIi h1) e he hb]
   .simp [hb]
theorem aCI {π : List Nat} {i : Nat} : ∀ {es : List (Nat × Nat)} {e : Edge}, e ∈ Jk π i es -> ∃ a, (a, i) ∈ es /\ e.on = zM π a := by
 intro es
 induction es with
 | nil => intro e h; simp [Jk] at h
 | cons q r ih =>
   obtain ⟨a, b⟩ := q
   intro e h
   simp only [Jk] at h
   cases hb : Nat.beq b i with
   | true =>
     rw [hb] at h
     obtain rfl := aIq hb
     rcases aIz.1 h with rfl | h
     .exact ⟨a, by simp, rfl⟩
     .obtain ⟨a, h1, h2⟩ := ih h; exact ⟨a, aH0 _ h1, h2⟩
   | false => rw [hb] at h; obtain ⟨a, h1, h2⟩ := ih h; exact ⟨a, aH0 _ h1, h2⟩
theorem aBS (p : Perm π ops) {L0 : List Nat} (hes : ∀ q ∈ es, L0.idxOf q.1 <= L0.idxOf q.2 /\ q.1 ≠ q.2 /\ q.1 < ops.size) :
 ∀ (fuel : Nat) (listed listed' : Array Bool) (pre L : List Nat), L0 = pre ++ L -> listed.size = ops.size -> listed'.size = ops.size →
   (∀ j, j < ops.size -> listed'.getD (zM π j) false = listed.getD j false) -> (∀ j ∈ pre, listed.getD j false = true) -> (∀ j, listed.getD j false = true -> j ∈ pre) →
   atD ops fuel listed L -> atD (rF π es ops) fuel listed' (L.map (zM π)) /\ ∀ i ∈ L, i < ops.size := by
 intro fuel
 induction fuel with
 | zero => intro listed listed' pre L _ _ _ _ _ _ h; obtain rfl : L = [] := h; exact ⟨rfl, by simp⟩
 | succ fuel ih =>
   intro listed listed' pre L hL0 hs hs' hrel hpre hpre' h
   have hsz : (rF π es ops).size = ops.size := p.size
   cases L with
   | nil =>
     refine ⟨?_, by simp⟩
     show Region.ready .any (rF π es ops) listed' = []
     rw [List.eq_nil_iff_forall_not_mem]
     intro k hk
     obtain ⟨h1, h2, h3⟩ := (U3 (by omega) k).1 hk
     obtain ⟨i, hi1, hi2, hi3⟩ := p.back k (by omega)
     have : i ∈ Region.ready .any ops listed := by
      refine (U3 hs i).2 ⟨hi3, ?_, fun o ho e he hb => ?_⟩
      .rw [<- hrel i hi3, hi2]; exact h2
      .have g := p.get (es := es) hi3
       rw [hi2, ho] at g
       have hon := p.after i o ho e he
       have := h3 _ g ⟨zM π e.on, e.ground⟩ (by
        simp only [LQ, List.mem_toArray, aI2, aIx]
        exact .inl ⟨e, by simpa using he, rfl⟩) (by unfold Region.binds at hb ⊢; exact hb)
       rw [<- hrel e.on hon]; exact this
     rw [show Region.ready .any ops listed = [] from h] at this
     cases this
   | cons i L =>
     obtain ⟨h1, h2⟩ := h
     obtain ⟨r1, r2, r3⟩ := (U3 hs i).1 h1
     have hnot : i ∉ pre := fun hm => by rw [hpre i hm] at r2; cases r2
     have hidx : L0.idxOf i = pre.length := by
      rw [hL0, List.idxOf_append, if_neg hnot]; simp
     have ready' : zM π i ∈ Region.ready .any (rF π es ops) listed' := by
      refine (U3 (by omega) _).2 ⟨by rw [hsz]; exact (p.to i r1).1, by rw [hrel i r1]; exact r2, fun o' ho' e' he' hb => ?_⟩
      rw [p.get r1, aIi r1] at ho'
      simp only [aIu, Option.some.injEq] at ho'
      subst ho'
      simp only [LQ, List.mem_toArray, aI2, aIx] at he'
      rcases he' with ⟨e, he, rfl⟩ | he'
      .have ho := aIi r1
       have he2 : e ∈ ops[i].after := by simpa using he
       rw [hrel e.on (p.after i _ ho e he2)]
       exact r3 _ ho e he2 (by unfold Region.binds at hb ⊢; exact hb)
      .obtain ⟨a, ha, hon⟩ := aCI he'
       obtain ⟨q1, q2, q3⟩ := hes _ ha
       simp only at q1 q2 q3
       rw [hon, hrel a q3]
       refine hpre a ?_
       rw [hidx] at q1
       rw [hL0, List.idxOf_append] at q1
       by_cases hm : a ∈ pre
       .exact hm
       .rw [if_neg hm] at q1
        exfalso
        have hz : (i :: L).idxOf a = 0 := by omega
        rw [List.idxOf_cons] at hz
        cases hb : (i == a) with
        | true => exact q2 (by simpa using (beq_iff_eq.1 hb).symm)
        | false => rw [hb] at hz; simp at hz
     have hlen' : listed'.size = ops.size := hs'
     obtain ⟨k1, k2⟩ := ih (listed.setIfInBounds i true) (listed'.setIfInBounds (zM π i) true) (pre ++ [i]) L (by rw [hL0]; simp) (by simp [hs]) (by simp [hs'])
      (fun j hj => by
       by_cases hji : j = i
       .subst hji
        rw [aHY, aHY, aIE (by rw [hs']; exact (p.to j hj).1), aIE (by omega)]
       .have hne : zM π i ≠ zM π j := fun e => by
         have a1 := (p.to i r1).2
         have a2 := (p.to j hj).2
         rw [e] at a1
         rw [a1] at a2
         exact hji (aH2 a2).symm
        have := hrel j hj
        rw [aHY, aHY] at this ⊢
        rw [aIK hne, aIK (fun e => hji e.symm)]
        exact this)
      (fun j hj => by
       rw [aHY]
       rcases aI2.1 hj with hj | hj
       .by_cases hji : j = i
        .subst hji; rw [aIE (by omega)] <;> rfl
        .rw [aIK (fun e => hji e.symm), <- aHY]; exact hpre j hj
       .have : j = i := by simpa using hj
        subst this
        rw [aIE (by omega)] <;> rfl)
      (fun j hj => by
       by_cases hji : j = i
       .subst hji; simp
       .rw [aHY, aIK (fun e => hji e.symm), <- aHY] at hj
        exact aJd _ (hpre' j hj))
      h2
     exact ⟨⟨ready', k1⟩, fun j hj => (aIz.1 hj).elim (fun e => e ▸ r1) (k2 j)⟩
end
section
variable {P : Program} {ops : Array Oper}
theorem ahS {N : Nat} {an : Ann} {pl : avF} (hok : aoF ops an = true) (hpl : apA ops.size an pl = true) (hd : amC N ops) (hca : abB P ops)
 {K : Env -> aJ2 -> Prop} {Q : Exit -> Act -> aJ2 -> Prop} (hQ : ∀ g a w, UZ N g a -> K g w -> Q .normal a w) {g : Env} {a : Act} {w : aJ2} (hr : UZ N g a)
 (h : tE P ops ops.toList pl [] g w K) : wpAny P .any ops Q ops.size (Array.replicate ops.size false) a w := by
 have r0 : Run P ops an g w 0 (fun _ => default) (fun _ => g) (fun _ => w) (fun _ => undef) :=
  ⟨rfl, rfl, fun i hi => by omega, fun i hi => by omega, fun i hi => by omega, fun i hi => by omega, fun i j _ hj => by omega⟩
 obtain ⟨O, G, W, V, r, hk⟩ := awX hpl ops.toList 0 [] _ _ _ _ (fun j => by simp) (by simp) r0 (fun i hi => by omega) h
 simp only [aHI, aIZ] at r hk
 have st := aB6 hok r.op
 have := aD6 (Q := Q) (n := ops.size) rfl hd hca r st (fun a hra => hQ _ a _ hra hk) ops.size (Array.replicate ops.size false) g a 0 (by simp) hr (by omega)
  (fun j hj hl => by unfold nF at hl; simp [aHY, hj] at hl)
  (fun s => .inr ⟨fun j hj hl => by unfold nF at hl; simp [aHY, hj] at hl, rfl⟩)
  (fun h hh _ => ⟨fun hl => by unfold nF at hl; simp [aHY, hh] at hl, fun hl => by omega⟩)
  (aIM (List.length_filter_le _ _) (by simp))
 rw [r.w0] at this
 exact this
theorem arJ {N : Nat} {ops : Array Oper} (h : ops.all (aBm N) = true) : amC N ops := by
 intro i o ho t ht
 have := aIU.1 h o (aJY ho)
 unfold aBm at this
 rw [ht] at this
 exact (aJP (x := t) (y := N)) ▸ this
theorem amY {ops : Array Oper} (h : ops.all (Ty P) = true) : abB P ops :=
 fun _ o ho => aIU.1 h o (aJY ho)
theorem azU {N : Nat} {f : FuncId} {id : Nat} (hd : amC N ops) (hca : abB P ops)
 {K : Env -> aJ2 -> Prop} {Q : Exit -> Act -> aJ2 -> Prop} (hQ : ∀ g a w, UZ N g a -> K g w -> Q .normal a w) {g : Env} {a : Act} {w0 w : aJ2} (hr : UZ N g a) :
 ∀ (T : HT) (path : List (Nat × Nat)), Xi P N ops path T = true →
   (∀ q ∈ path, (Region.schedule true ops (w0.tape w0.drawn (.order f id))).idxOf q.1 <= (Region.schedule true ops (w0.tape w0.drawn (.order f id))).idxOf q.2 /\ q.1 ≠ q.2) →
   awH P f id ops T g w0 w K -> wpOps P ops Q (Region.schedule true ops (w0.tape w0.drawn (.order f id))) a w := by
 have lin : atD ops ops.size (Array.replicate ops.size false) (Region.schedule true ops (w0.tape w0.drawn (.order f id))) := by
  unfold Region.schedule
  simp only [Bool.true_or, if_true]
  exact aEG _ _ _
 generalize hL : Region.schedule true ops (w0.tape w0.drawn (.order f id)) = L at lin ⊢
 intro T
 induction T with
 | leaf an pl =>
   intro path hok _ h
   simp only [Xi, aH4] at hok
   exact Yt _ _ _ _ _ (ahS hok.1 hok.2 hd hca hQ hr h) lin
 | perm π es an pl =>
   intro path hok hpath h
   simp only [Xi, aH4] at hok
   obtain ⟨⟨⟨⟨⟨h1, h2⟩, h3⟩, h4⟩, h5⟩, h6⟩ := hok
   have p := aEX h2
   have hes : ∀ q ∈ es, L.idxOf q.1 <= L.idxOf q.2 /\ q.1 ≠ q.2 /\ q.1 < ops.size := fun q hq => by
    have := aIF.1 h1 q hq
    simp only [aH4] at this
    have hp := hpath q (aEd this.1)
    exact ⟨hp.1, hp.2, (aJP (x := q.1) (y := ops.size)) ▸ this.2⟩
   obtain ⟨k1, k2⟩ := aBS (es := es) p hes ops.size (Array.replicate ops.size false) (Array.replicate ops.size false) [] L rfl (by simp) (by simp)
    (fun j hj => by simp [aHY, hj, (p.to j hj).1]) (by simp)
    (fun j hj => by rw [aHY] at hj; by_cases hh : j < ops.size <;> simp [hh] at hj) lin
   have hw := ahS h5 h6 (arJ h3) (amY h4) hQ hr h
   rw [p.size] at hw
   exact ayY (es := es) p L k2 a w (Yt _ _ _ _ _ hw k1)
 | split x y A B ihA ihB =>
   intro path hok hpath h
   simp only [Xi, aH4] at hok
   have hne : x ≠ y := by
    intro e
    have := hok.1.1
    rw [e] at this
    simp at this
   simp only [awH] at h
   unfold Ord aqK at h
   rw [hL] at h
   cases hb : Nat.ble (L.idxOf x) (L.idxOf y) with
   | true =>
     rw [hb] at h
     refine ihA _ hok.1.2 (fun q hq => ?_) h
     rcases aIz.1 hq with rfl | hq
     .exact ⟨Nat.le_of_ble_eq_true hb, hne⟩
     .exact hpath q hq
   | false =>
     rw [hb] at h
     refine ihB _ hok.2 (fun q hq => ?_) h
     rcases aIz.1 hq with rfl | hq
     .refine ⟨?_, hne.symm⟩
      simp only
      rcases aH6 (L.idxOf y) (L.idxOf x) with hh | hh
      .omega
      .have := Nat.ble_eq_true_of_le hh; rw [this] at hb; cases hb
     .exact hpath q hq
end
section
variable {P : Program} {ann : FA}
def qA : List Oper -> List Nat
 | [] => []
 | o :: r => match o.dst with | some d => d :: qA r | none => qA r
def Z9 : Code -> List Nat
 | .region _ ops _ => qA ops.toList
 | .seq x y => Z9 x ++ Z9 y
 | .cond _ x y => Z9 x ++ Z9 y
 | .block _ c => Z9 c
 | .scope c => Z9 c
 | .loop c => Z9 c
 | _ => []
def oC (l : List Nat) (g g' : Env) : Prop := ∀ s, s ∉ l -> g' s = g s
theorem oC.refl (l : List Nat) (g : Env) : oC l g g := fun _ _ => rfl
theorem oC.trans {l l1 l2 : List Nat} {a b c : Env} (h : oC l1 a b) (k : oC l2 b c) (h1 : ∀ s, s ∈ l1 -> s ∈ l) (h2 : ∀ s, s ∈ l2 -> s ∈ l) : oC l a c :=
 fun s hs => (k s fun h => hs (h2 s h)).trans (h s fun h => hs (h1 s h))
theorem oC.mono {l l1 : List Nat} {a b : Env} (h : oC l1 a b) (h1 : ∀ s, s ∈ l1 -> s ∈ l) : oC l a b := fun s hs => h s fun hh => hs (h1 s hh)
theorem oC.put {l : List Nat} {a : Env} (d : Option Tmp) (v : aJ3) (h : ∀ t, d = some t -> t ∈ l) : oC l a (put a d v) := by
 intro s hs
 cases d with
 | none => rfl
 | some t =>
   rw [amB, if_neg (fun e => hs (by rw [e]; exact h t rfl))]
theorem ayQ {ops : Array Oper} {K : Env -> aJ2 -> Prop} : ∀ (l : List Oper) (g : Env) (w : aJ2), anE P ops l g w K →
 ∃ g' w', K g' w' /\ oC (qA l) g g' /\ ∀ K' : Env -> aJ2 -> Prop, K' g' w' -> anE P ops l g w K' := by
 intro l
 induction l with
 | nil => intro g w h; exact ⟨g, w, h, oC.refl _ _, fun _ h => h⟩
 | cons o l ih =>
   intro g w h
   obtain ⟨v, w1, hy, h1⟩ := Qa h
   obtain ⟨g', w', hk, ha, hall⟩ := ih _ _ h1
   refine ⟨g', w', hk, ?_, fun K' hk' => hy _ (hall K' hk')⟩
   refine oC.trans (oC.put o.dst v (l := qA (o :: l)) fun t ht => by simp [qA, ht]) ha (fun _ h => h) (fun s hs => ?_)
   unfold qA
   split
   .exact aH0 _ hs
   .exact hs
theorem ahR {ops : Array Oper} {K : Env -> aJ2 -> Prop} : ∀ (l : List Oper) (pl : avF) (hist : List Rec) (g : Env) (w : aJ2), tE P ops l pl hist g w K →
 ∃ g' w', K g' w' /\ oC (qA l) g g' /\ ∀ K' : Env -> aJ2 -> Prop, K' g' w' -> tE P ops l pl hist g w K' := by
 intro l
 induction l with
 | nil => intro pl hist g w h; unfold tE at h; exact ⟨g, w, h, oC.refl _ _, fun _ h => (by unfold tE; exact h)⟩
 | cons o l ih =>
   intro pl hist g w h
   cases pl with
   | nil => exact h.elim
   | cons p pl =>
     obtain ⟨hv, ks⟩ := p
     obtain ⟨v, w1, hy, h1⟩ := Qa h
     have tail : ∀ (w2 : aJ2) (hist' : List Rec), tE P ops l pl hist' (put g o.dst v) w2 K →
         ∃ g' w', K g' w' /\ oC (qA (o :: l)) g g' /\ ∀ K' : Env -> aJ2 -> Prop, K' g' w' -> tE P ops l pl hist' (put g o.dst v) w2 K' := by
      intro w2 hist' c2
      obtain ⟨g', w', hk, ha, hall⟩ := ih _ _ _ _ c2
      refine ⟨g', w', hk, ?_, hall⟩
      refine oC.trans (oC.put o.dst v (l := qA (o :: l)) fun t ht => by simp [qA, ht]) ha (fun _ h => h) (fun s hs => ?_)
      unfold qA
      split
      .exact aH0 _ hs
      .exact hs
     cases hv with
     | true =>
       cases ks with
       | nil =>
         obtain ⟨g', w', hk, ha, hall⟩ := tail w1 _ h1
         exact ⟨g', w', hk, ha, fun K' hk' => hy _ (hall K' hk')⟩
       | cons k ks =>
         obtain ⟨hc, h1⟩ := h1
         obtain ⟨g', w', hk, ha, hall⟩ := tail w1 _ h1
         exact ⟨g', w', hk, ha, fun K' hk' => hy _ ⟨hc, hall K' hk'⟩⟩
     | false =>
       cases ks with
       | nil =>
         obtain ⟨rfl, h1⟩ := h1
         obtain ⟨g', w', hk, ha, hall⟩ := tail w1 _ h1
         exact ⟨g', w', hk, ha, fun K' hk' => hy _ ⟨rfl, hall K' hk'⟩⟩
       | cons k ks =>
         obtain ⟨rfl, hc, h1⟩ := h1
         obtain ⟨g', w', hk, ha, hall⟩ := tail w1 _ h1
         exact ⟨g', w', hk, ha, fun K' hk' => hy _ ⟨rfl, hc, hall K' hk'⟩⟩
theorem TX {l : List Oper} {s : Nat} : s ∈ qA l ↔ ∃ o ∈ l, o.dst = some s := by
 induction l with
 | nil => simp [qA]
 | cons o l ih =>
   unfold qA
   cases hd : o.dst with
   | none => simp [ih, hd]
   | some d => simp [ih, hd, eq_comm]
theorem aAk {π : List Nat} {es : List (Nat × Nat)} {l : List Oper} {s : Nat} : ∀ (r : List Nat), s ∈ qA (Zx π es l r) -> s ∈ qA l := by
 intro r
 induction r with
 | nil => intro h; simp [Zx, qA] at h
 | cons i r ih =>
   intro h
   simp only [Zx] at h
   cases ho : l[i]? with
   | none => rw [ho] at h; exact ih h
   | some o =>
     rw [ho] at h
     obtain ⟨o', h1, h2⟩ := TX.1 h
     rcases aIz.1 h1 with rfl | h1
     .exact TX.2 ⟨o, aIX ho, h2⟩
     .exact ih (TX.2 ⟨o', h1, h2⟩)
theorem aDA {f : FuncId} {id : Nat} {ops : Array Oper} {K : Env -> aJ2 -> Prop} {g : Env} {w0 : aJ2} : ∀ (T : HT) (w : aJ2), awH P f id ops T g w0 w K →
 ∃ g' w', K g' w' /\ oC (qA ops.toList) g g' /\ ∀ K' : Env -> aJ2 -> Prop, K' g' w' -> awH P f id ops T g w0 w K' := by
 intro T
 induction T with
 | leaf an pl => intro w h; exact ahR _ _ _ _ _ h
 | perm π es an pl =>
   intro w h
   obtain ⟨g', w', a, b, c⟩ := ahR _ _ _ _ _ h
   exact ⟨g', w', a, b.mono (fun s hs => aAk π (by simpa [rF] using hs)), c⟩
 | split x y A B ihA ihB =>
   intro w h
   simp only [awH, Ord] at h ⊢
   cases hb : aqK f id ops x y w0 with
   | true => rw [hb] at h; exact ihA w h
   | false => rw [hb] at h; exact ihB w h
theorem cG.head {α : Type} {F : (α -> aJ2 -> Prop) -> α -> aJ2 -> Prop} (hmono : ∀ X Y g w, (∀ g w, X g w -> Y g w) -> F X g w -> F Y g w)
 {g : α} {w : aJ2} (h : F (fun g' w' => cG F g' w') g w) (hdet : ∃ g' w', cG F g' w' /\ ∀ X : α -> aJ2 -> Prop, X g' w' -> F X g w) : cG F g w := by
 obtain ⟨g1, w1, ⟨I, ⟨n1, h1⟩, hI⟩, hF⟩ := hdet
 refine ⟨fun n g' w' => I n g' w' ∨ (n = n1 + 1 /\ g' = g /\ w' = w), ⟨n1 + 1, .inr ⟨rfl, rfl, rfl⟩⟩, ?_⟩
 rintro n g' w' (h | ⟨rfl, rfl, rfl⟩)
 .exact hmono _ _ _ _ (fun _ _ ⟨m, hm, hh⟩ => ⟨m, hm, .inl hh⟩) (hI _ _ _ h)
 .exact hF _ ⟨n1, by omega, .inl h1⟩
theorem aAH : ∀ (c : Code) (Q : Exit -> Env -> aJ2 -> Prop) (g : Env) (w : aJ2), bH P ann c Q g w →
 ∃ e g' w', Q e g' w' /\ oC (Z9 c) g g' /\ ∀ Q' : Exit -> Env -> aJ2 -> Prop, Q' e g' w' -> bH P ann c Q' g w := by
 intro c
 induction c with
 | skip => intro Q g w h; exact ⟨_, _, _, h, oC.refl _ _, fun _ h => h⟩
 | region id ops draw =>
   intro Q g w h
   cases draw with
   | false =>
     obtain ⟨g', w', a, b, c⟩ := ayQ _ _ _ h
     exact ⟨.normal, g', w', a, b, fun Q' h => c _ h⟩
   | true =>
     obtain ⟨g', w', a, b, c⟩ := aDA _ _ h
     exact ⟨.normal, g', w', a, b, fun Q' h => c _ h⟩
 | seq x y ihx ihy =>
   intro Q g w h
   obtain ⟨e, g1, w1, a, b, c⟩ := ihx _ _ _ h
   cases e with
   | normal =>
     obtain ⟨e2, g2, w2, a2, b2, c2⟩ := ihy _ _ _ a
     exact ⟨e2, g2, w2, a2, b.trans b2 (fun s h => aJd _ h) (fun s h => aJA _ h), fun Q' h => c _ (c2 _ h)⟩
   | _ => exact ⟨_, g1, w1, a, b.mono (fun s h => aJd _ h), fun Q' h => c _ h⟩
 | cond c x y ihx ihy =>
   intro Q g w h
   simp only [bH] at h ⊢
   unfold eM at h ⊢
   cases hc : ev g c with
   | bool b =>
     rw [hc] at h
     cases b with
     | true =>
       obtain ⟨e, g', w', a, b, c⟩ := ihx _ _ _ h
       exact ⟨e, g', w', a, b.mono (fun s h => aJd _ h), c⟩
     | false =>
       obtain ⟨e, g', w', a, b, c⟩ := ihy _ _ _ h
       exact ⟨e, g', w', a, b.mono (fun s h => aJA _ h), c⟩
   | _ => rw [hc] at h; exact h.elim
 | block id c ih =>
   intro Q g w h
   obtain ⟨e, g', w', a, b, c⟩ := ih _ _ _ h
   cases e with
   | exit i =>
     simp only [blk] at a
     cases hb : Nat.beq i id with
     | true =>
       simp only [hb] at a
       refine ⟨.normal, g', w', a, b, fun Q' h => c _ ?_⟩
       simp only [blk, hb]; exact h
     | false =>
       simp only [hb] at a
       refine ⟨.exit i, g', w', a, b, fun Q' h => c _ ?_⟩
       simp only [blk, hb]; exact h
   | _ => exact ⟨_, g', w', a, b, fun Q' h => c _ h⟩
 | loop c ih =>
   intro Q g w h
   have hmono : ∀ (Q : Exit -> Env -> aJ2 -> Prop) (X Y : Env -> aJ2 -> Prop) g w, (∀ g w, X g w -> Y g w) -> bH P ann c (Cu X Q) g w -> bH P ann c (Cu Y Q) g w := by
    intro Q X Y g w hxy h
    obtain ⟨e, g', w', a, _, k⟩ := ih _ _ _ h
    refine k _ ?_
    cases e with
    | normal => exact hxy _ _ a
    | _ => exact a
   obtain ⟨I, ⟨n, h0⟩, hI⟩ := h
   have key : ∀ n g w, I n g w -> ∃ e g' w', Q e g' w' /\ oC (Z9 c) g g' /\ ∀ Q' : Exit -> Env -> aJ2 -> Prop, Q' e g' w' -> cG (fun X g w => bH P ann c (Cu X Q') g w) g w := by
    intro n
    induction n using Nat.strongRecOn with
    | _ n ih2 =>
      intro g w hg
      obtain ⟨e, g1, w1, a, b, k⟩ := ih _ _ _ (hI n g w hg)
      have once : ∀ (Q' : Exit -> Env -> aJ2 -> Prop), (∀ X : Env -> aJ2 -> Prop, bH P ann c (Cu X Q') g w) -> cG (fun X g w => bH P ann c (Cu X Q') g w) g w := by
       intro Q' h
       refine ⟨fun n g' w' => g' = g /\ w' = w, ⟨0, rfl, rfl⟩, ?_⟩
       rintro _ g' w' ⟨rfl, rfl⟩
       exact h _
      cases e with
      | normal =>
        obtain ⟨m, hm, hIm⟩ := a
        obtain ⟨e2, g2, w2, a2, b2, k2⟩ := ih2 m hm g1 w1 hIm
        refine ⟨e2, g2, w2, a2, b.trans b2 (fun _ h => h) (fun _ h => h), fun Q' h => ?_⟩
        have hl := k2 Q' h
        exact cG.head (hmono Q') (k _ hl) ⟨g1, w1, hl, fun X hx => k _ hx⟩
      | _ => exact ⟨_, g1, w1, a, b, fun Q' h => once Q' fun X => k _ h⟩
   exact key n g w h0
 | exit id => intro Q g w h; exact ⟨_, _, _, h, oC.refl _ _, fun _ h => h⟩
 | label l => intro Q g w h; exact ⟨_, _, _, h, oC.refl _ _, fun _ h => h⟩
 | scope c ih => intro Q g w h; exact ih Q g w h
 | ret => intro Q g w h; exact ⟨_, _, _, h, oC.refl _ _, fun _ h => h⟩
 | _ => intro Q g w h; exact h.elim
theorem KX {c : Code} {Q Q' : Exit -> Env -> aJ2 -> Prop} {g : Env} {w : aJ2} (h : bH P ann c Q g w)
 (hq : ∀ e g' w', oC (Z9 c) g g' -> Q e g' w' -> Q' e g' w') : bH P ann c Q' g w :=
 let ⟨_, _, _, a, b, k⟩ := aAH c Q g w h
 k _ (hq _ _ _ b a)
def noG (Q : Exit -> Env -> aJ2 -> Prop) : Exit -> Env -> aJ2 -> Prop
 | .goto _, _, _ => False
 | e, g, w => Q e g w
theorem ayN : ∀ (c : Code) (Q : Exit -> Env -> aJ2 -> Prop) (g : Env) (w : aJ2), bH P ann c Q g w -> bH P ann c (noG Q) g w := by
 intro c
 induction c with
 | skip => intro Q g w h; exact h
 | region id ops draw => intro Q g w h; cases draw <;> exact h
 | seq x y ihx ihy =>
   intro Q g w h
   show bH P ann x (Cu (fun g w => bH P ann y (noG Q) g w) (noG Q)) g w
   refine KX (ihx _ _ _ h) (fun e g' w' _ hq => ?_)
   cases e with
   | normal => exact ihy _ _ _ hq
   | goto l => exact hq.elim
   | _ => exact hq
 | cond c x y ihx ihy =>
   intro Q g w h
   simp only [bH] at h ⊢
   unfold eM at h ⊢
   cases hc : ev g c with
   | bool b =>
     rw [hc] at h
     cases b with
     | true => exact ihx _ _ _ h
     | false => exact ihy _ _ _ h
   | _ => rw [hc] at h; exact h.elim
 | block id c ih =>
   intro Q g w h
   show bH P ann c (blk id (noG Q)) g w
   refine KX (ih _ _ _ h) (fun e g' w' _ hq => ?_)
   cases e with
   | exit i =>
     simp only [noG, blk] at hq ⊢
     cases hb : Nat.beq i id with
     | true => rw [hb] at hq; exact hq
     | false => rw [hb] at hq; exact hq
   | goto l => exact hq.elim
   | _ => exact hq
 | loop c ih =>
   intro Q g w h
   obtain ⟨I, h0, hI⟩ := h
   refine ⟨I, h0, fun n g w hi => ?_⟩
   refine KX (ih _ _ _ (hI n g w hi)) (fun e g' w' _ hq => ?_)
   cases e with
   | normal => exact hq
   | goto l => exact hq.elim
   | _ => exact hq
 | exit id => intro Q g w h; exact h
 | label l => intro Q g w h; exact h
 | scope c ih => intro Q g w h; exact ih Q g w h
 | ret => intro Q g w h; exact h
 | _ => intro Q g w h; exact h.elim
theorem aBF {N : Nat} (hm : P.follows .mixedOrders = true) : ∀ (c : Code), codeOk P N ann c = true →
 ∀ (Q : Exit -> Env -> aJ2 -> Prop) (QA : Exit -> Act -> aJ2 -> Prop) (g : Env) (a : Act) (w : aJ2), UZ N g a →
   (∀ e g a w, UZ N g a -> Q e g w -> QA e a w) -> bH P ann c Q g w -> wpF P ann.f c QA a w := by
 intro c
 induction c with
 | skip => intro _ Q QA g a w hr hq h; exact anN (wp_skip (hq _ _ _ _ hr h))
 | region id ops draw =>
   intro hok Q QA g a w hr hq h
   simp only [codeOk, aH4, aI0, aJo] at hok
   have hd := arJ hok.1.1
   have hca := amY hok.1.2
   cases draw with
   | false =>
     refine anN (wp_region ?_)
     have := aCd hd hca (P := P) (Q := QA) (K := Q .normal) (fun g a w => hq .normal g a w) ops.toList 0 g a w (fun j => by simp) hr h
     rw [List.range_eq_range']
     simpa using this
   | true =>
     rcases hok.2 with h1 | h1
     .cases h1
     .exact akR hm (azU hd hca (fun g a w => hq .normal g a w) hr _ [] h1 (by simp) h)
 | seq x y ihx ihy =>
   intro hok Q QA g a w hr hq h
   simp only [codeOk, aH4] at hok
   refine aEE (ihx hok.1 _ _ g a w hr (fun e g a w hr h => ?_) h)
   cases e with
   | normal => exact ihy hok.2 _ _ g a w hr hq h
   | _ => exact hq _ _ _ _ hr h
 | cond c x y ihx ihy =>
   intro hok Q QA g a w hr hq h
   simp only [codeOk, aH4] at hok
   simp only [bH] at h
   unfold eM at h
   have he := hr.ev c
   cases hc : ev g c with
   | bool b =>
     rw [hc] at h he
     refine aCX he ?_
     cases b with
     | true => exact ihx hok.1 _ _ g a w hr hq h
     | false => exact ihy hok.2 _ _ g a w hr hq h
   | _ => rw [hc] at h; exact h.elim
 | block id c ih =>
   intro hok Q QA g a w hr hq h
   refine aBC (ih hok _ _ g a w hr (fun e g a w hr h => ?_) h)
   cases e with
   | exit i =>
     unfold Exit.inBlock
     simp only [blk] at h
     by_cases hi : i = id
     .subst hi
      simp only [if_true]
      simp only [Nat.beq_refl] at h
      exact hq _ _ _ _ hr h
     .simp only [hi, if_false]
      have : Nat.beq i id = false := by
       cases hb : Nat.beq i id
       .rfl
       .exact absurd (aIq hb) hi
      simp only [this] at h
      exact hq _ _ _ _ hr h
   | _ => exact hq _ _ _ _ hr h
 | loop c ih =>
   intro hok Q QA g a w hr hq h
   obtain ⟨I, h0, hround⟩ := h
   have hex : ∀ a w, (∃ n g, UZ N g a /\ I n g w) -> ∃ n, (∃ g, UZ N g a /\ I n g w) /\ ∀ m, (∃ g, UZ N g a /\ I m g w) -> n <= m := by
    rintro a w ⟨n, hn⟩
    induction n using Nat.strongRecOn with
    | _ n ih2 =>
      by_cases hx : ∃ m, m < n /\ ∃ g, UZ N g a /\ I m g w
      .obtain ⟨m, hm, h⟩ := hx; exact ih2 m hm h
      .exact ⟨n, hn, fun m hm => Nat.le_of_not_lt fun hlt => hx ⟨m, hlt, hm⟩⟩
   have hdec : ∀ a w, Decidable (∃ n g, UZ N g a /\ I n g w) := fun a w => Classical.propDecidable _
   let μ : Act -> aJ2 -> Nat := fun a w => if hh : ∃ n g, UZ N g a /\ I n g w then Classical.choose (hex a w hh) else 0
   have hμ : ∀ a w n g, UZ N g a -> I n g w -> μ a w <= n /\ ∃ g, UZ N g a /\ I (μ a w) g w := by
    intro a w n g hr hI
    have hh : ∃ n g, UZ N g a /\ I n g w := ⟨n, g, hr, hI⟩
    have e : μ a w = Classical.choose (hex a w hh) := dif_pos hh
    have s := Classical.choose_spec (hex a w hh)
    rw [e]
    exact ⟨s.2 n ⟨g, hr, hI⟩, s.1⟩
   obtain ⟨n0, h0⟩ := h0
   refine aD9 (fun a w => ∃ n g, UZ N g a /\ I n g w) μ ⟨n0, g, hr, h0⟩ ?_
   rintro a w ⟨n, g, hr, hI⟩
   obtain ⟨_, g', hr', hI'⟩ := hμ a w n g hr hI
   refine ih hok _ _ g' a w hr' (fun e g1 a1 w1 hr1 h => ?_) (hround _ _ _ hI')
   cases e with
   | normal =>
     obtain ⟨m, hm, hIm⟩ := h
     have := hμ a1 w1 m g1 hr1 hIm
     exact ⟨⟨m, g1, hr1, hIm⟩, by omega⟩
   | _ => exact hq _ _ _ _ hr1 h
 | label l => intro _ Q QA g a w hr hq h; exact anN (wp_label (hq _ _ _ _ hr h))
 | scope c ih =>
   intro hok Q QA g a w hr hq h
   refine aCq (ih hok (noG Q) _ g a w hr (fun e g a w hr h => ?_) (ayN c _ g w h))
   cases e with
   | goto l => exact h.elim
   | _ => exact hq _ _ _ _ hr h
 | exit id => intro _ Q QA g a w hr hq h; exact anN (wp_exit (hq _ _ _ _ hr h))
 | ret => intro _ Q QA g a w hr hq h; exact anN (wp_ret (hq _ _ _ _ hr h))
 | _ => intro hok; simp [codeOk] at hok
def A1 (P : Program) : List ResultVar -> Env -> aJ2 -> (List aJ3 -> Prop) -> Prop
 | [], _, _, K => K []
 | .tmp t :: r, g, w, K => A1 P r g w fun vs => K (g t :: vs)
 | .cell a t :: r, g, w, K => ∃ v, (do loadVar t (<- asAddr (g a)) : Sem aJ3).run P w = .ok v w /\ A1 P r g w fun vs => K (v :: vs)
def tup : List aJ3 -> aJ3
 | [v] => v
 | vs => .tuple vs.toArray
def aF6 (P : Program) (rs : List ResultVar) (R : aJ3 -> aJ2 -> Prop) : Exit -> Env -> aJ2 -> Prop
 | .normal, g, w => A1 P rs g w fun vs => R (tup vs) w
 | .ret, g, w => A1 P rs g w fun vs => R (tup vs) w
 | _, _, _ => False
theorem axZ {N : Nat} {g : Env} {a : Act} {w : aJ2} (hr : UZ N g a) : ∀ (rs : List ResultVar) (K : List aJ3 -> Prop), A1 P rs g w K →
 ∃ vs, K vs /\ (rs.mapM fun | .tmp t => pure (a.tmps.getD t undef) | .cell b t => do loadVar t (<- asAddr (a.tmps.getD b undef)) : Sem (List aJ3)).run P w = .ok vs w := by
 intro rs
 induction rs with
 | nil => intro K h; exact ⟨[], h, by simp⟩
 | cons r rs ih =>
   intro K h
   cases r with
   | tmp t =>
     obtain ⟨vs, h1, h2⟩ := ih _ h
     refine ⟨_, h1, ?_⟩
     rw [List.mapM_cons]
     rw [pure_bind, Sem.run_bind]
     simp only [h2, Result.andThen, Sem.run_pure, hr.2.2 t]
   | cell b t =>
     obtain ⟨v, hv, h⟩ := h
     obtain ⟨vs, h1, h2⟩ := ih _ h
     refine ⟨_, h1, ?_⟩
     rw [List.mapM_cons]
     rw [<- hr.2.2 b] at hv
     rw [Sem.run_bind]
     simp only [hv, Result.andThen]
     rw [Sem.run_bind]
     simp only [h2, Result.andThen]
     rfl
theorem aFG (vs : Array aJ3) : (if h : vs.size = 1 then vs[0] else Value.tuple vs) = tup vs.toList := by
 obtain ⟨l⟩ := vs
 match l with
 | [] => rfl
 | [v] => rfl
 | a :: b :: r => simp [tup]
theorem axR {N : Nat} {g : Env} {a : Act} {w : aJ2} (fn : Func) {rs : List ResultVar} (hrs : fn.results = rs.toArray) (hr : UZ N g a) {R : aJ3 -> aJ2 -> Prop}
 (h : A1 P rs g w fun vs => R (tup vs) w) : ∃ v, (results fn a.tmps).run P w = .ok v w /\ R v w := by
 obtain ⟨vs, h1, h2⟩ := axZ hr rs _ h
 refine ⟨tup vs, ?_, h1⟩
 unfold results
 rw [hrs, Array.mapM_eq_mapM_toList, aI9]
 simp only [bind_assoc, map_eq_pure_bind]
 rw [Sem.run_bind]
 refine Eq.trans (congrArg (fun r => Result.andThen r _) h2) ?_
 simp only [Result.andThen]
 simp only [pure_bind, Sem.run_pure, aFG]
def aBk (args : List aJ3) : Env := fun i => args.getD i undef
theorem axC {f : FuncId} {fn : Func} {c : Code} {args : List aJ3} {w : aJ2} {rs : List ResultVar} {R : aJ3 -> aJ2 -> Prop} (hm : P.follows .mixedOrders = true) (hAf : ann.f = f)
 (hf : P.funcs[f]? = some fn) (hb : fn.body = some c) (hrs : fn.results = rs.toArray) {N : Nat} (hN : fn.ntmps = N) (hle : args.length <= N)
 (hok : codeOk P N ann c = true) (h : bH P ann c (aF6 P rs R) (aBk args) w) : aR P f args.toArray w R := by
 obtain ⟨e, g', w', hq, _, hall⟩ := aAH _ _ _ _ h
 have hrv : A1 P rs g' w' fun vs => R (tup vs) w' := by cases e <;> first | exact hq | exact hq.elim
 have hex : ∃ v, R v w' /\ ∀ R' : aJ3 -> aJ2 -> Prop, R' v w' -> A1 P rs g' w' fun vs => R' (tup vs) w' := by
  have gen : ∀ (rs : List ResultVar) (K : List aJ3 -> Prop), A1 P rs g' w' K -> ∃ vs, K vs /\ ∀ K' : List aJ3 -> Prop, K' vs -> A1 P rs g' w' K' := by
   intro rs
   induction rs with
   | nil => intro K h; exact ⟨_, h, fun _ h => h⟩
   | cons r rs ih =>
     intro K h
     cases r with
     | tmp t =>
       obtain ⟨vs, a, b⟩ := ih _ h
       exact ⟨_, a, fun K' h => b _ h⟩
     | cell b t =>
       obtain ⟨v, hv, h⟩ := h
       obtain ⟨vs, a, b⟩ := ih _ h
       exact ⟨_, a, fun K' h => ⟨v, hv, b _ h⟩⟩
  obtain ⟨vs, a, b⟩ := gen _ _ hrv
  exact ⟨_, a, fun R' h => b _ h⟩
 obtain ⟨v, hv, hrest⟩ := hex
 refine ⟨v, w', ?_, hv⟩
 have hrel : UZ N (aBk args) { tmps := args.toArray ++ Array.replicate (fn.ntmps - args.toArray.size) undef, defers := [] } := by
  refine ⟨rfl, by simp [hN]; omega, fun i => ?_⟩
  simp only [aBk, aHY, aHX]
  by_cases hi : i < args.length
  .simp [Array.getElem?_append, hi]
  .simp only [Array.getElem?_append, List.size_toArray, hi, if_false, Array.getElem?_replicate]
   rw [aH3 (by omega)]
   split <;> rfl
 refine asO (f := f) hf hb ?_
 refine hAf ▸ aBF hm c hok (aF6 P rs fun v2 w2 => v2 = v /\ w2 = w') _ _ _ _ hrel ?_ (hall _ ?_)
 .intro e g a w hr h
  have hx : ∀ {w}, (A1 P rs g w fun vs => tup vs = v /\ w = w') -> a.defers = [] /\ ∃ v2, (results fn a.tmps).run P w = .ok v2 w /\ (Ending.returned v2 = .returned v /\ w = w') := by
   intro w h
   obtain ⟨v2, h1, rfl, h3⟩ := axR fn hrs hr (R := fun v2 w2 => v2 = v /\ w2 = w') h
   exact ⟨hr.1, v2, h1, rfl, h3⟩
  cases e with
  | normal => exact hx h
  | ret => exact hx h
  | _ => exact h.elim
 .have := hrest (fun v2 w2 => v2 = v /\ w2 = w') ⟨rfl, rfl⟩
  cases e <;> first | exact this | exact hq.elim
theorem aqH {f : FuncId} {args : Array aJ3} {w : aJ2} {R : aJ3 -> aJ2 -> Prop} (h : aR P f args w R) :
 Calls P f args w fun e w' => ∃ v, e = .returned v /\ R v w' := by
 obtain ⟨v, w', hr, hR⟩ := h
 refine Calls.mono hr ?_
 rintro e w'' ⟨rfl, rfl⟩
 exact ⟨v, rfl, hR⟩
end
def sA : Code -> Code | .seq a _ => a | c => c
def cT : Code -> Code | .cond _ a _ => a | c => c
def cE : Code -> Code | .cond _ _ b => b | c => c
def bI : Code -> Code | .block _ c => c | .loop c => c | .scope c => c | c => c
def cU (f : Func) : Code := match f.body with | some c => c | none => .skip
def aD : Nat -> Code -> Code
 | 0, c => c
 | 1, c => sA c
 | n + 1, .seq a b => .seq a (aD n b)
 | _, c => c
def aB : Nat -> Code -> Code
 | 0, c => c
 | n + 1, .seq _ b => aB n b
 | _, c => c
def azZ : Nat -> Code -> Bool
 | 1, .seq _ _ => true
 | n + 1, .seq _ b => azZ n b
 | _, _ => false
def dr (w : aJ2) : aJ2 := { w with drawn := w.drawn + 1 }
def kI (P : Program) (t : TypeId) (a : aJ3) (w : aJ2) (K : aJ3 -> Prop) : Prop := ∃ v, (do loadVar t (<- asAddr a) : Sem aJ3).run P w = .ok v w /\ K v
def exL : List (Nat × (Env -> aJ2 -> Prop)) -> Nat -> Env -> aJ2 -> Prop
 | [], _, _, _ => False
 | (j, k) :: r, i, g, w => match Nat.beq i j with | true => k g w | false => exL r i g w
def exQ (kn kr : Env -> aJ2 -> Prop) (l : List (Nat × (Env -> aJ2 -> Prop))) : Exit -> Env -> aJ2 -> Prop
 | .normal, g, w => kn g w
 | .ret, g, w => kr g w
 | .exit i, g, w => exL l i g w
 | _, _, _ => False
def aBo (Q : Exit -> Env -> aJ2 -> Prop) : List (Nat × (Env -> aJ2 -> Prop)) -> Prop
 | [] => True
 | (i, k) :: r => (∀ g w, k g w -> Q (.exit i) g w) /\ aBo Q r
def fI (c a b : aJ3) : Sem Next := do pure (.value (if <- asBool c then a else b))
def bS (t : TypeId) : Sem Next := V (Instr.alloc t true (.tuple #[]))
def rL (t : TypeId) (x : aJ3) : Sem Next := V (Instr.box t x)
def aH (t : TypeId) (a : aJ3) : Sem Next := V (Instr.loadAt t a)
def aJ (t : TypeId) (a x : aJ3) : Sem Next := U (Instr.storeAt t a x)
def qJ (x : aJ3) : Sem Next := execOp (fun _ => x) ⟨none, .nilCheck (.tmp 0), 0, default, #[], none⟩
def sUn (op : UnOp) (x : aJ3) : Sem Next := V (Op.unary op x)
def fL (s d : TypeId) (x : aJ3) : Sem Next := V (convert s d x)
def xZ (t : TypeId) (l c : aJ3) : Sem Next := V (Instr.makeSlice t l c)
def fH (t : TypeId) (x : aJ3) (lo hi mx : Option aJ3) : Sem Next := V (Instr.sliceAt t x lo hi mx)
def aL (t : TypeId) (x : aJ3) (f : Nat) : Sem Next := V (Instr.fieldAt t x f)
def bA (t : TypeId) (x i : aJ3) : Sem Next := V (Instr.indexAt t x i)
def HM (t : TypeId) (x i : aJ3) : Sem Next := V (Instr.index t x i)
def aW (t : aJ3) (i : Nat) : Sem Next := V (Instr.extract t i)
section
variable {P : Program} {ann : FA}
theorem aGf {Q : Exit -> Env -> aJ2 -> Prop} : ∀ {l : List (Nat × (Env -> aJ2 -> Prop))}, aBo Q l -> ∀ {i : Nat} {g : Env} {w : aJ2}, exL l i g w -> Q (.exit i) g w := by
 intro l
 induction l with
 | nil => intro _ i g w h; exact h.elim
 | cons p r ih =>
   obtain ⟨j, k⟩ := p
   rintro ⟨h1, h2⟩ i g w h
   simp only [exL] at h
   cases hb : Nat.beq i j with
   | true =>
     simp only [hb] at h
     obtain rfl := aIq hb
     exact h1 _ _ h
   | false => simp only [hb] at h; exact ih h2 h
theorem aEC {c : Code} {kn kr : Env -> aJ2 -> Prop} {l : List (Nat × (Env -> aJ2 -> Prop))} {Q : Exit -> Env -> aJ2 -> Prop} {g : Env} {w : aJ2} {A : Prop}
 (e : A = bH P ann c (exQ kn kr l) g w) (h : A) (hn : ∀ g w, kn g w -> Q .normal g w) (hr : ∀ g w, kr g w -> Q .ret g w) (hl : aBo Q l) : bH P ann c Q g w := by
 rw [e] at h
 refine KX h (fun e g' w' _ hq => ?_)
 cases e with
 | normal => exact hn _ _ hq
 | ret => exact hr _ _ hq
 | exit i => exact aGf hl hq
 | _ => exact hq.elim
theorem aB8 {x y z : Code} {Q : Exit -> Env -> aJ2 -> Prop} {g : Env} {w : aJ2} (h : bH P ann (.seq (.seq x y) z) Q g w) : bH P ann (.seq x (.seq y z)) Q g w := by
 show bH P ann x (Cu (fun g w => bH P ann y (Cu (fun g w => bH P ann z Q g w) Q) g w) Q) g w
 have h : bH P ann x (Cu (fun g w => bH P ann y (Cu (fun g w => bH P ann z Q g w) Q) g w) (Cu (fun g w => bH P ann z Q g w) Q)) g w := h
 refine KX h (fun e g' w' _ hq => ?_)
 cases e <;> exact hq
theorem aK {K : Env -> aJ2 -> Prop} {Q : Exit -> Env -> aJ2 -> Prop} {g : Env} {w : aJ2} (h : K g w) : Cu K Q .normal g w := h
theorem aBv {Q : Exit -> Env -> aJ2 -> Prop} : ∀ (n : Nat) (c : Code) (g : Env) (w : aJ2), azZ n c = true -> bH P ann (.seq (aD n c) (aB n c)) Q g w -> bH P ann c Q g w := by
 intro n
 induction n with
 | zero => intro c g w h; simp [azZ] at h
 | succ n ih =>
   intro c g w h hd
   cases c with
   | seq a b =>
     cases n with
     | zero => exact hd
     | succ n =>
       have hb : azZ (n + 1) b = true := by simpa [azZ] using h
       have hd' : bH P ann (.seq (.seq a (aD (n + 1) b)) (aB (n + 1) b)) Q g w := hd
       have := aB8 hd'
       show bH P ann a (Cu (fun g w => bH P ann b Q g w) Q) g w
       have h2 : bH P ann a (Cu (fun g w => bH P ann (.seq (aD (n + 1) b) (aB (n + 1) b)) Q g w) Q) g w := this
       refine KX h2 (fun e g' w' _ hq => ?_)
       cases e with
       | normal => exact ih b g' w' hb hq
       | _ => exact hq
   | _ => cases n <;> simp [azZ] at h
def aFk (id : Nat) : Code -> Bool | .block i _ => Nat.beq i id | _ => false
def aDO : Code -> Bool | .loop _ => true | _ => false
def aDt : Code -> Option Operand | .cond o _ _ => some o | _ => none
theorem aEP {Q : Exit -> Env -> aJ2 -> Prop} (id : Nat) (c : Code) (g : Env) (w : aJ2) (h : aFk id c = true) (hd : bH P ann (bI c) (blk id Q) g w) : bH P ann c Q g w := by
 cases c with
 | block i c =>
   obtain rfl := aIq (show Nat.beq i id = true from h)
   exact hd
 | _ => cases h
def aFl : Code -> Bool | .scope _ => true | _ => false
theorem aEy {Q : Exit -> Env -> aJ2 -> Prop} (c : Code) (g : Env) (w : aJ2) (h : aFl c = true) (hd : bH P ann (bI c) Q g w) : bH P ann c Q g w := by
 cases c with
 | scope c => exact hd
 | _ => cases h
theorem aEJ {Q : Exit -> Env -> aJ2 -> Prop} (o : Operand) (c : Code) (g : Env) (w : aJ2) (h : aDt c = some o)
 (hd : eM (ev g o) (bH P ann (cT c) Q g w) (bH P ann (cE c) Q g w)) : bH P ann c Q g w := by
 cases c with
 | cond o' a b => obtain rfl := aH2 h; exact hd
 | _ => cases h
theorem aDF {v : aJ3} {A B A' B' : Prop} (ha : A -> A') (hb : B -> B') (h : eM v A B) : eM v A' B' := by
 unfold eM at *
 cases v with
 | bool b => cases b <;> first | exact ha h | exact hb h
 | _ => exact h
theorem aCO {T : Type} (proj : Env -> T) (F : (T -> aJ2 -> Prop) -> T -> aJ2 -> Prop) {c : Code} {Q : Exit -> Env -> aJ2 -> Prop} {g : Env} {w : aJ2}
 (hF : ∀ (X : T -> aJ2 -> Prop) g' w', oC (Z9 c) g g' -> F X (proj g') w' -> bH P ann c (Cu (fun g'' w'' => X (proj g'') w'') Q) g' w')
 (h : cG F (proj g) w) : bH P ann (.loop c) Q g w := by
 obtain ⟨I, ⟨n, h0⟩, hI⟩ := h
 refine ⟨fun n g' w' => oC (Z9 c) g g' /\ I n (proj g') w', ⟨n, oC.refl _ _, h0⟩, ?_⟩
 rintro n g' w' ⟨ha, hi⟩
 have := hF _ g' w' ha (hI n _ _ hi)
 refine KX this (fun e g2 w2 ha2 hq => ?_)
 cases e with
 | normal =>
   obtain ⟨m, hm, hh⟩ := hq
   exact ⟨m, hm, ha.trans ha2 (fun _ h => h) (fun _ h => h), hh⟩
 | _ => exact hq
theorem aB1 {T : Type} (proj : Env -> T) (F : (T -> aJ2 -> Prop) -> T -> aJ2 -> Prop) (c : Code) {Q : Exit -> Env -> aJ2 -> Prop} {g : Env} {w : aJ2} (hl : aDO c = true)
 (h : cG F (proj g) w)
 (hF : ∀ (X : T -> aJ2 -> Prop) g' w', oC (Z9 (bI c)) g g' -> F X (proj g') w' -> bH P ann (bI c) (Cu (fun g'' w'' => X (proj g'') w'') Q) g' w') : bH P ann c Q g w := by
 cases c with
 | loop c => exact aCO proj F hF h
 | _ => cases hl
theorem aAv {l : List Nat} {s : Nat} (hs : rP s l = false) : s ∉ l := by
 induction l with
 | nil => simp
 | cons a r ih =>
   unfold rP at hs
   cases hb : Nat.beq a s with
   | true => simp only [hb] at hs; cases hs
   | false =>
     simp only [hb] at hs
     intro hm
     rcases aIz.1 hm with e | hm
     .subst e; simp at hb
     .exact ih hs hm
theorem aC8 {l : List Nat} {g g' : Env} (h : oC l g g') {s : Nat} (hs : rP s l = false) : g' s = g s := h s (aAv hs)
def IH (id : Nat) : Code -> Array Oper
 | .region i ops _ => match Nat.beq i id with | true => ops | false => #[]
 | .seq a b => match (IH id a).size with | 0 => IH id b | _ + 1 => IH id a
 | .cond _ a b => match (IH id a).size with | 0 => IH id b | _ + 1 => IH id a
 | .block _ c => IH id c
 | .loop c => IH id c
 | .scope c => IH id c
 | _ => #[]
theorem Ki {b : Bool} {A B : Prop} (ha : A) (hb : B) : Ord b A B := by cases b <;> assumption
theorem cG.rule {α : Type} {F : (α -> aJ2 -> Prop) -> α -> aJ2 -> Prop} (I : Nat -> α -> aJ2 -> Prop) {g : α} {w : aJ2} (n : Nat) (h0 : I n g w)
 (hr : ∀ n g w, I n g w -> F (fun g' w' => ∃ m, m < n /\ I m g' w') g w) : cG F g w := ⟨I, ⟨n, h0⟩, hr⟩
theorem aF (A B : Prop) : eM (.bool true) A B = A := Eq.trans rfl rfl
theorem aE (A B : Prop) : eM (.bool false) A B = B := Eq.trans rfl rfl
theorem bP (s : (aJ3 -> aJ2 -> Prop) -> Prop) (w : aJ2) (K : aJ3 -> aJ2 -> Prop) : Gd true s w K = s K := Eq.trans rfl rfl
theorem dV (s : (aJ3 -> aJ2 -> Prop) -> Prop) (w : aJ2) (K : aJ3 -> aJ2 -> Prop) : Gd false s w K = K undef w := Eq.trans rfl rfl
theorem aAT (p : Prop) : Gs true p = p := Eq.trans rfl rfl
theorem axN (p : Prop) : Gs false p = True := Eq.trans rfl rfl
theorem sX : eX (.bool true) true = true := Eq.trans rfl rfl
theorem jE : eX (.bool true) false = false := Eq.trans rfl rfl
theorem Fm : eX (.bool false) true = false := Eq.trans rfl rfl
theorem dB : eX (.bool false) false = true := Eq.trans rfl rfl
def aM : Operand := .tmp 0
theorem dS {c : Code} {kn kr : Env -> aJ2 -> Prop} {l : List (Nat × (Env -> aJ2 -> Prop))} {Q : Exit -> Env -> aJ2 -> Prop} {g : Env} {w : aJ2} {A : Prop}
 (h : A) (hn : ∀ g w, kn g w -> Q .normal g w) (hr : ∀ g w, kr g w -> Q .ret g w) (hl : aBo Q l) (e : A = bH P ann c (exQ kn kr l) g w := by kernel_rfl) : bH P ann c Q g w := aEC e h hn hr hl
theorem fP {Q : Exit -> Env -> aJ2 -> Prop} (n : Nat) {c : Code} {g : Env} {w : aJ2}
 (hd : bH P ann (aD n c) (Cu (fun g w => bH P ann (aB n c) Q g w) Q) g w) (h : azZ n c = true := by kernel_rfl) : bH P ann c Q g w := aBv n c g w h hd
theorem uH {Q : Exit -> Env -> aJ2 -> Prop} (id : Nat) {c : Code} {g : Env} {w : aJ2} (hd : bH P ann (bI c) (blk id Q) g w) (h : aFk id c = true := by kernel_rfl) : bH P ann c Q g w := aEP id c g w h hd
theorem scD {Q : Exit -> Env -> aJ2 -> Prop} {c : Code} {g : Env} {w : aJ2} (hd : bH P ann (bI c) Q g w) (h : aFl c = true := by kernel_rfl) : bH P ann c Q g w := aEy c g w h hd
theorem cdD {Q : Exit -> Env -> aJ2 -> Prop} (o : Operand) {c : Code} {g : Env} {w : aJ2} {A B : Prop} (ha : A -> bH P ann (cT c) Q g w) (hb : B -> bH P ann (cE c) Q g w) (hd : eM (ev g o) A B) (h : aDt c = some o := by kernel_rfl) : bH P ann c Q g w :=
 aEJ o c g w h (aDF ha hb hd)
theorem Db {T : Type} (proj : Env -> T) (F : (T -> aJ2 -> Prop) -> T -> aJ2 -> Prop) {c : Code} {Q : Exit -> Env -> aJ2 -> Prop} {g : Env} {w : aJ2}
 (h : cG F (proj g) w)
 (hF : ∀ (X : T -> aJ2 -> Prop) g' w', oC (Z9 (bI c)) g g' -> F X (proj g') w' -> bH P ann (bI c) (Cu (fun g'' w'' => X (proj g'') w'') Q) g' w') (hl : aDO c = true := by kernel_rfl) : bH P ann c Q g w := aB1 proj F c hl h hF
theorem fF {l : List Nat} {g g' : Env} (s : Nat) (h : oC l g g') (hs : rP s l = false := by kernel_rfl) : g' s = g s := aC8 h hs
theorem rQ {ann : FA} (fn : Func) (c : Code) (args : List aJ3) (rs : List ResultVar) (N : Nat) {f : FuncId} {w : aJ2} {R : aJ3 -> aJ2 -> Prop} (hm : P.follows .mixedOrders = true)
 (hf : P.funcs[f]? = some fn) (h : bH P ann c (aF6 P rs R) (aBk args) w) (hAf : ann.f = f := by kernel_rfl) (hb : fn.body = some c := by kernel_rfl) (hrs : fn.results = rs.toArray := by kernel_rfl) (hN : fn.ntmps = N := by kernel_rfl) (hle : Nat.ble args.length N = true := by kernel_rfl)
 (hok : codeOk P N ann c = true := by kernel_rfl) : aR P f args.toArray w R := axC hm hAf hf hb hrs hN (Nat.le_of_ble_eq_true hle) hok h
end
end Go.En
namespace Go.Proofs.YtaggdjhhmbnhoaaDoor
open Go Go.En
noncomputable abbrev pg : Program := Tryd.prog
theorem TrydM.mixed : pg.follows .mixedOrders = true := Tryd.checked.mixed
abbrev K0 := aJ2 -> Prop
abbrev K1 := aJ3 -> K0
abbrev K2 := aJ3 -> K1
abbrev K3 := aJ3 -> K2
abbrev K4 := aJ3 -> K3
abbrev K5 := aJ3 -> K4
abbrev K6 := aJ3 -> K5
abbrev K7 := aJ3 -> K6
abbrev K8 := aJ3 -> K7
abbrev K9 := aJ3 -> K8
abbrev AL := aJ3 -> K9
abbrev K11 := aJ3 -> AL
abbrev HR (rs : List ResultVar) (R : K1) (Q : Exit -> Env -> aJ2 -> Prop) : Prop := ∀ g w, (A1 pg rs g w fun vs => R (tup vs) w) -> Q .ret g w
abbrev no : Env -> aJ2 -> Prop := fun _ _ => False
theorem eP {Q : Env -> aJ2 -> Prop} : ∀ g w, no g w -> Q g w := fun _ _ h => h.elim
abbrev sP : FuncId := 6
abbrev AS : FuncId := 7
abbrev mI : FuncId := 8
abbrev sD : FuncId := 9
abbrev vG : FuncId := 10
abbrev zC : FuncId := 11
abbrev mP : FuncId := 13
abbrev qZ : FuncId := 16
abbrev vK : FuncId := 17
abbrev lD : FuncId := 18
abbrev mG : FuncId := 19
abbrev tY : FuncId := 20
abbrev qN : FuncId := 21
abbrev nN : FuncId := 22
abbrev Mb : FuncId := 23
abbrev pI : FuncId := 24
abbrev P5 : FuncId := 25
abbrev oH : FuncId := 26
abbrev zI : FuncId := 27
abbrev oY : FuncId := 28
abbrev CJ : FuncId := 29
abbrev Gn : FuncId := 30
abbrev sY : FuncId := 31
abbrev nW : FuncId := 32
abbrev nX : FuncId := 33
abbrev DG : FuncId := 34
abbrev yG : FuncId := 35
abbrev IL : FuncId := 36
abbrev uZ : FuncId := 37
abbrev gQ : FuncId := 38
abbrev xD : FuncId := 39
abbrev oB : FuncId := 40
abbrev vJ : FuncId := 41
abbrev nK : FuncId := 42
abbrev tM : FuncId := 43
abbrev Ad : FuncId := 44
abbrev Fo : FuncId := 45
abbrev iQ : FuncId := 47
abbrev jJ : FuncId := 48
abbrev AI : FuncId := 49
abbrev zZ : FuncId := 50
abbrev oI : FuncId := 51
abbrev mB : FuncId := 52
abbrev Di : FuncId := 53
abbrev Jb : FuncId := 54
abbrev Ba : FuncId := 55
abbrev Mh : FuncId := 56
abbrev IM : FuncId := 57
abbrev I2 : FuncId := 58
abbrev AQ : FuncId := 59
abbrev D2 : FuncId := 60
abbrev uP : FuncId := 61
abbrev IP : FuncId := 62
abbrev qV : FuncId := 63
abbrev QS : FuncId := 64
abbrev vW : FuncId := 65
abbrev yN : FuncId := 66
abbrev sC : FuncId := 67
abbrev Cs : FuncId := 68
abbrev sW : FuncId := 69
abbrev DS : FuncId := 70
abbrev qI : FuncId := 71
abbrev Mr : FuncId := 72
abbrev Jh : FuncId := 73
abbrev eZ : FuncId := 74
abbrev sE : FuncId := 75
abbrev Fs : FuncId := 76
abbrev Gg : FuncId := 77
abbrev Cp : FuncId := 78
abbrev F9 : FuncId := 79
abbrev pZ : FuncId := 80
abbrev mO : FuncId := 81
abbrev IZ : FuncId := 82
abbrev I5 : FuncId := 83
abbrev F8 : FuncId := 84
abbrev xX : FuncId := 85
abbrev sJ : FuncId := 86
abbrev Ds : FuncId := 87
abbrev DI : FuncId := 88
abbrev rU : FuncId := 89
abbrev CG : FuncId := 90
abbrev qM : FuncId := 91
abbrev xE : FuncId := 92
abbrev xG : FuncId := 93
abbrev lE : FuncId := 94
abbrev CL : FuncId := 95
abbrev zR : FuncId := 96
abbrev tI : FuncId := 97
abbrev AU : FuncId := 98
abbrev Mj : FuncId := 99
abbrev xB : FuncId := 100
abbrev N0 (Q : Exit -> Env -> aJ2 -> Prop) (k : K0) : Prop := ∀ g w, k w -> Q .normal g w
abbrev E0 (Q : Exit -> Env -> aJ2 -> Prop) (k : K0) (x0 : Nat) : Prop := ∀ g w, k w -> Q (.exit x0) g w
abbrev N1 (Q : Exit -> Env -> aJ2 -> Prop) (k : K1) (a_ : Nat) : Prop := ∀ g w, k (g a_) w -> Q .normal g w
abbrev E1 (Q : Exit -> Env -> aJ2 -> Prop) (k : K1) (x0 : Nat) (a_ : Nat) : Prop := ∀ g w, k (g a_) w -> Q (.exit x0) g w
abbrev N2 (Q : Exit -> Env -> aJ2 -> Prop) (k : K2) (a_ b_ : Nat) : Prop := ∀ g w, k (g a_) (g b_) w -> Q .normal g w
abbrev E2 (Q : Exit -> Env -> aJ2 -> Prop) (k : K2) (x0 : Nat) (a_ b_ : Nat) : Prop := ∀ g w, k (g a_) (g b_) w -> Q (.exit x0) g w
abbrev N3 (Q : Exit -> Env -> aJ2 -> Prop) (k : K3) (a_ b_ c_ : Nat) : Prop := ∀ g w, k (g a_) (g b_) (g c_) w -> Q .normal g w
abbrev E3 (Q : Exit -> Env -> aJ2 -> Prop) (k : K3) (x0 : Nat) (a_ b_ c_ : Nat) : Prop := ∀ g w, k (g a_) (g b_) (g c_) w -> Q (.exit x0) g w
abbrev N4 (Q : Exit -> Env -> aJ2 -> Prop) (k : K4) (a_ b_ c_ d_ : Nat) : Prop := ∀ g w, k (g a_) (g b_) (g c_) (g d_) w -> Q .normal g w
abbrev E4 (Q : Exit -> Env -> aJ2 -> Prop) (k : K4) (x0 : Nat) (a_ b_ c_ d_ : Nat) : Prop := ∀ g w, k (g a_) (g b_) (g c_) (g d_) w -> Q (.exit x0) g w
abbrev N5 (Q : Exit -> Env -> aJ2 -> Prop) (k : K5) (a_ b_ c_ d_ e_ : Nat) : Prop := ∀ g w, k (g a_) (g b_) (g c_) (g d_) (g e_) w -> Q .normal g w
abbrev E5 (Q : Exit -> Env -> aJ2 -> Prop) (k : K5) (x0 : Nat) (a_ b_ c_ d_ e_ : Nat) : Prop := ∀ g w, k (g a_) (g b_) (g c_) (g d_) (g e_) w -> Q (.exit x0) g w
abbrev N6 (Q : Exit -> Env -> aJ2 -> Prop) (k : K6) (a_ b_ c_ d_ e_ f_ : Nat) : Prop := ∀ g w, k (g a_) (g b_) (g c_) (g d_) (g e_) (g f_) w -> Q .normal g w
abbrev E6 (Q : Exit -> Env -> aJ2 -> Prop) (k : K6) (x0 : Nat) (a_ b_ c_ d_ e_ f_ : Nat) : Prop := ∀ g w, k (g a_) (g b_) (g c_) (g d_) (g e_) (g f_) w -> Q (.exit x0) g w
abbrev N7 (Q : Exit -> Env -> aJ2 -> Prop) (k : K7) (a_ b_ c_ d_ e_ f_ g_ : Nat) : Prop := ∀ g w, k (g a_) (g b_) (g c_) (g d_) (g e_) (g f_) (g g_) w -> Q .normal g w
abbrev E7 (Q : Exit -> Env -> aJ2 -> Prop) (k : K7) (x0 : Nat) (a_ b_ c_ d_ e_ f_ g_ : Nat) : Prop := ∀ g w, k (g a_) (g b_) (g c_) (g d_) (g e_) (g f_) (g g_) w -> Q (.exit x0) g w
abbrev N8 (Q : Exit -> Env -> aJ2 -> Prop) (k : K8) (a_ b_ c_ d_ e_ f_ g_ h_ : Nat) : Prop := ∀ g w, k (g a_) (g b_) (g c_) (g d_) (g e_) (g f_) (g g_) (g h_) w -> Q .normal g w
abbrev E8 (Q : Exit -> Env -> aJ2 -> Prop) (k : K8) (x0 : Nat) (a_ b_ c_ d_ e_ f_ g_ h_ : Nat) : Prop := ∀ g w, k (g a_) (g b_) (g c_) (g d_) (g e_) (g f_) (g g_) (g h_) w -> Q (.exit x0) g w
abbrev N9 (Q : Exit -> Env -> aJ2 -> Prop) (k : K9) (a_ b_ c_ d_ e_ f_ g_ h_ i_ : Nat) : Prop := ∀ g w, k (g a_) (g b_) (g c_) (g d_) (g e_) (g f_) (g g_) (g h_) (g i_) w -> Q .normal g w
abbrev N10 (Q : Exit -> Env -> aJ2 -> Prop) (k : AL) (a_ b_ c_ d_ e_ f_ g_ h_ i_ j_ : Nat) : Prop := ∀ g w, k (g a_) (g b_) (g c_) (g d_) (g e_) (g f_) (g g_) (g h_) (g i_) (g j_) w -> Q .normal g w
abbrev E10 (Q : Exit -> Env -> aJ2 -> Prop) (k : AL) (x0 : Nat) (a_ b_ c_ d_ e_ f_ g_ h_ i_ j_ : Nat) : Prop := ∀ g w, k (g a_) (g b_) (g c_) (g d_) (g e_) (g f_) (g g_) (g h_) (g i_) (g j_) w -> Q (.exit x0) g w
abbrev N11 (Q : Exit -> Env -> aJ2 -> Prop) (k : K11) (a_ b_ c_ d_ e_ f_ g_ h_ i_ j_ k_ : Nat) : Prop := ∀ g w, k (g a_) (g b_) (g c_) (g d_) (g e_) (g f_) (g g_) (g h_) (g i_) (g j_) (g k_) w -> Q .normal g w
end Go.Proofs.YtaggdjhhmbnhoaaDoor
namespace Go.Proofs.YtaggdjhhmbnhoaaDoor
open Go Go.En
set_option maxRecDepth 20000
attribute [local irreducible] Go.En.bH
variable (Q : Exit -> Env -> aJ2 -> Prop) (g : Env) (w : aJ2)
def kY : FA := ⟨sP, fun i => .leaf ([], []) []⟩
def nL : List ResultVar := [.tmp 6]
noncomputable def kG : Code := cU Tryd.f6
def tV (R : K1) (pX ahC afF aCJ aDI aCW aDC aEk : aJ3) (w : aJ2) : Prop :=
 aC pg (fL 22 9 aCW) w fun t81 w =>
 aC pg (aH 36 pX) w fun t82 w =>
 aR pg sD #[t81, t82] w fun t83 w =>
 aC pg (aW t83 0) w fun t84 w =>
 aC pg (aW t83 1) w fun t85 w =>
 aC pg (aW t83 2) w fun t86 w =>
 aC pg (bS 36) w fun t24 w =>
 aC pg (aJ 36 t24 t85) w fun _u w =>
 aC pg (aG .eql 30 (.tmp 87) (.tmp 88) afF aDI) w fun t89 w =>
 Gd (eX t89 true) (fun K => K ahC w) w fun t91 w =>
 Gd (eX t89 true) (fun K => K aCJ w) w fun t92 w =>
 Gd (eX t89 true) (fun K => aR pg vG #[t91, t92] w K) w fun t93 w =>
 aC pg (fI t89 t93 (.bool false)) w fun t94 w =>
 Gd (eX t94 true) (fun K => K aEk w) w fun t96 w =>
 Gd (eX t94 true) (fun K => K t86 w) w fun t97 w =>
 Gd (eX t94 true) (fun K => aC pg (aG .eql 30 (.tmp 96) (.tmp 97) t96 t97) w K) w fun t98 w =>
 aC pg (fI t94 t98 (.bool false)) w fun t99 w =>
 Gd (eX t99 true) (fun K => K aDC w) w fun t101 w =>
 Gd (eX t99 true) (fun K => K t84 w) w fun t102 w =>
 Gd (eX t99 true) (fun K => aR pg vG #[t101, t102] w K) w fun t103 w =>
 aC pg (fI t99 t103 (.bool false)) w fun t104 w =>
 R t104 w
theorem KC (R : K1) (hr : HR nL R Q) (h : tV R (g 12) (g 13) (g 15) (g 16) (g 18) (g 19) (g 20) (g 22) w) : bH pg kY (aB 3 (aB 10 kG)) Q g w :=
 dS (kn := no) (l := []) h eP hr trivial
def Cv (kn : K8) (Fk b_9 pQ pX ahC afF : aJ3) (w : aJ2) : Prop :=
 aC pg (fL 22 9 pQ) w fun t62 w =>
 aC pg (aH 36 pX) w fun t63 w =>
 aR pg sD #[t62, t63] w fun t64 w =>
 aC pg (aW t64 0) w fun t65 w =>
 aC pg (aW t64 1) w fun t66 w =>
 aC pg (aW t64 2) w fun t67 w =>
 aC pg (bS 36) w fun t17 w =>
 aC pg (aJ 36 t17 t66) w fun _u w =>
 aC pg (bX 22 1 [(0, Fk)]) w fun t70 w =>
 aC pg (jM .append #[22, 22] 22 [b_9, t70]) w fun t71 w =>
 aC pg (bV 29 []) w fun t74 w =>
 aR pg mI #[t71, t74] w fun t75 w =>
 aC pg (aW t75 0) w fun t76 w =>
 aC pg (aW t75 1) w fun t77 w =>
 aC pg (aW t75 2) w fun t78 w =>
 aC pg (bS 29) w fun t21 w =>
 aC pg (aJ 29 t21 t77) w fun _u w =>
 kn pX ahC afF t65 t67 t71 t76 t78 w
theorem J8 (kn : K8) (hn : N8 Q kn 12 13 15 16 18 19 20 22) (h : Cv kn (g 2) (g 9) (g 11) (g 12) (g 13) (g 15) w) : bH pg kY (aD 3 (aB 10 kG)) Q g w :=
 dS (kr := no) (l := []) h hn eP trivial
def CB (R : K1) (Fk b_9 pQ pX ahC afF : aJ3) (w : aJ2) : Prop :=
 Cv (fun pX ahC afF aCJ aDI aCW aDC aEk w => tV R pX ahC afF aCJ aDI aCW aDC aEk w) Fk b_9 pQ pX ahC afF w
def Ct (kn : K6) (R : K1) (abM CE Fk : aJ3) (w : aJ2) : Prop :=
 aR pg AS #[] w fun t26 w =>
 aC pg (sUn .not t26) w fun t28 w =>
 eM t28
  (R (.bool false) w)
  (aC pg (jM .len #[24] 3 [abM]) w fun t30 w =>
  aC pg (aG .gtr 3 aM aM t30 (.int .i64 100)) w fun t31 w =>
  Gd (eX t31 false) (fun K => K abM w) w fun t33 w =>
  Gd (eX t31 false) (fun K => aC pg (jM .len #[24] 3 [t33]) w K) w fun t34 w =>
  Gd (eX t31 false) (fun K => aC pg (aG .eql 3 (.tmp 34) (.const (.int .i64 0)) t34 (.int .i64 0)) w K) w fun t35 w =>
  aC pg (fI t31 (.bool true) t35) w fun t36 w =>
  eM t36
   (R (.bool true) w)
   (aR pg zC #[abM] w fun t38 w =>
   aR pg mP #[t38] w fun t41 w =>
   aC pg (aW t41 0) w fun t42 w =>
   aC pg (aW t41 1) w fun t43 w =>
   aC pg (aG .neq 30 (.tmp 44) (.const (.int .i64 0)) t43 (.int .i64 0)) w fun t45 w =>
   eM t45
    (R (.bool false) w)
    (aC pg (fL 54 3 CE) w fun t48 w =>
    aC pg (jM .len #[22] 3 [t42]) w fun t50 w =>
    aC pg (aG .rem 3 aM aM t48 t50) w fun t51 w =>
    aC pg (fH 22 t42 none (some t51) none) w fun t52 w =>
    aC pg (bS 36) w fun pX w =>
    aC pg (bV 29 []) w fun t55 w =>
    aR pg mI #[t52, t55] w fun t56 w =>
    aC pg (aW t56 0) w fun t57 w =>
    aC pg (aW t56 1) w fun t58 w =>
    aC pg (aW t56 2) w fun t59 w =>
    aC pg (bS 29) w fun t14 w =>
    aC pg (aJ 29 t14 t58) w fun _u w =>
    kn Fk t42 t52 pX t57 t59 w)))
theorem Kk (kn : K6) (R : K1) (hn : N6 Q kn 2 9 11 12 13 15) (hr : HR nL R Q) (h : Ct kn R (g 0) (g 1) (g 2) w) : bH pg kY (aD 10 kG) Q g w :=
 dS (l := []) h hn hr trivial
def O5 (R : K1) (abM CE Fk : aJ3) (w : aJ2) : Prop :=
 Ct (fun Fk b_9 pQ pX ahC afF w => CB R Fk b_9 pQ pX ahC afF w) R abM CE Fk w
theorem JJ (R : K1) (hr : HR nL R Q) (h : O5 R (g 0) (g 1) (g 2) w) : bH pg kY kG Q g w :=
 fP 10 (Kk _ g w (CB R) R (fun g w h => aK (fP 3 (J8 _ g w (tV R) (fun g w h => aK (KC _ g w R hr h)) h))) hr h)
def wU (R : K1) (abM CE Fk : aJ3) (w : aJ2) : Prop :=
 aR pg AS #[] w fun t26 w =>
 aC pg (sUn .not t26) w fun t28 w =>
 eM t28
  (R (.bool false) w)
  (aC pg (jM .len #[24] 3 [abM]) w fun t30 w =>
  aC pg (aG .gtr 3 aM aM t30 (.int .i64 100)) w fun t31 w =>
  Gd (eX t31 false) (fun K => K abM w) w fun t33 w =>
  Gd (eX t31 false) (fun K => aC pg (jM .len #[24] 3 [t33]) w K) w fun t34 w =>
  Gd (eX t31 false) (fun K => aC pg (aG .eql 3 (.tmp 34) (.const (.int .i64 0)) t34 (.int .i64 0)) w K) w fun t35 w =>
  aC pg (fI t31 (.bool true) t35) w fun t36 w =>
  eM t36
   (R (.bool true) w)
   (aR pg zC #[abM] w fun t38 w =>
   aR pg mP #[t38] w fun t41 w =>
   aC pg (aW t41 0) w fun t42 w =>
   aC pg (aW t41 1) w fun t43 w =>
   aC pg (aG .neq 30 (.tmp 44) (.const (.int .i64 0)) t43 (.int .i64 0)) w fun t45 w =>
   eM t45
    (R (.bool false) w)
    (aC pg (fL 54 3 CE) w fun t48 w =>
    aC pg (jM .len #[22] 3 [t42]) w fun t50 w =>
    aC pg (aG .rem 3 aM aM t48 t50) w fun t51 w =>
    aC pg (fH 22 t42 none (some t51) none) w fun t52 w =>
    aC pg (bS 36) w fun pX w =>
    aC pg (bV 29 []) w fun t55 w =>
    aR pg mI #[t52, t55] w fun t56 w =>
    aC pg (aW t56 0) w fun t57 w =>
    aC pg (aW t56 1) w fun t58 w =>
    aC pg (aW t56 2) w fun t59 w =>
    aC pg (bS 29) w fun t14 w =>
    aC pg (aJ 29 t14 t58) w fun _u w =>
    aC pg (fL 22 9 t52) w fun t62 w =>
    aC pg (aH 36 pX) w fun t63 w =>
    aR pg sD #[t62, t63] w fun t64 w =>
    aC pg (aW t64 0) w fun t65 w =>
    aC pg (aW t64 1) w fun t66 w =>
    aC pg (aW t64 2) w fun t67 w =>
    aC pg (bS 36) w fun t17 w =>
    aC pg (aJ 36 t17 t66) w fun _u w =>
    aC pg (bX 22 1 [(0, Fk)]) w fun t70 w =>
    aC pg (jM .append #[22, 22] 22 [t42, t70]) w fun t71 w =>
    aC pg (bV 29 []) w fun t74 w =>
    aR pg mI #[t71, t74] w fun t75 w =>
    aC pg (aW t75 0) w fun t76 w =>
    aC pg (aW t75 1) w fun t77 w =>
    aC pg (aW t75 2) w fun t78 w =>
    aC pg (bS 29) w fun t21 w =>
    aC pg (aJ 29 t21 t77) w fun _u w =>
    aC pg (fL 22 9 t71) w fun t81 w =>
    aC pg (aH 36 pX) w fun t82 w =>
    aR pg sD #[t81, t82] w fun t83 w =>
    aC pg (aW t83 0) w fun t84 w =>
    aC pg (aW t83 1) w fun t85 w =>
    aC pg (aW t83 2) w fun t86 w =>
    aC pg (bS 36) w fun t24 w =>
    aC pg (aJ 36 t24 t85) w fun _u w =>
    aC pg (aG .eql 30 (.tmp 87) (.tmp 88) t59 t67) w fun t89 w =>
    Gd (eX t89 true) (fun K => K t57 w) w fun t91 w =>
    Gd (eX t89 true) (fun K => K t65 w) w fun t92 w =>
    Gd (eX t89 true) (fun K => aR pg vG #[t91, t92] w K) w fun t93 w =>
    aC pg (fI t89 t93 (.bool false)) w fun t94 w =>
    Gd (eX t94 true) (fun K => K t78 w) w fun t96 w =>
    Gd (eX t94 true) (fun K => K t86 w) w fun t97 w =>
    Gd (eX t94 true) (fun K => aC pg (aG .eql 30 (.tmp 96) (.tmp 97) t96 t97) w K) w fun t98 w =>
    aC pg (fI t94 t98 (.bool false)) w fun t99 w =>
    Gd (eX t99 true) (fun K => K t76 w) w fun t101 w =>
    Gd (eX t99 true) (fun K => K t84 w) w fun t102 w =>
    Gd (eX t99 true) (fun K => aR pg vG #[t101, t102] w K) w fun t103 w =>
    aC pg (fI t99 t103 (.bool false)) w fun t104 w =>
    R t104 w)))
theorem Ou (R : K1) (hr : HR nL R Q) (h : wU R (g 0) (g 1) (g 2) w) : bH pg kY kG Q g w :=
 JJ Q g w R hr (Eq.mp (by kernel_rfl) h)
def Kd (a0 a1 a2 : aJ3) (w : aJ2) (R : K1) : Prop :=
 wU R a0 a1 a2 w
theorem PC {a0 a1 a2 : aJ3} {w : aJ2} {R : K1} (h : Kd a0 a1 a2 w R) : aR pg sP #[a0, a1, a2] w R := by
 refine rQ (ann := kY) Tryd.f6 kG [a0, a1, a2] nL 105 TrydM.mixed Tryd.func6 ?_
 exact (Ou _ _ _ R (fun _ _ h => h) h)
def RV : FA := ⟨AS, fun i => .leaf ([], []) []⟩
def Uf : List ResultVar := [.tmp 0]
noncomputable def O4 : Code := cU Tryd.f7
def Lk (R : K1)  (w : aJ2) : Prop :=
 aR pg mP #[(.slice none 0 0)] w fun t9 w =>
 aC pg (aW t9 0) w fun t10 w =>
 aC pg (aW t9 1) w fun t11 w =>
 aC pg (bV 47 [(0, (.int .u32 20)), (1, (.int .u32 3)), (2, (.int .u32 9))]) w fun t13 w =>
 aC pg (bV 47 [(0, (.int .u32 0)), (1, (.int .u32 70)), (2, (.int .u32 1))]) w fun t14 w =>
 aC pg (bX 24 2 [(0, t13), (1, t14)]) w fun t15 w =>
 aR pg mP #[t15] w fun t16 w =>
 aC pg (aW t16 0) w fun t17 w =>
 aC pg (aW t16 1) w fun t18 w =>
 aC pg (bV 29 []) w fun t21 w =>
 aR pg mI #[t17, t21] w fun t22 w =>
 aC pg (aW t22 0) w fun t23 w =>
 aC pg (aW t22 1) w fun t24 w =>
 aC pg (aW t22 2) w fun t25 w =>
 aC pg (bS 29) w fun t6 w =>
 aC pg (aJ 29 t6 t24) w fun _u w =>
 aC pg (jM .len #[22] 3 [t10]) w fun t27 w =>
 aC pg (aG .eql 3 (.tmp 27) (.const (.int .i64 1)) t27 (.int .i64 1)) w fun t28 w =>
 Gd (eX t28 true) (fun K => K t10 w) w fun t30 w =>
 Gd (eX t28 true) (fun K => aC pg (bA 22 t30 (.int .i64 0)) w K) w fun t31 w =>
 Gd (eX t28 true) (fun K => aC pg (aH 5 t31) w K) w fun t32 w =>
 Gd (eX t28 true) (fun K => aC pg (aG .eql 5 (.tmp 32) (.const (.int .u8 0)) t32 (.int .u8 0)) w K) w fun t33 w =>
 aC pg (fI t28 t33 (.bool false)) w fun t34 w =>
 Gd (eX t34 true) (fun K => K t11 w) w fun t36 w =>
 Gd (eX t34 true) (fun K => aC pg (aG .eql 30 (.tmp 36) (.const (.int .i64 0)) t36 (.int .i64 0)) w K) w fun t37 w =>
 aC pg (fI t34 t37 (.bool false)) w fun t38 w =>
 Gd (eX t38 true) (fun K => K t18 w) w fun t40 w =>
 Gd (eX t38 true) (fun K => aC pg (aG .eql 30 (.tmp 40) (.const (.int .i64 0)) t40 (.int .i64 0)) w K) w fun t41 w =>
 aC pg (fI t38 t41 (.bool false)) w fun t42 w =>
 Gd (eX t42 true) (fun K => K t25 w) w fun t44 w =>
 Gd (eX t42 true) (fun K => aC pg (aG .eql 30 (.tmp 44) (.const (.int .i64 0)) t44 (.int .i64 0)) w K) w fun t45 w =>
 aC pg (fI t42 t45 (.bool false)) w fun t46 w =>
 Gd (eX t46 true) (fun K => K t23 w) w fun t48 w =>
 Gd (eX t46 true) (fun K => aC pg (jM .len #[24] 3 [t48]) w K) w fun t49 w =>
 Gd (eX t46 true) (fun K => aC pg (aG .eql 3 (.tmp 49) (.const (.int .i64 2)) t49 (.int .i64 2)) w K) w fun t50 w =>
 aC pg (fI t46 t50 (.bool false)) w fun t51 w =>
 Gd (eX t51 true) (fun K => K t23 w) w fun t53 w =>
 Gd (eX t51 true) (fun K => aC pg (bA 24 t53 (.int .i64 0)) w K) w fun t54 w =>
 Gd (eX t51 true) (fun K => aC pg (aL 47 t54 0) w K) w fun t55 w =>
 Gd (eX t51 true) (fun K => aC pg (aH 43 t55) w K) w fun t56 w =>
 Gd (eX t51 true) (fun K => aC pg (aG .eql 43 (.tmp 56) (.const (.int .u32 20)) t56 (.int .u32 20)) w K) w fun t57 w =>
 aC pg (fI t51 t57 (.bool false)) w fun t58 w =>
 Gd (eX t58 true) (fun K => K t23 w) w fun t60 w =>
 Gd (eX t58 true) (fun K => aC pg (bA 24 t60 (.int .i64 0)) w K) w fun t61 w =>
 Gd (eX t58 true) (fun K => aC pg (aL 47 t61 2) w K) w fun t62 w =>
 Gd (eX t58 true) (fun K => aC pg (aH 43 t62) w K) w fun t63 w =>
 Gd (eX t58 true) (fun K => aC pg (aG .eql 43 (.tmp 63) (.const (.int .u32 9)) t63 (.int .u32 9)) w K) w fun t64 w =>
 aC pg (fI t58 t64 (.bool false)) w fun t65 w =>
 Gd (eX t65 true) (fun K => K t23 w) w fun t67 w =>
 Gd (eX t65 true) (fun K => aC pg (bA 24 t67 (.int .i64 1)) w K) w fun t68 w =>
 Gd (eX t65 true) (fun K => aC pg (aL 47 t68 1) w K) w fun t69 w =>
 Gd (eX t65 true) (fun K => aC pg (aH 43 t69) w K) w fun t70 w =>
 Gd (eX t65 true) (fun K => aC pg (aG .eql 43 (.tmp 70) (.const (.int .u32 70)) t70 (.int .u32 70)) w K) w fun t71 w =>
 aC pg (fI t65 t71 (.bool false)) w fun t72 w =>
 Gd (eX t72 true) (fun K => K t23 w) w fun t74 w =>
 Gd (eX t72 true) (fun K => aC pg (bA 24 t74 (.int .i64 1)) w K) w fun t75 w =>
 Gd (eX t72 true) (fun K => aC pg (aL 47 t75 2) w K) w fun t76 w =>
 Gd (eX t72 true) (fun K => aC pg (aH 43 t76) w K) w fun t77 w =>
 Gd (eX t72 true) (fun K => aC pg (aG .eql 43 (.tmp 77) (.const (.int .u32 1)) t77 (.int .u32 1)) w K) w fun t78 w =>
 aC pg (fI t72 t78 (.bool false)) w fun t79 w =>
 Gd (eX t79 true) (fun K => aC pg (bA 29 t6 (.int .i64 0)) w K) w fun t81 w =>
 Gd (eX t79 true) (fun K => aC pg (aL 27 t81 1) w K) w fun t82 w =>
 Gd (eX t79 true) (fun K => aC pg (aH 25 t82) w K) w fun t83 w =>
 Gd (eX t79 true) (fun K => aC pg (jM .len #[25] 3 [t83]) w K) w fun t84 w =>
 Gd (eX t79 true) (fun K => aC pg (aG .gtr 3 aM aM t84 (.int .i64 0)) w K) w fun t85 w =>
 aC pg (fI t79 t85 (.bool false)) w fun t86 w =>
 R t86 w
theorem Yj (R : K1) (hr : HR Uf R Q) (h : Lk R w) : bH pg RV O4 Q g w :=
 dS (kn := no) (l := []) h eP hr trivial
def aiK (w : aJ2) (R : K1) : Prop :=
 Lk R w
theorem afV {w : aJ2} {R : K1} (h : aiK w R) : aR pg AS #[] w R := by
 refine rQ (ann := RV) Tryd.f7 O4 [] Uf 87 TrydM.mixed Tryd.func7 ?_
 exact (Yj _ _ _ R (fun _ _ h => h) h)
def dP : FA := ⟨mI, fun i => match Nat.beq i 8 with | true => .leaf ([2], []) [(false, []), (false, []), (true, []), (false, [])] | false => match Nat.beq i 34 with | true => .leaf ([8, 10], []) [(false, []), (false, []), (false, []), (false, []), (false, []), (false, []), (false, []), (false, []), (true, []), (false, []), (true, [])] | false => match Nat.beq i 41 with | true => .leaf ([3], []) [(false, []), (false, []), (false, []), (true, []), (false, [])] | false => .leaf ([], []) []⟩
def xA : List ResultVar := [.tmp 4, .cell 5 29, .tmp 6]
noncomputable def dF : Code := cU Tryd.f8
def wZ (R : K1) (t5 t9 hJ eY : aJ3) (w : aJ2) : Prop :=
 aR pg oH #[hJ] w fun t127 w =>
 aC pg (aG .lss 3 aM aM t127 (.int .i64 0)) w fun t128 w =>
 eM t128
  (aC pg (bV 29 []) w fun t129 w =>
  aC pg (aJ 29 t5 t129) w fun _u w =>
  kI pg 29 t5 w fun r1 => R (.tuple #[(.slice none 0 0), r1, (.int .i64 11)]) w)
  (aR pg oH #[hJ] w fun t132 w =>
  aC pg (aG .gtr 3 aM aM t132 (.int .i64 0)) w fun t133 w =>
  eM t133
   (aC pg (bV 29 []) w fun t134 w =>
   aC pg (aJ 29 t5 t134) w fun _u w =>
   kI pg 29 t5 w fun r1 => R (.tuple #[(.slice none 0 0), r1, (.int .i64 15)]) w)
   ((dr w) = (dr w) /\
   aC pg (aH 29 t9) (dr w) fun t136 w_ => w_ = (dr w) /\
   (dr w) = (dr w) /\
   aC pg (aJ 29 t5 t136) (dr w) fun _u3 aAF =>
   aAF = aAF /\
   kI pg 29 t5 aAF fun r1 => R (.tuple #[eY, r1, (.int .i64 0)]) aAF))
theorem To (R : K1) (hr : HR xA R Q) (h : wZ R (g 5) (g 9) (g 11) (g 14) w) : bH pg dP (aB 1 (aB 1 (aB 1 (aB 9 dF)))) Q g w :=
 dS (kn := no) (l := []) h eP hr trivial
def xJ (kn : K8) (t5 uI t9 hJ bD eY t76 t77 : aJ3) (w : aJ2) : Prop :=
 aC pg (aG .add 3 aM aM t77 (.int .i64 1)) w fun t124 w =>
 kn t5 uI t9 hJ bD eY t76 t124 w
theorem TO (kn : K8) (hn : N8 Q kn 5 8 9 11 12 14 76 77) (h : xJ kn (g 5) (g 8) (g 9) (g 11) (g 12) (g 14) (g 76) (g 77) w) : bH pg dP (aB 1 (aB 2 (bI (bI (aB 1 (aD 1 (aB 1 (aB 1 (aB 9 dF))))))))) Q g w :=
 dS (kr := no) (l := []) h hn eP trivial
def xF (kn : AL) (k5 : K8) (t5 uI t9 hJ bD eY t76 t77 t109 t110 : aJ3) (w : aJ2) : Prop :=
 aC pg (aG .lss 3 aM aM t110 (.int .i64 3)) w fun t111 w =>
 eM t111
  (aC pg (HM 67 t109 t110) w fun t112 w =>
  (dr w) = (dr w) /\
  (dr w) = (dr w) /\
  aC pg (bA 29 t9 t112) (dr w) fun t115 w_ => w_ = (dr w) /\
  aC pg (aH 27 t115) (dr w) fun t116 w_ => w_ = (dr w) /\
  (dr w) = (dr w) /\
  aC pg (bA 67 bD t112) (dr w) fun t118 w_ => w_ = (dr w) /\
  aC pg (aH 3 t118) (dr w) fun t119 w_ => w_ = (dr w) /\
  (dr w) = (dr w) /\
  aR pg P5 #[t116, t119, hJ] (dr w) fun t121 aDN =>
  aC pg (bA 67 bD t112) aDN fun t122 w_ => w_ = aDN /\
  aC pg (aJ 3 t122 t121) aDN fun _u10 aFP =>
  aC pg (aG .add 3 aM aM t110 (.int .i64 1)) aFP fun t123 w =>
  kn t5 uI t9 hJ bD eY t76 t77 t109 t123 w)
  (k5 t5 uI t9 hJ bD eY t76 t77 w)
theorem TL (kn : AL) (k5 : K8) (hn : N10 Q kn 5 8 9 11 12 14 76 77 109 110) (h5 : E8 Q k5 5 5 8 9 11 12 14 76 77) (h : xF kn k5 (g 5) (g 8) (g 9) (g 11) (g 12) (g 14) (g 76) (g 77) (g 109) (g 110) w) : bH pg dP (bI (bI (aB 8 (bI (aD 1 (aB 2 (bI (bI (aB 1 (aD 1 (aB 1 (aB 1 (aB 9 dF))))))))))))) Q g w :=
 dS (kr := no) (l := [(5, fun g w => k5 (g 5) (g 8) (g 9) (g 11) (g 12) (g 14) (g 76) (g 77) w)]) h hn eP ⟨h5, trivial⟩
def xH (k5 : K8) (t5 uI t9 hJ bD eY t76 t77 t109 t110 : aJ3) (w : aJ2) : Prop :=
 cG (fun (X : aJ3 -> K0) (t : aJ3) (w : aJ2) => xF (fun _ _ _ _ _ _ _ _ _ t110 w => X t110 w) k5 t5 uI t9 hJ bD eY t76 t77 t109 t w) t110 w
theorem Tn (k5 : K8) (h5 : E8 Q k5 5 5 8 9 11 12 14 76 77) (h : xH k5 (g 5) (g 8) (g 9) (g 11) (g 12) (g 14) (g 76) (g 77) (g 109) (g 110) w) : bH pg dP (bI (aB 8 (bI (aD 1 (aB 2 (bI (bI (aB 1 (aD 1 (aB 1 (aB 1 (aB 9 dF)))))))))))) Q g w := by
 refine Db (fun g : Env => g 110) (fun X t w => xF (fun _ _ _ _ _ _ _ _ _ t110 w => X t110 w) k5 (g 5) (g 8) (g 9) (g 11) (g 12) (g 14) (g 76) (g 77) (g 109) t w) h (fun X g1 w1 ha hL => ?_)
 rw [<- fF 5 ha, <- fF 8 ha, <- fF 9 ha, <- fF 11 ha, <- fF 12 ha, <- fF 14 ha, <- fF 76 ha, <- fF 77 ha, <- fF 109 ha] at hL
 exact (TL _ g1 w1 (fun _ _ _ _ _ _ _ _ _ t110 w => X t110 w) k5 (fun _ _ h => h) h5 hL)
def C1 (kn : K8) (t5 uI t9 hJ bD eY t76 t77 t109 t110 : aJ3) (w : aJ2) : Prop :=
 xH kn t5 uI t9 hJ bD eY t76 t77 t109 t110 w
def Dx (kn : AL) (k3 : K4) (t5 uI t9 hJ bD eY t76 t77 : aJ3) (w : aJ2) : Prop :=
 aC pg (bS 47) w fun IV w =>
 aC pg (bA 29 t9 (.int .i64 1)) w fun t80 w =>
 aC pg (aH 27 t80) w fun t81 w =>
 aC pg (bA 67 bD (.int .i64 1)) w fun t82 w =>
 aC pg (aH 3 t82) w fun t83 w =>
 aR pg pI #[(.int .i64 1), t81, t83, hJ] w fun t85 w =>
 aC pg (aL 47 IV 2) w fun t86 w =>
 aC pg (aJ 43 t86 t85) w fun _u w =>
 aC pg (bA 29 t9 (.int .i64 2)) w fun t87 w =>
 aC pg (aH 27 t87) w fun t88 w =>
 aC pg (bA 67 bD (.int .i64 2)) w fun t89 w =>
 aC pg (aH 3 t89) w fun t90 w =>
 aR pg pI #[(.int .i64 2), t88, t90, hJ] w fun t92 w =>
 aC pg (aL 47 IV 1) w fun t93 w =>
 aC pg (aJ 43 t93 t92) w fun _u w =>
 aC pg (bA 29 t9 (.int .i64 0)) w fun t94 w =>
 aC pg (aH 27 t94) w fun t95 w =>
 aC pg (bA 67 bD (.int .i64 0)) w fun t96 w =>
 aC pg (aH 3 t96) w fun t97 w =>
 aR pg pI #[(.int .i64 0), t95, t97, hJ] w fun t99 w =>
 aC pg (aL 47 IV 0) w fun t100 w =>
 aC pg (aJ 43 t100 t99) w fun _u w =>
 aC pg (aH 47 IV) w fun t102 w =>
 aC pg (bX 24 1 [(0, t102)]) w fun t103 w =>
 aC pg (jM .append #[24, 24] 24 [eY, t103]) w fun t104 w =>
 aC pg (aG .sub 3 aM aM uI (.int .i64 1)) w fun t107 w =>
 aC pg (aG .eql 3 (.tmp 105) (.tmp 107) t77 t107) w fun t108 w =>
 eM t108
  (k3 t5 t9 hJ t104 w)
  (aC pg (bV 67 [(0, (.int .i64 0)), (1, (.int .i64 2)), (2, (.int .i64 1))]) w fun t109 w =>
  kn t5 uI t9 hJ bD t104 t76 t77 t109 (.int .i64 0) w)
theorem TQ (kn : AL) (k3 : K4) (hn : N10 Q kn 5 8 9 11 12 14 76 77 109 110) (h3 : E4 Q k3 3 5 9 11 14) (h : Dx kn k3 (g 5) (g 8) (g 9) (g 11) (g 12) (g 14) (g 76) (g 77) w) : bH pg dP (aD 8 (bI (aD 1 (aB 2 (bI (bI (aB 1 (aD 1 (aB 1 (aB 1 (aB 9 dF))))))))))) Q g w :=
 dS (kr := no) (l := [(3, fun g w => k3 (g 5) (g 9) (g 11) (g 14) w)]) h hn eP ⟨h3, trivial⟩
def Mn (kn : K8) (k3 : K4) (t5 uI t9 hJ bD eY t76 t77 : aJ3) (w : aJ2) : Prop :=
 Dx (fun t5 uI t9 hJ bD eY t76 t77 t109 t110 w => C1 kn t5 uI t9 hJ bD eY t76 t77 t109 t110 w) k3 t5 uI t9 hJ bD eY t76 t77 w
def DZ (kn : K8) (k3 : K4) (t5 uI t9 hJ bD eY t76 t77 : aJ3) (w : aJ2) : Prop :=
 Mn kn k3 t5 uI t9 hJ bD eY t76 t77 w
def DO (kn : K8) (k3 : K4) (t5 uI t9 hJ bD eY t76 t77 : aJ3) (w : aJ2) : Prop :=
 DZ (fun t5 uI t9 hJ bD eY t76 t77 w => xJ kn t5 uI t9 hJ bD eY t76 t77 w) k3 t5 uI t9 hJ bD eY t76 t77 w
theorem TK (kn : K8) (k3 : K4) (hn : N8 Q kn 5 8 9 11 12 14 76 77) (h3 : E4 Q k3 3 5 9 11 14) (h : DZ kn k3 (g 5) (g 8) (g 9) (g 11) (g 12) (g 14) (g 76) (g 77) w) : bH pg dP (aD 1 (aB 2 (bI (bI (aB 1 (aD 1 (aB 1 (aB 1 (aB 9 dF))))))))) Q g w :=
 uH 4 (fP 8 (TQ _ g w (C1 kn) k3 (fun g w h => aK (uH 5 (Tn _ g w kn hn h))) h3 h))
def BC (kn : K8) (k3 : K4) (t5 uI t9 hJ bD eY t76 t77 : aJ3) (w : aJ2) : Prop :=
 aC pg (aG .lss 3 aM aM t77 t76) w fun t78 w =>
 eM t78
  (kn t5 uI t9 hJ bD eY t76 t77 w)
  (k3 t5 t9 hJ eY w)
theorem S8 (kn : K8) (k3 : K4) (hn : N8 Q kn 5 8 9 11 12 14 76 77) (h3 : E4 Q k3 3 5 9 11 14) (h : BC kn k3 (g 5) (g 8) (g 9) (g 11) (g 12) (g 14) (g 76) (g 77) w) : bH pg dP (aD 2 (bI (bI (aB 1 (aD 1 (aB 1 (aB 1 (aB 9 dF)))))))) Q g w :=
 dS (kr := no) (l := [(3, fun g w => k3 (g 5) (g 9) (g 11) (g 14) w)]) h hn eP ⟨h3, trivial⟩
def uQ (kn : K8) (k3 : K4) (t5 uI t9 hJ bD eY t76 t77 : aJ3) (w : aJ2) : Prop :=
 BC (fun t5 uI t9 hJ bD eY t76 t77 w => DO kn k3 t5 uI t9 hJ bD eY t76 t77 w) k3 t5 uI t9 hJ bD eY t76 t77 w
def uN (k3 : K4) (t5 uI t9 hJ bD eY t76 t77 : aJ3) (w : aJ2) : Prop :=
 cG (fun (X : (aJ3 × aJ3) -> K0) (t : aJ3 × aJ3) (w : aJ2) => uQ (fun _ _ _ _ _ eY _ t77 w => X (eY, t77) w) k3 t5 uI t9 hJ bD t.1 t76 t.2 w) (eY, t77) w
theorem Sg (kn : K8) (k3 : K4) (hn : N8 Q kn 5 8 9 11 12 14 76 77) (h3 : E4 Q k3 3 5 9 11 14) (h : uQ kn k3 (g 5) (g 8) (g 9) (g 11) (g 12) (g 14) (g 76) (g 77) w) : bH pg dP (bI (bI (aB 1 (aD 1 (aB 1 (aB 1 (aB 9 dF))))))) Q g w :=
 fP 2 (S8 _ g w (DO kn k3) k3 (fun g w h => aK (fP 1 (TK _ g w (xJ kn) k3 (fun g w h => aK (TO _ g w kn hn h)) h3 h))) h3 h)
theorem SN (k3 : K4) (h3 : E4 Q k3 3 5 9 11 14) (h : uN k3 (g 5) (g 8) (g 9) (g 11) (g 12) (g 14) (g 76) (g 77) w) : bH pg dP (bI (aB 1 (aD 1 (aB 1 (aB 1 (aB 9 dF)))))) Q g w := by
 refine Db (fun g : Env => (g 14, g 77)) (fun X t w => uQ (fun _ _ _ _ _ eY _ t77 w => X (eY, t77) w) k3 (g 5) (g 8) (g 9) (g 11) (g 12) t.1 (g 76) t.2 w) h (fun X g1 w1 ha hL => ?_)
 rw [<- fF 5 ha, <- fF 8 ha, <- fF 9 ha, <- fF 11 ha, <- fF 12 ha, <- fF 76 ha] at hL
 exact (Sg _ g1 w1 (fun _ _ _ _ _ eY _ t77 w => X (eY, t77) w) k3 (fun _ _ h => h) h3 hL)
def Ch (kn : K4) (t5 uI t9 hJ bD eY t76 t77 : aJ3) (w : aJ2) : Prop :=
 uN kn t5 uI t9 hJ bD eY t76 t77 w
def Bx (kn : K8) (t5 uI t9 hJ bD eY : aJ3) (w : aJ2) : Prop :=
 kn t5 uI t9 hJ bD eY uI (.int .i64 0) w
theorem SM (kn : K8) (hn : N8 Q kn 5 8 9 11 12 14 76 77) (h : Bx kn (g 5) (g 8) (g 9) (g 11) (g 12) (g 14) w) : bH pg dP (aD 1 (aD 1 (aB 1 (aB 1 (aB 9 dF))))) Q g w :=
 dS (kr := no) (l := []) h hn eP trivial
def BR (kn : K4) (t5 uI t9 hJ bD eY : aJ3) (w : aJ2) : Prop :=
 Bx (fun t5 uI t9 hJ bD eY t76 t77 w => Ch kn t5 uI t9 hJ bD eY t76 t77 w) t5 uI t9 hJ bD eY w
def Bw (R : K1) (t5 uI t9 hJ bD eY : aJ3) (w : aJ2) : Prop :=
 BR (fun t5 t9 hJ eY w => wZ R t5 t9 hJ eY w) t5 uI t9 hJ bD eY w
theorem SX (kn : K4) (hn : N4 Q kn 5 9 11 14) (h : BR kn (g 5) (g 8) (g 9) (g 11) (g 12) (g 14) w) : bH pg dP (aD 1 (aB 1 (aB 1 (aB 9 dF)))) Q g w :=
 fP 1 (SM _ g w (Ch kn) (fun g w h => aK (uH 3 (SN _ g w kn hn h))) h)
def BX (kn : K6) (t5 uI t9 hJ bD : aJ3) (w : aJ2) : Prop :=
 kn t5 uI t9 hJ bD (.slice none 0 0) w
theorem SF (kn : K6) (hn : N6 Q kn 5 8 9 11 12 14) (h : BX kn (g 5) (g 8) (g 9) (g 11) (g 12) w) : bH pg dP (aD 1 (aB 1 (aB 9 dF))) Q g w :=
 dS (kr := no) (l := []) h hn eP trivial
def BB (R : K1) (t5 uI t9 hJ bD : aJ3) (w : aJ2) : Prop :=
 BX (fun t5 uI t9 hJ bD eY w => Bw R t5 uI t9 hJ bD eY w) t5 uI t9 hJ bD w
def vD (kn : K6) (k1 : K5) (t5 uI t9 hJ bD t65 : aJ3) (w : aJ2) : Prop :=
 aC pg (aG .lss 3 aM aM t65 (.int .i64 3)) w fun t66 w =>
 eM t66
  (aC pg (bA 29 t9 t65) w fun t70 w =>
  aC pg (aH 27 t70) w fun t71 w =>
  aR pg Mb #[t71, hJ] w fun t73 w =>
  aC pg (bA 67 bD t65) w fun t74 w =>
  aC pg (aJ 3 t74 t73) w fun _u w =>
  aC pg (aG .add 3 aM aM t65 (.int .i64 1)) w fun t75 w =>
  kn t5 uI t9 hJ bD t75 w)
  (k1 t5 uI t9 hJ bD w)
theorem SV (kn : K6) (k1 : K5) (hn : N6 Q kn 5 8 9 11 12 65) (h1 : E5 Q k1 1 5 8 9 11 12) (h : vD kn k1 (g 5) (g 8) (g 9) (g 11) (g 12) (g 65) w) : bH pg dP (bI (bI (aB 1 (aD 1 (aB 9 dF))))) Q g w :=
 dS (kr := no) (l := [(1, fun g w => k1 (g 5) (g 8) (g 9) (g 11) (g 12) w)]) h hn eP ⟨h1, trivial⟩
def uV (k1 : K5) (t5 uI t9 hJ bD t65 : aJ3) (w : aJ2) : Prop :=
 cG (fun (X : aJ3 -> K0) (t : aJ3) (w : aJ2) => vD (fun _ _ _ _ _ t65 w => X t65 w) k1 t5 uI t9 hJ bD t w) t65 w
theorem SE (k1 : K5) (h1 : E5 Q k1 1 5 8 9 11 12) (h : uV k1 (g 5) (g 8) (g 9) (g 11) (g 12) (g 65) w) : bH pg dP (bI (aB 1 (aD 1 (aB 9 dF)))) Q g w := by
 refine Db (fun g : Env => g 65) (fun X t w => vD (fun _ _ _ _ _ t65 w => X t65 w) k1 (g 5) (g 8) (g 9) (g 11) (g 12) t w) h (fun X g1 w1 ha hL => ?_)
 rw [<- fF 5 ha, <- fF 8 ha, <- fF 9 ha, <- fF 11 ha, <- fF 12 ha] at hL
 exact (SV _ g1 w1 (fun _ _ _ _ _ t65 w => X t65 w) k1 (fun _ _ h => h) h1 hL)
def BY (kn : K5) (t5 uI t9 hJ bD t65 : aJ3) (w : aJ2) : Prop :=
 uV kn t5 uI t9 hJ bD t65 w
def B4 (kn : K6) (t5 uI t9 hJ bD : aJ3) (w : aJ2) : Prop :=
 kn t5 uI t9 hJ bD (.int .i64 0) w
theorem SA (kn : K6) (hn : N6 Q kn 5 8 9 11 12 65) (h : B4 kn (g 5) (g 8) (g 9) (g 11) (g 12) w) : bH pg dP (aD 1 (aD 1 (aB 9 dF))) Q g w :=
 dS (kr := no) (l := []) h hn eP trivial
def BE (kn : K5) (t5 uI t9 hJ bD : aJ3) (w : aJ2) : Prop :=
 B4 (fun t5 uI t9 hJ bD t65 w => BY kn t5 uI t9 hJ bD t65 w) t5 uI t9 hJ bD w
def BK (R : K1) (t5 uI t9 hJ bD : aJ3) (w : aJ2) : Prop :=
 BE (fun t5 uI t9 hJ bD w => BB R t5 uI t9 hJ bD w) t5 uI t9 hJ bD w
theorem Sr (kn : K5) (hn : N5 Q kn 5 8 9 11 12) (h : BE kn (g 5) (g 8) (g 9) (g 11) (g 12) w) : bH pg dP (aD 1 (aB 9 dF)) Q g w :=
 fP 1 (SA _ g w (BY kn) (fun g w h => aK (uH 1 (SE _ g w kn hn h))) h)
def BM (kn : K5) (R : K1) (D3 JR : aJ3) (w : aJ2) : Prop :=
 aC pg (rL 29 JR) w fun cI w =>
 aC pg (bS 29) w fun t5 w =>
 aR pg qZ #[D3] w fun t20 w =>
 aR pg vK #[t20] w fun t22 w =>
 aR pg lD #[t20] w fun t25 w =>
 aC pg (aG .neq 30 (.tmp 25) (.const (.int .i64 0)) t25 (.int .i64 0)) w fun t26 w =>
 eM t26
  (aC pg (bV 29 []) w fun t27 w =>
  aR pg lD #[t20] w fun t29 w =>
  aC pg (aJ 29 t5 t27) w fun _u w =>
  kI pg 29 t5 w fun r1 => R (.tuple #[(.slice none 0 0), r1, t29]) w)
  (aC pg (aG .eql 3 (.tmp 31) (.const (.int .i64 0)) t22 (.int .i64 0)) w fun t32 w =>
  Gd (eX t32 true) (fun K => K t20 w) w fun t34 w =>
  Gd (eX t32 true) (fun K => aR pg mG #[t34] w K) w fun t35 w =>
  Gd (eX t32 true) (fun K => aC pg (aG .gtr 3 aM aM t35 (.int .i64 0)) w K) w fun t36 w =>
  aC pg (fI t32 t36 (.bool false)) w fun t37 w =>
  eM t37
   (aC pg (bV 29 []) w fun t38 w =>
   aC pg (aJ 29 t5 t38) w fun _u w =>
   kI pg 29 t5 w fun r1 => R (.tuple #[(.slice none 0 0), r1, (.int .i64 15)]) w)
   (aC pg (aG .eql 3 (.tmp 40) (.const (.int .i64 0)) t22 (.int .i64 0)) w fun t41 w =>
   eM t41
    (aC pg (aH 29 cI) (dr w) fun t42 w_ => w_ = (dr w) /\
    (dr w) = (dr w) /\
    aC pg (aJ 29 t5 t42) (dr w) fun _u2 ZA =>
    ZA = ZA /\
    kI pg 29 t5 ZA fun r1 => R (.tuple #[(.slice none 0 0), r1, (.int .i64 0)]) ZA)
    (aC pg (aH 29 cI) w fun t45 w =>
    aR pg tY #[t20, t45] w fun t46 w =>
    aC pg (aW t46 0) w fun t47 w =>
    aC pg (aW t46 1) w fun t48 w =>
    aC pg (bS 29) w fun t9 w =>
    aC pg (aJ 29 t9 t47) w fun _u w =>
    aC pg (aG .neq 30 (.tmp 49) (.const (.int .i64 0)) t48 (.int .i64 0)) w fun t50 w =>
    eM t50
     (aC pg (bV 29 []) w fun t51 w =>
     aC pg (aJ 29 t5 t51) w fun _u w =>
     kI pg 29 t5 w fun r1 => R (.tuple #[(.slice none 0 0), r1, t48]) w)
     (aR pg mG #[t20] w fun t56 w =>
     aR pg nN #[t20, t56] w fun t57 w =>
     aR pg qN #[t57] w fun t58 w =>
     aC pg (aW t58 0) w fun t59 w =>
     aC pg (aW t58 1) w fun t60 w =>
     aC pg (aG .neq 30 (.tmp 61) (.const (.int .i64 0)) t60 (.int .i64 0)) w fun t62 w =>
     eM t62
      (aC pg (bV 29 []) w fun t63 w =>
      aC pg (aJ 29 t5 t63) w fun _u w =>
      kI pg 29 t5 w fun r1 => R (.tuple #[(.slice none 0 0), r1, t60]) w)
      (aC pg (bS 67) w fun bD w =>
      kn t5 t22 t9 t59 bD w)))))
theorem SH (kn : K5) (R : K1) (hn : N5 Q kn 5 8 9 11 12) (hr : HR xA R Q) (h : BM kn R (g 0) (g 1) w) : bH pg dP (aD 9 dF) Q g w :=
 dS (l := []) h hn hr trivial
def B1 (R : K1) (D3 JR : aJ3) (w : aJ2) : Prop :=
 BM (fun t5 uI t9 hJ bD w => BK R t5 uI t9 hJ bD w) R D3 JR w
theorem S0 (R : K1) (hr : HR xA R Q) (h : B1 R (g 0) (g 1) w) : bH pg dP dF Q g w :=
 fP 9 (SH _ g w (BK R) R (fun g w h => aK (fP 1 (Sr _ g w (BB R) (fun g w h => aK (fP 1 (SF _ g w (Bw R) (fun g w h => aK (fP 1 (SX _ g w (wZ R) (fun g w h => aK (To _ g w R hr h)) h))) h))) h))) hr h)
def Tw (a0 a1 : aJ3) (w : aJ2) (R : K1) : Prop :=
 B1 R a0 a1 w
theorem VJ {a0 a1 : aJ3} {w : aJ2} {R : K1} (h : Tw a0 a1 w R) : aR pg mI #[a0, a1] w R := by
 refine rQ (ann := dP) Tryd.f8 dF [a0, a1] xA 137 TrydM.mixed Tryd.func8 ?_
 exact (S0 _ _ _ R (fun _ _ h => h) h)
def cY : FA := ⟨sD, fun i => match Nat.beq i 4 with | true => .leaf ([4], [(1, 4), (2, 4)]) [(false, []), (false, []), (false, []), (false, []), (true, [1, 2]), (false, [])] | false => match Nat.beq i 7 with | true => .leaf ([2], []) [(false, []), (false, []), (true, []), (false, [])] | false => match Nat.beq i 8 with | true => .leaf ([2], []) [(false, []), (false, []), (true, []), (false, [])] | false => match Nat.beq i 11 with | true => .leaf ([4], [(1, 4), (2, 4)]) [(false, []), (false, []), (false, []), (false, []), (true, [1, 2]), (false, [])] | false => match Nat.beq i 13 with | true => .leaf ([2], []) [(false, []), (false, []), (true, []), (false, [])] | false => match Nat.beq i 20 with | true => .split 9 14 (.perm [0, 1, 2, 3, 4, 5, 6, 7, 8, 9, 10, 11, 12, 13, 14, 15, 16, 17] [(9, 14)] ([9, 14, 15], [(11, 14), (12, 14), (12, 15), (13, 14), (13, 15)]) [(false, []), (false, []), (false, []), (false, []), (false, []), (false, []), (false, []), (false, []), (false, []), (true, []), (false, []), (false, []), (false, []), (false, []), (true, [0, 1, 2]), (true, [1, 2]), (false, []), (false, [])]) (.perm [0, 1, 2, 3, 4, 5, 6, 7, 8, 14, 9, 10, 11, 12, 13, 15, 16, 17] [(14, 9)] ([9, 10, 15], [(3, 9), (4, 9), (7, 9), (8, 9), (13, 15), (14, 15)]) [(false, []), (false, []), (false, []), (false, []), (false, []), (false, []), (false, []), (false, []), (false, []), (true, [0, 1, 4, 5]), (true, []), (false, []), (false, []), (false, []), (false, []), (true, [0, 1]), (false, []), (false, [])]) | false => match Nat.beq i 22 with | true => .leaf ([3], []) [(false, []), (false, []), (false, []), (true, []), (false, [])] | false => match Nat.beq i 27 with | true => .leaf ([3], []) [(false, []), (false, []), (false, []), (true, []), (false, [])] | false => match Nat.beq i 46 with | true => .leaf ([2], []) [(false, []), (false, []), (true, []), (false, [])] | false => match Nat.beq i 48 with | true => .leaf ([2], []) [(false, []), (false, []), (true, []), (false, [])] | false => match Nat.beq i 49 with | true => .leaf ([3], []) [(false, []), (false, []), (false, []), (true, []), (false, [])] | false => .leaf ([], []) []⟩
def jA : List ResultVar := [.tmp 4, .cell 5 36, .tmp 6]
noncomputable def cF : Code := cU Tryd.f9
def Ft (R : K1) (t5 bG t12 gV eH : aJ3) (w : aJ2) : Prop :=
 aC pg (aH 82 gV) w fun t199 w =>
 aR pg DG #[t199] w fun t200 w =>
 aC pg (aG .lss 3 aM aM t200 (.int .i64 0)) w fun t202 w =>
 eM t202
  (aC pg (aH 36 bG) (dr w) fun t203 w_ => w_ = (dr w) /\
  (dr w) = (dr w) /\
  aC pg (aJ 36 t5 t203) (dr w) fun _u2 aAQ =>
  aAQ = aAQ /\
  kI pg 36 t5 aAQ fun r1 => R (.tuple #[(.slice none 0 0), r1, (.int .i64 11)]) aAQ)
  (aC pg (aG .gtr 3 aM aM t200 (.int .i64 0)) w fun t205 w =>
  eM t205
   (aC pg (aH 36 bG) (dr w) fun t206 w_ => w_ = (dr w) /\
   (dr w) = (dr w) /\
   aC pg (aJ 36 t5 t206) (dr w) fun _u2 aAM =>
   aAM = aAM /\
   kI pg 36 t5 aAM fun r1 => R (.tuple #[(.slice none 0 0), r1, (.int .i64 15)]) aAM)
   ((dr w) = (dr w) /\
   aC pg (aH 36 t12) (dr w) fun t208 w_ => w_ = (dr w) /\
   (dr w) = (dr w) /\
   aC pg (aJ 36 t5 t208) (dr w) fun _u3 aA5 =>
   aA5 = aA5 /\
   kI pg 36 t5 aA5 fun r1 => R (.tuple #[eH, r1, (.int .i64 0)]) aA5))
theorem ahH (R : K1) (hr : HR jA R Q) (h : Ft R (g 5) (g 7) (g 12) (g 18) (g 23) w) : bH pg cY (aB 1 (aB 6 (aB 1 (aB 11 cF)))) Q g w :=
 dS (kn := no) (l := []) h eP hr trivial
def AH (kn : AL) (t5 bG lP t12 gV gW gS gT eH nG : aJ3) (w : aJ2) : Prop :=
 aC pg (aG .add 73 aM aM nG (.int .u64 1)) w fun t139 w =>
 kn t5 bG lP t12 gV gW gS gT eH t139 w
theorem afT (kn : AL) (hn : N10 Q kn 5 7 9 12 18 20 21 22 23 24) (h : AH kn (g 5) (g 7) (g 9) (g 12) (g 18) (g 20) (g 21) (g 22) (g 23) (g 24) w) : bH pg cY (aB 2 (bI (bI (aB 1 (aD 1 (aB 6 (aB 1 (aB 11 cF)))))))) Q g w :=
 dS (kr := no) (l := []) h hn eP trivial
def HZ (kn : AL) (t5 bG lP t12 gV gW gS gT eH nG t174 : aJ3) (w : aJ2) : Prop :=
 eM t174
  (aC pg (bA 36 t12 (.int .i64 0)) w fun t176 w =>
  aC pg (aH 35 t176) w fun t177 w =>
  aC pg (aH 82 gV) w fun t179 w =>
  aR pg nX #[t177, gW, t179] w fun t180 w =>
  aC pg (aW t180 0) w fun t181 w =>
  aC pg (aW t180 1) w fun t182 w =>
  aC pg (aJ 82 gV t181) w fun _u w =>
  aC pg (bA 36 t12 (.int .i64 2)) w fun t184 w =>
  aC pg (aH 35 t184) w fun t185 w =>
  aC pg (aH 82 gV) w fun t187 w =>
  aR pg nX #[t185, gT, t187] w fun t188 w =>
  aC pg (aW t188 0) w fun t189 w =>
  aC pg (aW t188 1) w fun t190 w =>
  aC pg (aJ 82 gV t189) w fun _u w =>
  aC pg (bA 36 t12 (.int .i64 1)) w fun t192 w =>
  aC pg (aH 35 t192) w fun t193 w =>
  aC pg (aH 82 gV) w fun t195 w =>
  aR pg nX #[t193, gS, t195] w fun t196 w =>
  aC pg (aW t196 0) w fun t197 w =>
  aC pg (aW t196 1) w fun t198 w =>
  aC pg (aJ 82 gV t197) w fun _u w =>
  kn t5 bG lP t12 gV t182 t198 t190 eH nG w)
  (kn t5 bG lP t12 gV gW gS gT eH nG w)
theorem Wk (kn : AL) (hn : N10 Q kn 5 7 9 12 18 20 21 22 23 24) (h : HZ kn (g 5) (g 7) (g 9) (g 12) (g 18) (g 20) (g 21) (g 22) (g 23) (g 24) (g 174) w) : bH pg cY (aB 3 (aB 3 (bI (aB 1 (aD 2 (bI (bI (aB 1 (aD 1 (aB 6 (aB 1 (aB 11 cF)))))))))))) Q g w :=
 dS (kr := no) (l := []) h hn eP trivial
def RI (kn : K11) (t5 bG lP t12 gV gW gS gT eH nG UG : aJ3) (w : aJ2) : Prop :=
 aC pg (bA 36 t12 (.int .i64 0)) w fun t159 w =>
 aC pg (aH 35 t159) w fun t160 w =>
 aC pg (aH 82 gV) w fun t162 w =>
 aR pg nW #[(.int .i64 0), t160, gW, t162] w fun t163 w =>
 aC pg (aW t163 0) w fun t164 w =>
 aC pg (aW t163 1) w fun t165 w =>
 aC pg (aJ 82 gV t164) w fun _u w =>
 aC pg (aL 47 UG 0) w fun t166 w =>
 aC pg (aJ 43 t166 t165) w fun _u w =>
 aC pg (aH 47 UG) w fun t168 w =>
 aC pg (bX 24 1 [(0, t168)]) w fun t169 w =>
 aC pg (jM .append #[24, 24] 24 [eH, t169]) w fun t170 w =>
 aC pg (aG .add 73 aM aM nG (.int .u64 1)) w fun t172 w =>
 aC pg (aG .lss 73 aM aM t172 lP) w fun t174 w =>
 kn t5 bG lP t12 gV gW gS gT t170 nG t174 w
theorem WI (kn : K11) (hn : N11 Q kn 5 7 9 12 18 20 21 22 23 24 174) (h : RI kn (g 5) (g 7) (g 9) (g 12) (g 18) (g 20) (g 21) (g 22) (g 23) (g 24) (g 25) w) : bH pg cY (aD 3 (aB 3 (bI (aB 1 (aD 2 (bI (bI (aB 1 (aD 1 (aB 6 (aB 1 (aB 11 cF)))))))))))) Q g w :=
 dS (kr := no) (l := []) h hn eP trivial
def RA (kn : AL) (t5 bG lP t12 gV gW gS gT eH nG UG : aJ3) (w : aJ2) : Prop :=
 RI (fun t5 bG lP t12 gV gW gS gT eH nG t174 w => HZ kn t5 bG lP t12 gV gW gS gT eH nG t174 w) t5 bG lP t12 gV gW gS gT eH nG UG w
def RE (kn : K11) (t5 bG lP t12 gV gW gS gT eH nG : aJ3) (w : aJ2) : Prop :=
 aC pg (bS 47) w fun UG w =>
 aC pg (bA 36 t12 (.int .i64 1)) w fun t141 w =>
 aC pg (aH 35 t141) w fun t142 w =>
 aC pg (aH 82 gV) w fun t144 w =>
 aR pg nW #[(.int .i64 1), t142, gS, t144] w fun t145 w =>
 aC pg (aW t145 0) w fun t146 w =>
 aC pg (aW t145 1) w fun t147 w =>
 aC pg (aJ 82 gV t146) w fun _u w =>
 aC pg (aL 47 UG 2) w fun t148 w =>
 aC pg (aJ 43 t148 t147) w fun _u w =>
 aC pg (bA 36 t12 (.int .i64 2)) w fun t150 w =>
 aC pg (aH 35 t150) w fun t151 w =>
 aC pg (aH 82 gV) w fun t153 w =>
 aR pg nW #[(.int .i64 2), t151, gT, t153] w fun t154 w =>
 aC pg (aW t154 0) w fun t155 w =>
 aC pg (aW t154 1) w fun t156 w =>
 aC pg (aJ 82 gV t155) w fun _u w =>
 aC pg (aL 47 UG 1) w fun t157 w =>
 aC pg (aJ 43 t157 t156) w fun _u w =>
 kn t5 bG lP t12 gV gW gS gT eH nG UG w
theorem Xp (kn : K11) (hn : N11 Q kn 5 7 9 12 18 20 21 22 23 24 25) (h : RE kn (g 5) (g 7) (g 9) (g 12) (g 18) (g 20) (g 21) (g 22) (g 23) (g 24) w) : bH pg cY (aD 3 (bI (aB 1 (aD 2 (bI (bI (aB 1 (aD 1 (aB 6 (aB 1 (aB 11 cF))))))))))) Q g w :=
 dS (kr := no) (l := []) h hn eP trivial
def akT (kn : AL) (t5 bG lP t12 gV gW gS gT eH nG : aJ3) (w : aJ2) : Prop :=
 RE (fun t5 bG lP t12 gV gW gS gT eH nG UG w => RA kn t5 bG lP t12 gV gW gS gT eH nG UG w) t5 bG lP t12 gV gW gS gT eH nG w
def R5 (kn : AL) (t5 bG lP t12 gV gW gS gT eH nG : aJ3) (w : aJ2) : Prop :=
 akT kn t5 bG lP t12 gV gW gS gT eH nG w
def RM (kn : AL) (k2 : K5) (t5 bG lP t12 gV gW gS gT eH nG : aJ3) (w : aJ2) : Prop :=
 aC pg (aG .lss 73 aM aM nG lP) w fun t137 w =>
 eM t137
  (kn t5 bG lP t12 gV gW gS gT eH nG w)
  (k2 t5 bG t12 gV eH w)
theorem Xx (kn : AL) (k2 : K5) (hn : N10 Q kn 5 7 9 12 18 20 21 22 23 24) (h2 : E5 Q k2 2 5 7 12 18 23) (h : RM kn k2 (g 5) (g 7) (g 9) (g 12) (g 18) (g 20) (g 21) (g 22) (g 23) (g 24) w) : bH pg cY (aD 1 (aD 2 (bI (bI (aB 1 (aD 1 (aB 6 (aB 1 (aB 11 cF))))))))) Q g w :=
 dS (kr := no) (l := [(2, fun g w => k2 (g 5) (g 7) (g 12) (g 18) (g 23) w)]) h hn eP ⟨h2, trivial⟩
def aiU (kn : AL) (k2 : K5) (t5 bG lP t12 gV gW gS gT eH nG : aJ3) (w : aJ2) : Prop :=
 RM (fun t5 bG lP t12 gV gW gS gT eH nG w => R5 kn t5 bG lP t12 gV gW gS gT eH nG w) k2 t5 bG lP t12 gV gW gS gT eH nG w
theorem Wh (kn : AL) (k2 : K5) (hn : N10 Q kn 5 7 9 12 18 20 21 22 23 24) (h2 : E5 Q k2 2 5 7 12 18 23) (h : aiU kn k2 (g 5) (g 7) (g 9) (g 12) (g 18) (g 20) (g 21) (g 22) (g 23) (g 24) w) : bH pg cY (aD 2 (bI (bI (aB 1 (aD 1 (aB 6 (aB 1 (aB 11 cF)))))))) Q g w :=
 fP 1 (Xx _ g w (R5 kn) k2 (fun g w h => aK (uH 3 (fP 3 (Xp _ g w (RA kn) (fun g w h => aK (fP 3 (WI _ g w (HZ kn) (fun g w h => aK (Wk _ g w kn hn h)) h))) h)))) h2 h)
def ML (kn : AL) (k2 : K5) (t5 bG lP t12 gV gW gS gT eH nG : aJ3) (w : aJ2) : Prop :=
 aC pg (aG .lss 73 aM aM nG lP) w fun t137 w =>
 eM t137
  (aC pg (bS 47) w fun UG w =>
  aC pg (bA 36 t12 (.int .i64 1)) w fun t141 w =>
  aC pg (aH 35 t141) w fun t142 w =>
  aC pg (aH 82 gV) w fun t144 w =>
  aR pg nW #[(.int .i64 1), t142, gS, t144] w fun t145 w =>
  aC pg (aW t145 0) w fun t146 w =>
  aC pg (aW t145 1) w fun t147 w =>
  aC pg (aJ 82 gV t146) w fun _u w =>
  aC pg (aL 47 UG 2) w fun t148 w =>
  aC pg (aJ 43 t148 t147) w fun _u w =>
  aC pg (bA 36 t12 (.int .i64 2)) w fun t150 w =>
  aC pg (aH 35 t150) w fun t151 w =>
  aC pg (aH 82 gV) w fun t153 w =>
  aR pg nW #[(.int .i64 2), t151, gT, t153] w fun t154 w =>
  aC pg (aW t154 0) w fun t155 w =>
  aC pg (aW t154 1) w fun t156 w =>
  aC pg (aJ 82 gV t155) w fun _u w =>
  aC pg (aL 47 UG 1) w fun t157 w =>
  aC pg (aJ 43 t157 t156) w fun _u w =>
  aC pg (bA 36 t12 (.int .i64 0)) w fun t159 w =>
  aC pg (aH 35 t159) w fun t160 w =>
  aC pg (aH 82 gV) w fun t162 w =>
  aR pg nW #[(.int .i64 0), t160, gW, t162] w fun t163 w =>
  aC pg (aW t163 0) w fun t164 w =>
  aC pg (aW t163 1) w fun t165 w =>
  aC pg (aJ 82 gV t164) w fun _u w =>
  aC pg (aL 47 UG 0) w fun t166 w =>
  aC pg (aJ 43 t166 t165) w fun _u w =>
  aC pg (aH 47 UG) w fun t168 w =>
  aC pg (bX 24 1 [(0, t168)]) w fun t169 w =>
  aC pg (jM .append #[24, 24] 24 [eH, t169]) w fun t170 w =>
  aC pg (aG .add 73 aM aM nG (.int .u64 1)) w fun t172 w =>
  aC pg (aG .lss 73 aM aM t172 lP) w fun t174 w =>
  eM t174
   (aC pg (bA 36 t12 (.int .i64 0)) w fun t176 w =>
   aC pg (aH 35 t176) w fun t177 w =>
   aC pg (aH 82 gV) w fun t179 w =>
   aR pg nX #[t177, gW, t179] w fun t180 w =>
   aC pg (aW t180 0) w fun t181 w =>
   aC pg (aW t180 1) w fun t182 w =>
   aC pg (aJ 82 gV t181) w fun _u w =>
   aC pg (bA 36 t12 (.int .i64 2)) w fun t184 w =>
   aC pg (aH 35 t184) w fun t185 w =>
   aC pg (aH 82 gV) w fun t187 w =>
   aR pg nX #[t185, gT, t187] w fun t188 w =>
   aC pg (aW t188 0) w fun t189 w =>
   aC pg (aW t188 1) w fun t190 w =>
   aC pg (aJ 82 gV t189) w fun _u w =>
   aC pg (bA 36 t12 (.int .i64 1)) w fun t192 w =>
   aC pg (aH 35 t192) w fun t193 w =>
   aC pg (aH 82 gV) w fun t195 w =>
   aR pg nX #[t193, gS, t195] w fun t196 w =>
   aC pg (aW t196 0) w fun t197 w =>
   aC pg (aW t196 1) w fun t198 w =>
   aC pg (aJ 82 gV t197) w fun _u w =>
   kn t5 bG lP t12 gV t182 t198 t190 t170 nG w)
   (kn t5 bG lP t12 gV gW gS gT t170 nG w))
  (k2 t5 bG t12 gV eH w)
theorem acP (kn : AL) (k2 : K5) (hn : N10 Q kn 5 7 9 12 18 20 21 22 23 24) (h2 : E5 Q k2 2 5 7 12 18 23) (h : ML kn k2 (g 5) (g 7) (g 9) (g 12) (g 18) (g 20) (g 21) (g 22) (g 23) (g 24) w) : bH pg cY (aD 2 (bI (bI (aB 1 (aD 1 (aB 6 (aB 1 (aB 11 cF)))))))) Q g w :=
 Wh Q g w kn k2 hn h2 (Eq.mp (by kernel_rfl) h)
def FP (kn : AL) (k2 : K5) (t5 bG lP t12 gV gW gS gT eH nG : aJ3) (w : aJ2) : Prop :=
 ML (fun t5 bG lP t12 gV gW gS gT eH nG w => AH kn t5 bG lP t12 gV gW gS gT eH nG w) k2 t5 bG lP t12 gV gW gS gT eH nG w
def FQ (k2 : K5) (t5 bG lP t12 gV gW gS gT eH nG : aJ3) (w : aJ2) : Prop :=
 cG (fun (X : (aJ3 × aJ3 × aJ3 × aJ3 × aJ3) -> K0) (t : aJ3 × aJ3 × aJ3 × aJ3 × aJ3) (w : aJ2) => FP (fun _ _ _ _ _ gW gS gT eH nG w => X (gW, gS, gT, eH, nG) w) k2 t5 bG lP t12 gV t.1 t.2.1 t.2.2.1 t.2.2.2.1 t.2.2.2.2 w) (gW, gS, gT, eH, nG) w
theorem aeK (kn : AL) (k2 : K5) (hn : N10 Q kn 5 7 9 12 18 20 21 22 23 24) (h2 : E5 Q k2 2 5 7 12 18 23) (h : FP kn k2 (g 5) (g 7) (g 9) (g 12) (g 18) (g 20) (g 21) (g 22) (g 23) (g 24) w) : bH pg cY (bI (bI (aB 1 (aD 1 (aB 6 (aB 1 (aB 11 cF))))))) Q g w :=
 fP 2 (acP _ g w (AH kn) k2 (fun g w h => aK (afT _ g w kn hn h)) h2 h)
theorem adM (k2 : K5) (h2 : E5 Q k2 2 5 7 12 18 23) (h : FQ k2 (g 5) (g 7) (g 9) (g 12) (g 18) (g 20) (g 21) (g 22) (g 23) (g 24) w) : bH pg cY (bI (aB 1 (aD 1 (aB 6 (aB 1 (aB 11 cF)))))) Q g w := by
 refine Db (fun g : Env => (g 20, g 21, g 22, g 23, g 24)) (fun X t w => FP (fun _ _ _ _ _ gW gS gT eH nG w => X (gW, gS, gT, eH, nG) w) k2 (g 5) (g 7) (g 9) (g 12) (g 18) t.1 t.2.1 t.2.2.1 t.2.2.2.1 t.2.2.2.2 w) h (fun X g1 w1 ha hL => ?_)
 rw [<- fF 5 ha, <- fF 7 ha, <- fF 9 ha, <- fF 12 ha, <- fF 18 ha] at hL
 exact (aeK _ g1 w1 (fun _ _ _ _ _ gW gS gT eH nG w => X (gW, gS, gT, eH, nG) w) k2 (fun _ _ h => h) h2 hL)
def NH (kn : K5) (t5 bG lP t12 gV gW gS gT eH nG : aJ3) (w : aJ2) : Prop :=
 FQ kn t5 bG lP t12 gV gW gS gT eH nG w
def OG (kn : AL) (t5 bG lP t12 gV gW gS gT eH : aJ3) (w : aJ2) : Prop :=
 kn t5 bG lP t12 gV gW gS gT eH (.int .u64 0) w
theorem adV (kn : AL) (hn : N10 Q kn 5 7 9 12 18 20 21 22 23 24) (h : OG kn (g 5) (g 7) (g 9) (g 12) (g 18) (g 20) (g 21) (g 22) (g 23) w) : bH pg cY (aD 1 (aD 1 (aB 6 (aB 1 (aB 11 cF))))) Q g w :=
 dS (kr := no) (l := []) h hn eP trivial
def NV (kn : K5) (t5 bG lP t12 gV gW gS gT eH : aJ3) (w : aJ2) : Prop :=
 OG (fun t5 bG lP t12 gV gW gS gT eH nG w => NH kn t5 bG lP t12 gV gW gS gT eH nG w) t5 bG lP t12 gV gW gS gT eH w
def Nc (R : K1) (t5 bG lP t12 gV gW gS gT eH : aJ3) (w : aJ2) : Prop :=
 NV (fun t5 bG t12 gV eH w => Ft R t5 bG t12 gV eH w) t5 bG lP t12 gV gW gS gT eH w
theorem ahD (kn : K5) (hn : N5 Q kn 5 7 12 18 23) (h : NV kn (g 5) (g 7) (g 9) (g 12) (g 18) (g 20) (g 21) (g 22) (g 23) w) : bH pg cY (aD 1 (aB 6 (aB 1 (aB 11 cF)))) Q g w :=
 fP 1 (adV _ g w (NH kn) (fun g w h => aK (uH 2 (adM _ g w kn hn h))) h)
def Kn (kn : K9) (R : K1) (t5 bG lP t12 dR : aJ3) (w : aJ2) : Prop :=
 aR pg Gn #[dR] w fun t107 w =>
 aC pg (aW t107 0) w fun t108 w =>
 aC pg (aW t107 1) w fun t109 w =>
 aC pg (bS 82) w fun gV w =>
 aC pg (aJ 82 gV t108) w fun _u w =>
 aC pg (aG .neq 30 (.tmp 110) (.const (.int .i64 0)) t109 (.int .i64 0)) w fun t111 w =>
 eM t111
  (aC pg (aH 36 bG) (dr w) fun t112 w_ => w_ = (dr w) /\
  (dr w) = (dr w) /\
  (dr w) = (dr w) /\
  aC pg (aJ 36 t5 t112) (dr w) fun _u3 aBg =>
  aBg = aBg /\
  kI pg 36 t5 aBg fun r1 => R (.tuple #[(.slice none 0 0), r1, t109]) aBg)
  (aC pg (bA 36 t12 (.int .i64 0)) w fun t115 w =>
  aC pg (aH 35 t115) w fun t116 w =>
  aC pg (aH 82 gV) w fun t117 w =>
  aR pg sY #[t116, t117] w fun t118 w =>
  aC pg (aW t118 0) w fun t119 w =>
  aC pg (aW t118 1) w fun t120 w =>
  aC pg (aJ 82 gV t119) w fun _u w =>
  aC pg (bA 36 t12 (.int .i64 1)) w fun t122 w =>
  aC pg (aH 35 t122) w fun t123 w =>
  aC pg (aH 82 gV) w fun t124 w =>
  aR pg sY #[t123, t124] w fun t125 w =>
  aC pg (aW t125 0) w fun t126 w =>
  aC pg (aW t125 1) w fun t127 w =>
  aC pg (aJ 82 gV t126) w fun _u w =>
  aC pg (bA 36 t12 (.int .i64 2)) w fun t129 w =>
  aC pg (aH 35 t129) w fun t130 w =>
  aC pg (aH 82 gV) w fun t131 w =>
  aR pg sY #[t130, t131] w fun t132 w =>
  aC pg (aW t132 0) w fun t133 w =>
  aC pg (aW t132 1) w fun t134 w =>
  aC pg (aJ 82 gV t133) w fun _u w =>
  kn t5 bG lP t12 gV t120 t127 t134 (.slice none 0 0) w)
theorem Yp (kn : K9) (R : K1) (hn : N9 Q kn 5 7 9 12 18 20 21 22 23) (hr : HR jA R Q) (h : Kn kn R (g 5) (g 7) (g 9) (g 12) (g 13) w) : bH pg cY (aD 6 (aB 1 (aB 11 cF))) Q g w :=
 dS (l := []) h hn hr trivial
def De (R : K1) (t5 bG lP t12 dR : aJ3) (w : aJ2) : Prop :=
 Kn (fun t5 bG lP t12 gV gW gS gT eH w => Nc R t5 bG lP t12 gV gW gS gT eH w) R t5 bG lP t12 dR w
def yP (kn : K8) (cI t5 bG lP dZ t12 dR pE : aJ3) (w : aJ2) : Prop :=
 aC pg (aG .add 3 aM aM pE (.int .i64 1)) w fun t80 w =>
 kn cI t5 bG lP dZ t12 dR t80 w
theorem ZZ (kn : K8) (hn : N8 Q kn 3 5 7 9 11 12 13 14) (h : yP kn (g 3) (g 5) (g 7) (g 9) (g 11) (g 12) (g 13) (g 14) w) : bH pg cY (aB 1 (aB 1 (bI (bI (aB 1 (aD 1 (aB 11 cF))))))) Q g w :=
 dS (kr := no) (l := []) h hn eP trivial
def rB (kn : K8) (R : K1) (cI t5 bG lP dZ t12 dR pE apM abI aCu : aJ3) (w : aJ2) : Prop :=
 aC pg (aG .neq 30 (.tmp 95) (.const (.int .i64 0)) aCu (.int .i64 0)) w fun t96 w =>
 eM t96
  (aC pg (aH 36 bG) (dr w) fun t97 w_ => w_ = (dr w) /\
  (dr w) = (dr w) /\
  (dr w) = (dr w) /\
  aC pg (aJ 36 t5 t97) (dr w) fun _u3 aAP =>
  aAP = aAP /\
  kI pg 36 t5 aAP fun r1 => R (.tuple #[(.slice none 0 0), r1, aCu]) aAP)
  (aC pg (aH 35 apM) w fun t100 w =>
  aC pg (bA 36 t12 pE) w fun t101 w =>
  aC pg (aJ 35 t101 t100) w fun _u w =>
  aC pg (fH 9 dR (some abI) none none) w fun t104 w =>
  kn cI t5 bG lP dZ t12 t104 pE w)
theorem Zf (kn : K8) (R : K1) (hn : N8 Q kn 3 5 7 9 11 12 13 14) (hr : HR jA R Q) (h : rB kn R (g 3) (g 5) (g 7) (g 9) (g 11) (g 12) (g 13) (g 14) (g 15) (g 16) (g 17) w) : bH pg cY (aB 1 (bI (aD 1 (aB 1 (bI (bI (aB 1 (aD 1 (aB 11 cF))))))))) Q g w :=
 dS (l := []) h hn hr trivial
def KK (kn : K11) (cI t5 bG lP dZ t12 dR pE : aJ3) (w : aJ2) : Prop :=
 Ord (aqK sD 20 (IH 20 cF) 9 14 w)
  ((dr w) = (dr w) /\
  (dr w) = (dr w) /\
  (dr w) = (dr w) /\
  aC pg (bA 77 dZ pE) (dr w) fun t85 w_ => w_ = (dr w) /\
  aC pg (aH 3 t85) (dr w) fun t86 w_ => w_ = (dr w) /\
  (dr w) = (dr w) /\
  (dr w) = (dr w) /\
  aC pg (bA 36 cI pE) (dr w) fun t89 w_ => w_ = (dr w) /\
  aC pg (aH 35 t89) (dr w) fun t90 w_ => w_ = (dr w) /\
  aR pg CJ #[pE, t86, dR, t90] (dr w) fun t91 J9 =>
  J9 = J9 /\
  aC pg (aW t91 0) J9 fun t92 w_ => w_ = J9 /\
  aC pg (aW t91 1) J9 fun t93 w_ => w_ = J9 /\
  aC pg (aW t91 2) J9 fun t94 w_ => w_ = J9 /\
  aC pg (bS 35) J9 fun apM atT =>
  (eD pg (aW t91 2) t94 atT /\ eD pg (aW t91 1) t93 atT /\ eD pg (aW t91 0) t92 atT /\ True) /\
  aC pg (aJ 35 apM t92) atT fun _u15 BZ =>
  (eD pg (aW t91 2) t94 BZ /\ eD pg (aW t91 1) t93 BZ /\ True) /\
  BZ = BZ /\
  BZ = BZ /\
  kn cI t5 bG lP dZ t12 dR pE apM t93 t94 BZ)
  ((dr w) = (dr w) /\
  (dr w) = (dr w) /\
  (dr w) = (dr w) /\
  aC pg (bA 77 dZ pE) (dr w) fun t85 w_ => w_ = (dr w) /\
  aC pg (aH 3 t85) (dr w) fun t86 w_ => w_ = (dr w) /\
  (dr w) = (dr w) /\
  (dr w) = (dr w) /\
  aC pg (bA 36 cI pE) (dr w) fun t89 w_ => w_ = (dr w) /\
  aC pg (aH 35 t89) (dr w) fun t90 w_ => w_ = (dr w) /\
  aC pg (bS 35) (dr w) fun apM J9 =>
  (eD pg (aH 35 t89) t90 J9 /\ eD pg (bA 36 cI pE) t89 J9 /\ eD pg (aH 3 t85) t86 J9 /\ eD pg (bA 77 dZ pE) t85 J9 /\ True) /\
  aR pg CJ #[pE, t86, dR, t90] J9 fun t91 Rp =>
  Rp = Rp /\
  aC pg (aW t91 0) Rp fun t92 w_ => w_ = Rp /\
  aC pg (aW t91 1) Rp fun t93 w_ => w_ = Rp /\
  aC pg (aW t91 2) Rp fun t94 w_ => w_ = Rp /\
  aC pg (aJ 35 apM t92) Rp fun _u15 BZ =>
  (eD pg (aW t91 2) t94 BZ /\ eD pg (aW t91 1) t93 BZ /\ True) /\
  BZ = BZ /\
  BZ = BZ /\
  kn cI t5 bG lP dZ t12 dR pE apM t93 t94 BZ)
theorem aaL (kn : K11) (hn : N11 Q kn 3 5 7 9 11 12 13 14 15 16 17) (h : KK kn (g 3) (g 5) (g 7) (g 9) (g 11) (g 12) (g 13) (g 14) w) : bH pg cY (aD 1 (bI (aD 1 (aB 1 (bI (bI (aB 1 (aD 1 (aB 11 cF))))))))) Q g w :=
 dS (kr := no) (l := []) h hn eP trivial
def Uj (kn : K8) (R : K1) (cI t5 bG lP dZ t12 dR pE : aJ3) (w : aJ2) : Prop :=
 KK (fun cI t5 bG lP dZ t12 dR pE apM abI aCu w => rB kn R cI t5 bG lP dZ t12 dR pE apM abI aCu w) cI t5 bG lP dZ t12 dR pE w
def LV (kn : K8) (R : K1) (cI t5 bG lP dZ t12 dR pE : aJ3) (w : aJ2) : Prop :=
 Uj kn R cI t5 bG lP dZ t12 dR pE w
def J3 (kn : K8) (R : K1) (cI t5 bG lP dZ t12 dR pE : aJ3) (w : aJ2) : Prop :=
 LV (fun cI t5 bG lP dZ t12 dR pE w => yP kn cI t5 bG lP dZ t12 dR pE w) R cI t5 bG lP dZ t12 dR pE w
theorem YZ (kn : K8) (R : K1) (hn : N8 Q kn 3 5 7 9 11 12 13 14) (hr : HR jA R Q) (h : LV kn R (g 3) (g 5) (g 7) (g 9) (g 11) (g 12) (g 13) (g 14) w) : bH pg cY (aD 1 (aB 1 (bI (bI (aB 1 (aD 1 (aB 11 cF))))))) Q g w :=
 uH 1 (fP 1 (aaL _ g w (rB kn R) (fun g w h => aK (Zf _ g w kn R hn hr h)) h))
def Ka (kn : K8) (k0 : K5) (cI t5 bG lP dZ t12 dR pE : aJ3) (w : aJ2) : Prop :=
 aC pg (aG .lss 3 aM aM pE (.int .i64 3)) w fun t78 w =>
 eM t78
  (kn cI t5 bG lP dZ t12 dR pE w)
  (k0 t5 bG lP t12 dR w)
theorem Zv (kn : K8) (k0 : K5) (hn : N8 Q kn 3 5 7 9 11 12 13 14) (h0 : E5 Q k0 0 5 7 9 12 13) (h : Ka kn k0 (g 3) (g 5) (g 7) (g 9) (g 11) (g 12) (g 13) (g 14) w) : bH pg cY (aD 1 (bI (bI (aB 1 (aD 1 (aB 11 cF)))))) Q g w :=
 dS (kr := no) (l := [(0, fun g w => k0 (g 5) (g 7) (g 9) (g 12) (g 13) w)]) h hn eP ⟨h0, trivial⟩
def CT (kn : K8) (k0 : K5) (R : K1) (cI t5 bG lP dZ t12 dR pE : aJ3) (w : aJ2) : Prop :=
 Ka (fun cI t5 bG lP dZ t12 dR pE w => J3 kn R cI t5 bG lP dZ t12 dR pE w) k0 cI t5 bG lP dZ t12 dR pE w
def CQ (k0 : K5) (R : K1) (cI t5 bG lP dZ t12 dR pE : aJ3) (w : aJ2) : Prop :=
 cG (fun (X : (aJ3 × aJ3) -> K0) (t : aJ3 × aJ3) (w : aJ2) => CT (fun _ _ _ _ _ _ dR pE w => X (dR, pE) w) k0 R cI t5 bG lP dZ t12 t.1 t.2 w) (dR, pE) w
theorem ZU (kn : K8) (k0 : K5) (R : K1) (hn : N8 Q kn 3 5 7 9 11 12 13 14) (h0 : E5 Q k0 0 5 7 9 12 13) (hr : HR jA R Q) (h : CT kn k0 R (g 3) (g 5) (g 7) (g 9) (g 11) (g 12) (g 13) (g 14) w) : bH pg cY (bI (bI (aB 1 (aD 1 (aB 11 cF))))) Q g w :=
 fP 1 (Zv _ g w (J3 kn R) k0 (fun g w h => aK (fP 1 (YZ _ g w (yP kn) R (fun g w h => aK (ZZ _ g w kn hn h)) hr h))) h0 h)
theorem YF (k0 : K5) (R : K1) (h0 : E5 Q k0 0 5 7 9 12 13) (hr : HR jA R Q) (h : CQ k0 R (g 3) (g 5) (g 7) (g 9) (g 11) (g 12) (g 13) (g 14) w) : bH pg cY (bI (aB 1 (aD 1 (aB 11 cF)))) Q g w := by
 refine Db (fun g : Env => (g 13, g 14)) (fun X t w => CT (fun _ _ _ _ _ _ dR pE w => X (dR, pE) w) k0 R (g 3) (g 5) (g 7) (g 9) (g 11) (g 12) t.1 t.2 w) h (fun X g1 w1 ha hL => ?_)
 rw [<- fF 3 ha, <- fF 5 ha, <- fF 7 ha, <- fF 9 ha, <- fF 11 ha, <- fF 12 ha] at hL
 exact (ZU _ g1 w1 (fun _ _ _ _ _ _ dR pE w => X (dR, pE) w) k0 R (fun _ _ h => h) h0 hr hL)
def Kq (kn : K5) (R : K1) (cI t5 bG lP dZ t12 dR pE : aJ3) (w : aJ2) : Prop :=
 CQ kn R cI t5 bG lP dZ t12 dR pE w
def KR (kn : K8) (cI t5 bG lP dZ t12 dR : aJ3) (w : aJ2) : Prop :=
 kn cI t5 bG lP dZ t12 dR (.int .i64 0) w
theorem Z1 (kn : K8) (hn : N8 Q kn 3 5 7 9 11 12 13 14) (h : KR kn (g 3) (g 5) (g 7) (g 9) (g 11) (g 12) (g 13) w) : bH pg cY (aD 1 (aD 1 (aB 11 cF))) Q g w :=
 dS (kr := no) (l := []) h hn eP trivial
def LK (kn : K5) (R : K1) (cI t5 bG lP dZ t12 dR : aJ3) (w : aJ2) : Prop :=
 KR (fun cI t5 bG lP dZ t12 dR pE w => Kq kn R cI t5 bG lP dZ t12 dR pE w) cI t5 bG lP dZ t12 dR w
def Kr (R : K1) (cI t5 bG lP dZ t12 dR : aJ3) (w : aJ2) : Prop :=
 LK (fun t5 bG lP t12 dR w => De R t5 bG lP t12 dR w) R cI t5 bG lP dZ t12 dR w
theorem abH (kn : K5) (R : K1) (hn : N5 Q kn 5 7 9 12 13) (hr : HR jA R Q) (h : LK kn R (g 3) (g 5) (g 7) (g 9) (g 11) (g 12) (g 13) w) : bH pg cY (aD 1 (aB 11 cF)) Q g w :=
 fP 1 (Z1 _ g w (Kq kn R) (fun g w h => aK (uH 0 (YF _ g w kn R hn hr h))) h)
def EE (kn : K7) (R : K1) (cI t5 bG SG lP avL : aJ3) (w : aJ2) : Prop :=
 aC pg (aG .rem 73 aM aM avL (.int .u64 4)) w fun t59 w =>
 aC pg (aG .neq 73 (.tmp 59) (.const (.int .u64 0)) t59 (.int .u64 0)) w fun t60 w =>
 eM t60
  (aC pg (aH 36 bG) (dr w) fun t61 w_ => w_ = (dr w) /\
  (dr w) = (dr w) /\
  aC pg (aJ 36 t5 t61) (dr w) fun _u2 aaB =>
  aaB = aaB /\
  kI pg 36 t5 aaB fun r1 => R (.tuple #[(.slice none 0 0), r1, (.int .i64 11)]) aaB)
  (aC pg (aG .quo 73 aM aM avL (.int .u64 64)) w fun t63 w =>
  aC pg (fL 73 3 t63) w fun t64 w =>
  aC pg (aG .quo 73 aM aM avL (.int .u64 16)) w fun t66 w =>
  aC pg (aG .rem 73 aM aM t66 (.int .u64 4)) w fun t67 w =>
  aC pg (fL 73 3 t67) w fun t68 w =>
  aC pg (aG .quo 73 aM aM avL (.int .u64 4)) w fun t70 w =>
  aC pg (aG .rem 73 aM aM t70 (.int .u64 4)) w fun t71 w =>
  aC pg (fL 73 3 t71) w fun t72 w =>
  aC pg (bX 77 3 [(0, t64), (1, t68), (2, t72)]) w fun t73 w =>
  aC pg (aH 36 cI) w fun t74 w =>
  aC pg (bS 36) w fun t12 w =>
  aC pg (aJ 36 t12 t74) w fun _u w =>
  aC pg (aL 72 SG 0) w fun t75 w =>
  aC pg (aH 9 t75) w fun t76 w =>
  kn cI t5 bG lP t73 t12 t76 w)
theorem U8 (kn : K7) (R : K1) (hn : N7 Q kn 3 5 7 9 11 12 13) (hr : HR jA R Q) (h : EE kn R (g 3) (g 5) (g 7) (g 8) (g 9) (g 10) w) : bH pg cY (aB 3 (aB 4 (aD 11 cF))) Q g w :=
 dS (l := []) h hn hr trivial
def OR (kn : K6) (R : K1) (cI t5 bG SG lP : aJ3) (w : aJ2) : Prop :=
 aC pg (aG .eql 73 (.tmp 39) (.const (.int .u64 0)) lP (.int .u64 0)) w fun t40 w =>
 eM t40
  (aC pg (aL 72 SG 0) w fun t41 w =>
  aC pg (aH 9 t41) w fun t42 w =>
  aC pg (jM .len #[9] 3 [t42]) w fun t43 w =>
  aC pg (aG .gtr 3 aM aM t43 (.int .i64 0)) w fun t44 w =>
  eM t44
   (aC pg (aH 36 bG) (dr w) fun t45 w_ => w_ = (dr w) /\
   (dr w) = (dr w) /\
   aC pg (aJ 36 t5 t45) (dr w) fun _u2 atG =>
   atG = atG /\
   kI pg 36 t5 atG fun r1 => R (.tuple #[(.slice none 0 0), r1, (.int .i64 15)]) atG)
   (aC pg (aH 36 cI) (dr w) fun t46 w_ => w_ = (dr w) /\
   (dr w) = (dr w) /\
   aC pg (aJ 36 t5 t46) (dr w) fun _u2 ZA =>
   ZA = ZA /\
   kI pg 36 t5 ZA fun r1 => R (.tuple #[(.slice none 0 0), r1, (.int .i64 0)]) ZA))
  (aC pg (aH 72 SG) w fun t48 w =>
  aR pg oY #[t48, (.int .i64 1)] w fun t49 w =>
  aC pg (aW t49 0) w fun t50 w =>
  aC pg (aW t49 1) w fun t51 w =>
  aC pg (aJ 72 SG t50) w fun _u w =>
  aC pg (aL 72 SG 1) w fun t52 w =>
  aC pg (aH 30 t52) w fun t53 w =>
  aC pg (aG .neq 30 (.tmp 53) (.const (.int .i64 0)) t53 (.int .i64 0)) w fun t54 w =>
  eM t54
   (aC pg (aH 36 bG) (dr w) fun t55 w_ => w_ = (dr w) /\
   aC pg (aL 72 SG 1) (dr w) fun t56 w_ => w_ = (dr w) /\
   aC pg (aH 30 t56) (dr w) fun t57 w_ => w_ = (dr w) /\
   (dr w) = (dr w) /\
   aC pg (aJ 36 t5 t55) (dr w) fun _u4 O0 =>
   (eD pg (aH 30 t56) t57 O0 /\ eD pg (aL 72 SG 1) t56 O0 /\ True) /\
   O0 = O0 /\
   kI pg 36 t5 O0 fun r1 => R (.tuple #[(.slice none 0 0), r1, t57]) O0)
   (kn cI t5 bG SG lP t51 w))
theorem Vq (kn : K6) (R : K1) (hn : N6 Q kn 3 5 7 8 9 10) (hr : HR jA R Q) (h : OR kn R (g 3) (g 5) (g 7) (g 8) (g 9) w) : bH pg cY (aD 3 (aB 4 (aD 11 cF))) Q g w :=
 dS (l := []) h hn hr trivial
def PM (kn : K7) (R : K1) (cI t5 bG SG lP : aJ3) (w : aJ2) : Prop :=
 OR (fun cI t5 bG SG lP avL w => EE kn R cI t5 bG SG lP avL w) R cI t5 bG SG lP w
def O1 (kn : K5) (R : K1) (wN JR : aJ3) (w : aJ2) : Prop :=
 aC pg (rL 36 JR) w fun cI w =>
 aC pg (bS 36) w fun t5 w =>
 aC pg (bS 36) w fun bG w =>
 aC pg (bV 72 [(0, wN)]) w fun t29 w =>
 aR pg zI #[t29] w fun t30 w =>
 aC pg (aW t30 0) w fun t31 w =>
 aC pg (aW t30 1) w fun t32 w =>
 aC pg (bS 72) w fun SG w =>
 aC pg (aJ 72 SG t31) w fun _u w =>
 aC pg (aL 72 SG 1) w fun t33 w =>
 aC pg (aH 30 t33) w fun t34 w =>
 aC pg (aG .neq 30 (.tmp 34) (.const (.int .i64 0)) t34 (.int .i64 0)) w fun t35 w =>
 eM t35
  (aC pg (aH 36 bG) (dr w) fun t36 w_ => w_ = (dr w) /\
  aC pg (aL 72 SG 1) (dr w) fun t37 w_ => w_ = (dr w) /\
  aC pg (aH 30 t37) (dr w) fun t38 w_ => w_ = (dr w) /\
  (dr w) = (dr w) /\
  aC pg (aJ 36 t5 t36) (dr w) fun _u4 ahO =>
  (eD pg (aH 30 t37) t38 ahO /\ eD pg (aL 72 SG 1) t37 ahO /\ True) /\
  ahO = ahO /\
  kI pg 36 t5 ahO fun r1 => R (.tuple #[(.slice none 0 0), r1, t38]) ahO)
  (kn cI t5 bG SG t32 w)
theorem VM (kn : K5) (R : K1) (hn : N5 Q kn 3 5 7 8 9) (hr : HR jA R Q) (h : O1 kn R (g 0) (g 1) w) : bH pg cY (aD 4 (aD 11 cF)) Q g w :=
 dS (l := []) h hn hr trivial
def aeD (kn : K7) (R : K1) (wN JR : aJ3) (w : aJ2) : Prop :=
 O1 (fun cI t5 bG SG lP w => PM kn R cI t5 bG SG lP w) R wN JR w
theorem Vw (kn : K7) (R : K1) (hn : N7 Q kn 3 5 7 9 11 12 13) (hr : HR jA R Q) (h : aeD kn R (g 0) (g 1) w) : bH pg cY (aD 11 cF) Q g w :=
 fP 4 (VM _ g w (PM kn R) R (fun g w h => aK (fP 3 (Vq _ g w (EE kn R) R (fun g w h => aK (U8 _ g w kn R hn hr h)) hr h))) hr h)
def KQ (kn : K7) (R : K1) (wN JR : aJ3) (w : aJ2) : Prop :=
 aC pg (rL 36 JR) w fun cI w =>
 aC pg (bS 36) w fun t5 w =>
 aC pg (bS 36) w fun bG w =>
 aC pg (bV 72 [(0, wN)]) w fun t29 w =>
 aR pg zI #[t29] w fun t30 w =>
 aC pg (aW t30 0) w fun t31 w =>
 aC pg (aW t30 1) w fun t32 w =>
 aC pg (bS 72) w fun SG w =>
 aC pg (aJ 72 SG t31) w fun _u w =>
 aC pg (aL 72 SG 1) w fun t33 w =>
 aC pg (aH 30 t33) w fun t34 w =>
 aC pg (aG .neq 30 (.tmp 34) (.const (.int .i64 0)) t34 (.int .i64 0)) w fun t35 w =>
 eM t35
  (aC pg (aH 36 bG) (dr w) fun t36 w_ => w_ = (dr w) /\
  aC pg (aL 72 SG 1) (dr w) fun t37 w_ => w_ = (dr w) /\
  aC pg (aH 30 t37) (dr w) fun t38 w_ => w_ = (dr w) /\
  (dr w) = (dr w) /\
  aC pg (aJ 36 t5 t36) (dr w) fun _u4 ahO =>
  (eD pg (aH 30 t37) t38 ahO /\ eD pg (aL 72 SG 1) t37 ahO /\ True) /\
  ahO = ahO /\
  kI pg 36 t5 ahO fun r1 => R (.tuple #[(.slice none 0 0), r1, t38]) ahO)
  (aC pg (aG .eql 73 (.tmp 39) (.const (.int .u64 0)) t32 (.int .u64 0)) w fun t40 w =>
  eM t40
   (aC pg (aL 72 SG 0) w fun t41 w =>
   aC pg (aH 9 t41) w fun t42 w =>
   aC pg (jM .len #[9] 3 [t42]) w fun t43 w =>
   aC pg (aG .gtr 3 aM aM t43 (.int .i64 0)) w fun t44 w =>
   eM t44
    (aC pg (aH 36 bG) (dr w) fun t45 w_ => w_ = (dr w) /\
    (dr w) = (dr w) /\
    aC pg (aJ 36 t5 t45) (dr w) fun _u2 atG =>
    atG = atG /\
    kI pg 36 t5 atG fun r1 => R (.tuple #[(.slice none 0 0), r1, (.int .i64 15)]) atG)
    (aC pg (aH 36 cI) (dr w) fun t46 w_ => w_ = (dr w) /\
    (dr w) = (dr w) /\
    aC pg (aJ 36 t5 t46) (dr w) fun _u2 ZA =>
    ZA = ZA /\
    kI pg 36 t5 ZA fun r1 => R (.tuple #[(.slice none 0 0), r1, (.int .i64 0)]) ZA))
   (aC pg (aH 72 SG) w fun t48 w =>
   aR pg oY #[t48, (.int .i64 1)] w fun t49 w =>
   aC pg (aW t49 0) w fun t50 w =>
   aC pg (aW t49 1) w fun t51 w =>
   aC pg (aJ 72 SG t50) w fun _u w =>
   aC pg (aL 72 SG 1) w fun t52 w =>
   aC pg (aH 30 t52) w fun t53 w =>
   aC pg (aG .neq 30 (.tmp 53) (.const (.int .i64 0)) t53 (.int .i64 0)) w fun t54 w =>
   eM t54
    (aC pg (aH 36 bG) (dr w) fun t55 w_ => w_ = (dr w) /\
    aC pg (aL 72 SG 1) (dr w) fun t56 w_ => w_ = (dr w) /\
    aC pg (aH 30 t56) (dr w) fun t57 w_ => w_ = (dr w) /\
    (dr w) = (dr w) /\
    aC pg (aJ 36 t5 t55) (dr w) fun _u4 O0 =>
    (eD pg (aH 30 t56) t57 O0 /\ eD pg (aL 72 SG 1) t56 O0 /\ True) /\
    O0 = O0 /\
    kI pg 36 t5 O0 fun r1 => R (.tuple #[(.slice none 0 0), r1, t57]) O0)
    (aC pg (aG .rem 73 aM aM t51 (.int .u64 4)) w fun t59 w =>
    aC pg (aG .neq 73 (.tmp 59) (.const (.int .u64 0)) t59 (.int .u64 0)) w fun t60 w =>
    eM t60
     (aC pg (aH 36 bG) (dr w) fun t61 w_ => w_ = (dr w) /\
     (dr w) = (dr w) /\
     aC pg (aJ 36 t5 t61) (dr w) fun _u2 aaB =>
     aaB = aaB /\
     kI pg 36 t5 aaB fun r1 => R (.tuple #[(.slice none 0 0), r1, (.int .i64 11)]) aaB)
     (aC pg (aG .quo 73 aM aM t51 (.int .u64 64)) w fun t63 w =>
     aC pg (fL 73 3 t63) w fun t64 w =>
     aC pg (aG .quo 73 aM aM t51 (.int .u64 16)) w fun t66 w =>
     aC pg (aG .rem 73 aM aM t66 (.int .u64 4)) w fun t67 w =>
     aC pg (fL 73 3 t67) w fun t68 w =>
     aC pg (aG .quo 73 aM aM t51 (.int .u64 4)) w fun t70 w =>
     aC pg (aG .rem 73 aM aM t70 (.int .u64 4)) w fun t71 w =>
     aC pg (fL 73 3 t71) w fun t72 w =>
     aC pg (bX 77 3 [(0, t64), (1, t68), (2, t72)]) w fun t73 w =>
     aC pg (aH 36 cI) w fun t74 w =>
     aC pg (bS 36) w fun t12 w =>
     aC pg (aJ 36 t12 t74) w fun _u w =>
     aC pg (aL 72 SG 0) w fun t75 w =>
     aC pg (aH 9 t75) w fun t76 w =>
     kn cI t5 bG t32 t73 t12 t76 w))))
theorem YG (kn : K7) (R : K1) (hn : N7 Q kn 3 5 7 9 11 12 13) (hr : HR jA R Q) (h : KQ kn R (g 0) (g 1) w) : bH pg cY (aD 11 cF) Q g w :=
 Vw Q g w kn R hn hr (Eq.mp (by kernel_rfl) h)
def Jx (R : K1) (wN JR : aJ3) (w : aJ2) : Prop :=
 KQ (fun cI t5 bG lP dZ t12 dR w => Kr R cI t5 bG lP dZ t12 dR w) R wN JR w
theorem Zk (R : K1) (hr : HR jA R Q) (h : Jx R (g 0) (g 1) w) : bH pg cY cF Q g w :=
 fP 11 (YG _ g w (Kr R) R (fun g w h => aK (fP 1 (abH _ g w (De R) R (fun g w h => aK (fP 6 (Yp _ g w (Nc R) R (fun g w h => aK (fP 1 (ahD _ g w (Ft R) (fun g w h => aK (ahH _ g w R hr h)) h))) hr h))) hr h))) hr h)
def apU (a0 a1 : aJ3) (w : aJ2) (R : K1) : Prop :=
 Jx R a0 a1 w
theorem aiS {a0 a1 : aJ3} {w : aJ2} {R : K1} (h : apU a0 a1 w R) : aR pg sD #[a0, a1] w R := by
 refine rQ (ann := cY) Tryd.f9 cF [a0, a1] jA 209 TrydM.mixed Tryd.func9 ?_
 exact (Zk _ _ _ R (fun _ _ h => h) h)
def oR : FA := ⟨vG, fun i => match Nat.beq i 6 with | true => .leaf ([], []) [(false, []), (false, []), (false, []), (false, []), (false, []), (false, []), (false, []), (false, []), (false, [])] | false => .leaf ([], []) []⟩
def sS : List ResultVar := [.tmp 4]
noncomputable def mZ : Code := cU Tryd.f10
def F2 (R : K1)  (w : aJ2) : Prop :=
 R (.bool true) w
theorem afX (R : K1) (hr : HR sS R Q) (h : F2 R w) : bH pg oR (aB 1 (aB 2 mZ)) Q g w :=
 dS (kn := no) (l := []) h eP hr trivial
def F7 (kn : K3) (k0 : K0) (R : K1) (a_0 V4 Uy : aJ3) (w : aJ2) : Prop :=
 aC pg (jM .len #[24] 3 [a_0]) w fun t13 w =>
 aC pg (aG .lss 3 aM aM Uy t13) w fun t14 w =>
 eM t14
  ((dr w) = (dr w) /\
  (dr w) = (dr w) /\
  aC pg (bA 24 a_0 Uy) (dr w) fun t19 w_ => w_ = (dr w) /\
  aC pg (aH 47 t19) (dr w) fun t20 w_ => w_ = (dr w) /\
  (dr w) = (dr w) /\
  (dr w) = (dr w) /\
  aC pg (bA 24 V4 Uy) (dr w) fun t23 w_ => w_ = (dr w) /\
  aC pg (aH 47 t23) (dr w) fun t24 w_ => w_ = (dr w) /\
  aC pg (aG .neq 47 (.tmp 20) (.tmp 24) t20 t24) (dr w) fun t25 w_ => w_ = (dr w) /\
  eM t25
   (R (.bool false) (dr w))
   (aC pg (aG .add 3 aM aM Uy (.int .i64 1)) (dr w) fun t16 w =>
   kn a_0 V4 t16 w))
  (k0 w)
theorem agA (kn : K3) (k0 : K0) (R : K1) (hn : N3 Q kn 0 1 5) (h0 : E0 Q k0 0) (hr : HR sS R Q) (h : F7 kn k0 R (g 0) (g 1) (g 5) w) : bH pg oR (bI (bI (aB 1 (aD 1 (aB 2 mZ))))) Q g w :=
 dS (l := [(0, fun g w => k0 w)]) h hn hr ⟨h0, trivial⟩
def MY (k0 : K0) (R : K1) (a_0 V4 Uy : aJ3) (w : aJ2) : Prop :=
 cG (fun (X : aJ3 -> K0) (t : aJ3) (w : aJ2) => F7 (fun _ _ Uy w => X Uy w) k0 R a_0 V4 t w) Uy w
theorem agG (k0 : K0) (R : K1) (h0 : E0 Q k0 0) (hr : HR sS R Q) (h : MY k0 R (g 0) (g 1) (g 5) w) : bH pg oR (bI (aB 1 (aD 1 (aB 2 mZ)))) Q g w := by
 refine Db (fun g : Env => g 5) (fun X t w => F7 (fun _ _ Uy w => X Uy w) k0 R (g 0) (g 1) t w) h (fun X g1 w1 ha hL => ?_)
 rw [<- fF 0 ha, <- fF 1 ha] at hL
 exact (agA _ g1 w1 (fun _ _ Uy w => X Uy w) k0 R (fun _ _ h => h) h0 hr hL)
def MN (kn : K0) (R : K1) (a_0 V4 Uy : aJ3) (w : aJ2) : Prop :=
 MY kn R a_0 V4 Uy w
def Ns (kn : K3) (a_0 V4 : aJ3) (w : aJ2) : Prop :=
 kn a_0 V4 (.int .i64 0) w
theorem adC (kn : K3) (hn : N3 Q kn 0 1 5) (h : Ns kn (g 0) (g 1) w) : bH pg oR (aD 1 (aD 1 (aB 2 mZ))) Q g w :=
 dS (kr := no) (l := []) h hn eP trivial
def M6 (kn : K0) (R : K1) (a_0 V4 : aJ3) (w : aJ2) : Prop :=
 Ns (fun a_0 V4 Uy w => MN kn R a_0 V4 Uy w) a_0 V4 w
def Na (R : K1) (a_0 V4 : aJ3) (w : aJ2) : Prop :=
 M6 (fun  w => F2 R w) R a_0 V4 w
theorem adU (kn : K0) (R : K1) (hn : N0 Q kn) (hr : HR sS R Q) (h : M6 kn R (g 0) (g 1) w) : bH pg oR (aD 1 (aB 2 mZ)) Q g w :=
 fP 1 (adC _ g w (MN kn R) (fun g w h => aK (uH 0 (agG _ g w kn R hn hr h))) h)
def Nk (kn : K2) (R : K1) (a_0 V4 : aJ3) (w : aJ2) : Prop :=
 aC pg (jM .len #[24] 3 [a_0]) w fun t7 w =>
 aC pg (jM .len #[24] 3 [V4]) w fun t9 w =>
 aC pg (aG .neq 3 (.tmp 7) (.tmp 9) t7 t9) w fun t10 w =>
 eM t10
  (R (.bool false) w)
  (kn a_0 V4 w)
theorem acE (kn : K2) (R : K1) (hn : N2 Q kn 0 1) (hr : HR sS R Q) (h : Nk kn R (g 0) (g 1) w) : bH pg oR (aD 2 mZ) Q g w :=
 dS (l := []) h hn hr trivial
def Ot (R : K1) (a_0 V4 : aJ3) (w : aJ2) : Prop :=
 Nk (fun a_0 V4 w => Na R a_0 V4 w) R a_0 V4 w
theorem abZ (R : K1) (hr : HR sS R Q) (h : Ot R (g 0) (g 1) w) : bH pg oR mZ Q g w :=
 fP 2 (acE _ g w (Na R) R (fun g w h => aK (fP 1 (adU _ g w (fun  w => F2 R w) R (fun g w h => aK (afX _ g w R hr h)) hr h))) hr h)
def apV (a0 a1 : aJ3) (w : aJ2) (R : K1) : Prop :=
 Ot R a0 a1 w
theorem ajM {a0 a1 : aJ3} {w : aJ2} {R : K1} (h : apV a0 a1 w R) : aR pg vG #[a0, a1] w R := by
 refine rQ (ann := oR) Tryd.f10 mZ [a0, a1] sS 26 TrydM.mixed Tryd.func10 ?_
 exact (abZ _ _ _ R (fun _ _ h => h) h)
def mK : FA := ⟨zC, fun i => match Nat.beq i 5 with | true => .leaf ([22, 23], []) [(false, []), (false, []), (false, []), (false, []), (false, []), (false, []), (false, []), (false, []), (false, []), (false, []), (false, []), (false, []), (false, []), (false, []), (false, []), (false, []), (false, []), (false, []), (false, []), (false, []), (false, []), (false, []), (true, []), (true, []), (false, [])] | false => .leaf ([], []) []⟩
def HG : List ResultVar := [.tmp 2]
noncomputable def lH : Code := cU Tryd.f11
def A8 (R : K1) (bQ : aJ3) (w : aJ2) : Prop :=
 R bQ w
theorem Xo (R : K1) (hr : HR HG R Q) (h : A8 R (g 3) w) : bH pg mK (aB 1 (aB 2 lH)) Q g w :=
 dS (kn := no) (l := []) h eP hr trivial
def Bf (kn : K3) (k0 : K1) (gK bQ iG : aJ3) (w : aJ2) : Prop :=
 aC pg (jM .len #[24] 3 [gK]) w fun t7 w =>
 aC pg (aG .lss 3 aM aM iG t7) w fun t8 w =>
 eM t8
  ((dr w) = (dr w) /\
  (dr w) = (dr w) /\
  (dr w) = (dr w) /\
  aC pg (bA 24 gK iG) (dr w) fun t14 w_ => w_ = (dr w) /\
  aC pg (aL 47 t14 0) (dr w) fun t15 w_ => w_ = (dr w) /\
  aC pg (aH 43 t15) (dr w) fun t16 w_ => w_ = (dr w) /\
  aC pg (aG .rem 43 aM aM t16 (.int .u32 131072)) (dr w) fun t17 w_ => w_ = (dr w) /\
  (dr w) = (dr w) /\
  (dr w) = (dr w) /\
  aC pg (bA 24 gK iG) (dr w) fun t20 w_ => w_ = (dr w) /\
  aC pg (aL 47 t20 1) (dr w) fun t21 w_ => w_ = (dr w) /\
  aC pg (aH 43 t21) (dr w) fun t22 w_ => w_ = (dr w) /\
  aC pg (aG .rem 43 aM aM t22 (.int .u32 131072)) (dr w) fun t23 w_ => w_ = (dr w) /\
  aC pg (aG .add 43 aM aM (.int .u32 3) t23) (dr w) fun t24 w_ => w_ = (dr w) /\
  (dr w) = (dr w) /\
  (dr w) = (dr w) /\
  aC pg (bA 24 gK iG) (dr w) fun t27 w_ => w_ = (dr w) /\
  aC pg (aL 47 t27 2) (dr w) fun t28 w_ => w_ = (dr w) /\
  aC pg (aH 43 t28) (dr w) fun t29 w_ => w_ = (dr w) /\
  aC pg (aG .rem 43 aM aM t29 (.int .u32 2147483648)) (dr w) fun t30 w_ => w_ = (dr w) /\
  aC pg (aG .add 43 aM aM (.int .u32 1) t30) (dr w) fun t31 w_ => w_ = (dr w) /\
  aC pg (bV 47 [(0, t17), (1, t24), (2, t31)]) (dr w) fun t32 w_ => w_ = (dr w) /\
  aC pg (bX 24 1 [(0, t32)]) (dr w) fun t33 aGO =>
  aC pg (jM .append #[24, 24] 24 [bQ, t33]) aGO fun t34 aEq =>
  aEq = aEq /\
  aC pg (aG .add 3 aM aM iG (.int .i64 1)) aEq fun t10 w =>
  kn gK t34 t10 w)
  (k0 bQ w)
theorem Yd (kn : K3) (k0 : K1) (hn : N3 Q kn 0 3 4) (h0 : E1 Q k0 0 3) (h : Bf kn k0 (g 0) (g 3) (g 4) w) : bH pg mK (bI (bI (aB 1 (aD 1 (aB 2 lH))))) Q g w :=
 dS (kr := no) (l := [(0, fun g w => k0 (g 3) w)]) h hn eP ⟨h0, trivial⟩
def GQ (k0 : K1) (gK bQ iG : aJ3) (w : aJ2) : Prop :=
 cG (fun (X : (aJ3 × aJ3) -> K0) (t : aJ3 × aJ3) (w : aJ2) => Bf (fun _ bQ iG w => X (bQ, iG) w) k0 gK t.1 t.2 w) (bQ, iG) w
theorem X9 (k0 : K1) (h0 : E1 Q k0 0 3) (h : GQ k0 (g 0) (g 3) (g 4) w) : bH pg mK (bI (aB 1 (aD 1 (aB 2 lH)))) Q g w := by
 refine Db (fun g : Env => (g 3, g 4)) (fun X t w => Bf (fun _ bQ iG w => X (bQ, iG) w) k0 (g 0) t.1 t.2 w) h (fun X g1 w1 ha hL => ?_)
 rw [<- fF 0 ha] at hL
 exact (Yd _ g1 w1 (fun _ bQ iG w => X (bQ, iG) w) k0 (fun _ _ h => h) h0 hL)
def HC (kn : K1) (gK bQ iG : aJ3) (w : aJ2) : Prop :=
 GQ kn gK bQ iG w
def HO (kn : K3) (gK bQ : aJ3) (w : aJ2) : Prop :=
 kn gK bQ (.int .i64 0) w
theorem X2 (kn : K3) (hn : N3 Q kn 0 3 4) (h : HO kn (g 0) (g 3) w) : bH pg mK (aD 1 (aD 1 (aB 2 lH))) Q g w :=
 dS (kr := no) (l := []) h hn eP trivial
def GP (kn : K1) (gK bQ : aJ3) (w : aJ2) : Prop :=
 HO (fun gK bQ iG w => HC kn gK bQ iG w) gK bQ w
def Hg (R : K1) (gK bQ : aJ3) (w : aJ2) : Prop :=
 GP (fun bQ w => A8 R bQ w) gK bQ w
theorem WR (kn : K1) (hn : N1 Q kn 3) (h : GP kn (g 0) (g 3) w) : bH pg mK (aD 1 (aB 2 lH)) Q g w :=
 fP 1 (X2 _ g w (HC kn) (fun g w h => aK (uH 0 (X9 _ g w kn hn h))) h)
def Hs (kn : K2) (gK : aJ3) (w : aJ2) : Prop :=
 kn gK (.slice none 0 0) w
theorem XH (kn : K2) (hn : N2 Q kn 0 3) (h : Hs kn (g 0) w) : bH pg mK (aD 2 lH) Q g w :=
 dS (kr := no) (l := []) h hn eP trivial
def GX (R : K1) (gK : aJ3) (w : aJ2) : Prop :=
 Hs (fun gK bQ w => Hg R gK bQ w) gK w
theorem XO (R : K1) (hr : HR HG R Q) (h : GX R (g 0) w) : bH pg mK lH Q g w :=
 fP 2 (XH _ g w (Hg R) (fun g w h => aK (fP 1 (WR _ g w (A8 R) (fun g w h => aK (Xo _ g w R hr h)) h))) h)
def aaV (a0 : aJ3) (w : aJ2) (R : K1) : Prop :=
 GX R a0 w
theorem ZL {a0 : aJ3} {w : aJ2} {R : K1} (h : aaV a0 w R) : aR pg zC #[a0] w R := by
 refine rQ (ann := mK) Tryd.f11 lH [a0] HG 36 TrydM.mixed Tryd.func11 ?_
 exact (XO _ _ _ R (fun _ _ h => h) h)
def iR : FA := ⟨mP, fun i => .leaf ([], []) []⟩
def kJ : List ResultVar := [.tmp 2, .tmp 3]
noncomputable def iE : Code := cU Tryd.f13
def vP (R : K1) (gK kR mM t8 iX t10 : aJ3) (w : aJ2) : Prop :=
 aC pg (aH 98 mM) w fun t95 w =>
 aC pg (aH 29 t8) w fun t96 w =>
 aR pg vJ #[gK, t95, t96] w fun t97 w =>
 aC pg (aW t97 0) w fun t98 w =>
 aC pg (aW t97 1) w fun t99 w =>
 aC pg (aG .neq 30 (.tmp 100) (.const (.int .i64 0)) t99 (.int .i64 0)) w fun t101 w =>
 eM t101
  (R (.tuple #[(.slice none 0 0), t99]) w)
  (aC pg (fL 3 73 iX) w fun t105 w =>
  aR pg gQ #[kR, t105, (.int .i64 1)] w fun t106 w =>
  aR pg nK #[kR, t10] w fun t109 w =>
  aR pg nK #[kR, t98] w fun t112 w =>
  aR pg tM #[kR] w fun t114 w =>
  R (.tuple #[t114, (.int .i64 0)]) w)
theorem Su (R : K1) (hr : HR kJ R Q) (h : vP R (g 0) (g 4) (g 6) (g 8) (g 9) (g 10) w) : bH pg iR (aB 1 (aB 5 (aB 3 iE))) Q g w :=
 dS (kn := no) (l := []) h eP hr trivial
def vH (kn : K7) (k1 : K6) (R : K1) (gK kR mM t8 iX t10 t63 : aJ3) (w : aJ2) : Prop :=
 aC pg (aG .lss 3 aM aM t63 (.int .i64 3)) w fun t64 w =>
 eM t64
  (aC pg (bA 98 mM t63) w fun t69 w =>
  aC pg (aH 77 t69) w fun t70 w =>
  aR pg oB #[t63, t70] w fun t71 w =>
  aC pg (aW t71 0) w fun t72 w =>
  aC pg (aW t71 1) w fun t73 w =>
  aC pg (aW t71 2) w fun t74 w =>
  aC pg (aW t71 3) w fun t75 w =>
  aC pg (bS 27) w fun aGD w =>
  aC pg (aJ 27 aGD t72) w fun _u w =>
  aC pg (aG .neq 30 (.tmp 76) (.const (.int .i64 0)) t75 (.int .i64 0)) w fun t77 w =>
  eM t77
   (R (.tuple #[(.slice none 0 0), t75]) w)
   (aC pg (aH 27 aGD) w fun t80 w =>
   aC pg (bA 29 t8 t63) w fun t81 w =>
   aC pg (aJ 27 t81 t80) w fun _u w =>
   aC pg (aG .mul 3 aM aM (.int .i64 2) t63) w fun t85 w =>
   aC pg (aG .sub 3 aM aM (.int .i64 6) t85) w fun t86 w =>
   aC pg (aG .shl 3 aM aM t73 t86) w fun t87 w =>
   aC pg (aG .or 3 aM aM iX t87) w fun t88 w =>
   aC pg (jM .append #[22, 22] 22 [t10, t74]) w fun t91 w =>
   aC pg (aG .add 3 aM aM t63 (.int .i64 1)) w fun t92 w =>
   kn gK kR mM t8 t88 t91 t92 w))
  (k1 gK kR mM t8 iX t10 w)
theorem S1 (kn : K7) (k1 : K6) (R : K1) (hn : N7 Q kn 0 4 6 8 9 10 63) (h1 : E6 Q k1 1 0 4 6 8 9 10) (hr : HR kJ R Q) (h : vH kn k1 R (g 0) (g 4) (g 6) (g 8) (g 9) (g 10) (g 63) w) : bH pg iR (bI (bI (aB 1 (aD 1 (aB 5 (aB 3 iE)))))) Q g w :=
 dS (l := [(1, fun g w => k1 (g 0) (g 4) (g 6) (g 8) (g 9) (g 10) w)]) h hn hr ⟨h1, trivial⟩
def vT (k1 : K6) (R : K1) (gK kR mM t8 iX t10 t63 : aJ3) (w : aJ2) : Prop :=
 cG (fun (X : (aJ3 × aJ3 × aJ3) -> K0) (t : aJ3 × aJ3 × aJ3) (w : aJ2) => vH (fun _ _ _ _ iX t10 t63 w => X (iX, t10, t63) w) k1 R gK kR mM t8 t.1 t.2.1 t.2.2 w) (iX, t10, t63) w
theorem So (k1 : K6) (R : K1) (h1 : E6 Q k1 1 0 4 6 8 9 10) (hr : HR kJ R Q) (h : vT k1 R (g 0) (g 4) (g 6) (g 8) (g 9) (g 10) (g 63) w) : bH pg iR (bI (aB 1 (aD 1 (aB 5 (aB 3 iE))))) Q g w := by
 refine Db (fun g : Env => (g 9, g 10, g 63)) (fun X t w => vH (fun _ _ _ _ iX t10 t63 w => X (iX, t10, t63) w) k1 R (g 0) (g 4) (g 6) (g 8) t.1 t.2.1 t.2.2 w) h (fun X g1 w1 ha hL => ?_)
 rw [<- fF 0 ha, <- fF 4 ha, <- fF 6 ha, <- fF 8 ha] at hL
 exact (S1 _ g1 w1 (fun _ _ _ _ iX t10 t63 w => X (iX, t10, t63) w) k1 R (fun _ _ h => h) h1 hr hL)
def BF (kn : K6) (R : K1) (gK kR mM t8 iX t10 t63 : aJ3) (w : aJ2) : Prop :=
 vT kn R gK kR mM t8 iX t10 t63 w
def Ck (kn : K7) (gK kR mM t8 iX t10 : aJ3) (w : aJ2) : Prop :=
 kn gK kR mM t8 iX t10 (.int .i64 0) w
theorem Sp (kn : K7) (hn : N7 Q kn 0 4 6 8 9 10 63) (h : Ck kn (g 0) (g 4) (g 6) (g 8) (g 9) (g 10) w) : bH pg iR (aD 1 (aD 1 (aB 5 (aB 3 iE)))) Q g w :=
 dS (kr := no) (l := []) h hn eP trivial
def Ci (kn : K6) (R : K1) (gK kR mM t8 iX t10 : aJ3) (w : aJ2) : Prop :=
 Ck (fun gK kR mM t8 iX t10 t63 w => BF kn R gK kR mM t8 iX t10 t63 w) gK kR mM t8 iX t10 w
def B5 (R : K1) (gK kR mM t8 iX t10 : aJ3) (w : aJ2) : Prop :=
 Ci (fun gK kR mM t8 iX t10 w => vP R gK kR mM t8 iX t10 w) R gK kR mM t8 iX t10 w
theorem S7 (kn : K6) (R : K1) (hn : N6 Q kn 0 4 6 8 9 10) (hr : HR kJ R Q) (h : Ci kn R (g 0) (g 4) (g 6) (g 8) (g 9) (g 10) w) : bH pg iR (aD 1 (aB 5 (aB 3 iE))) Q g w :=
 fP 1 (Sp _ g w (BF kn R) (fun g w h => aK (uH 1 (So _ g w kn R hn hr h))) h)
def BU (kn : K6) (R : K1) (gK kR : aJ3) (w : aJ2) : Prop :=
 aR pg xD #[gK] w fun t57 w =>
 aC pg (aW t57 0) w fun t58 w =>
 aC pg (aW t57 1) w fun t59 w =>
 aC pg (bS 98) w fun mM w =>
 aC pg (aJ 98 mM t58) w fun _u w =>
 aC pg (aG .neq 30 (.tmp 60) (.const (.int .i64 0)) t59 (.int .i64 0)) w fun t61 w =>
 eM t61
  (R (.tuple #[(.slice none 0 0), t59]) w)
  (aC pg (bS 29) w fun t8 w =>
  kn gK kR mM t8 (.int .i64 0) (.slice none 0 0) w)
theorem Sv (kn : K6) (R : K1) (hn : N6 Q kn 0 4 6 8 9 10) (hr : HR kJ R Q) (h : BU kn R (g 0) (g 4) w) : bH pg iR (aD 5 (aB 3 iE)) Q g w :=
 dS (l := []) h hn hr trivial
def vM (R : K1) (gK kR : aJ3) (w : aJ2) : Prop :=
 BU (fun gK kR mM t8 iX t10 w => B5 R gK kR mM t8 iX t10 w) R gK kR w
def Az (kn : K2) (R : K1) (gK : aJ3) (w : aJ2) : Prop :=
 aR pg uZ #[] w fun t17 w =>
 aC pg (jM .len #[24] 3 [gK]) w fun t19 w =>
 aC pg (aG .gtr 3 aM aM t19 (.int .i64 98047)) w fun t29 w =>
 eM t29
  (R (.tuple #[(.slice none 0 0), (.int .i64 1)]) w)
  (aC pg (aG .eql 3 (.tmp 31) (.const (.int .i64 0)) t19 (.int .i64 0)) w fun t32 w =>
  eM t32
   (aC pg (bX 22 1 [(0, (.int .u8 0))]) w fun t33 w =>
   R (.tuple #[t33, (.int .i64 0)]) w)
   (aC pg (aG .lss 3 aM aM t19 (.int .i64 128)) w fun t36 w =>
   eM t36
    (aC pg (fL 3 73 t19) w fun t39 w =>
    aR pg gQ #[t17, t39, (.int .i64 1)] w fun t40 w =>
    kn gK t17 w)
    (aC pg (aG .lss 3 aM aM t19 (.int .i64 32512)) w fun t43 w =>
    eM t43
     (aC pg (aG .shr 3 aM aM t19 (.int .u64 8)) w fun t46 w =>
     aC pg (aG .add 3 aM aM t46 (.int .i64 128)) w fun t47 w =>
     aC pg (fL 3 73 t47) w fun t48 w =>
     aR pg gQ #[t17, t48, (.int .i64 1)] w fun t49 w =>
     aC pg (aG .and 3 aM aM t19 (.int .i64 255)) w fun t52 w =>
     aC pg (fL 3 73 t52) w fun t53 w =>
     aR pg gQ #[t17, t53, (.int .i64 1)] w fun t54 w =>
     kn gK t17 w)
     (aR pg gQ #[t17, (.int .u64 255), (.int .i64 1)] w fun t21 w =>
     aC pg (aG .sub 3 aM aM t19 (.int .i64 32512)) w fun t24 w =>
     aC pg (fL 3 73 t24) w fun t25 w =>
     aR pg gQ #[t17, t25, (.int .i64 2)] w fun t26 w =>
     kn gK t17 w))))
theorem Q6 (kn : K2) (R : K1) (hn : N2 Q kn 0 4) (hr : HR kJ R Q) (h : Az kn R (g 0) w) : bH pg iR (aD 3 iE) Q g w :=
 dS (l := []) h hn hr trivial
def Ax (R : K1) (gK : aJ3) (w : aJ2) : Prop :=
 Az (fun gK kR w => vM R gK kR w) R gK w
theorem Qw (R : K1) (hr : HR kJ R Q) (h : Ax R (g 0) w) : bH pg iR iE Q g w :=
 fP 3 (Q6 _ g w (vM R) R (fun g w h => aK (fP 5 (Sv _ g w (B5 R) R (fun g w h => aK (fP 1 (S7 _ g w (vP R) R (fun g w h => aK (Su _ g w R hr h)) hr h))) hr h))) hr h)
def Sa (a0 : aJ3) (w : aJ2) (R : K1) : Prop :=
 Ax R a0 w
theorem TC {a0 : aJ3} {w : aJ2} {R : K1} (h : Sa a0 w R) : aR pg mP #[a0] w R := by
 refine rQ (ann := iR) Tryd.f13 iE [a0] kJ 115 TrydM.mixed Tryd.func13 ?_
 exact (Qw _ _ _ R (fun _ _ h => h) h)
def Gf : FA := ⟨qZ, fun i => .leaf ([], []) []⟩
def Iu : List ResultVar := [.tmp 2]
noncomputable def El : Code := cU Tryd.f16
def An (R : K1) (D3 : aJ3) (w : aJ2) : Prop :=
 aR pg iQ #[D3] w fun t4 w =>
 aC pg (bV 112 [(0, t4)]) w fun t5 w =>
 aC pg (rL 112 t5) w fun t6 w =>
 R t6 w
theorem Qy (R : K1) (hr : HR Iu R Q) (h : An R (g 0) w) : bH pg Gf El Q g w :=
 dS (kn := no) (l := []) h eP hr trivial
def O6 (a0 : aJ3) (w : aJ2) (R : K1) : Prop :=
 An R a0 w
theorem S2 {a0 : aJ3} {w : aJ2} {R : K1} (h : O6 a0 w R) : aR pg qZ #[a0] w R := by
 refine rQ (ann := Gf) Tryd.f16 El [a0] Iu 7 TrydM.mixed Tryd.func16 ?_
 exact (Qy _ _ _ R (fun _ _ h => h) h)
def GG : FA := ⟨vK, fun i => .leaf ([], []) []⟩
def Iw : List ResultVar := [.tmp 2]
noncomputable def D9 : Code := cU Tryd.f17
def Ap (R : K1) (mX : aJ3) (w : aJ2) : Prop :=
 aR pg jJ #[mX, (.int .i64 1)] w fun t5 w =>
 aC pg (fL 73 3 t5) w fun t6 w =>
 aC pg (aG .lss 3 aM aM t6 (.int .i64 128)) w fun t9 w =>
 eM t9
  (R t6 w)
  (aC pg (aG .lss 3 aM aM t6 (.int .i64 255)) w fun t13 w =>
  eM t13
   (aC pg (aG .sub 3 aM aM t6 (.int .i64 128)) w fun t15 w =>
   aC pg (aG .shl 3 aM aM t15 (.int .u64 8)) w fun t16 w =>
   aR pg jJ #[mX, (.int .i64 1)] w fun t18 w =>
   aC pg (fL 73 3 t18) w fun t19 w =>
   aC pg (aG .or 3 aM aM t16 t19) w fun t20 w =>
   R t20 w)
   (aR pg jJ #[mX, (.int .i64 2)] w fun t22 w =>
   aC pg (fL 73 3 t22) w fun t23 w =>
   aC pg (aG .add 3 aM aM t23 (.int .i64 32512)) w fun t24 w =>
   R t24 w))
theorem Qi (R : K1) (hr : HR Iw R Q) (h : Ap R (g 0) w) : bH pg GG D9 Q g w :=
 dS (kn := no) (l := []) h eP hr trivial
def Ps (a0 : aJ3) (w : aJ2) (R : K1) : Prop :=
 Ap R a0 w
theorem SB {a0 : aJ3} {w : aJ2} {R : K1} (h : Ps a0 w R) : aR pg vK #[a0] w R := by
 refine rQ (ann := GG) Tryd.f17 D9 [a0] Iw 25 TrydM.mixed Tryd.func17 ?_
 exact (Qi _ _ _ R (fun _ _ h => h) h)
def Eg : FA := ⟨lD, fun i => .leaf ([], []) []⟩
def Gj : List ResultVar := [.tmp 2]
noncomputable def C2 : Code := cU Tryd.f18
def xU (R : K1) (mX : aJ3) (w : aJ2) : Prop :=
 aC pg (aG .eql 56 (.tmp 3) (.const (.pointer none)) mX (.pointer none)) w fun t4 w =>
 eM t4
  (R (.int .i64 1) w)
  (aC pg (qJ mX) w fun t6 w =>
  aC pg (aL 112 t6 1) w fun t7 w =>
  aC pg (aH 30 t7) w fun t8 w =>
  R t8 w)
theorem OV (R : K1) (hr : HR Gj R Q) (h : xU R (g 0) w) : bH pg Eg C2 Q g w :=
 dS (kn := no) (l := []) h eP hr trivial
def Mk (a0 : aJ3) (w : aJ2) (R : K1) : Prop :=
 xU R a0 w
theorem QP {a0 : aJ3} {w : aJ2} {R : K1} (h : Mk a0 w R) : aR pg lD #[a0] w R := by
 refine rQ (ann := Eg) Tryd.f18 C2 [a0] Gj 9 TrydM.mixed Tryd.func18 ?_
 exact (OV _ _ _ R (fun _ _ h => h) h)
def CO : FA := ⟨mG, fun i => .leaf ([], []) []⟩
def D5 : List ResultVar := [.tmp 2]
noncomputable def Co : Code := cU Tryd.f19
def wT (R : K1) (mX : aJ3) (w : aJ2) : Prop :=
 aC pg (aG .eql 56 (.tmp 3) (.const (.pointer none)) mX (.pointer none)) w fun t4 w =>
 eM t4
  (R (.int .i64 0) w)
  (aC pg (qJ mX) w fun t6 w =>
  aC pg (aL 112 t6 0) w fun t7 w =>
  aC pg (aH 22 t7) w fun t8 w =>
  aC pg (jM .len #[22] 3 [t8]) w fun t9 w =>
  R t9 w)
theorem Ni (R : K1) (hr : HR D5 R Q) (h : wT R (g 0) w) : bH pg CO Co Q g w :=
 dS (kn := no) (l := []) h eP hr trivial
def KH (a0 : aJ3) (w : aJ2) (R : K1) : Prop :=
 wT R a0 w
theorem Pv {a0 : aJ3} {w : aJ2} {R : K1} (h : KH a0 w R) : aR pg mG #[a0] w R := by
 refine rQ (ann := CO) Tryd.f19 Co [a0] D5 10 TrydM.mixed Tryd.func19 ?_
 exact (Ni _ _ _ R (fun _ _ h => h) h)
def fR : FA := ⟨tY, fun i => match Nat.beq i 11 with | true => .split 11 16 (.perm [0, 1, 2, 3, 4, 5, 6, 7, 8, 9, 10, 11, 12, 13, 14, 15, 16, 17, 18, 19] [(11, 16)] ([11, 16, 17], [(13, 16), (14, 16), (14, 17), (15, 16), (15, 17)]) [(false, []), (false, []), (false, []), (false, []), (false, []), (false, []), (false, []), (false, []), (false, []), (false, []), (false, []), (true, []), (false, []), (false, []), (false, []), (false, []), (true, [0, 1, 2]), (true, [1, 2]), (false, []), (false, [])]) (.perm [0, 1, 2, 3, 4, 5, 6, 7, 8, 9, 10, 16, 11, 12, 13, 14, 15, 17, 18, 19] [(16, 11)] ([11, 12, 17], [(3, 11), (4, 11), (5, 11), (6, 11), (9, 11), (10, 11), (15, 17), (16, 17)]) [(false, []), (false, []), (false, []), (false, []), (false, []), (false, []), (false, []), (false, []), (false, []), (false, []), (false, []), (true, [0, 1, 4, 5, 6, 7]), (true, []), (false, []), (false, []), (false, []), (false, []), (true, [0, 1]), (false, []), (false, [])]) | false => match Nat.beq i 14 with | true => .leaf ([6], [(4, 6)]) [(false, []), (false, []), (false, []), (false, []), (false, []), (false, []), (true, [1]), (false, [])] | false => .leaf ([], []) []⟩
def kB : List ResultVar := [.cell 4 29, .tmp 5]
noncomputable def fA : Code := cU Tryd.f20
def xK (R : K1) (mX t4 AF t8 : aJ3) (w : aJ2) : Prop :=
 aR pg qZ #[AF] w fun t65 w =>
 aC pg (qJ t65) w fun t66 w =>
 aC pg (aH 112 t66) w fun t67 w =>
 aC pg (qJ mX) w fun t68 w =>
 aC pg (aJ 112 t68 t67) w fun _u w =>
 aC pg (aH 29 t8) w fun t69 w =>
 aC pg (aJ 29 t4 t69) w fun _u w =>
 kI pg 29 t4 w fun r0 => R (.tuple #[r0, (.int .i64 0)]) w
theorem Tl (R : K1) (hr : HR kB R Q) (h : xK R (g 0) (g 4) (g 7) (g 8) w) : bH pg fR (aB 1 (aB 5 fA)) Q g w :=
 dS (kn := no) (l := []) h eP hr trivial
def sN (kn : K7) (mX cI t4 fE AF t8 t33 : aJ3) (w : aJ2) : Prop :=
 aC pg (aG .add 3 aM aM t33 (.int .i64 1)) w fun t62 w =>
 kn mX cI t4 fE AF t8 t62 w
theorem Tq (kn : K7) (hn : N7 Q kn 0 3 4 6 7 8 33) (h : sN kn (g 0) (g 3) (g 4) (g 6) (g 7) (g 8) (g 33) w) : bH pg fR (aB 1 (aB 2 (bI (bI (aB 1 (aD 1 (aB 5 fA))))))) Q g w :=
 dS (kr := no) (l := []) h hn eP trivial
def mS (kn : K7) (R : K1) (mX cI t4 fE AF t8 amN vN aB9 aBL t33 : aJ3) (w : aJ2) : Prop :=
 aC pg (aG .neq 30 (.tmp 52) (.const (.int .i64 0)) aBL (.int .i64 0)) w fun t53 w =>
 eM t53
  (aC pg (bV 29 []) w fun t54 w =>
  aC pg (aJ 29 t4 t54) w fun _u w =>
  kI pg 29 t4 w fun r0 => R (.tuple #[r0, aBL]) w)
  ((dr w) = (dr w) /\
  aC pg (aH 27 vN) (dr w) fun t57 w_ => w_ = (dr w) /\
  (dr w) = (dr w) /\
  (dr w) = (dr w) /\
  aC pg (fH 22 AF (some aB9) none none) (dr w) fun t60 w_ => w_ = (dr w) /\
  aC pg (bA 29 t8 amN) (dr w) fun t61 w_ => w_ = (dr w) /\
  aC pg (aJ 27 t61 t57) (dr w) fun _u6 aAX =>
  (eD pg (fH 22 AF (some aB9) none none) t60 aAX /\ True) /\
  aAX = aAX /\
  kn mX cI t4 fE t60 t8 t33 aAX)
theorem Tm (kn : K7) (R : K1) (hn : N7 Q kn 0 3 4 6 7 8 33) (hr : HR kB R Q) (h : mS kn R (g 0) (g 3) (g 4) (g 6) (g 7) (g 8) (g 9) (g 10) (g 11) (g 12) (g 33) w) : bH pg fR (aB 2 (bI (aD 1 (aB 2 (bI (bI (aB 1 (aD 1 (aB 5 fA))))))))) Q g w :=
 dS (l := []) h hn hr trivial
def Dh (kn : K11) (mX cI t4 fE AF t8 t33 : aJ3) (w : aJ2) : Prop :=
 Ord (aqK tY 11 (IH 11 fA) 11 16 w)
  ((dr w) = (dr w) /\
  (dr w) = (dr w) /\
  (dr w) = (dr w) /\
  aC pg (aG .mul 3 aM aM (.int .i64 2) t33) (dr w) fun t40 w_ => w_ = (dr w) /\
  aC pg (aG .sub 3 aM aM (.int .i64 6) t40) (dr w) fun t41 w_ => w_ = (dr w) /\
  aC pg (aG .shr 3 aM aM fE t41) (dr w) fun t42 w_ => w_ = (dr w) /\
  aC pg (aG .and 3 aM aM t42 (.int .i64 3)) (dr w) fun t43 w_ => w_ = (dr w) /\
  (dr w) = (dr w) /\
  (dr w) = (dr w) /\
  aC pg (bA 29 cI t33) (dr w) fun t46 w_ => w_ = (dr w) /\
  aC pg (aH 27 t46) (dr w) fun t47 w_ => w_ = (dr w) /\
  aR pg AI #[t33, t43, AF, t47] (dr w) fun t48 xW =>
  xW = xW /\
  aC pg (aW t48 0) xW fun t49 w_ => w_ = xW /\
  aC pg (aW t48 1) xW fun t50 w_ => w_ = xW /\
  aC pg (aW t48 2) xW fun t51 w_ => w_ = xW /\
  aC pg (bS 27) xW fun vN auT =>
  (eD pg (aW t48 2) t51 auT /\ eD pg (aW t48 1) t50 auT /\ eD pg (aW t48 0) t49 auT /\ True) /\
  aC pg (aJ 27 vN t49) auT fun _u17 BQ =>
  (eD pg (aW t48 2) t51 BQ /\ eD pg (aW t48 1) t50 BQ /\ True) /\
  BQ = BQ /\
  BQ = BQ /\
  kn mX cI t4 fE AF t8 t33 vN t50 t51 t33 BQ)
  ((dr w) = (dr w) /\
  (dr w) = (dr w) /\
  (dr w) = (dr w) /\
  aC pg (aG .mul 3 aM aM (.int .i64 2) t33) (dr w) fun t40 w_ => w_ = (dr w) /\
  aC pg (aG .sub 3 aM aM (.int .i64 6) t40) (dr w) fun t41 w_ => w_ = (dr w) /\
  aC pg (aG .shr 3 aM aM fE t41) (dr w) fun t42 w_ => w_ = (dr w) /\
  aC pg (aG .and 3 aM aM t42 (.int .i64 3)) (dr w) fun t43 w_ => w_ = (dr w) /\
  (dr w) = (dr w) /\
  (dr w) = (dr w) /\
  aC pg (bA 29 cI t33) (dr w) fun t46 w_ => w_ = (dr w) /\
  aC pg (aH 27 t46) (dr w) fun t47 w_ => w_ = (dr w) /\
  aC pg (bS 27) (dr w) fun vN xW =>
  (eD pg (aH 27 t46) t47 xW /\ eD pg (bA 29 cI t33) t46 xW /\ eD pg (aG .and 3 aM aM t42 (.int .i64 3)) t43 xW /\ eD pg (aG .shr 3 aM aM fE t41) t42 xW /\ eD pg (aG .sub 3 aM aM (.int .i64 6) t40) t41 xW /\ eD pg (aG .mul 3 aM aM (.int .i64 2) t33) t40 xW /\ True) /\
  aR pg AI #[t33, t43, AF, t47] xW fun t48 QW =>
  QW = QW /\
  aC pg (aW t48 0) QW fun t49 w_ => w_ = QW /\
  aC pg (aW t48 1) QW fun t50 w_ => w_ = QW /\
  aC pg (aW t48 2) QW fun t51 w_ => w_ = QW /\
  aC pg (aJ 27 vN t49) QW fun _u17 BQ =>
  (eD pg (aW t48 2) t51 BQ /\ eD pg (aW t48 1) t50 BQ /\ True) /\
  BQ = BQ /\
  BQ = BQ /\
  kn mX cI t4 fE AF t8 t33 vN t50 t51 t33 BQ)
theorem Ti (kn : K11) (hn : N11 Q kn 0 3 4 6 7 8 9 10 11 12 33) (h : Dh kn (g 0) (g 3) (g 4) (g 6) (g 7) (g 8) (g 33) w) : bH pg fR (aD 2 (bI (aD 1 (aB 2 (bI (bI (aB 1 (aD 1 (aB 5 fA))))))))) Q g w :=
 dS (kr := no) (l := []) h hn eP trivial
def My (kn : K7) (R : K1) (mX cI t4 fE AF t8 t33 : aJ3) (w : aJ2) : Prop :=
 Dh (fun mX cI t4 fE AF t8 amN vN aB9 aBL t33 w => mS kn R mX cI t4 fE AF t8 amN vN aB9 aBL t33 w) mX cI t4 fE AF t8 t33 w
def DM (kn : K7) (R : K1) (mX cI t4 fE AF t8 t33 : aJ3) (w : aJ2) : Prop :=
 My kn R mX cI t4 fE AF t8 t33 w
def CY (kn : K7) (R : K1) (mX cI t4 fE AF t8 t33 : aJ3) (w : aJ2) : Prop :=
 DM (fun mX cI t4 fE AF t8 t33 w => sN kn mX cI t4 fE AF t8 t33 w) R mX cI t4 fE AF t8 t33 w
theorem T4 (kn : K7) (R : K1) (hn : N7 Q kn 0 3 4 6 7 8 33) (hr : HR kB R Q) (h : DM kn R (g 0) (g 3) (g 4) (g 6) (g 7) (g 8) (g 33) w) : bH pg fR (aD 1 (aB 2 (bI (bI (aB 1 (aD 1 (aB 5 fA))))))) Q g w :=
 uH 2 (fP 2 (Ti _ g w (mS kn R) (fun g w h => aK (Tm _ g w kn R hn hr h)) h))
def C5 (kn : K7) (k1 : K4) (mX cI t4 fE AF t8 t33 : aJ3) (w : aJ2) : Prop :=
 aC pg (aG .lss 3 aM aM t33 (.int .i64 3)) w fun t34 w =>
 eM t34
  (kn mX cI t4 fE AF t8 t33 w)
  (k1 mX t4 AF t8 w)
theorem Un (kn : K7) (k1 : K4) (hn : N7 Q kn 0 3 4 6 7 8 33) (h1 : E4 Q k1 1 0 4 7 8) (h : C5 kn k1 (g 0) (g 3) (g 4) (g 6) (g 7) (g 8) (g 33) w) : bH pg fR (aD 2 (bI (bI (aB 1 (aD 1 (aB 5 fA)))))) Q g w :=
 dS (kr := no) (l := [(1, fun g w => k1 (g 0) (g 4) (g 7) (g 8) w)]) h hn eP ⟨h1, trivial⟩
def xM (kn : K7) (k1 : K4) (R : K1) (mX cI t4 fE AF t8 t33 : aJ3) (w : aJ2) : Prop :=
 C5 (fun mX cI t4 fE AF t8 t33 w => CY kn R mX cI t4 fE AF t8 t33 w) k1 mX cI t4 fE AF t8 t33 w
def Cd (k1 : K4) (R : K1) (mX cI t4 fE AF t8 t33 : aJ3) (w : aJ2) : Prop :=
 cG (fun (X : (aJ3 × aJ3) -> K0) (t : aJ3 × aJ3) (w : aJ2) => xM (fun _ _ _ _ AF _ t33 w => X (AF, t33) w) k1 R mX cI t4 fE t.1 t8 t.2 w) (AF, t33) w
theorem Th (kn : K7) (k1 : K4) (R : K1) (hn : N7 Q kn 0 3 4 6 7 8 33) (h1 : E4 Q k1 1 0 4 7 8) (hr : HR kB R Q) (h : xM kn k1 R (g 0) (g 3) (g 4) (g 6) (g 7) (g 8) (g 33) w) : bH pg fR (bI (bI (aB 1 (aD 1 (aB 5 fA))))) Q g w :=
 fP 2 (Un _ g w (CY kn R) k1 (fun g w h => aK (fP 1 (T4 _ g w (sN kn) R (fun g w h => aK (Tq _ g w kn hn h)) hr h))) h1 h)
theorem SZ (k1 : K4) (R : K1) (h1 : E4 Q k1 1 0 4 7 8) (hr : HR kB R Q) (h : Cd k1 R (g 0) (g 3) (g 4) (g 6) (g 7) (g 8) (g 33) w) : bH pg fR (bI (aB 1 (aD 1 (aB 5 fA)))) Q g w := by
 refine Db (fun g : Env => (g 7, g 33)) (fun X t w => xM (fun _ _ _ _ AF _ t33 w => X (AF, t33) w) k1 R (g 0) (g 3) (g 4) (g 6) t.1 (g 8) t.2 w) h (fun X g1 w1 ha hL => ?_)
 rw [<- fF 0 ha, <- fF 3 ha, <- fF 4 ha, <- fF 6 ha, <- fF 8 ha] at hL
 exact (Th _ g1 w1 (fun _ _ _ _ AF _ t33 w => X (AF, t33) w) k1 R (fun _ _ h => h) h1 hr hL)
def By (kn : K4) (R : K1) (mX cI t4 fE AF t8 t33 : aJ3) (w : aJ2) : Prop :=
 Cd kn R mX cI t4 fE AF t8 t33 w
def B0 (kn : K7) (mX cI t4 fE AF t8 : aJ3) (w : aJ2) : Prop :=
 kn mX cI t4 fE AF t8 (.int .i64 0) w
theorem SS (kn : K7) (hn : N7 Q kn 0 3 4 6 7 8 33) (h : B0 kn (g 0) (g 3) (g 4) (g 6) (g 7) (g 8) w) : bH pg fR (aD 1 (aD 1 (aB 5 fA))) Q g w :=
 dS (kr := no) (l := []) h hn eP trivial
def BN (kn : K4) (R : K1) (mX cI t4 fE AF t8 : aJ3) (w : aJ2) : Prop :=
 B0 (fun mX cI t4 fE AF t8 t33 w => By kn R mX cI t4 fE AF t8 t33 w) mX cI t4 fE AF t8 w
def Cb (R : K1) (mX cI t4 fE AF t8 : aJ3) (w : aJ2) : Prop :=
 BN (fun mX t4 AF t8 w => xK R mX t4 AF t8 w) R mX cI t4 fE AF t8 w
theorem Sx (kn : K4) (R : K1) (hn : N4 Q kn 0 4 7 8) (hr : HR kB R Q) (h : BN kn R (g 0) (g 3) (g 4) (g 6) (g 7) (g 8) w) : bH pg fR (aD 1 (aB 5 fA)) Q g w :=
 fP 1 (SS _ g w (By kn R) (fun g w h => aK (uH 1 (SZ _ g w kn R hn hr h))) h)
def B6 (kn : K6) (R : K1) (mX JR : aJ3) (w : aJ2) : Prop :=
 aC pg (rL 29 JR) w fun cI w =>
 aC pg (bS 29) w fun t4 w =>
 aR pg jJ #[mX, (.int .i64 1)] w fun t14 w =>
 aC pg (fL 73 3 t14) w fun t15 w =>
 aR pg lD #[mX] w fun t18 w =>
 aC pg (aG .neq 30 (.tmp 18) (.const (.int .i64 0)) t18 (.int .i64 0)) w fun t19 w =>
 eM t19
  (aC pg (bV 29 []) w fun t20 w =>
  aR pg lD #[mX] w fun t22 w =>
  aC pg (aJ 29 t4 t20) w fun _u w =>
  kI pg 29 t4 w fun r0 => R (.tuple #[r0, t22]) w)
  (aC pg (aG .and 3 aM aM t15 (.int .i64 3)) w fun t25 w =>
  aC pg (aG .neq 3 (.tmp 25) (.const (.int .i64 0)) t25 (.int .i64 0)) w fun t26 w =>
  eM t26
   (aC pg (bV 29 []) w fun t27 w =>
   aC pg (aJ 29 t4 t27) w fun _u w =>
   kI pg 29 t4 w fun r0 => R (.tuple #[r0, (.int .i64 11)]) w)
   (aR pg mG #[mX] w fun t30 w =>
   aR pg nN #[mX, t30] w fun t31 w =>
   aC pg (aH 29 cI) w fun t32 w =>
   aC pg (bS 29) w fun t8 w =>
   aC pg (aJ 29 t8 t32) w fun _u w =>
   kn mX cI t4 t15 t31 t8 w))
theorem SQ (kn : K6) (R : K1) (hn : N6 Q kn 0 3 4 6 7 8) (hr : HR kB R Q) (h : B6 kn R (g 0) (g 1) w) : bH pg fR (aD 5 fA) Q g w :=
 dS (l := []) h hn hr trivial
def Cg (R : K1) (mX JR : aJ3) (w : aJ2) : Prop :=
 B6 (fun mX cI t4 fE AF t8 w => Cb R mX cI t4 fE AF t8 w) R mX JR w
theorem Sn (R : K1) (hr : HR kB R Q) (h : Cg R (g 0) (g 1) w) : bH pg fR fA Q g w :=
 fP 5 (SQ _ g w (Cb R) R (fun g w h => aK (fP 1 (Sx _ g w (xK R) R (fun g w h => aK (Tl _ g w R hr h)) hr h))) hr h)
def TP (a0 a1 : aJ3) (w : aJ2) (R : K1) : Prop :=
 Cg R a0 a1 w
theorem VH {a0 a1 : aJ3} {w : aJ2} {R : K1} (h : TP a0 a1 w R) : aR pg tY #[a0, a1] w R := by
 refine rQ (ann := fR) Tryd.f20 fA [a0, a1] kB 70 TrydM.mixed Tryd.func20 ?_
 exact (Sn _ _ _ R (fun _ _ h => h) h)
def Gv : FA := ⟨qN, fun i => match Nat.beq i 3 with | true => .leaf ([1, 12, 16], [(1, 3), (1, 4), (1, 5), (1, 8), (1, 9), (1, 10), (1, 11), (3, 12), (4, 12), (5, 12)]) [(false, []), (true, []), (false, []), (false, [1]), (false, [2]), (false, [3]), (false, []), (false, []), (false, [6]), (false, [7]), (false, [8]), (false, [9]), (true, [6, 7, 8]), (false, []), (false, []), (false, []), (true, []), (false, []), (false, [])] | false => .leaf ([], []) []⟩
def IK : List ResultVar := [.tmp 2, .tmp 3]
noncomputable def Ei : Code := cU Tryd.f21
def tG (R : K1) (D3 : aJ3) (w : aJ2) : Prop :=
 aC pg (jM .len #[22] 3 [D3]) w fun t5 w =>
 aC pg (aG .eql 3 (.tmp 5) (.const (.int .i64 0)) t5 (.int .i64 0)) w fun t6 w =>
 Gd (eX t6 false) (fun K => K D3 w) w fun t8 w =>
 Gd (eX t6 false) (fun K => K D3 w) w fun t9 w =>
 Gd (eX t6 false) (fun K => aC pg (jM .len #[22] 3 [t9]) w K) w fun t10 w =>
 Gd (eX t6 false) (fun K => aC pg (aG .sub 3 aM aM t10 (.int .i64 1)) w K) w fun t11 w =>
 Gd (eX t6 false) (fun K => aC pg (bA 22 t8 t11) w K) w fun t12 w =>
 Gd (eX t6 false) (fun K => aC pg (aH 5 t12) w K) w fun t13 w =>
 Gd (eX t6 false) (fun K => aC pg (aG .eql 5 (.tmp 13) (.const (.int .u8 0)) t13 (.int .u8 0)) w K) w fun t14 w =>
 aC pg (fI t6 (.bool true) t14) w fun t15 w =>
 eM t15
  (R (.tuple #[(.pointer none), (.int .i64 11)]) w)
  ((dr w) = (dr w) /\
  aR pg iQ #[D3] (dr w) fun t17 Nj =>
  Nj = Nj /\
  aC pg (jM .len #[22] 3 [D3]) Nj fun t19 w_ => w_ = Nj /\
  (eD pg (jM .len #[22] 3 [D3]) t19 (dr w) /\ True) /\
  aC pg (aG .sub 3 aM aM t19 (.int .i64 1)) Nj fun t20 w_ => w_ = Nj /\
  (eD pg (aG .sub 3 aM aM t19 (.int .i64 1)) t20 (dr w) /\ True) /\
  aC pg (aG .mul 3 aM aM (.int .i64 8) t20) Nj fun t21 w_ => w_ = Nj /\
  (eD pg (aG .mul 3 aM aM (.int .i64 8) t20) t21 (dr w) /\ True) /\
  Nj = Nj /\
  Nj = Nj /\
  aC pg (jM .len #[22] 3 [D3]) Nj fun t24 w_ => w_ = Nj /\
  (eD pg (jM .len #[22] 3 [D3]) t24 (dr w) /\ True) /\
  aC pg (aG .sub 3 aM aM t24 (.int .i64 1)) Nj fun t25 w_ => w_ = Nj /\
  (eD pg (aG .sub 3 aM aM t24 (.int .i64 1)) t25 (dr w) /\ True) /\
  aC pg (bA 22 D3 t25) Nj fun t26 w_ => w_ = Nj /\
  (eD pg (bA 22 D3 t25) t26 (dr w) /\ True) /\
  aC pg (aH 5 t26) Nj fun t27 w_ => w_ = Nj /\
  (eD pg (aH 5 t26) t27 (dr w) /\ True) /\
  aR pg zZ #[t27] Nj fun t28 VR =>
  (eD pg (aG .mul 3 aM aM (.int .i64 8) t20) t21 VR /\ eD pg (aG .sub 3 aM aM t19 (.int .i64 1)) t20 VR /\ eD pg (jM .len #[22] 3 [D3]) t19 VR /\ True) /\
  aC pg (aG .add 3 aM aM t21 t28) VR fun t29 w_ => w_ = VR /\
  aC pg (aG .sub 3 aM aM t29 (.int .i64 1)) VR fun t30 w_ => w_ = VR /\
  aC pg (bV 118 [(0, t17), (1, t30)]) VR fun t31 w_ => w_ = VR /\
  aC pg (rL 118 t31) VR fun t32 avY =>
  avY = avY /\
  avY = avY /\
  R (.tuple #[t32, (.int .i64 0)]) avY)
theorem Rt (R : K1) (hr : HR IK R Q) (h : tG R (g 0) w) : bH pg Gv Ei Q g w :=
 dS (kn := no) (l := []) h eP hr trivial
def Fj (a0 : aJ3) (w : aJ2) (R : K1) : Prop :=
 tG R a0 w
theorem Ej {a0 : aJ3} {w : aJ2} {R : K1} (h : Fj a0 w R) : aR pg qN #[a0] w R := by
 refine rQ (ann := Gv) Tryd.f21 Ei [a0] IK 33 TrydM.mixed Tryd.func21 ?_
 exact (Rt _ _ _ R (fun _ _ h => h) h)
def Cq : FA := ⟨nN, fun i => .leaf ([], []) []⟩
def DP : List ResultVar := [.tmp 4]
noncomputable def AP : Code := cU Tryd.f22
def vS (R : K1) (mX pU : aJ3) (w : aJ2) : Prop :=
 aC pg (aG .eql 56 (.tmp 5) (.const (.pointer none)) mX (.pointer none)) w fun t6 w =>
 eM t6
  (R (.slice none 0 0) w)
  (aC pg (aG .geq 3 aM aM pU (.int .i64 0)) w fun t10 w =>
  aR pg oI #[mX, pU, t10] w fun t11 w =>
  R t11 w)
theorem L3 (R : K1) (hr : HR DP R Q) (h : vS R (g 0) (g 1) w) : bH pg Cq AP Q g w :=
 dS (kn := no) (l := []) h eP hr trivial
def Ix (a0 a1 : aJ3) (w : aJ2) (R : K1) : Prop :=
 vS R a0 a1 w
theorem Ox {a0 a1 : aJ3} {w : aJ2} {R : K1} (h : Ix a0 a1 w R) : aR pg nN #[a0, a1] w R := by
 refine rQ (ann := Cq) Tryd.f22 AP [a0, a1] DP 12 TrydM.mixed Tryd.func22 ?_
 exact (L3 _ _ _ R (fun _ _ h => h) h)
def VY : FA := ⟨Mb, fun i => .leaf ([], []) []⟩
def abE : List ResultVar := [.tmp 4]
noncomputable def Td : Code := cU Tryd.f23
def Q8 (R : K1) (t0 r_1 : aJ3) (w : aJ2) : Prop :=
 aC pg (rL 27 t0) w fun t2 w =>
 aC pg (aL 27 t2 0) w fun t6 w =>
 aC pg (aH 3 t6) w fun t7 w =>
 aR pg mB #[r_1, t7] w fun t8 w =>
 aC pg (fL 73 3 t8) w fun t9 w =>
 R t9 w
theorem ajZ (R : K1) (hr : HR abE R Q) (h : Q8 R (g 0) (g 1) w) : bH pg VY Td Q g w :=
 dS (kn := no) (l := []) h eP hr trivial
def asE (a0 a1 : aJ3) (w : aJ2) (R : K1) : Prop :=
 Q8 R a0 a1 w
theorem amI {a0 a1 : aJ3} {w : aJ2} {R : K1} (h : asE a0 a1 w R) : aR pg Mb #[a0, a1] w R := by
 refine rQ (ann := VY) Tryd.f23 Td [a0, a1] abE 10 TrydM.mixed Tryd.func23 ?_
 exact (ajZ _ _ _ R (fun _ _ h => h) h)
def II : FA := ⟨pI, fun i => .leaf ([], []) []⟩
def LS : List ResultVar := [.tmp 8]
noncomputable def Gr : Code := cU Tryd.f24
def B3 (R : K1) (aQ t1 Zn r_3 : aJ3) (w : aJ2) : Prop :=
 aC pg (rL 27 t1) w fun t5 w =>
 aC pg (aG .lss 3 aM aM Zn (.int .i64 0)) w fun t13 w =>
 Gd (eX t13 false) (fun K => K Zn w) w fun t15 w =>
 Gd (eX t13 false) (fun K => aC pg (aL 27 t5 1) w K) w fun t16 w =>
 Gd (eX t13 false) (fun K => aC pg (aH 25 t16) w K) w fun t17 w =>
 Gd (eX t13 false) (fun K => aC pg (jM .len #[25] 3 [t17]) w K) w fun t18 w =>
 Gd (eX t13 false) (fun K => aC pg (aG .geq 3 aM aM t15 t18) w K) w fun t19 w =>
 aC pg (fI t13 (.bool true) t19) w fun t20 w =>
 eM t20
  (R (.int .u32 0) w)
  (aC pg (aL 27 t5 1) w fun t23 w =>
  aC pg (aH 25 t23) w fun t24 w =>
  aC pg (bA 25 t24 Zn) w fun t26 w =>
  aC pg (aL 123 t26 0) w fun t27 w =>
  aC pg (aH 5 t27) w fun t28 w =>
  aC pg (fL 5 3 t28) w fun t29 w =>
  aR pg Di #[aQ, t29] w fun t30 w =>
  aC pg (aW t30 0) w fun t31 w =>
  aC pg (aW t30 1) w fun t32 w =>
  aC pg (aW t30 2) w fun t33 w =>
  aR pg mB #[r_3, t32] w fun t37 w =>
  aC pg (fL 73 43 t37) w fun t38 w =>
  aC pg (aG .add 43 aM aM t31 t38) w fun t39 w =>
  R t39 w)
theorem SU (R : K1) (hr : HR LS R Q) (h : B3 R (g 0) (g 1) (g 2) (g 3) w) : bH pg II Gr Q g w :=
 dS (kn := no) (l := []) h eP hr trivial
def RU (a0 a1 a2 a3 : aJ3) (w : aJ2) (R : K1) : Prop :=
 B3 R a0 a1 a2 a3 w
theorem Ul {a0 a1 a2 a3 : aJ3} {w : aJ2} {R : K1} (h : RU a0 a1 a2 a3 w R) : aR pg pI #[a0, a1, a2, a3] w R := by
 refine rQ (ann := II) Tryd.f24 Gr [a0, a1, a2, a3] LS 40 TrydM.mixed Tryd.func24 ?_
 exact (SU _ _ _ R (fun _ _ h => h) h)
def ZQ : FA := ⟨P5, fun i => match Nat.beq i 4 with | true => .leaf ([5], [(0, 5), (1, 5)]) [(false, []), (false, []), (false, []), (false, []), (false, []), (true, [3, 4]), (false, []), (false, []), (false, [])] | false => .leaf ([], []) []⟩
def aiP : List ResultVar := [.tmp 6]
noncomputable def Wd : Code := cU Tryd.f25
def UA (R : K1) (t0 hY EC : aJ3) (w : aJ2) : Prop :=
 aC pg (rL 27 t0) w fun t3 w =>
 aC pg (aG .lss 3 aM aM hY (.int .i64 0)) w fun t9 w =>
 Gd (eX t9 false) (fun K => K hY w) w fun t11 w =>
 Gd (eX t9 false) (fun K => aC pg (aL 27 t3 1) w K) w fun t12 w =>
 Gd (eX t9 false) (fun K => aC pg (aH 25 t12) w K) w fun t13 w =>
 Gd (eX t9 false) (fun K => aC pg (jM .len #[25] 3 [t13]) w K) w fun t14 w =>
 Gd (eX t9 false) (fun K => aC pg (aG .geq 3 aM aM t11 t14) w K) w fun t15 w =>
 aC pg (fI t9 (.bool true) t15) w fun t16 w =>
 eM t16
  (R (.int .i64 0) w)
  (aC pg (aL 27 t3 1) w fun t17 w =>
  aC pg (aH 25 t17) w fun t18 w =>
  aC pg (bA 25 t18 hY) w fun t20 w =>
  aC pg (aH 123 t20) w fun t21 w =>
  aC pg (bS 123) w fun pD w =>
  aC pg (aJ 123 pD t21) w fun _u w =>
  aC pg (aL 123 pD 2) (dr w) fun t22 w_ => w_ = (dr w) /\
  aC pg (aH 3 t22) (dr w) fun t23 w_ => w_ = (dr w) /\
  (dr w) = (dr w) /\
  aC pg (aL 123 pD 1) (dr w) fun t25 w_ => w_ = (dr w) /\
  aC pg (aH 3 t25) (dr w) fun t26 w_ => w_ = (dr w) /\
  aR pg mB #[EC, t26] (dr w) fun t27 auP =>
  (eD pg (aH 3 t22) t23 auP /\ eD pg (aL 123 pD 2) t22 auP /\ True) /\
  aC pg (fL 73 3 t27) auP fun t28 w_ => w_ = auP /\
  aC pg (aG .add 3 aM aM t23 t28) auP fun t29 w_ => w_ = auP /\
  auP = auP /\
  R t29 auP)
theorem anY (R : K1) (hr : HR aiP R Q) (h : UA R (g 0) (g 1) (g 2) w) : bH pg ZQ Wd Q g w :=
 dS (kn := no) (l := []) h eP hr trivial
def axU (a0 a1 a2 : aJ3) (w : aJ2) (R : K1) : Prop :=
 UA R a0 a1 a2 w
theorem aqG {a0 a1 a2 : aJ3} {w : aJ2} {R : K1} (h : axU a0 a1 a2 w R) : aR pg P5 #[a0, a1, a2] w R := by
 refine rQ (ann := ZQ) Tryd.f25 Wd [a0, a1, a2] aiP 30 TrydM.mixed Tryd.func25 ?_
 exact (anY _ _ _ R (fun _ _ h => h) h)
def DB : FA := ⟨oH, fun i => .leaf ([], []) []⟩
def Eb : List ResultVar := [.tmp 2]
noncomputable def Cx : Code := cU Tryd.f26
def wW (R : K1) (mX : aJ3) (w : aJ2) : Prop :=
 aC pg (aG .eql 63 (.tmp 3) (.const (.pointer none)) mX (.pointer none)) w fun t4 w =>
 eM t4
  (R (.int .i64 0) w)
  (aC pg (qJ mX) w fun t6 w =>
  aC pg (aL 118 t6 1) w fun t7 w =>
  aC pg (aH 3 t7) w fun t8 w =>
  R t8 w)
theorem NP (R : K1) (hr : HR Eb R Q) (h : wW R (g 0) w) : bH pg DB Cx Q g w :=
 dS (kn := no) (l := []) h eP hr trivial
def JA (a0 : aJ3) (w : aJ2) (R : K1) : Prop :=
 wW R a0 w
theorem PO {a0 : aJ3} {w : aJ2} {R : K1} (h : JA a0 w R) : aR pg oH #[a0] w R := by
 refine rQ (ann := DB) Tryd.f26 Cx [a0] Eb 9 TrydM.mixed Tryd.func26 ?_
 exact (NP _ _ _ R (fun _ _ h => h) h)
def PB : FA := ⟨zI, fun i => .leaf ([], []) []⟩
def RK : List ResultVar := [.cell 2 72, .tmp 3]
noncomputable def Mv : Code := cU Tryd.f27
def Hm (R : K1) (mX : aJ3) (w : aJ2) : Prop :=
 aC pg (rL 72 mX) w fun r_1 w =>
 aC pg (bS 72) w fun t2 w =>
 aC pg (aH 72 r_1) w fun t10 w =>
 aR pg oY #[t10, (.int .i64 1)] w fun t11 w =>
 aC pg (aW t11 0) w fun t12 w =>
 aC pg (aW t11 1) w fun t13 w =>
 aC pg (aJ 72 r_1 t12) w fun _u w =>
 aC pg (aG .lss 73 aM aM t13 (.int .u64 128)) w fun t15 w =>
 eM t15
  (aC pg (aH 72 r_1) w fun t16 w =>
  aC pg (aJ 72 t2 t16) w fun _u w =>
  kI pg 72 t2 w fun r0 => R (.tuple #[r0, t13]) w)
  (aC pg (aG .lss 73 aM aM t13 (.int .u64 255)) w fun t19 w =>
  eM t19
   (aC pg (aH 72 r_1) w fun t21 w =>
   aR pg oY #[t21, (.int .i64 1)] w fun t22 w =>
   aC pg (aW t22 0) w fun t23 w =>
   aC pg (aW t22 1) w fun t24 w =>
   aC pg (bS 72) w fun s_5 w =>
   aC pg (aJ 72 s_5 t23) w fun _u w =>
   aC pg (aH 72 s_5) w fun t25 w =>
   aC pg (aG .sub 73 aM aM t13 (.int .u64 128)) w fun t27 w =>
   aC pg (aG .mul 73 aM aM t27 (.int .u64 256)) w fun t28 w =>
   aC pg (aG .add 73 aM aM t28 t24) w fun t30 w =>
   aC pg (aJ 72 t2 t25) w fun _u w =>
   kI pg 72 t2 w fun r0 => R (.tuple #[r0, t30]) w)
   (aC pg (aH 72 r_1) w fun t32 w =>
   aR pg oY #[t32, (.int .i64 2)] w fun t33 w =>
   aC pg (aW t33 0) w fun t34 w =>
   aC pg (aW t33 1) w fun t35 w =>
   aC pg (bS 72) w fun s_7 w =>
   aC pg (aJ 72 s_7 t34) w fun _u w =>
   aC pg (aH 72 s_7) w fun t36 w =>
   aC pg (aG .add 73 aM aM t35 (.int .u64 32512)) w fun t38 w =>
   aC pg (aJ 72 t2 t36) w fun _u w =>
   kI pg 72 t2 w fun r0 => R (.tuple #[r0, t38]) w))
theorem WL (R : K1) (hr : HR RK R Q) (h : Hm R (g 0) w) : bH pg PB Mv Q g w :=
 dS (kn := no) (l := []) h eP hr trivial
def Y5 (a0 : aJ3) (w : aJ2) (R : K1) : Prop :=
 Hm R a0 w
theorem Z0 {a0 : aJ3} {w : aJ2} {R : K1} (h : Y5 a0 w R) : aR pg zI #[a0] w R := by
 refine rQ (ann := PB) Tryd.f27 Mv [a0] RK 39 TrydM.mixed Tryd.func27 ?_
 exact (WL _ _ _ R (fun _ _ h => h) h)
def kU : FA := ⟨oY, fun i => .leaf ([], []) []⟩
def HW : List ResultVar := [.cell 4 72, .tmp 5]
noncomputable def kA : Code := cU Tryd.f28
def A6 (R : K1) (EC t4 pD : aJ3) (w : aJ2) : Prop :=
 aC pg (aH 72 EC) w fun t44 w =>
 aC pg (aJ 72 t4 t44) w fun _u w =>
 kI pg 72 t4 w fun r0 => R (.tuple #[r0, pD]) w
theorem W6 (R : K1) (hr : HR HW R Q) (h : A6 R (g 2) (g 4) (g 7) w) : bH pg kU (aB 1 (aB 3 (aB 2 kA))) Q g w :=
 dS (kn := no) (l := []) h eP hr trivial
def Be (kn : K6) (k0 : K3) (EC t4 s_6 pD m_8 i_9 : aJ3) (w : aJ2) : Prop :=
 aC pg (jM .len #[9] 3 [s_6]) w fun t30 w =>
 aC pg (aG .lss 3 aM aM i_9 t30) w fun t31 w =>
 eM t31
  (aC pg (HM 9 s_6 i_9) w fun t37 w =>
  aC pg (fL 5 73 t37) w fun t38 w =>
  aC pg (aG .mul 73 aM aM t38 m_8) w fun t40 w =>
  aC pg (aG .add 73 aM aM pD t40) w fun t41 w =>
  aC pg (aG .mul 73 aM aM m_8 (.int .u64 256)) w fun t43 w =>
  aC pg (aG .add 3 aM aM i_9 (.int .i64 1)) w fun t33 w =>
  kn EC t4 s_6 t41 t43 t33 w)
  (k0 EC t4 pD w)
theorem Yc (kn : K6) (k0 : K3) (hn : N6 Q kn 2 4 6 7 8 9) (h0 : E3 Q k0 0 2 4 7) (h : Be kn k0 (g 2) (g 4) (g 6) (g 7) (g 8) (g 9) w) : bH pg kU (bI (bI (aB 1 (aD 1 (aB 3 (aB 2 kA)))))) Q g w :=
 dS (kr := no) (l := [(0, fun g w => k0 (g 2) (g 4) (g 7) w)]) h hn eP ⟨h0, trivial⟩
def Hr (k0 : K3) (EC t4 s_6 pD m_8 i_9 : aJ3) (w : aJ2) : Prop :=
 cG (fun (X : (aJ3 × aJ3 × aJ3) -> K0) (t : aJ3 × aJ3 × aJ3) (w : aJ2) => Be (fun _ _ _ pD m_8 i_9 w => X (pD, m_8, i_9) w) k0 EC t4 s_6 t.1 t.2.1 t.2.2 w) (pD, m_8, i_9) w
theorem XT (k0 : K3) (h0 : E3 Q k0 0 2 4 7) (h : Hr k0 (g 2) (g 4) (g 6) (g 7) (g 8) (g 9) w) : bH pg kU (bI (aB 1 (aD 1 (aB 3 (aB 2 kA))))) Q g w := by
 refine Db (fun g : Env => (g 7, g 8, g 9)) (fun X t w => Be (fun _ _ _ pD m_8 i_9 w => X (pD, m_8, i_9) w) k0 (g 2) (g 4) (g 6) t.1 t.2.1 t.2.2 w) h (fun X g1 w1 ha hL => ?_)
 rw [<- fF 2 ha, <- fF 4 ha, <- fF 6 ha] at hL
 exact (Yc _ g1 w1 (fun _ _ _ pD m_8 i_9 w => X (pD, m_8, i_9) w) k0 (fun _ _ h => h) h0 hL)
def Hz (kn : K3) (EC t4 s_6 pD m_8 i_9 : aJ3) (w : aJ2) : Prop :=
 Hr kn EC t4 s_6 pD m_8 i_9 w
def Hh (kn : K6) (EC t4 s_6 pD m_8 : aJ3) (w : aJ2) : Prop :=
 kn EC t4 s_6 pD m_8 (.int .i64 0) w
theorem Xd (kn : K6) (hn : N6 Q kn 2 4 6 7 8 9) (h : Hh kn (g 2) (g 4) (g 6) (g 7) (g 8) w) : bH pg kU (aD 1 (aD 1 (aB 3 (aB 2 kA)))) Q g w :=
 dS (kr := no) (l := []) h hn eP trivial
def Io (kn : K3) (EC t4 s_6 pD m_8 : aJ3) (w : aJ2) : Prop :=
 Hh (fun EC t4 s_6 pD m_8 i_9 w => Hz kn EC t4 s_6 pD m_8 i_9 w) EC t4 s_6 pD m_8 w
def Hi (R : K1) (EC t4 s_6 pD m_8 : aJ3) (w : aJ2) : Prop :=
 Io (fun EC t4 pD w => A6 R EC t4 pD w) EC t4 s_6 pD m_8 w
theorem WH (kn : K3) (hn : N3 Q kn 2 4 7) (h : Io kn (g 2) (g 4) (g 6) (g 7) (g 8) w) : bH pg kU (aD 1 (aB 3 (aB 2 kA))) Q g w :=
 fP 1 (Xd _ g w (Hz kn) (fun g w h => aK (uH 0 (XT _ g w kn hn h))) h)
def Ht (kn : K5) (pU EC t4 : aJ3) (w : aJ2) : Prop :=
 aC pg (aH 72 EC) w fun t23 w =>
 aR pg Jb #[t23, pU] w fun t25 w =>
 aC pg (aW t25 0) w fun t26 w =>
 aC pg (aW t25 1) w fun t27 w =>
 aC pg (aJ 72 EC t26) w fun _u w =>
 kn EC t4 t27 (.int .u64 0) (.int .u64 1) w
theorem Xe (kn : K5) (hn : N5 Q kn 2 4 6 7 8) (h : Ht kn (g 1) (g 2) (g 4) w) : bH pg kU (aD 3 (aB 2 kA)) Q g w :=
 dS (kr := no) (l := []) h hn eP trivial
def Bh (R : K1) (pU EC t4 : aJ3) (w : aJ2) : Prop :=
 Ht (fun EC t4 s_6 pD m_8 w => Hi R EC t4 s_6 pD m_8 w) pU EC t4 w
def ET (kn : K3) (mX pU : aJ3) (w : aJ2) : Prop :=
 aC pg (rL 72 mX) w fun EC w =>
 aC pg (bS 72) w fun t4 w =>
 aC pg (aL 72 EC 1) w fun t10 w =>
 aC pg (aH 30 t10) w fun t11 w =>
 aC pg (aG .eql 30 (.tmp 11) (.const (.int .i64 0)) t11 (.int .i64 0)) w fun t12 w =>
 Gd (eX t12 true) (fun K => K pU w) w fun t14 w =>
 Gd (eX t12 true) (fun K => aC pg (aG .lss 3 aM aM t14 (.int .i64 1)) w K) w fun t15 w =>
 Gd (eX t12 true) (fun K => K t15 w) w fun t16 w =>
 Gd (eX t16 false) (fun K => K pU w) w fun t17 w =>
 Gd (eX t16 false) (fun K => aC pg (aG .gtr 3 aM aM t17 (.int .i64 8)) w K) w fun t18 w =>
 Gd (eX t12 true) (fun K => aC pg (fI t16 (.bool true) t18) w K) w fun t19 w =>
 aC pg (fI t12 t19 (.bool false)) w fun t20 w =>
 eM t20
  (aC pg (aL 72 EC 1) w fun t21 w =>
  aC pg (aJ 30 t21 (.int .i64 1)) w fun _u w =>
  kn pU EC t4 w)
  (kn pU EC t4 w)
theorem Vy (kn : K3) (hn : N3 Q kn 1 2 4) (h : ET kn (g 0) (g 1) w) : bH pg kU (aD 2 kA) Q g w :=
 dS (kr := no) (l := []) h hn eP trivial
def Fc (R : K1) (mX pU : aJ3) (w : aJ2) : Prop :=
 ET (fun pU EC t4 w => Bh R pU EC t4 w) mX pU w
theorem Va (R : K1) (hr : HR HW R Q) (h : Fc R (g 0) (g 1) w) : bH pg kU kA Q g w :=
 fP 2 (Vy _ g w (Bh R) (fun g w h => aK (fP 3 (Xe _ g w (Hi R) (fun g w h => aK (fP 1 (WH _ g w (A6 R) (fun g w h => aK (W6 _ g w R hr h)) h))) h))) h)
def Yz (a0 a1 : aJ3) (w : aJ2) (R : K1) : Prop :=
 Fc R a0 a1 w
theorem aaX {a0 a1 : aJ3} {w : aJ2} {R : K1} (h : Yz a0 a1 w R) : aR pg oY #[a0, a1] w R := by
 refine rQ (ann := kU) Tryd.f28 kA [a0, a1] HW 46 TrydM.mixed Tryd.func28 ?_
 exact (Va _ _ _ R (fun _ _ h => h) h)
def TH : FA := ⟨CJ, fun i => .leaf ([], []) []⟩
def We : List ResultVar := [.cell 8 35, .tmp 9, .tmp 10]
noncomputable def RG : Code := cU Tryd.f29
def OD (R : K1) (aQ Ke C9 cI : aJ3) (w : aJ2) : Prop :=
 aC pg (rL 35 cI) w fun awQ w =>
 aC pg (bS 35) w fun t8 w =>
 aR pg yG #[aQ] w fun t19 w =>
 aC pg (jM .len #[91] 3 [t19]) w fun t20 w =>
 aC pg (aG .eql 3 (.tmp 21) (.const (.int .i64 0)) t20 (.int .i64 0)) w fun t22 w =>
 Gd (eX t22 false) (fun K => K Ke w) w fun t24 w =>
 Gd (eX t22 false) (fun K => aC pg (aG .lss 3 aM aM t24 (.int .i64 0)) w K) w fun t25 w =>
 aC pg (fI t22 (.bool true) t25) w fun t26 w =>
 Gd (eX t26 false) (fun K => K Ke w) w fun t28 w =>
 Gd (eX t26 false) (fun K => aC pg (aG .gtr 3 aM aM t28 (.int .i64 3)) w K) w fun t29 w =>
 aC pg (fI t26 (.bool true) t29) w fun t30 w =>
 eM t30
  (aC pg (bV 35 []) w fun t31 w =>
  aC pg (aJ 35 t8 t31) w fun _u w =>
  kI pg 35 t8 w fun r0 => R (.tuple #[r0, (.int .i64 0), (.int .i64 1)]) w)
  (aC pg (aG .eql 3 (.tmp 32) (.const (.int .i64 0)) Ke (.int .i64 0)) w fun t33 w =>
  eM t33
   (aR pg Ba #[aQ] w fun t36 w =>
   aC pg (aW t36 0) w fun t37 w =>
   aC pg (aW t36 1) w fun t38 w =>
   aC pg (bS 35) w fun t12 w =>
   aC pg (aJ 35 t12 t37) w fun _u w =>
   aC pg (aH 35 t12) w fun t39 w =>
   aC pg (aJ 35 t8 t39) w fun _u w =>
   kI pg 35 t8 w fun r0 => R (.tuple #[r0, (.int .i64 0), t38]) w)
   (aC pg (aG .eql 3 (.tmp 41) (.const (.int .i64 1)) Ke (.int .i64 1)) w fun t42 w =>
   eM t42
    (aC pg (aG .eql 9 (.tmp 43) (.const (.string ⟨#[]⟩)) C9 (.string ⟨#[]⟩)) w fun t44 w =>
    eM t44
     (aC pg (bV 35 []) w fun t45 w =>
     aC pg (aJ 35 t8 t45) w fun _u w =>
     kI pg 35 t8 w fun r0 => R (.tuple #[r0, (.int .i64 0), (.int .i64 10)]) w)
     (aC pg (HM 9 C9 (.int .i64 0)) w fun t47 w =>
     aC pg (fL 5 3 t47) w fun t48 w =>
     aC pg (aG .geq 3 aM aM t48 t20) w fun t50 w =>
     eM t50
      (aC pg (bV 35 []) w fun t51 w =>
      aC pg (aJ 35 t8 t51) w fun _u w =>
      kI pg 35 t8 w fun r0 => R (.tuple #[r0, (.int .i64 0), (.int .i64 11)]) w)
      (aC pg (HM 9 C9 (.int .i64 0)) w fun t53 w =>
      aC pg (fL 5 3 t53) w fun t54 w =>
      aR pg Mh #[t54] w fun t55 w =>
      aC pg (aJ 35 t8 t55) w fun _u w =>
      kI pg 35 t8 w fun r0 => R (.tuple #[r0, (.int .i64 1), (.int .i64 0)]) w)))
    (aC pg (aG .eql 3 (.tmp 56) (.const (.int .i64 3)) Ke (.int .i64 3)) w fun t57 w =>
    eM t57
     (aC pg (aL 35 awQ 1) w fun t58 w =>
     aC pg (aH 33 t58) w fun t59 w =>
     aC pg (jM .len #[33] 3 [t59]) w fun t60 w =>
     aC pg (aG .eql 3 (.tmp 60) (.const (.int .i64 0)) t60 (.int .i64 0)) w fun t61 w =>
     eM t61
      (aC pg (bV 35 []) w fun t62 w =>
      aC pg (aJ 35 t8 t62) w fun _u w =>
      kI pg 35 t8 w fun r0 => R (.tuple #[r0, (.int .i64 0), (.int .i64 11)]) w)
      (aC pg (aH 35 awQ) w fun t63 w =>
      aC pg (aJ 35 t8 t63) w fun _u w =>
      kI pg 35 t8 w fun r0 => R (.tuple #[r0, (.int .i64 0), (.int .i64 0)]) w))
     (aR pg I2 #[aQ] w fun t67 w =>
     aR pg IM #[C9, t67, t20] w fun t69 w =>
     aC pg (aW t69 0) w fun t70 w =>
     aC pg (aW t69 1) w fun t71 w =>
     aC pg (aW t69 2) w fun t72 w =>
     aC pg (bS 130) w fun aDJ w =>
     aC pg (aJ 130 aDJ t70) w fun _u w =>
     aC pg (aG .neq 30 (.tmp 73) (.const (.int .i64 0)) t72 (.int .i64 0)) w fun t74 w =>
     eM t74
      (aC pg (bV 35 []) w fun t75 w =>
      aC pg (aJ 35 t8 t75) w fun _u w =>
      kI pg 35 t8 w fun r0 => R (.tuple #[r0, (.int .i64 0), t72]) w)
      (aC pg (aH 130 aDJ) w fun t78 w =>
      aR pg AQ #[t78] w fun t79 w =>
      aC pg (aW t79 0) w fun t80 w =>
      aC pg (aW t79 1) w fun t81 w =>
      aC pg (bS 35) w fun t17 w =>
      aC pg (aJ 35 t17 t80) w fun _u w =>
      aC pg (aG .neq 30 (.tmp 82) (.const (.int .i64 0)) t81 (.int .i64 0)) w fun t83 w =>
      eM t83
       (aC pg (bV 35 []) w fun t84 w =>
       aC pg (aJ 35 t8 t84) w fun _u w =>
       kI pg 35 t8 w fun r0 => R (.tuple #[r0, (.int .i64 0), t81]) w)
       (aC pg (aH 35 t17) w fun t86 w =>
       aC pg (aJ 35 t8 t86) w fun _u w =>
       kI pg 35 t8 w fun r0 => R (.tuple #[r0, t71, (.int .i64 0)]) w))))))
theorem agR (R : K1) (hr : HR We R Q) (h : OD R (g 0) (g 1) (g 2) (g 3) w) : bH pg TH RG Q g w :=
 dS (kn := no) (l := []) h eP hr trivial
def anV (a0 a1 a2 a3 : aJ3) (w : aJ2) (R : K1) : Prop :=
 OD R a0 a1 a2 a3 w
theorem ajD {a0 a1 a2 a3 : aJ3} {w : aJ2} {R : K1} (h : anV a0 a1 a2 a3 w R) : aR pg CJ #[a0, a1, a2, a3] w R := by
 refine rQ (ann := TH) Tryd.f29 RG [a0, a1, a2, a3] We 88 TrydM.mixed Tryd.func29 ?_
 exact (agR _ _ _ R (fun _ _ h => h) h)
def sT : FA := ⟨Gn, fun i => .leaf ([], []) []⟩
def IW : List ResultVar := [.cell 2 82, .tmp 3]
noncomputable def qY : Code := cU Tryd.f30
def Jf (R : K1) (t2 l_4 eK : aJ3) (w : aJ2) : Prop :=
 aC pg (fH 80 l_4 none (some eK) none) w fun t31 w =>
 aC pg (bV 82 [(0, t31)]) w fun t32 w =>
 aC pg (aJ 82 t2 t32) w fun _u w =>
 kI pg 82 t2 w fun r0 => R (.tuple #[r0, (.int .i64 0)]) w
theorem alN (R : K1) (hr : HR IW R Q) (h : Jf R (g 2) (g 4) (g 5) w) : bH pg sT (aB 1 (aB 4 qY)) Q g w :=
 dS (kn := no) (l := []) h eP hr trivial
def IY (kn : K3) (k0 : K3) (t2 l_4 eK : aJ3) (w : aJ2) : Prop :=
 aC pg (bA 80 l_4 eK) w fun t24 w =>
 aC pg (aH 4 t24) w fun t25 w =>
 aC pg (sUn .not t25) w fun t26 w =>
 eM t26
  (aC pg (aG .sub 3 aM aM eK (.int .i64 1)) w fun t28 w =>
  kn t2 l_4 t28 w)
  (k0 t2 l_4 eK w)
theorem akN (kn : K3) (k0 : K3) (hn : N3 Q kn 2 4 5) (h0 : E3 Q k0 0 2 4 5) (h : IY kn k0 (g 2) (g 4) (g 5) w) : bH pg sT (bI (bI (aD 1 (aB 4 qY)))) Q g w :=
 dS (kr := no) (l := [(0, fun g w => k0 (g 2) (g 4) (g 5) w)]) h hn eP ⟨h0, trivial⟩
def Qh (k0 : K3) (t2 l_4 eK : aJ3) (w : aJ2) : Prop :=
 cG (fun (X : aJ3 -> K0) (t : aJ3) (w : aJ2) => IY (fun _ _ eK w => X eK w) k0 t2 l_4 t w) eK w
theorem alK (k0 : K3) (h0 : E3 Q k0 0 2 4 5) (h : Qh k0 (g 2) (g 4) (g 5) w) : bH pg sT (bI (aD 1 (aB 4 qY))) Q g w := by
 refine Db (fun g : Env => g 5) (fun X t w => IY (fun _ _ eK w => X eK w) k0 (g 2) (g 4) t w) h (fun X g1 w1 ha hL => ?_)
 rw [<- fF 2 ha, <- fF 4 ha] at hL
 exact (akN _ g1 w1 (fun _ _ eK w => X eK w) k0 (fun _ _ h => h) h0 hL)
def QM (kn : K3) (t2 l_4 eK : aJ3) (w : aJ2) : Prop :=
 Qh kn t2 l_4 eK w
def QR (R : K1) (t2 l_4 eK : aJ3) (w : aJ2) : Prop :=
 QM (fun t2 l_4 eK w => Jf R t2 l_4 eK w) t2 l_4 eK w
theorem akP (kn : K3) (hn : N3 Q kn 2 4 5) (h : QM kn (g 2) (g 4) (g 5) w) : bH pg sT (aD 1 (aB 4 qY)) Q g w :=
 uH 0 (alK _ g w kn hn h)
def I9 (kn : K3) (R : K1) (wN : aJ3) (w : aJ2) : Prop :=
 aC pg (bS 82) w fun t2 w =>
 aC pg (aG .eql 9 (.tmp 6) (.const (.string ⟨#[]⟩)) wN (.string ⟨#[]⟩)) w fun t7 w =>
 Gd (eX t7 false) (fun K => K wN w) w fun t9 w =>
 Gd (eX t7 false) (fun K => K wN w) w fun t10 w =>
 Gd (eX t7 false) (fun K => aC pg (jM .len #[9] 3 [t10]) w K) w fun t11 w =>
 Gd (eX t7 false) (fun K => aC pg (aG .sub 3 aM aM t11 (.int .i64 1)) w K) w fun t12 w =>
 Gd (eX t7 false) (fun K => aC pg (HM 9 t9 t12) w K) w fun t13 w =>
 Gd (eX t7 false) (fun K => aC pg (aG .eql 5 (.tmp 13) (.const (.int .u8 0)) t13 (.int .u8 0)) w K) w fun t14 w =>
 aC pg (fI t7 (.bool true) t14) w fun t15 w =>
 eM t15
  (aC pg (bV 82 []) w fun t16 w =>
  aC pg (aJ 82 t2 t16) w fun _u w =>
  kI pg 82 t2 w fun r0 => R (.tuple #[r0, (.int .i64 11)]) w)
  (aR pg D2 #[wN] w fun t18 w =>
  aC pg (jM .len #[80] 3 [t18]) w fun t20 w =>
  aC pg (aG .sub 3 aM aM t20 (.int .i64 1)) w fun t21 w =>
  kn t2 t18 t21 w)
theorem ajJ (kn : K3) (R : K1) (hn : N3 Q kn 2 4 5) (hr : HR IW R Q) (h : I9 kn R (g 0) w) : bH pg sT (aD 4 qY) Q g w :=
 dS (l := []) h hn hr trivial
def I6 (R : K1) (wN : aJ3) (w : aJ2) : Prop :=
 I9 (fun t2 l_4 eK w => QR R t2 l_4 eK w) R wN w
theorem ajV (R : K1) (hr : HR IW R Q) (h : I6 R (g 0) w) : bH pg sT qY Q g w :=
 fP 4 (ajJ _ g w (QR R) R (fun g w h => aK (fP 1 (akP _ g w (Jf R) (fun g w h => aK (alN _ g w R hr h)) h))) hr h)
def adS (a0 : aJ3) (w : aJ2) (R : K1) : Prop :=
 I6 R a0 w
theorem TJ {a0 : aJ3} {w : aJ2} {R : K1} (h : adS a0 w R) : aR pg Gn #[a0] w R := by
 refine rQ (ann := sT) Tryd.f30 qY [a0] IW 33 TrydM.mixed Tryd.func30 ?_
 exact (ajV _ _ _ R (fun _ _ h => h) h)
def R3 : FA := ⟨sY, fun i => .leaf ([], []) []⟩
def Ue : List ResultVar := [.cell 4 82, .tmp 5]
noncomputable def PH : Code := cU Tryd.f31
def LA (R : K1) (t0 V4 : aJ3) (w : aJ2) : Prop :=
 aC pg (rL 35 t0) w fun t2 w =>
 aC pg (rL 82 V4) w fun b_3 w =>
 aC pg (bS 82) w fun t4 w =>
 aC pg (aH 82 b_3) w fun t8 w =>
 aC pg (aL 35 t2 0) w fun t9 w =>
 aC pg (aH 3 t9) w fun t10 w =>
 aR pg uP #[t8, t10] w fun t11 w =>
 aC pg (aW t11 0) w fun t12 w =>
 aC pg (aW t11 1) w fun t13 w =>
 aC pg (aJ 82 b_3 t12) w fun _u w =>
 aC pg (aH 82 b_3) w fun t14 w =>
 aC pg (fL 73 3 t13) w fun t16 w =>
 aC pg (aJ 82 t4 t14) w fun _u w =>
 kI pg 82 t4 w fun r0 => R (.tuple #[r0, t16]) w
theorem Y4 (R : K1) (hr : HR Ue R Q) (h : LA R (g 0) (g 1) w) : bH pg R3 PH Q g w :=
 dS (kn := no) (l := []) h eP hr trivial
def ahT (a0 a1 : aJ3) (w : aJ2) (R : K1) : Prop :=
 LA R a0 a1 w
theorem agM {a0 a1 : aJ3} {w : aJ2} {R : K1} (h : ahT a0 a1 w R) : aR pg sY #[a0, a1] w R := by
 refine rQ (ann := R3) Tryd.f31 PH [a0, a1] Ue 17 TrydM.mixed Tryd.func31 ?_
 exact (Y4 _ _ _ R (fun _ _ h => h) h)
def RP : FA := ⟨nW, fun i => .leaf ([], []) []⟩
def Ut : List ResultVar := [.cell 8 82, .tmp 9]
noncomputable def Pm : Code := cU Tryd.f32
def LM (R : K1) (aQ t1 Zn b_3 : aJ3) (w : aJ2) : Prop :=
 aC pg (rL 35 t1) w fun t5 w =>
 aC pg (rL 82 b_3) w fun AF w =>
 aC pg (bS 82) w fun t8 w =>
 aC pg (aL 35 t5 1) w fun t16 w =>
 aC pg (aH 33 t16) w fun t17 w =>
 aC pg (bA 33 t17 Zn) w fun t19 w =>
 aC pg (aL 139 t19 0) w fun t20 w =>
 aC pg (aH 3 t20) w fun t21 w =>
 aR pg IP #[aQ, t21] w fun t22 w =>
 aC pg (aW t22 0) w fun t23 w =>
 aC pg (aW t22 1) w fun t24 w =>
 aC pg (aW t22 2) w fun t25 w =>
 aC pg (aH 82 AF) w fun t27 w =>
 aR pg uP #[t27, t24] w fun t29 w =>
 aC pg (aW t29 0) w fun t30 w =>
 aC pg (aW t29 1) w fun t31 w =>
 aC pg (aJ 82 AF t30) w fun _u w =>
 aC pg (aH 82 AF) w fun t32 w =>
 aC pg (fL 73 43 t31) w fun t35 w =>
 aC pg (aG .add 43 aM aM t23 t35) w fun t36 w =>
 aC pg (aJ 82 t8 t32) w fun _u w =>
 kI pg 82 t8 w fun r0 => R (.tuple #[r0, t36]) w
theorem ZS (R : K1) (hr : HR Ut R Q) (h : LM R (g 0) (g 1) (g 2) (g 3) w) : bH pg RP Pm Q g w :=
 dS (kn := no) (l := []) h eP hr trivial
def aiD (a0 a1 a2 a3 : aJ3) (w : aJ2) (R : K1) : Prop :=
 LM R a0 a1 a2 a3 w
theorem afG {a0 a1 a2 a3 : aJ3} {w : aJ2} {R : K1} (h : aiD a0 a1 a2 a3 w R) : aR pg nW #[a0, a1, a2, a3] w R := by
 refine rQ (ann := RP) Tryd.f32 Pm [a0, a1, a2, a3] Ut 37 TrydM.mixed Tryd.func32 ?_
 exact (ZS _ _ _ R (fun _ _ h => h) h)
def Uu : FA := ⟨nX, fun i => match Nat.beq i 3 with | true => .leaf ([7, 11], [(10, 11)]) [(false, []), (false, []), (false, []), (false, []), (false, []), (false, []), (false, []), (true, []), (false, []), (false, []), (false, []), (true, [0]), (false, [])] | false => match Nat.beq i 4 with | true => .leaf ([10], [(1, 10), (2, 10), (4, 10), (5, 10), (6, 10), (8, 10), (9, 10)]) [(false, []), (false, []), (false, []), (false, []), (false, []), (false, []), (false, []), (false, []), (false, []), (false, []), (true, [0, 1, 3, 4, 5, 7, 8]), (false, [])] | false => .leaf ([], []) []⟩
def V3 : List ResultVar := [.cell 6 82, .tmp 7]
noncomputable def Se : Code := cU Tryd.f33
def OI (R : K1) (t0 hY C9 : aJ3) (w : aJ2) : Prop :=
 aC pg (rL 35 t0) w fun t3 w =>
 aC pg (rL 82 C9) w fun b_5 w =>
 aC pg (bS 82) w fun t6 w =>
 aC pg (aG .lss 3 aM aM hY (.int .i64 0)) w fun t10 w =>
 Gd (eX t10 false) (fun K => K hY w) w fun t12 w =>
 Gd (eX t10 false) (fun K => aC pg (aL 35 t3 1) w K) w fun t13 w =>
 Gd (eX t10 false) (fun K => aC pg (aH 33 t13) w K) w fun t14 w =>
 Gd (eX t10 false) (fun K => aC pg (jM .len #[33] 3 [t14]) w K) w fun t15 w =>
 Gd (eX t10 false) (fun K => aC pg (aG .geq 3 aM aM t12 t15) w K) w fun t16 w =>
 aC pg (fI t10 (.bool true) t16) w fun t17 w =>
 eM t17
  (aC pg (aH 82 b_5) w fun t18 w =>
  aC pg (aJ 82 t6 t18) w fun _u w =>
  kI pg 82 t6 w fun r0 => R (.tuple #[r0, (.int .i64 0)]) w)
  (aC pg (aH 82 b_5) (dr w) fun t20 w_ => w_ = (dr w) /\
  aC pg (aL 35 t3 1) (dr w) fun t21 w_ => w_ = (dr w) /\
  aC pg (aH 33 t21) (dr w) fun t22 w_ => w_ = (dr w) /\
  (dr w) = (dr w) /\
  aC pg (bA 33 t22 hY) (dr w) fun t24 w_ => w_ = (dr w) /\
  aC pg (aL 139 t24 1) (dr w) fun t25 w_ => w_ = (dr w) /\
  aC pg (aH 3 t25) (dr w) fun t26 w_ => w_ = (dr w) /\
  aR pg uP #[t20, t26] (dr w) fun t27 aAr =>
  aAr = aAr /\
  aC pg (aW t27 0) aAr fun t28 w_ => w_ = aAr /\
  aC pg (aW t27 1) aAr fun t29 w_ => w_ = aAr /\
  aC pg (aJ 82 b_5 t28) aAr fun _u11 xI =>
  (eD pg (aW t27 1) t29 xI /\ True) /\
  xI = xI /\
  aC pg (aH 82 b_5) (dr xI) fun t30 w_ => w_ = (dr xI) /\
  aC pg (aL 35 t3 1) (dr xI) fun t31 w_ => w_ = (dr xI) /\
  aC pg (aH 33 t31) (dr xI) fun t32 w_ => w_ = (dr xI) /\
  (dr xI) = (dr xI) /\
  aC pg (bA 33 t32 hY) (dr xI) fun t34 w_ => w_ = (dr xI) /\
  aC pg (aL 139 t34 2) (dr xI) fun t35 w_ => w_ = (dr xI) /\
  aC pg (aH 3 t35) (dr xI) fun t36 w_ => w_ = (dr xI) /\
  (dr xI) = (dr xI) /\
  aC pg (fL 73 3 t29) (dr xI) fun t38 w_ => w_ = (dr xI) /\
  aC pg (aG .add 3 aM aM t36 t38) (dr xI) fun t39 w_ => w_ = (dr xI) /\
  aC pg (aJ 82 t6 t30) (dr xI) fun _u10 Tv =>
  (eD pg (aG .add 3 aM aM t36 t38) t39 Tv /\ eD pg (fL 73 3 t29) t38 Tv /\ eD pg (aH 3 t35) t36 Tv /\ eD pg (aL 139 t34 2) t35 Tv /\ eD pg (bA 33 t32 hY) t34 Tv /\ eD pg (aH 33 t31) t32 Tv /\ eD pg (aL 35 t3 1) t31 Tv /\ True) /\
  Tv = Tv /\
  kI pg 82 t6 Tv fun r0 => R (.tuple #[r0, t39]) Tv)
theorem adX (R : K1) (hr : HR V3 R Q) (h : OI R (g 0) (g 1) (g 2) w) : bH pg Uu Se Q g w :=
 dS (kn := no) (l := []) h eP hr trivial
def alZ (a0 a1 a2 : aJ3) (w : aJ2) (R : K1) : Prop :=
 OI R a0 a1 a2 w
theorem ajT {a0 a1 a2 : aJ3} {w : aJ2} {R : K1} (h : alZ a0 a1 a2 w R) : aR pg nX #[a0, a1, a2] w R := by
 refine rQ (ann := Uu) Tryd.f33 Se [a0, a1, a2] V3 40 TrydM.mixed Tryd.func33 ?_
 exact (adX _ _ _ R (fun _ _ h => h) h)
def T2 : FA := ⟨DG, fun i => .leaf ([], []) []⟩
def V7 : List ResultVar := [.tmp 2]
noncomputable def RL : Code := cU Tryd.f34
def Oy (R : K1) (D3 : aJ3) (w : aJ2) : Prop :=
 aC pg (rL 82 D3) w fun V4 w =>
 aC pg (aL 82 V4 0) w fun t3 w =>
 aC pg (aH 80 t3) w fun t4 w =>
 aC pg (jM .len #[80] 3 [t4]) w fun t5 w =>
 aC pg (aL 82 V4 1) w fun t6 w =>
 aC pg (aH 3 t6) w fun t7 w =>
 aC pg (aG .sub 3 aM aM t5 t7) w fun t8 w =>
 R t8 w
theorem adK (R : K1) (hr : HR V7 R Q) (h : Oy R (g 0) w) : bH pg T2 RL Q g w :=
 dS (kn := no) (l := []) h eP hr trivial
def aoQ (a0 : aJ3) (w : aJ2) (R : K1) : Prop :=
 Oy R a0 w
theorem ajQ {a0 : aJ3} {w : aJ2} {R : K1} (h : aoQ a0 w R) : aR pg DG #[a0] w R := by
 refine rQ (ann := T2) Tryd.f34 RL [a0] V7 9 TrydM.mixed Tryd.func34 ?_
 exact (adK _ _ _ R (fun _ _ h => h) h)
def mC : FA := ⟨yG, fun i => .leaf ([], []) []⟩
def Bn : List ResultVar := [.tmp 2]
noncomputable def lG : Code := cU Tryd.f35
def wK (R : K1) (bQ : aJ3) (w : aJ2) : Prop :=
 R bQ w
theorem XU (R : K1) (hr : HR Bn R Q) (h : wK R (g 3) w) : bH pg mC (aB 1 (aB 5 lG)) Q g w :=
 dS (kn := no) (l := []) h eP hr trivial
def wH (kn : K4) (k0 : K1) (aQ bQ x_4 Uy : aJ3) (w : aJ2) : Prop :=
 aC pg (aG .lss 3 aM aM Uy (.int .i64 32)) w fun t13 w =>
 Gd (eX t13 true) (fun K => K aQ w) w fun t15 w =>
 Gd (eX t13 true) (fun K => aC pg (aG .eql 3 (.tmp 15) (.const (.int .i64 1)) t15 (.int .i64 1)) w K) w fun t16 w =>
 aC pg (fI t13 t16 (.bool false)) w fun t17 w =>
 eM t17
  (aC pg (bX 91 1 [(0, x_4)]) w fun t22 w =>
  aC pg (jM .append #[91, 91] 91 [bQ, t22]) w fun t23 w =>
  aC pg (aG .mul 43 aM aM x_4 (.int .u32 2)) w fun t25 w =>
  aC pg (aG .add 3 aM aM Uy (.int .i64 1)) w fun t19 w =>
  kn aQ t23 t25 t19 w)
  (k0 bQ w)
theorem X8 (kn : K4) (k0 : K1) (hn : N4 Q kn 0 3 4 5) (h0 : E1 Q k0 0 3) (h : wH kn k0 (g 0) (g 3) (g 4) (g 5) w) : bH pg mC (bI (bI (aB 1 (aD 1 (aB 5 lG))))) Q g w :=
 dS (kr := no) (l := [(0, fun g w => k0 (g 3) w)]) h hn eP ⟨h0, trivial⟩
def H6 (k0 : K1) (aQ bQ x_4 Uy : aJ3) (w : aJ2) : Prop :=
 cG (fun (X : (aJ3 × aJ3 × aJ3) -> K0) (t : aJ3 × aJ3 × aJ3) (w : aJ2) => wH (fun _ bQ x_4 Uy w => X (bQ, x_4, Uy) w) k0 aQ t.1 t.2.1 t.2.2 w) (bQ, x_4, Uy) w
theorem XS (k0 : K1) (h0 : E1 Q k0 0 3) (h : H6 k0 (g 0) (g 3) (g 4) (g 5) w) : bH pg mC (bI (aB 1 (aD 1 (aB 5 lG)))) Q g w := by
 refine Db (fun g : Env => (g 3, g 4, g 5)) (fun X t w => wH (fun _ bQ x_4 Uy w => X (bQ, x_4, Uy) w) k0 (g 0) t.1 t.2.1 t.2.2 w) h (fun X g1 w1 ha hL => ?_)
 rw [<- fF 0 ha] at hL
 exact (X8 _ g1 w1 (fun _ bQ x_4 Uy w => X (bQ, x_4, Uy) w) k0 (fun _ _ h => h) h0 hL)
def Ip (kn : K1) (aQ bQ x_4 Uy : aJ3) (w : aJ2) : Prop :=
 H6 kn aQ bQ x_4 Uy w
def G8 (kn : K4) (aQ bQ x_4 : aJ3) (w : aJ2) : Prop :=
 kn aQ bQ x_4 (.int .i64 0) w
theorem Xk (kn : K4) (hn : N4 Q kn 0 3 4 5) (h : G8 kn (g 0) (g 3) (g 4) w) : bH pg mC (aD 1 (aD 1 (aB 5 lG))) Q g w :=
 dS (kr := no) (l := []) h hn eP trivial
def GY (kn : K1) (aQ bQ x_4 : aJ3) (w : aJ2) : Prop :=
 G8 (fun aQ bQ x_4 Uy w => Ip kn aQ bQ x_4 Uy w) aQ bQ x_4 w
def GZ (R : K1) (aQ bQ x_4 : aJ3) (w : aJ2) : Prop :=
 GY (fun bQ w => wK R bQ w) aQ bQ x_4 w
theorem Ya (kn : K1) (hn : N1 Q kn 3) (h : GY kn (g 0) (g 3) (g 4) w) : bH pg mC (aD 1 (aB 5 lG)) Q g w :=
 fP 1 (Xk _ g w (Ip kn) (fun g w h => aK (uH 0 (XS _ g w kn hn h))) h)
def GN (kn : K3) (R : K1) (aQ : aJ3) (w : aJ2) : Prop :=
 aC pg (aG .eql 3 (.tmp 6) (.const (.int .i64 0)) aQ (.int .i64 0)) w fun t7 w =>
 eM t7
  (aC pg (bX 91 36 [(0, (.int .u32 0)), (1, (.int .u32 1)), (2, (.int .u32 2)), (3, (.int .u32 3)), (4, (.int .u32 4)), (5, (.int .u32 5)), (6, (.int .u32 6)), (7, (.int .u32 7)), (8, (.int .u32 8)), (9, (.int .u32 9)), (10, (.int .u32 10)), (11, (.int .u32 11)), (12, (.int .u32 12)), (13, (.int .u32 13)), (14, (.int .u32 14)), (15, (.int .u32 15)), (16, (.int .u32 16)), (17, (.int .u32 18)), (18, (.int .u32 20)), (19, (.int .u32 22)), (20, (.int .u32 24)), (21, (.int .u32 28)), (22, (.int .u32 32)), (23, (.int .u32 40)), (24, (.int .u32 48)), (25, (.int .u32 64)), (26, (.int .u32 128)), (27, (.int .u32 256)), (28, (.int .u32 512)), (29, (.int .u32 1024)), (30, (.int .u32 2048)), (31, (.int .u32 4096)), (32, (.int .u32 8192)), (33, (.int .u32 16384)), (34, (.int .u32 32768)), (35, (.int .u32 65536))]) w fun t8 w =>
  R t8 w)
  (aC pg (aG .eql 3 (.tmp 9) (.const (.int .i64 2)) aQ (.int .i64 2)) w fun t10 w =>
  eM t10
   (aC pg (bX 91 53 [(0, (.int .u32 3)), (1, (.int .u32 4)), (2, (.int .u32 5)), (3, (.int .u32 6)), (4, (.int .u32 7)), (5, (.int .u32 8)), (6, (.int .u32 9)), (7, (.int .u32 10)), (8, (.int .u32 11)), (9, (.int .u32 12)), (10, (.int .u32 13)), (11, (.int .u32 14)), (12, (.int .u32 15)), (13, (.int .u32 16)), (14, (.int .u32 17)), (15, (.int .u32 18)), (16, (.int .u32 19)), (17, (.int .u32 20)), (18, (.int .u32 21)), (19, (.int .u32 22)), (20, (.int .u32 23)), (21, (.int .u32 24)), (22, (.int .u32 25)), (23, (.int .u32 26)), (24, (.int .u32 27)), (25, (.int .u32 28)), (26, (.int .u32 29)), (27, (.int .u32 30)), (28, (.int .u32 31)), (29, (.int .u32 32)), (30, (.int .u32 33)), (31, (.int .u32 34)), (32, (.int .u32 35)), (33, (.int .u32 37)), (34, (.int .u32 39)), (35, (.int .u32 41)), (36, (.int .u32 43)), (37, (.int .u32 47)), (38, (.int .u32 51)), (39, (.int .u32 59)), (40, (.int .u32 67)), (41, (.int .u32 83)), (42, (.int .u32 99)), (43, (.int .u32 131)), (44, (.int .u32 259)), (45, (.int .u32 515)), (46, (.int .u32 1027)), (47, (.int .u32 2051)), (48, (.int .u32 4099)), (49, (.int .u32 8195)), (50, (.int .u32 16387)), (51, (.int .u32 32771)), (52, (.int .u32 65539))]) w fun t11 w =>
   R t11 w)
   (kn aQ (.slice none 0 0) (.int .u32 1) w))
theorem XD (kn : K3) (R : K1) (hn : N3 Q kn 0 3 4) (hr : HR Bn R Q) (h : GN kn R (g 0) w) : bH pg mC (aD 5 lG) Q g w :=
 dS (l := []) h hn hr trivial
def HB (R : K1) (aQ : aJ3) (w : aJ2) : Prop :=
 GN (fun aQ bQ x_4 w => GZ R aQ bQ x_4 w) R aQ w
theorem XL (R : K1) (hr : HR Bn R Q) (h : HB R (g 0) w) : bH pg mC lG Q g w :=
 fP 5 (XD _ g w (GZ R) R (fun g w h => aK (fP 1 (Ya _ g w (wK R) (fun g w h => aK (XU _ g w R hr h)) h))) hr h)
def aaM (a0 : aJ3) (w : aJ2) (R : K1) : Prop :=
 HB R a0 w
theorem ZY {a0 : aJ3} {w : aJ2} {R : K1} (h : aaM a0 w R) : aR pg yG #[a0] w R := by
 refine rQ (ann := mC) Tryd.f35 lG [a0] Bn 27 TrydM.mixed Tryd.func35 ?_
 exact (XL _ _ _ R (fun _ _ h => h) h)
def pB : FA := ⟨IL, fun i => .leaf ([], []) []⟩
def FF : List ResultVar := [.tmp 2]
noncomputable def nE : Code := cU Tryd.f36
def FC (R : K1) (bQ : aJ3) (w : aJ2) : Prop :=
 R bQ w
theorem ahF (R : K1) (hr : HR FF R Q) (h : FC R (g 3) w) : bH pg pB (aB 1 (aB 4 nE)) Q g w :=
 dS (kn := no) (l := []) h eP hr trivial
def FJ (kn : K3) (k0 : K1) (aQ bQ iG : aJ3) (w : aJ2) : Prop :=
 aC pg (aG .lss 3 aM aM iG (.int .i64 32)) w fun t12 w =>
 Gd (eX t12 true) (fun K => K aQ w) w fun t14 w =>
 Gd (eX t12 true) (fun K => aC pg (aG .eql 3 (.tmp 14) (.const (.int .i64 1)) t14 (.int .i64 1)) w K) w fun t15 w =>
 aC pg (fI t12 t15 (.bool false)) w fun t16 w =>
 eM t16
  (aC pg (bX 77 1 [(0, iG)]) w fun t21 w =>
  aC pg (jM .append #[77, 77] 77 [bQ, t21]) w fun t22 w =>
  aC pg (aG .add 3 aM aM iG (.int .i64 1)) w fun t18 w =>
  kn aQ t22 t18 w)
  (k0 bQ w)
theorem afY (kn : K3) (k0 : K1) (hn : N3 Q kn 0 3 4) (h0 : E1 Q k0 0 3) (h : FJ kn k0 (g 0) (g 3) (g 4) w) : bH pg pB (bI (bI (aB 1 (aD 1 (aB 4 nE))))) Q g w :=
 dS (kr := no) (l := [(0, fun g w => k0 (g 3) w)]) h hn eP ⟨h0, trivial⟩
def NN (k0 : K1) (aQ bQ iG : aJ3) (w : aJ2) : Prop :=
 cG (fun (X : (aJ3 × aJ3) -> K0) (t : aJ3 × aJ3) (w : aJ2) => FJ (fun _ bQ iG w => X (bQ, iG) w) k0 aQ t.1 t.2 w) (bQ, iG) w
theorem aeZ (k0 : K1) (h0 : E1 Q k0 0 3) (h : NN k0 (g 0) (g 3) (g 4) w) : bH pg pB (bI (aB 1 (aD 1 (aB 4 nE)))) Q g w := by
 refine Db (fun g : Env => (g 3, g 4)) (fun X t w => FJ (fun _ bQ iG w => X (bQ, iG) w) k0 (g 0) t.1 t.2 w) h (fun X g1 w1 ha hL => ?_)
 rw [<- fF 0 ha] at hL
 exact (afY _ g1 w1 (fun _ bQ iG w => X (bQ, iG) w) k0 (fun _ _ h => h) h0 hL)
def M3 (kn : K1) (aQ bQ iG : aJ3) (w : aJ2) : Prop :=
 NN kn aQ bQ iG w
def MG (kn : K3) (aQ bQ : aJ3) (w : aJ2) : Prop :=
 kn aQ bQ (.int .i64 0) w
theorem aeC (kn : K3) (hn : N3 Q kn 0 3 4) (h : MG kn (g 0) (g 3) w) : bH pg pB (aD 1 (aD 1 (aB 4 nE))) Q g w :=
 dS (kr := no) (l := []) h hn eP trivial
def Oa (kn : K1) (aQ bQ : aJ3) (w : aJ2) : Prop :=
 MG (fun aQ bQ iG w => M3 kn aQ bQ iG w) aQ bQ w
def OK (R : K1) (aQ bQ : aJ3) (w : aJ2) : Prop :=
 Oa (fun bQ w => FC R bQ w) aQ bQ w
theorem ahK (kn : K1) (hn : N1 Q kn 3) (h : Oa kn (g 0) (g 3) w) : bH pg pB (aD 1 (aB 4 nE)) Q g w :=
 fP 1 (aeC _ g w (M3 kn) (fun g w h => aK (uH 0 (aeZ _ g w kn hn h))) h)
def Oh (kn : K2) (R : K1) (aQ : aJ3) (w : aJ2) : Prop :=
 aC pg (aG .eql 3 (.tmp 5) (.const (.int .i64 0)) aQ (.int .i64 0)) w fun t6 w =>
 eM t6
  (aC pg (bX 77 36 [(0, (.int .i64 0)), (1, (.int .i64 0)), (2, (.int .i64 0)), (3, (.int .i64 0)), (4, (.int .i64 0)), (5, (.int .i64 0)), (6, (.int .i64 0)), (7, (.int .i64 0)), (8, (.int .i64 0)), (9, (.int .i64 0)), (10, (.int .i64 0)), (11, (.int .i64 0)), (12, (.int .i64 0)), (13, (.int .i64 0)), (14, (.int .i64 0)), (15, (.int .i64 0)), (16, (.int .i64 1)), (17, (.int .i64 1)), (18, (.int .i64 1)), (19, (.int .i64 1)), (20, (.int .i64 2)), (21, (.int .i64 2)), (22, (.int .i64 3)), (23, (.int .i64 3)), (24, (.int .i64 4)), (25, (.int .i64 6)), (26, (.int .i64 7)), (27, (.int .i64 8)), (28, (.int .i64 9)), (29, (.int .i64 10)), (30, (.int .i64 11)), (31, (.int .i64 12)), (32, (.int .i64 13)), (33, (.int .i64 14)), (34, (.int .i64 15)), (35, (.int .i64 16))]) w fun t7 w =>
  R t7 w)
  (aC pg (aG .eql 3 (.tmp 8) (.const (.int .i64 2)) aQ (.int .i64 2)) w fun t9 w =>
  eM t9
   (aC pg (bX 77 53 [(0, (.int .i64 0)), (1, (.int .i64 0)), (2, (.int .i64 0)), (3, (.int .i64 0)), (4, (.int .i64 0)), (5, (.int .i64 0)), (6, (.int .i64 0)), (7, (.int .i64 0)), (8, (.int .i64 0)), (9, (.int .i64 0)), (10, (.int .i64 0)), (11, (.int .i64 0)), (12, (.int .i64 0)), (13, (.int .i64 0)), (14, (.int .i64 0)), (15, (.int .i64 0)), (16, (.int .i64 0)), (17, (.int .i64 0)), (18, (.int .i64 0)), (19, (.int .i64 0)), (20, (.int .i64 0)), (21, (.int .i64 0)), (22, (.int .i64 0)), (23, (.int .i64 0)), (24, (.int .i64 0)), (25, (.int .i64 0)), (26, (.int .i64 0)), (27, (.int .i64 0)), (28, (.int .i64 0)), (29, (.int .i64 0)), (30, (.int .i64 0)), (31, (.int .i64 0)), (32, (.int .i64 1)), (33, (.int .i64 1)), (34, (.int .i64 1)), (35, (.int .i64 1)), (36, (.int .i64 2)), (37, (.int .i64 2)), (38, (.int .i64 3)), (39, (.int .i64 3)), (40, (.int .i64 4)), (41, (.int .i64 4)), (42, (.int .i64 5)), (43, (.int .i64 7)), (44, (.int .i64 8)), (45, (.int .i64 9)), (46, (.int .i64 10)), (47, (.int .i64 11)), (48, (.int .i64 12)), (49, (.int .i64 13)), (50, (.int .i64 14)), (51, (.int .i64 15)), (52, (.int .i64 16))]) w fun t10 w =>
   R t10 w)
   (kn aQ (.slice none 0 0) w))
theorem adI (kn : K2) (R : K1) (hn : N2 Q kn 0 3) (hr : HR FF R Q) (h : Oh kn R (g 0) w) : bH pg pB (aD 4 nE) Q g w :=
 dS (l := []) h hn hr trivial
def Nx (R : K1) (aQ : aJ3) (w : aJ2) : Prop :=
 Oh (fun aQ bQ w => OK R aQ bQ w) R aQ w
theorem acK (R : K1) (hr : HR FF R Q) (h : Nx R (g 0) w) : bH pg pB nE Q g w :=
 fP 4 (adI _ g w (OK R) R (fun g w h => aK (fP 1 (ahK _ g w (FC R) (fun g w h => aK (ahF _ g w R hr h)) h))) hr h)
def amQ (a0 : aJ3) (w : aJ2) (R : K1) : Prop :=
 Nx R a0 w
theorem aiY {a0 : aJ3} {w : aJ2} {R : K1} (h : amQ a0 w R) : aR pg IL #[a0] w R := by
 refine rQ (ann := pB) Tryd.f36 nE [a0] FF 24 TrydM.mixed Tryd.func36 ?_
 exact (acK _ _ _ R (fun _ _ h => h) h)
def Gl : FA := ⟨uZ, fun i => .leaf ([], []) []⟩
def IF : List ResultVar := [.tmp 0]
noncomputable def Ea : Code := cU Tryd.f37
def AB (R : K1)  (w : aJ2) : Prop :=
 aC pg (bV 141 []) w fun t1 w =>
 aC pg (rL 141 t1) w fun t2 w =>
 R t2 w
theorem Rc (R : K1) (hr : HR IF R Q) (h : AB R w) : bH pg Gl Ea Q g w :=
 dS (kn := no) (l := []) h eP hr trivial
def Pc (w : aJ2) (R : K1) : Prop :=
 AB R w
theorem S5 {w : aJ2} {R : K1} (h : Pc w R) : aR pg uZ #[] w R := by
 refine rQ (ann := Gl) Tryd.f37 Ea [] IF 3 TrydM.mixed Tryd.func37 ?_
 exact (Rc _ _ _ R (fun _ _ h => h) h)
def lQ : FA := ⟨gQ, fun i => .leaf ([], []) []⟩
def uA : List ResultVar := []
noncomputable def kZ : Code := cU Tryd.f38
def pL (kn : K4) (k0 : K0) (uG D6 t17 t18 : aJ3) (w : aJ2) : Prop :=
 aC pg (aG .lss 3 aM aM t18 t17) w fun t19 w =>
 eM t19
  (aC pg (qJ uG) w fun t23 w =>
  aC pg (aL 141 t23 0) w fun t24 w =>
  aC pg (aH 22 t24) w fun t25 w =>
  aC pg (aG .mul 3 aM aM (.int .i64 8) t18) w fun t28 w =>
  aC pg (fL 3 94 t28) w fun t29 w =>
  aC pg (aG .shr 73 aM aM D6 t29) w fun t30 w =>
  aC pg (fL 73 5 t30) w fun t31 w =>
  aC pg (bX 22 1 [(0, t31)]) w fun t32 w =>
  aC pg (jM .append #[22, 22] 22 [t25, t32]) w fun t33 w =>
  aC pg (qJ uG) w fun t34 w =>
  aC pg (aL 141 t34 0) w fun t35 w =>
  aC pg (aJ 22 t35 t33) w fun _u w =>
  aC pg (aG .add 3 aM aM t18 (.int .i64 1)) w fun t36 w =>
  kn uG D6 t17 t36 w)
  (k0 w)
theorem JN (kn : K4) (k0 : K0) (hn : N4 Q kn 0 1 17 18) (h0 : E0 Q k0 0) (h : pL kn k0 (g 0) (g 1) (g 17) (g 18) w) : bH pg lQ (bI (bI (aB 2 kZ))) Q g w :=
 dS (kr := no) (l := [(0, fun g w => k0 w)]) h hn eP ⟨h0, trivial⟩
def uB (k0 : K0) (uG D6 t17 t18 : aJ3) (w : aJ2) : Prop :=
 cG (fun (X : aJ3 -> K0) (t : aJ3) (w : aJ2) => pL (fun _ _ _ t18 w => X t18 w) k0 uG D6 t17 t w) t18 w
theorem LW (k0 : K0) (h0 : E0 Q k0 0) (h : uB k0 (g 0) (g 1) (g 17) (g 18) w) : bH pg lQ (bI (aB 2 kZ)) Q g w := by
 refine Db (fun g : Env => g 18) (fun X t w => pL (fun _ _ _ t18 w => X t18 w) k0 (g 0) (g 1) (g 17) t w) h (fun X g1 w1 ha hL => ?_)
 rw [<- fF 0 ha, <- fF 1 ha, <- fF 17 ha] at hL
 exact (JN _ g1 w1 (fun _ _ _ t18 w => X t18 w) k0 (fun _ _ h => h) h0 hL)
def tZ (kn : K0) (uG D6 t17 t18 : aJ3) (w : aJ2) : Prop :=
 uB kn uG D6 t17 t18 w
def tU (kn : K4) (R : K1) (uG D6 AX : aJ3) (w : aJ2) : Prop :=
 aC pg (aG .eql 95 (.tmp 7) (.const (.pointer none)) uG (.pointer none)) w fun t8 w =>
 Gd (eX t8 false) (fun K => K AX w) w fun t10 w =>
 Gd (eX t8 false) (fun K => aC pg (aG .lss 3 aM aM t10 (.int .i64 1)) w K) w fun t11 w =>
 aC pg (fI t8 (.bool true) t11) w fun t12 w =>
 Gd (eX t12 false) (fun K => K AX w) w fun t14 w =>
 Gd (eX t12 false) (fun K => aC pg (aG .gtr 3 aM aM t14 (.int .i64 8)) w K) w fun t15 w =>
 aC pg (fI t12 (.bool true) t15) w fun t16 w =>
 eM t16
  (R (.tuple #[]) w)
  (kn uG D6 AX (.int .i64 0) w)
theorem Kc (kn : K4) (R : K1) (hn : N4 Q kn 0 1 17 18) (hr : HR uA R Q) (h : tU kn R (g 0) (g 1) (g 2) w) : bH pg lQ (aD 2 kZ) Q g w :=
 dS (l := []) h hn hr trivial
def tT (kn : K0) (R : K1) (uG D6 AX : aJ3) (w : aJ2) : Prop :=
 tU (fun uG D6 t17 t18 w => tZ kn uG D6 t17 t18 w) R uG D6 AX w
theorem Kw (kn : K0) (R : K1) (hn : N0 Q kn) (hr : HR uA R Q) (h : tT kn R (g 0) (g 1) (g 2) w) : bH pg lQ kZ Q g w :=
 fP 2 (Kc _ g w (tZ kn) R (fun g w h => aK (uH 0 (LW _ g w kn hn h))) hr h)
def Gp (a0 a1 a2 : aJ3) (w : aJ2) (R : K1) : Prop :=
 tT (fun  w => R (.tuple #[]) w) R a0 a1 a2 w
theorem L8 {a0 a1 a2 : aJ3} {w : aJ2} {R : K1} (h : Gp a0 a1 a2 w R) : aR pg gQ #[a0, a1, a2] w R := by
 refine rQ (ann := lQ) Tryd.f38 kZ [a0, a1, a2] uA 37 TrydM.mixed Tryd.func38 ?_
 exact (Kw _ _ _ (fun  w => R (.tuple #[]) w) R (fun _ _ h => h) (fun _ _ h => h) h)
end Go.Proofs.YtaggdjhhmbnhoaaDoor

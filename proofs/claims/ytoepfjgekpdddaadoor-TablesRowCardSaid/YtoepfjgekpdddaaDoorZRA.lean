/- Parts of the proof of TablesRow: merged and given short names by a program of ours. -/
import Derived.Orders
import Derived.Below
import Derived.KernelRfl
import Derived.Eval
import Derived.Laws.Sem
import Derived.Scope
import Derived.Test.YtoepfjgekpdddaaDoorRows
import Derived.Laws.IdiomStrings
namespace Go.En
open Go
abbrev gZ := Nat → Value
def put (g : gZ) (d : Option Tmp) (v : Value) : gZ :=
  match d with
  | some d => fun i => match Nat.beq i d with | true => v | false => g i
  | none => g
def ev (g : gZ) : Operand → Value
  | .tmp t => g t
  | .const v => v
  | .global b => .pointer (some ⟨b, 0, none⟩)
  | .func f => .func (.func f) #[] #[]
def Ix (P : Program) (f : FuncId) (args : Array Value) (w : World) (v : Value) (w' : World) : Prop :=
  Calls P f args w fun e w'' => e = .returned v ∧ w'' = w'
def gE (P : Program) (f : FuncId) (args : Array Value) (w : World) (R : Value → World → Prop) : Prop :=
  ∃ v w', Ix P f args w v w' ∧ R v w'
theorem gE.mono {P : Program} {f : FuncId} {args : Array Value} {w : World} {R R' : Value → World → Prop} (h : gE P f args w R)
    (hr : ∀ v w', R v w' → R' v w') : gE P f args w R' :=
  let ⟨v, w', a, b⟩ := h; ⟨v, w', a, hr _ _ b⟩
def Gk (P : Program) (r : Result Next) (K : Value → World → Prop) : Prop :=
  match r with
  | .ok (.value v) w => K v w
  | .ok .skip w => K undef w
  | .ok (.enter f args) w => gE P f args w K
  | _ => False
theorem aD (P : Program) (v : Value) (w : World) (K : Value → World → Prop) : Gk P (.ok (.value v) w) K = K v w := Eq.trans rfl rfl
theorem dM (P : Program) (w : World) (K : Value → World → Prop) : Gk P (.ok .skip w) K = K undef w := Eq.trans rfl rfl
def cJ (P : Program) (s : Sem Next) (w : World) (K : Value → World → Prop) : Prop := Gk P (s.run P w) K
def hC (P : Program) (s : Sem Next) (v : Value) (w : World) : Prop := s.run P w = .ok (.value v) w
def Gd (b : Bool) (s : (Value → World → Prop) → Prop) (w : World) (K : Value → World → Prop) : Prop :=
  match b with
  | true => s K
  | false => K undef w
def Is (v : Value) : Option Bool := match v with | .bool b => some b | _ => none
def iZ (v : Value) (want : Bool) : Bool := Is v == some want
def lS (v : Value) (A B : Prop) : Prop :=
  match v with
  | .bool b => (match b with | true => A | false => B)
  | _ => False
def oH (ops : Array Oper) (j : Nat) : Option Tmp := (ops[j]?).bind (·.dst)
def lV (g : gZ) (t : Option Tmp) (want : Bool) : Bool := match t with | some t => iZ (g t) want | none => false
def V (s : Sem Value) : Sem Next := do pure (.value (← s))
def U (s : Sem Unit) : Sem Next := do s; pure .skip
def tW (op : BinOp) : Bool := match op with | .eql | .neq => true | _ => false
def dU (op : BinOp) (t : TypeId) (ox oy : Operand) (x y : Value) : Sem Next :=
  match tW op with
  | true => V (do eqGuard op t ox oy x y; binOp op t x y)
  | false => V (binOp op t x y)
def lR (b : Builtin) (ats : Array TypeId) (ty : TypeId) (args : List Value) : Sem Next := builtin b ats ty #[] args.toArray
def gF (t : TypeId) (ps : List (Nat × Value)) : Sem Next := V (Instr.build t ps.toArray)
def hH (t : TypeId) (n : Nat) (ps : List (Nat × Value)) : Sem Next := V (Instr.buildSlice t n ps.toArray)
def tP (g : gZ) (o : Oper) : Sem Next :=
  match o.op with
  | .binOp op t x y _ => dU op t x y (ev g x) (ev g y)
  | .build t ps => gF t (ps.toList.map fun p => (p.1, ev g p.2))
  | .buildSlice t n ps => hH t n (ps.toList.map fun p => (p.1, ev g p.2))
  | .call c => (match c.callee with
    | .builtin b => lR b c.argTypes o.type (c.args.toList.map (ev g))
    | _ => execOp (ev g) o)
  | _ => execOp (ev g) o
def sI (P : Program) (g : gZ) (o : Oper) (w : World) (K : Value → World → Prop) : Prop :=
  match o.op with
  | .move x => K (ev g x) w
  | .assign x => K (ev g x) w
  | .call c => (match c.callee with
    | .value (.func f) => gE P f (c.args.toList.map (ev g)).toArray w K
    | _ => cJ P (tP g o) w K)
  | _ => cJ P (tP g o) w K
def rU (P : Program) (ops : Array Oper) (g : gZ) (o : Oper) (w : World) (K : Value → World → Prop) : Prop :=
  match o.guard with
  | none => sI P g o w K
  | some (j, want) => Gd (lV g (oH ops j) want) (sI P g o w) w K
def Cx (P : Program) (ops : Array Oper) : List Oper → gZ → World → (gZ → World → Prop) → Prop
  | [], g, w, K => K g w
  | o :: rest, g, w, K => rU P ops g o w fun v w' => Cx P ops rest (put g o.dst v) w' K
structure GK where
  heavy : Bool
  o : Oper
  g : gZ
  w : World
  v : Value
def In (ops : Array Oper) (o : Oper) (g : gZ) : Bool := match o.guard with | none => true | some (j, want) => lV g (oH ops j) want
def Gs (b : Bool) (p : Prop) : Prop := match b with | true => p | false => True
def yB (P : Program) (ops : Array Oper) (q : GK) (o : Oper) (g : gZ) (w' : World) (v : Value) : Prop :=
  match q.heavy with
  | true => Gs (In ops o g) (hC P (tP g o) v q.w)
  | false => Gs (In ops q.o q.g) (hC P (tP q.g q.o) q.v w')
def Cn (i j : Nat) : List (Nat × Nat) → Bool
  | [] => false
  | (a, b) :: r => match Nat.beq a i with
    | true => (match Nat.beq b j with | true => true | false => Cn i j r)
    | false => Cn i j r
def jJ (i : Nat) : List Nat → Bool
  | [] => false
  | a :: r => match Nat.beq a i with | true => true | false => jJ i r
def D0 : List GK → Nat → Option GK
  | [], _ => none
  | q :: _, 0 => some q
  | _ :: r, n + 1 => D0 r n
def Ha (P : Program) (ops : Array Oper) (o : Oper) (g : gZ) (w' : World) (v : Value) (hist : List GK) : List Nat → Prop
  | [] => True
  | k :: ks => (match D0 hist k with
    | some q => yB P ops q o g w' v
    | none => False) ∧ Ha P ops o g w' v hist ks
abbrev Fb := List Nat × List (Nat × Nat)
abbrev D5 := List (Bool × List Nat)
def jT (P : Program) (ops : Array Oper) : List Oper → D5 → List GK → gZ → World → (gZ → World → Prop) → Prop
  | [], _, _, g, w, K => K g w
  | _ :: _, [], _, _, _, _ => False
  | o :: rest, (hv, ks) :: pl, hist, g, w, K =>
    rU P ops g o w fun v w' =>
      match hv, ks with
      | true, [] => jT P ops rest pl (⟨true, o, g, w, v⟩ :: hist) (put g o.dst v) w' K
      | true, k :: ks => Ha P ops o g w' v hist (k :: ks) ∧ jT P ops rest pl (⟨true, o, g, w, v⟩ :: hist) (put g o.dst v) w' K
      | false, [] => w' = w ∧ jT P ops rest pl (⟨false, o, g, w, v⟩ :: hist) (put g o.dst v) w K
      | false, k :: ks => w' = w ∧ Ha P ops o g w v hist (k :: ks) ∧ jT P ops rest pl (⟨false, o, g, w, v⟩ :: hist) (put g o.dst v) w K
def iY {α : Type} (F : (α → World → Prop) → α → World → Prop) (g : α) (w : World) : Prop :=
  ∃ I : Nat → α → World → Prop, (∃ n, I n g w) ∧ ∀ n g w, I n g w → F (fun g' w' => ∃ m, m < n ∧ I m g' w') g w
def fH (K : gZ → World → Prop) (Q : Exit → gZ → World → Prop) : Exit → gZ → World → Prop
  | .normal, g, w => K g w
  | e, g, w => Q e g w
def CB (id : Nat) (Q : Exit → gZ → World → Prop) : Exit → gZ → World → Prop
  | .exit i, g, w => (match Nat.beq i id with | true => Q .normal g w | false => Q (.exit i) g w)
  | e, g, w => Q e g w
inductive HT where
  | leaf (an : Fb) (pl : D5)
  | perm (π : List Nat) (es : List (Nat × Nat)) (an : Fb) (pl : D5)
  | split (a b : Nat) (x y : HT)
structure FA where
  f : FuncId
  t : Nat → HT
def lA : List Nat → Nat → Nat
  | [], _ => 0
  | a :: r, i => match Nat.beq a i with | true => 0 | false => lA r i + 1
def qM (π : List Nat) (i : Nat) : List (Nat × Nat) → List Edge
  | [] => []
  | (a, b) :: r => match Nat.beq b i with | true => ⟨lA π a, .data⟩ :: qM π i r | false => qM π i r
def qQ (π : List Nat) (es : List (Nat × Nat)) (i : Nat) (o : Oper) : Oper :=
  { dst := o.dst, op := o.op, type := o.type, pos := o.pos, after := (o.after.toList.map (fun e => (⟨lA π e.on, e.ground⟩ : Edge)) ++ qM π i es).toArray,
    guard := match o.guard with | none => none | some (j, b) => some (lA π j, b) }
def zG (π : List Nat) (es : List (Nat × Nat)) (l : List Oper) : List Nat → List Oper
  | [] => []
  | i :: r => match l[i]? with | some o => qQ π es i o :: zG π es l r | none => zG π es l r
def jH (π : List Nat) (es : List (Nat × Nat)) (ops : Array Oper) : Array Oper := (zG π es ops.toList π).toArray
def GO (f : FuncId) (id : Nat) (ops : Array Oper) (a b : Nat) (w : World) : Bool :=
  Nat.ble ((Region.schedule true ops (w.tape w.drawn (.order f id))).idxOf a) ((Region.schedule true ops (w.tape w.drawn (.order f id))).idxOf b)
def H6 (b : Bool) (A B : Prop) : Prop := match b with | true => A | false => B
def DS (P : Program) (f : FuncId) (id : Nat) (ops : Array Oper) : HT → gZ → World → World → (gZ → World → Prop) → Prop
  | .leaf _ pl, g, _, w, K => jT P ops ops.toList pl [] g w K
  | .perm π es _ pl, g, _, w, K => jT P (jH π es ops) (jH π es ops).toList pl [] g w K
  | .split a b x y, g, w0, w, K => H6 (GO f id ops a b w0) (DS P f id ops x g w0 w K) (DS P f id ops y g w0 w K)
def eH (P : Program) (ann : FA) : Code → (Exit → gZ → World → Prop) → gZ → World → Prop
  | .skip, Q, g, w => Q .normal g w
  | .region id ops draw, Q, g, w => match draw with
    | false => Cx P ops ops.toList g w (Q .normal)
    | true => DS P ann.f id ops (ann.t id) g w { w with drawn := w.drawn + 1 } (Q .normal)
  | .seq x y, Q, g, w => eH P ann x (fH (fun g w => eH P ann y Q g w) Q) g w
  | .cond c x y, Q, g, w => lS (ev g c) (eH P ann x Q g w) (eH P ann y Q g w)
  | .block id c, Q, g, w => eH P ann c (CB id Q) g w
  | .loop c, Q, g, w => iY (fun X g w => eH P ann c (fH X Q) g w) g w
  | .scope c, Q, g, w => eH P ann c Q g w
  | .label _, Q, g, w => Q .normal g w
  | .exit id, Q, g, w => Q (.exit id) g w
  | .ret, Q, g, w => Q .ret g w
  | _, _, _, _ => False
def E1 (N : Nat) (o : Oper) : Bool := match o.dst with | some d => Nat.blt d N | none => true
def FS (b : Array Nat) (i j : Nat) : Bool := (b.getD j 0).testBit i
def BD (ops : Array Oper) (o : Oper) : List Tmp :=
  (o.op.operands.toList.filterMap fun | .tmp t => some t | _ => none) ++ (match o.guard with | some (j, _) => (oH ops j).toList | none => [])
def F9 (ops : Array Oper) (x y : Oper) : Bool :=
  (match x.dst with | some d => (BD ops y).contains d || y.dst == some d | none => false) ||
  (match y.dst with | some d => (BD ops x).contains d | none => false)
def Eb (o : Oper) : Bool := match o.op with | .select .. => true | _ => false
def Gp (o : Oper) : Bool := match o.op with | .call { callee := .value (.func _), .. } => true | _ => false
def wB (P : Program) (o : Oper) : Bool :=
  match o.op with
  | .call c => (match c.callee with
    | .value (.func f) => (match P.funcs[f]? with | some fn => fn.body.isSome && !(fn.name == "runtime.NumGoroutine") | none => false)
    | .builtin b => (match b with | .print | .println => false | _ => true)
    | _ => true)
  | _ => true
def uH (o : Oper) : Bool := match o.op with | .move _ | .assign _ => true | _ => false
def wQ (ops : Array Oper) (b : Array Nat) (an : Fb) (i j : Nat) (x y : Oper) : Bool :=
  FS b i j ||
  (!F9 ops x y &&
    match jJ i an.1, jJ j an.1 with
    | true, true => false
    | false, false => true
    | true, false => uH y || Cn i j an.2
    | false, true => uH x || Cn i j an.2)
def DM (ops : Array Oper) (b : Array Nat) (an : Fb) : Bool :=
  (List.range ops.size).all fun j => (List.range j).all fun i =>
    match ops[i]?, ops[j]? with
    | some x, some y => wQ ops b an i j x y
    | _, _ => false
def Dc (ops : Array Oper) : Bool :=
  (List.range ops.size).all fun i => match ops[i]? with
    | some o => o.after.all fun e => !Region.binds .any e || Nat.blt e.on i
    | none => false
def C0 (ops : Array Oper) (b : Array Nat) : Bool :=
  (List.range ops.size).all fun j => (List.range ops.size).all fun i =>
    !FS b i j || (match ops[j]? with
      | some o => o.after.any fun e => Region.binds .any e && (Nat.beq e.on i || FS b i e.on)
      | none => false)
def Cr (ops : Array Oper) (an : Fb) : Bool :=
  Dc ops && C0 ops (Region.before ops) && DM ops (Region.before ops) an && (ops.all fun o => !Eb o) &&
    (List.range ops.size).all fun i => match ops[i]? with | some o => !Gp o || jJ i an.1 | none => false
def Cp (n : Nat) (an : Fb) (pl : D5) : Bool :=
  (List.range n).all fun i => match pl[i]? with
    | some (h, ks) => h == jJ i an.1 && an.2.all fun p => !Nat.beq p.2 i || (Nat.blt p.1 i && ks.contains (i - 1 - p.1))
    | none => false
def EE (π : List Nat) (ops : Array Oper) : Bool :=
  Nat.beq π.length ops.size && ((List.range ops.size).all fun k => match π[k]? with | some i => Nat.beq (lA π i) k && Nat.blt i ops.size | none => false) &&
    ((List.range ops.size).all fun i => match π[lA π i]? with | some j => Nat.beq j i | none => false) &&
    ((List.range ops.size).all fun i => match ops[i]? with
      | some o => (o.after.all fun e => Nat.blt e.on ops.size) && (match o.guard with | some (j, _) => Nat.blt j ops.size | none => true)
      | none => false)
def xT (P : Program) (N : Nat) (ops : Array Oper) : List (Nat × Nat) → HT → Bool
  | _, .leaf an pl => Cr ops an && Cp ops.size an pl
  | path, .perm π es an pl => (es.all fun p => Cn p.1 p.2 path && Nat.blt p.1 ops.size) && EE π ops && (jH π es ops).all (E1 N) && (jH π es ops).all (wB P) &&
      Cr (jH π es ops) an && Cp (jH π es ops).size an pl
  | path, .split a b x y => !Nat.beq a b && xT P N ops ((a, b) :: path) x && xT P N ops ((b, a) :: path) y
def oK (P : Program) (N : Nat) (ann : FA) : Code → Bool
  | .skip | .exit _ | .ret | .label _ => true
  | .scope c => oK P N ann c
  | .region id ops draw => ops.all (E1 N) && ops.all (wB P) && (!draw || xT P N ops [] (ann.t id))
  | .seq x y => oK P N ann x && oK P N ann y
  | .cond _ x y => oK P N ann x && oK P N ann y
  | .block _ c => oK P N ann c
  | .loop c => oK P N ann c
  | _ => false
end Go.En
namespace Go.En
open Go
theorem Ci (g : gZ) (d i : Nat) (v : Value) : put g (some d) v i = if i = d then v else g i := by
  unfold put
  by_cases h : i = d
  · subst h; simp
  · have : Nat.beq i d = false := by
      cases hb : Nat.beq i d
      · rfl
      · exact absurd (Nat.eq_of_beq_eq_true hb) h
    simp [this, h]
def wY (N : Nat) (g : gZ) (a : Act) : Prop := a.defers = [] ∧ a.tmps.size = N ∧ ∀ i, a.tmps.getD i undef = g i
theorem wY.ev {N : Nat} {g : gZ} {a : Act} (h : wY N g a) (x : Operand) : a.eval x = ev g x := by
  cases x <;> simp [Act.eval, En.ev, ← h.2.2]
theorem wY.evs {N : Nat} {g : gZ} {a : Act} (h : wY N g a) : a.eval = En.ev g := funext h.ev
theorem wY.put {N : Nat} {g : gZ} {a : Act} (h : wY N g a) (d : Option Tmp) (v : Value) (hd : ∀ t, d = some t → t < N) :
    wY N (put g d v) (a.put d v) := by
  cases d with
  | none => exact h
  | some t =>
    obtain ⟨h1, h2, h3⟩ := h
    have ht := hd t rfl
    refine ⟨h1, by simp [Act.put, h2], fun i => ?_⟩
    rw [Ci, ← h3 i]
    by_cases hi : i = t
    · subst hi; simp [Act.put, h2, ht]
    · have hi' : t ≠ i := fun e => hi e.symm
      simp [Act.put, hi, Array.getElem?_setIfInBounds_ne hi']
theorem wY.wanted {N : Nat} {g : gZ} {a : Act} (h : wY N g a) (ops : Array Oper) (o : Oper) :
    Region.wanted o (yielded ops a.tmps) = match o.guard with | none => true | some (j, want) => lV g (oH ops j) want := by
  unfold Region.wanted
  cases o.guard with
  | none => rfl
  | some p =>
    obtain ⟨j, want⟩ := p
    simp only [yielded, lV, oH]
    cases (ops[j]?).bind (·.dst) with
    | none => simp
    | some t =>
      have h3 := h.2.2 t
      simp only [Option.bind_some, iZ, Is, ← h3]
      simp only [Array.getD_eq_getD_getElem?]
      cases ht : a.tmps[t]? with
      | none => simp [undef]
      | some v => cases v <;> simp
section
variable {P : Program} {ops : Array Oper}
def BC (P : Program) (ops : Array Oper) (g : gZ) (o : Oper) (w : World) (v : Value) (w' : World) : Prop :=
  ∀ K : Value → World → Prop, K v w' → rU P ops g o w K
theorem Fa {s : Sem Next} {w : World} {K : Value → World → Prop} (h : cJ P s w K) :
    ∃ v w', (∀ K' : Value → World → Prop, K' v w' → cJ P s w K') ∧ K v w' := by
  unfold cJ at *
  generalize s.run P w = r at *
  match r, h with
  | .ok (.value v) w1, h => exact ⟨v, w1, fun _ h' => h', h⟩
  | .ok .skip w1, h => exact ⟨undef, w1, fun _ h' => h', h⟩
  | .ok (.enter f args) w1, h =>
    obtain ⟨v, w', hr, hk⟩ := h
    exact ⟨v, w', fun _ h' => ⟨v, w', hr, h'⟩, hk⟩
theorem C5 {g : gZ} {o : Oper} {w : World} {K : Value → World → Prop} (h : sI P g o w K) :
    ∃ v w', (∀ K' : Value → World → Prop, K' v w' → sI P g o w K') ∧ K v w' := by
  unfold sI at *
  split at h
  · exact ⟨_, _, fun _ h' => h', h⟩
  · exact ⟨_, _, fun _ h' => h', h⟩
  · split at h
    · obtain ⟨v, w', a, b⟩ := h
      exact ⟨v, w', fun _ h' => ⟨v, w', a, h'⟩, b⟩
    · exact Fa h
  · exact Fa h
theorem GP (op : BinOp) (t : TypeId) (ox oy : Operand) (x y : Value) : dU op t ox oy x y = V (do eqGuard op t ox oy x y; binOp op t x y) := by
  cases op <;> simp [dU, tW, eqGuard]
theorem GG {g : gZ} {o : Oper} (ho : wB P o = true) : tP g o = execOp (ev g) o := by
  unfold tP
  split
  · rename_i op t x y yt hx
    simp only [execOp, hx, GP, V]
  · rename_i t ps hx
    have e : (List.map (fun p : Nat × Operand => (p.1, ev g p.2)) ps.toList).toArray = ps.map (fun p => (p.1, ev g p.2)) := by obtain ⟨l⟩ := ps; simp
    simp only [execOp, hx, gF, V, e]
  · rename_i t n ps hx
    have e : (List.map (fun p : Nat × Operand => (p.1, ev g p.2)) ps.toList).toArray = ps.map (fun p => (p.1, ev g p.2)) := by obtain ⟨l⟩ := ps; simp
    simp only [execOp, hx, hH, V, e]
  · rename_i c hx
    split
    · rename_i b hb
      simp only [execOp, hx, resolve, hb, pure_bind, invoke, lR]
      unfold wB at ho
      simp only [hx, hb] at ho
      have e : (List.map (ev g) c.args.toList).toArray = c.args.map (ev g) := by obtain ⟨l⟩ := c.args; simp
      rw [e]
      cases b <;> first | rfl | (cases ho)
    · rfl
  · rfl
theorem Dq {f : FuncId} {fn : Func} (hf : P.funcs[f]? = some fn) (hb : fn.body.isSome = true) (hn : (fn.name == "runtime.NumGoroutine") = false)
    (args : Array Value) (w : World) : (callFunc f args).run P w = .ok (.enter f args) w := by
  unfold callFunc
  have hb' : fn.body.isNone = false := by cases h : fn.body <;> simp_all
  show Sem.run P (Sem.program fun p => _) w = _
  simp only [Sem.run]
  simp only [bind, Sem.bind, hf, hn, hb', Bool.false_eq_true, if_false]
  rfl
theorem uN {g : gZ} {o : Oper} {w : World} {K : Value → World → Prop} (h : rU P ops g o w K) :
    ∃ v w', BC P ops g o w v w' ∧ K v w' := by
  unfold BC
  unfold rU at *
  split at h
  · obtain ⟨v, w', h1, h2⟩ := C5 h
    exact ⟨v, w', h1, h2⟩
  · rename_i j want hg
    unfold Gd at *
    cases hb : lV g (oH ops j) want with
    | true =>
      simp only [hb] at h
      obtain ⟨v, w', h1, h2⟩ := C5 h
      exact ⟨v, w', fun K hk => h1 K hk, h2⟩
    | false =>
      simp only [hb] at h
      exact ⟨_, _, fun K hk => hk, h⟩
theorem BF {N i : Nat} {g : gZ} {a : Act} {o : Oper} {w w' : World} {v : Value} {Q : Exit → Act → World → Prop} {next : Act → World → Prop}
    (hi : ops[i]? = some o) (hc : wB P o = true) (hr : wY N g a) (hy : BC P ops g o w v w') (hn : next (a.put o.dst v) w') : wpOp P ops Q i next a w := by
  have h := hy (fun v2 w2 => v2 = v ∧ w2 = w') ⟨rfl, rfl⟩
  unfold wpOp
  rw [hi]
  simp only [hr.wanted]
  have run : sI P g o w (fun v2 w2 => v2 = v ∧ w2 = w') → o.wp P a w next Q := by
    intro h
    have stp : cJ P (tP g o) w (fun v2 w2 => v2 = v ∧ w2 = w') → o.upon P a next Q ((execOp (ev g) o).run P w) := by
      intro h
      rw [GG hc] at h
      unfold cJ at h
      generalize (execOp (ev g) o).run P w = r at *
      match r, h with
      | .ok (.value v) w1, h => obtain ⟨rfl, rfl⟩ := h; exact hn
      | .ok .skip w1, h => obtain ⟨rfl, rfl⟩ := h; exact hn
      | .ok (.enter f args) w1, h =>
        obtain ⟨v2, w2, hret, rfl, rfl⟩ := h
        simp only [Oper.upon_enter]
        refine Calls.mono hret ?_
        rintro e w'' ⟨rfl, rfl⟩
        exact hn
    unfold Oper.wp
    rw [hr.evs]
    unfold sI at h
    split at h
    · rename_i x hx
      obtain ⟨rfl, rfl⟩ := h
      simp only [execOp, hx]; exact hn
    · rename_i x hx
      obtain ⟨rfl, rfl⟩ := h
      simp only [execOp, hx]; exact hn
    · rename_i c hx
      split at h
      · rename_i f hcal
        obtain ⟨v2, w2, hret, rfl, rfl⟩ := h
        have e : (execOp (ev g) o).run P w = .ok (.enter f (List.map (ev g) c.args.toList).toArray) w := by
          unfold wB at hc
          simp only [hx, hcal] at hc
          cases hfn : P.funcs[f]? with
          | none => rw [hfn] at hc; cases hc
          | some fn =>
            rw [hfn] at hc
            simp only [Bool.and_eq_true, Bool.not_eq_true'] at hc
            have ea : (List.map (ev g) c.args.toList).toArray = c.args.map (ev g) := by obtain ⟨l⟩ := c.args; simp
            rw [ea]
            simp only [execOp, hx, resolve, hcal, ev, Deferred.ofValue, pure_bind, invoke]
            simp only [Array.empty_append, Array.append_empty]
            exact Dq hfn hc.1 hc.2 _ w
        rw [e]
        simp only [Oper.upon_enter]
        refine Calls.mono hret ?_
        rintro e w'' ⟨rfl, rfl⟩
        exact hn
      · exact stp h
    · exact stp h
  unfold rU at h
  cases hg : o.guard with
  | none =>
    rw [hg] at h
    simp only [if_true]
    exact .inl (run h)
  | some p =>
    obtain ⟨j, want⟩ := p
    simp only [hg] at h
    simp only
    by_cases hb : lV g (oH ops j) want = true
    · rw [if_pos hb]
      simp only [hb, Gd] at h
      exact .inl (run h)
    · rw [if_neg hb]
      have hb' : lV g (oH ops j) want = false := by simpa using hb
      simp only [hb', Gd] at h
      obtain ⟨rfl, rfl⟩ := h
      exact hn
def CM (N : Nat) (ops : Array Oper) : Prop := ∀ (i : Nat) (o : Oper), ops[i]? = some o → ∀ t, o.dst = some t → t < N
def zZ (P : Program) (ops : Array Oper) : Prop := ∀ (i : Nat) (o : Oper), ops[i]? = some o → wB P o = true
theorem Fu {N : Nat} (hd : CM N ops) (hca : zZ P ops) {Q : Exit → Act → World → Prop} {K : gZ → World → Prop}
    (hQ : ∀ g a w, wY N g a → K g w → Q .normal a w) :
    ∀ (l : List Oper) (k : Nat) (g : gZ) (a : Act) (w : World), (∀ j, l[j]? = ops[k + j]?) → wY N g a → Cx P ops l g w K →
      wpOps P ops Q (List.range' k l.length) a w := by
  intro l
  induction l with
  | nil => intro k g a w _ hr h; exact hQ _ _ _ hr h
  | cons o l ih =>
    intro k g a w hl hr h
    have h0 : ops[k]? = some o := by have := hl 0; simpa using this.symm
    obtain ⟨v, w', hy, hk⟩ := uN h
    rw [List.length_cons, List.range'_succ, wpOps_cons]
    refine BF h0 (hca k o h0) hr hy ?_
    refine ih (k + 1) _ _ _ (fun j => ?_) (hr.put _ _ (hd k o h0)) hk
    have := hl (j + 1)
    simp only [List.getElem?_cons_succ] at this
    rw [this]; congr 1; omega
def BB (an : Fb) (O : Nat → Oper) (G : Nat → gZ) (W : Nat → World) (V : Nat → Value) (i : Nat) : GK :=
  ⟨jJ i an.1, O i, G i, W i, V i⟩
def Ff (P : Program) (ops : Array Oper) (an : Fb) (O : Nat → Oper) (G : Nat → gZ) (W : Nat → World) (V : Nat → Value) (i j : Nat) : Prop :=
  yB P ops (BB an O G W V i) (O j) (G j) (W (j + 1)) (V j)
structure FU (P : Program) (ops : Array Oper) (an : Fb) (g0 : gZ) (w0 : World) (n : Nat) (O : Nat → Oper) (G : Nat → gZ) (W : Nat → World) (V : Nat → Value) : Prop where
  g0 : G 0 = g0
  w0 : W 0 = w0
  op : ∀ i, i < n → ops[i]? = some (O i)
  yld : ∀ i, i < n → BC P ops (G i) (O i) (W i) (V i) (W (i + 1))
  light : ∀ i, i < n → jJ i an.1 = false → W (i + 1) = W i
  env : ∀ i, i < n → G (i + 1) = put (G i) (O i).dst (V i)
  chk : ∀ i j, i < j → j < n → Cn i j an.2 = true → Ff P ops an O G W V i j
theorem DO {o : Oper} {g : gZ} {w' : World} {v : Value} {hist : List GK} : ∀ {ks : List Nat}, Ha P ops o g w' v hist ks → ∀ k ∈ ks, ∃ q, D0 hist k = some q ∧ yB P ops q o g w' v := by
  intro ks
  induction ks with
  | nil => intro _ k hk; cases hk
  | cons a ks ih =>
    rintro ⟨h1, h2⟩ k hk
    rcases List.mem_cons.1 hk with rfl | hk
    · cases hn : D0 hist k with
      | none => rw [hn] at h1; exact h1.elim
      | some q => rw [hn] at h1; exact ⟨q, rfl, h1⟩
    · exact ih h2 k hk
theorem FP {n : Nat} {an : Fb} {pl : D5} (h : Cp n an pl = true) {i : Nat} (hi : i < n) :
    ∃ ks, pl[i]? = some (jJ i an.1, ks) ∧ ∀ j, Cn j i an.2 = true → j < i ∧ (i - 1 - j) ∈ ks := by
  have := List.all_eq_true.1 h i (List.mem_range.2 hi)
  cases hp : pl[i]? with
  | none => rw [hp] at this; cases this
  | some p =>
    obtain ⟨hv, ks⟩ := p
    rw [hp] at this
    simp only [Bool.and_eq_true] at this
    obtain ⟨h1, h2⟩ := this
    have h1 : hv = jJ i an.1 := by simpa using h1
    refine ⟨ks, by rw [h1], fun j hj => ?_⟩
    have mm : ∀ (l : List (Nat × Nat)), Cn j i l = true → (j, i) ∈ l := by
      intro l
      induction l with
      | nil => intro h; cases h
      | cons q r ih =>
        obtain ⟨a, b⟩ := q
        intro h
        unfold Cn at h
        cases ha : Nat.beq a j with
        | true =>
          simp only [ha] at h
          cases hb : Nat.beq b i with
          | true =>
            obtain rfl := Nat.eq_of_beq_eq_true ha
            obtain rfl := Nat.eq_of_beq_eq_true hb
            exact List.mem_cons_self
          | false => simp only [hb] at h; exact List.mem_cons_of_mem _ (ih h)
        | false => simp only [ha] at h; exact List.mem_cons_of_mem _ (ih h)
    have := List.all_eq_true.1 h2 (j, i) (mm _ hj)
    simp only [Nat.beq_refl, Bool.not_true, Bool.false_or, Bool.and_eq_true] at this
    refine ⟨?_, by simpa using this.2⟩
    have hlt := this.1
    exact (Nat.blt_eq (x := j) (y := i)) ▸ hlt
theorem D7 {an : Fb} {pl : D5} {g0 : gZ} {w0 : World} {K : gZ → World → Prop} (hpl : Cp ops.size an pl = true) :
    ∀ (l : List Oper) (m : Nat) (hist : List GK) (O : Nat → Oper) (G : Nat → gZ) (W : Nat → World) (V : Nat → Value),
      (∀ j, l[j]? = ops[m + j]?) → m + l.length = ops.size → FU P ops an g0 w0 m O G W V → (∀ i, i < m → D0 hist (m - 1 - i) = some (BB an O G W V i)) →
      jT P ops l (pl.drop m) hist (G m) (W m) K →
      ∃ (O : Nat → Oper) (G : Nat → gZ) (W : Nat → World) (V : Nat → Value), FU P ops an g0 w0 (m + l.length) O G W V ∧ K (G (m + l.length)) (W (m + l.length)) := by
  intro l
  induction l with
  | nil => intro m hist O G W V _ _ hr _ h; exact ⟨O, G, W, V, hr, by unfold jT at h; exact h⟩
  | cons o l ih =>
    intro m hist O G W V hl hlen hr hh h
    have h0 : ops[m]? = some o := by have := hl 0; simpa using this.symm
    have hmn : m < ops.size := by rw [List.length_cons] at hlen; omega
    obtain ⟨ks, hk1, hk2⟩ := FP hpl hmn
    have hdrop : pl.drop m = (jJ m an.1, ks) :: pl.drop (m + 1) := by
      have hlt : m < pl.length := by
        rcases Nat.lt_or_ge m pl.length with h | h
        · exact h
        · rw [List.getElem?_eq_none h] at hk1; cases hk1
      rw [List.drop_eq_getElem_cons hlt]
      rw [List.getElem?_eq_getElem hlt] at hk1
      rw [Option.some.inj hk1]
    rw [hdrop] at h
    obtain ⟨v, w', hy, hk⟩ := uN h
    have key : (jJ m an.1 = false → w' = W m) ∧ (∀ k ∈ ks, ∃ q, D0 hist k = some q ∧ yB P ops q o (G m) w' v) ∧
        (jT P ops l (pl.drop (m + 1)) (⟨jJ m an.1, o, G m, W m, v⟩ :: hist) (put (G m) o.dst v) w' K) := by
      have nil : ∀ w', ∀ k ∈ ([] : List Nat), ∃ q, D0 hist k = some q ∧ yB P ops q o (G m) w' v := fun _ k hk => (by cases hk)
      cases hm : jJ m an.1 with
      | true =>
        rw [hm] at hk
        cases ks with
        | nil => exact ⟨fun e => (by cases e), nil _, hk⟩
        | cons k ks => exact ⟨fun e => (by cases e), DO hk.1, hk.2⟩
      | false =>
        rw [hm] at hk
        cases ks with
        | nil => obtain ⟨rfl, hk⟩ := hk; exact ⟨fun _ => rfl, nil _, hk⟩
        | cons k ks => obtain ⟨rfl, hc, hk⟩ := hk; exact ⟨fun _ => rfl, DO hc, hk⟩
    obtain ⟨kl, c1, c2⟩ := key
    let O' : Nat → Oper := fun i => if i = m then o else O i
    let V' : Nat → Value := fun i => if i = m then v else V i
    let G' : Nat → gZ := fun i => if i = m + 1 then put (G m) o.dst v else G i
    let W' : Nat → World := fun i => if i = m + 1 then w' else W i
    have eO : ∀ i, i < m → O' i = O i := fun i hi => if_neg (by omega)
    have eV : ∀ i, i < m → V' i = V i := fun i hi => if_neg (by omega)
    have eG : ∀ i, i ≤ m → G' i = G i := fun i hi => if_neg (by omega)
    have eW : ∀ i, i ≤ m → W' i = W i := fun i hi => if_neg (by omega)
    have oO : O' m = o := if_pos rfl
    have oV : V' m = v := if_pos rfl
    have oG : G' (m + 1) = put (G m) o.dst v := if_pos rfl
    have oW : W' (m + 1) = w' := if_pos rfl
    have eR : ∀ i, i < m → BB an O' G' W' V' i = BB an O G W V i := fun i hi => by
      simp only [BB, eO i hi, eV i hi, eG i (by omega), eW i (by omega)]
    have hr' : FU P ops an g0 w0 (m + 1) O' G' W' V' := by
      refine ⟨by rw [eG 0 (by omega)]; exact hr.g0, by rw [eW 0 (by omega)]; exact hr.w0, fun i hi => ?_, fun i hi => ?_, fun i hi hm => ?_, fun i hi => ?_, fun i j hij hj hm => ?_⟩
      · by_cases hi' : i = m
        · subst hi'; rw [oO]; exact h0
        · rw [eO i (by omega)]; exact hr.op i (by omega)
      · by_cases hi' : i = m
        · subst hi'; rw [oO, oV, oW, eG i (by omega), eW i (by omega)]; exact hy
        · rw [eO i (by omega), eV i (by omega), eG i (by omega), eW i (by omega), eW (i + 1) (by omega)]; exact hr.yld i (by omega)
      · by_cases hi' : i = m
        · subst hi'; rw [oW, eW i (by omega)]; exact kl hm
        · rw [eW i (by omega), eW (i + 1) (by omega)]; exact hr.light i (by omega) hm
      · by_cases hi' : i = m
        · subst hi'; rw [oO, oV, oG, eG i (by omega)]
        · rw [eO i (by omega), eV i (by omega), eG i (by omega), eG (i + 1) (by omega)]; exact hr.env i (by omega)
      · unfold Ff
        by_cases hj' : j = m
        · subst hj'
          rw [eR i (by omega), oO, oV, oW, eG j (by omega)]
          obtain ⟨q, hq, hc⟩ := c1 _ (hk2 i hm).2
          rw [hh i hij] at hq
          obtain rfl := Option.some.inj hq
          exact hc
        · rw [eR i (by omega), eO j (by omega), eV j (by omega), eG j (by omega), eW (j + 1) (by omega)]
          exact hr.chk i j hij (by omega) hm
    have := ih (m + 1) (⟨jJ m an.1, o, G m, W m, v⟩ :: hist) O' G' W' V' (fun j => by
        have := hl (j + 1)
        simp only [List.getElem?_cons_succ] at this
        rw [this]; congr 1; omega) (by rw [List.length_cons] at hlen; omega) hr' (fun i hi => by
        by_cases hi' : i = m
        · subst hi'
          rw [show i + 1 - 1 - i = 0 from by omega]
          simp only [D0, BB, oO, oV, eG i (by omega), eW i (by omega)]
        · rw [eR i (by omega), show m + 1 - 1 - i = (m - 1 - i) + 1 from by omega]
          exact hh i (by omega)) (by rw [oG, oW]; exact c2)
    rw [List.length_cons, show m + (l.length + 1) = m + 1 + l.length from by omega]
    exact this
end
end Go.En
namespace Go.En
open Go
section
variable {P : Program} {ops : Array Oper} {an : Fb} {g0 : gZ} {w0 : World} {O : Nat → Oper} {G : Nat → gZ} {W : Nat → World} {V : Nat → Value}
def uD (n : Nat) (O : Nat → Oper) (V : Nat → Value) (g0 : gZ) (S : Nat → Prop) (g : gZ) : Prop :=
  ∀ s, (∃ j, j < n ∧ S j ∧ (O j).dst = some s ∧ (∀ k, k < n → S k → (O k).dst = some s → k ≤ j) ∧ g s = V j) ∨
    ((∀ j, j < n → S j → (O j).dst ≠ some s) ∧ g s = g0 s)
theorem uD.agree {n : Nat} {S T : Nat → Prop} {g g' : gZ} (h : uD n O V g0 S g) (h' : uD n O V g0 T g') (s : Nat)
    (hs : ∀ j, j < n → (O j).dst = some s → (S j ↔ T j)) : g s = g' s := by
  rcases h s with ⟨j, h1, h2, h3, h4, h5⟩ | ⟨h1, h2⟩ <;> rcases h' s with ⟨k, k1, k2, k3, k4, k5⟩ | ⟨k1, k2⟩
  · have a := h4 k k1 ((hs k k1 k3).2 k2) k3
    have b := k4 j h1 ((hs j h1 h3).1 h2) h3
    have : j = k := by omega
    subst this; rw [h5, k5]
  · exact absurd h3 (k1 j h1 ((hs j h1 h3).1 h2))
  · exact absurd k3 (h1 k k1 ((hs k k1 k3).2 k2))
  · rw [h2, k2]
theorem uD.step {n : Nat} {S : Nat → Prop} {g : gZ} (h : uD n O V g0 S g) (i : Nat) (hi : i < n)
    (hw : ∀ s, (O i).dst = some s → ∀ j, j < n → j ≠ i → (O j).dst = some s → S j → j < i) :
    uD n O V g0 (fun j => S j ∨ j = i) (put g (O i).dst (V i)) := by
  intro s
  cases hd : (O i).dst with
  | none =>
    rcases h s with ⟨j, h1, h2, h3, h4, h5⟩ | ⟨h1, h2⟩
    · refine .inl ⟨j, h1, .inl h2, h3, fun k k1 k2 k3 => ?_, h5⟩
      rcases k2 with k2 | rfl
      · exact h4 k k1 k2 k3
      · rw [hd] at k3; cases k3
    · refine .inr ⟨fun j h3 h4 h5 => ?_, h2⟩
      rcases h4 with h4 | rfl
      · exact h1 j h3 h4 h5
      · rw [hd] at h5; cases h5
  | some t =>
    rw [Ci]
    by_cases hst : s = t
    · subst hst
      rw [if_pos rfl]
      refine .inl ⟨i, hi, .inr rfl, hd, fun k k1 k2 k3 => ?_, rfl⟩
      rcases k2 with k2 | rfl
      · by_cases hk : k = i
        · omega
        · have := hw s hd k k1 hk k3 k2; omega
      · omega
    · rw [if_neg hst]
      rcases h s with ⟨j, h1, h2, h3, h4, h5⟩ | ⟨h1, h2⟩
      · refine .inl ⟨j, h1, .inl h2, h3, fun k k1 k2 k3 => ?_, h5⟩
        rcases k2 with k2 | rfl
        · exact h4 k k1 k2 k3
        · rw [hd] at k3; exact absurd (Option.some.inj k3).symm hst
      · refine .inr ⟨fun j h3 h4 h5 => ?_, h2⟩
        rcases h4 with h4 | rfl
        · exact h1 j h3 h4 h5
        · rw [hd] at h5; exact absurd (Option.some.inj h5).symm hst
theorem FU.envFor {n : Nat} (r : FU P ops an g0 w0 n O G W V) : ∀ i, i ≤ n → uD n O V g0 (fun j => j < i) (G i) := by
  intro i
  induction i with
  | zero => intro _ s; exact .inr ⟨fun j _ h => absurd h (by omega), by rw [r.g0]⟩
  | succ i ih =>
    intro hi
    have h := ih (by omega)
    have := h.step (V := V) i (by omega) (fun s _ j _ _ _ hj => hj)
    rw [← r.env i (by omega)] at this
    intro s
    rcases this s with ⟨j, h1, h2, h3, h4, h5⟩ | ⟨h1, h2⟩
    · exact .inl ⟨j, h1, by omega, h3, fun k k1 k2 k3 => h4 k k1 (by omega) k3, h5⟩
    · exact .inr ⟨fun j a b => h1 j a (by omega), h2⟩
theorem FU.still {n : Nat} (r : FU P ops an g0 w0 n O G W V) (i : Nat) : ∀ d, i + d ≤ n → (∀ h, i ≤ h → h < i + d → jJ h an.1 = false) → W (i + d) = W i := by
  intro d
  induction d with
  | zero => intro _ _; rfl
  | succ d ih =>
    intro h1 h2
    rw [← Nat.add_assoc, r.light (i + d) (by omega) (h2 _ (by omega) (by omega))]
    exact ih (by omega) (fun h a b => h2 h a (by omega))
theorem FU.still' {n : Nat} (r : FU P ops an g0 w0 n O G W V) {i k : Nat} (hik : i ≤ k) (hk : k ≤ n) (hh : ∀ h, i ≤ h → h < k → jJ h an.1 = false) : W k = W i := by
  have := r.still i (k - i) (by omega) (fun h a b => hh h a (by omega))
  rwa [show i + (k - i) = k from by omega] at this
theorem D8 {i k : Nat} : (∃ h, i ≤ h ∧ h < k ∧ jJ h an.1 = true) → ∃ h, i ≤ h ∧ h < k ∧ jJ h an.1 = true ∧ ∀ h', i ≤ h' → h' < h → jJ h' an.1 = false := by
  rintro ⟨h, h1, h2, h3⟩
  induction h using Nat.strongRecOn with
  | _ h ih =>
    by_cases hx : ∃ h', i ≤ h' ∧ h' < h ∧ jJ h' an.1 = true
    · obtain ⟨h', a, b, c⟩ := hx
      exact ih h' b a (by omega) c
    · refine ⟨h, h1, h2, h3, fun h' a b => ?_⟩
      cases hm : jJ h' an.1
      · rfl
      · exact absurd ⟨h', a, b, hm⟩ hx
theorem Cy {i k : Nat} : (∃ h, i ≤ h ∧ h < k ∧ jJ h an.1 = true) → ∃ h, i ≤ h ∧ h < k ∧ jJ h an.1 = true ∧ ∀ h', h < h' → h' < k → jJ h' an.1 = false := by
  rintro ⟨h, h1, h2, h3⟩
  induction hd : k - h using Nat.strongRecOn generalizing h with
  | _ d ih =>
    by_cases hx : ∃ h', h < h' ∧ h' < k ∧ jJ h' an.1 = true
    · obtain ⟨h', a, b, c⟩ := hx
      exact ih (k - h') (by omega) h' (by omega) b c rfl
    · refine ⟨h, h1, h2, h3, fun h' a b => ?_⟩
      cases hm : jJ h' an.1
      · rfl
      · exact absurd ⟨h', a, b, hm⟩ hx
structure CJ (ops : Array Oper) (an : Fb) (O : Nat → Oper) (b : Array Nat) : Prop where
  back : ∀ i, i < ops.size → ∀ e ∈ (O i).after, Region.binds .any e = true → e.on < i
  closed : ∀ i j, i < ops.size → j < ops.size → FS b i j = true → ∃ e ∈ (O j).after, Region.binds .any e = true ∧ (e.on = i ∨ FS b i e.on = true)
  pair : ∀ i j, i < j → j < ops.size → wQ ops b an i j (O i) (O j) = true
  sel : ∀ i, i < ops.size → Eb (O i) = false
  fn : ∀ i, i < ops.size → Gp (O i) = true → jJ i an.1 = true
theorem Fi (h : Cr ops an = true) (ho : ∀ i, i < ops.size → ops[i]? = some (O i)) : CJ ops an O (Region.before ops) := by
  unfold Cr at h
  simp only [Bool.and_eq_true] at h
  obtain ⟨⟨⟨⟨h1, h2⟩, h3⟩, h5⟩, h6⟩ := h
  refine ⟨fun i hi e he hb => ?_, fun i j hi hj hb => ?_, fun i j hij hj => ?_, fun i hi => ?_, fun i hi hf => ?_⟩
  · unfold Dc at h1
    have := List.all_eq_true.1 h1 i (List.mem_range.2 hi)
    rw [ho i hi] at this
    have := Array.all_eq_true'.1 this e he
    simp only [hb, Bool.not_true, Bool.false_or] at this
    exact (Nat.blt_eq (x := e.on) (y := i)) ▸ this
  · unfold C0 at h2
    have := List.all_eq_true.1 (List.all_eq_true.1 h2 j (List.mem_range.2 hj)) i (List.mem_range.2 hi)
    rw [ho j hj] at this
    simp only [hb, Bool.not_true, Bool.false_or] at this
    obtain ⟨e, he, h⟩ := Array.any_eq_true'.1 this
    simp only [Bool.and_eq_true, Bool.or_eq_true] at h
    refine ⟨e, he, h.1, h.2.imp (fun h => Nat.eq_of_beq_eq_true h) id⟩
  · unfold DM at h3
    have := List.all_eq_true.1 (List.all_eq_true.1 h3 j (List.mem_range.2 hj)) i (List.mem_range.2 hij)
    rw [ho i (by omega), ho j hj] at this
    exact this
  · have := Array.all_eq_true'.1 h5 (O i) (Array.mem_of_getElem? (ho i hi))
    simpa using this
  · have := List.all_eq_true.1 h6 i (List.mem_range.2 hi)
    rw [ho i hi] at this
    simpa [hf] using this
theorem F4 {i j : Nat} : ∀ {l : List (Nat × Nat)}, Cn i j l = true → (i, j) ∈ l := by
  intro l
  induction l with
  | nil => intro h; cases h
  | cons p r ih =>
    obtain ⟨a, b⟩ := p
    intro h
    unfold Cn at h
    cases ha : Nat.beq a i with
    | true =>
      simp only [ha] at h
      cases hb : Nat.beq b j with
      | true =>
        obtain rfl := Nat.eq_of_beq_eq_true ha
        obtain rfl := Nat.eq_of_beq_eq_true hb
        exact List.mem_cons_self
      | false => simp only [hb] at h; exact List.mem_cons_of_mem _ (ih h)
    | false => simp only [ha] at h; exact List.mem_cons_of_mem _ (ih h)
theorem CJ.order {b : Array Nat} (st : CJ ops an O b) {S : Nat → Prop} {i : Nat} (hi : i < ops.size)
    (hdown : ∀ j k, j < ops.size → k < ops.size → S k → FS b j k = true → S j) (hbi : ∀ j, j < ops.size → FS b j i = true → S j) (hni : ¬ S i)
    {s : Nat} (hs : s ∈ BD ops (O i) ∨ (O i).dst = some s) {j : Nat} (hj : j < ops.size) (hji : j ≠ i) (hd : (O j).dst = some s) : S j ↔ j < i := by
  rcases Nat.lt_or_ge j i with h | h
  · refine ⟨fun _ => h, fun _ => ?_⟩
    have p := st.pair j i h hi
    unfold wQ at p
    simp only [Bool.or_eq_true, Bool.and_eq_true, Bool.not_eq_true'] at p
    rcases p with p | p
    · exact hbi j hj p
    · exfalso
      have p1 := p.1
      unfold F9 at p1
      simp only [hd, Bool.or_eq_false_iff] at p1
      rcases hs with hs | hs
      · have := p1.1.1; simp [hs] at this
      · have := p1.1.2; simp [hs] at this
  · have h' : i < j := by omega
    refine ⟨fun hS => ?_, fun hh => by omega⟩
    exfalso
    have p := st.pair i j h' hj
    unfold wQ at p
    simp only [Bool.or_eq_true, Bool.and_eq_true, Bool.not_eq_true'] at p
    rcases p with p | p
    · exact hni (hdown i j hi hj hS p)
    · have p1 := p.1
      unfold F9 at p1
      simp only [hd, Bool.or_eq_false_iff] at p1
      rcases hs with hs | hs
      · have := p1.2; simp [hs] at this
      · have := p1.1; rw [hs] at this; simp at this
theorem tM {g g' : gZ} {o : Oper} (h : ∀ s ∈ BD ops o, g s = g' s) : ∀ x ∈ o.op.operands, ev g x = ev g' x := by
  intro x hx
  cases x with
  | tmp t => exact h t (List.mem_append_left _ (List.mem_filterMap.2 ⟨.tmp t, by simpa using hx, rfl⟩))
  | _ => rfl
theorem El {g g' : gZ} {o : Oper} (hs : Eb o = false) (h : ∀ s ∈ BD ops o, g s = g' s) : tP g o = tP g' o := by
  have e := execOp_congr o (fun cs b he => by simp [Eb, he] at hs) (tM h)
  have k := tM h
  unfold tP
  split
  · rename_i op t x y yt hx
    rw [k x (by simp [hx, Op.operands]), k y (by simp [hx, Op.operands])]
  · rename_i t ps hx
    congr 1
    refine List.map_congr_left fun p hp => ?_
    rw [k p.2 (by simp [hx, Op.operands]; exact ⟨p.1, by simpa using hp⟩)]
  · rename_i t n ps hx
    congr 1
    refine List.map_congr_left fun p hp => ?_
    rw [k p.2 (by simp [hx, Op.operands]; exact ⟨p.1, by simpa using hp⟩)]
  · rename_i c hx
    split
    · rename_i b hb
      congr 1
      refine List.map_congr_left fun p hp => ?_
      exact k p (by simp [hx, Op.operands, Call.operands, hb]; simpa using hp)
    · exact e
  · exact e
theorem CO {g g' : gZ} {o : Oper} {j : Nat} {want : Bool} (hg : o.guard = some (j, want)) (h : ∀ s ∈ BD ops o, g s = g' s) :
    lV g (oH ops j) want = lV g' (oH ops j) want := by
  cases hs : oH ops j with
  | none => rfl
  | some t =>
    have := h t (List.mem_append_right _ (by simp [hg, hs]))
    simp [lV, this]
theorem zO {g g' : gZ} {o : Oper} {w : World} {K : Value → World → Prop} (hs : Eb o = false) (h : ∀ s ∈ BD ops o, g s = g' s)
    (hk : rU P ops g o w K) : rU P ops g' o w K := by
  have e := El (ops := ops) hs h
  have run : sI P g o w = sI P g' o w := by
    funext K
    unfold sI
    split
    · rename_i x hx
      have := tM (ops := ops) h x (by simp [hx, Op.operands])
      rw [this]
    · rename_i x hx
      have := tM (ops := ops) h x (by simp [hx, Op.operands])
      rw [this]
    · rename_i c hx
      have k := tM h
      have : List.map (ev g) c.args.toList = List.map (ev g') c.args.toList := List.map_congr_left fun p hp => k p (by simp [hx, Op.operands, Call.operands]; exact .inr (by simpa using hp))
      rw [this, e]
    · rw [e]
  unfold rU at *
  cases hg : o.guard with
  | none => rw [hg] at hk; simp only at hk ⊢; rwa [← run]
  | some p =>
    obtain ⟨j, want⟩ := p
    simp only [hg] at hk ⊢
    rw [← run, ← CO hg h]
    exact hk
theorem Ed {n : Nat} (hn : n = ops.size) {b : Array Nat} (r : FU P ops an g0 w0 n O G W V) (st : CJ ops an O b) {S : Nat → Prop} {i k : Nat} (hi : i < n) (hk : k ≤ n)
    (hdown : ∀ j k, j < ops.size → k < ops.size → S k → FS b j k = true → S j) (hbi : ∀ j, j < ops.size → FS b j i = true → S j) (hni : ¬ S i)
    (hS : ∀ h, h < n → jJ h an.1 = true → (S h ↔ h < k)) (hl : jJ i an.1 = false) :
    BC P ops (G i) (O i) (W k) (V i) (W k) := by
  subst hn
  have same : Gs (In ops (O i) (G i)) (hC P (tP (G i) (O i)) (V i) (W k)) → uH (O i) = false → BC P ops (G i) (O i) (W k) (V i) (W k) := by
    intro hs hm K hK
    have run : hC P (tP (G i) (O i)) (V i) (W k) → sI P (G i) (O i) (W k) K := by
      intro hs
      unfold hC at hs
      have stp : cJ P (tP (G i) (O i)) (W k) K := by unfold cJ; rw [hs]; exact hK
      unfold sI
      split
      · rename_i x hx; simp [uH, hx] at hm
      · rename_i x hx; simp [uH, hx] at hm
      · rename_i c hx
        have hf : Gp (O i) = false := by
          cases hh : Gp (O i)
          · rfl
          · rw [st.fn i hi hh] at hl; cases hl
        obtain ⟨cal, cargs, cats⟩ := c
        cases cal with
        | value f =>
          cases f with
          | func f => simp [Gp, hx] at hf
          | _ => exact stp
        | _ => exact stp
      · exact stp
    have hy := r.yld i hi (fun v _ => v = V i) rfl
    unfold rU at hy ⊢
    unfold In at hs
    cases hg : (O i).guard with
    | none => rw [hg] at hs; exact run hs
    | some p =>
      obtain ⟨j, want⟩ := p
      rw [hg] at hs
      simp only [hg] at hs hy ⊢
      cases hb : lV (G i) (oH ops j) want with
      | true => rw [hb] at hs; exact run hs
      | false =>
        rw [hb] at hy
        have : undef = V i := hy
        show K undef (W k)
        rw [this]; exact hK
  have moved : uH (O i) = true → BC P ops (G i) (O i) (W k) (V i) (W k) := by
    intro hm K hK
    have hy := r.yld i hi (fun v _ => v = V i) rfl
    unfold rU at hy ⊢
    have mv : ∀ (K' : Value → World → Prop) w, sI P (G i) (O i) w K' ↔ ∃ x, ((O i).op = .move x ∨ (O i).op = .assign x) ∧ K' (ev (G i) x) w := by
      intro K' w
      unfold sI
      unfold uH at hm
      split
      · rename_i x hx; constructor
        · intro h; exact ⟨x, .inl hx, h⟩
        · rintro ⟨y, h | h, h'⟩
          · rw [hx] at h; cases h; exact h'
          · rw [hx] at h; cases h
      · rename_i x hx; constructor
        · intro h; exact ⟨x, .inr hx, h⟩
        · rintro ⟨y, h | h, h'⟩
          · rw [hx] at h; cases h
          · rw [hx] at h; cases h; exact h'
      · rename_i c hx; simp [hx] at hm
      · rename_i h1 h2 _; split at hm
        · rename_i x hx; exact absurd hx (h1 x)
        · rename_i x hx; exact absurd hx (h2 x)
        · cases hm
    cases hg : (O i).guard with
    | none =>
      rw [hg] at hy
      simp only at hy ⊢
      rw [mv] at hy ⊢
      obtain ⟨x, hx, h⟩ := hy
      exact ⟨x, hx, h ▸ hK⟩
    | some p =>
      obtain ⟨j, want⟩ := p
      simp only [hg] at hy ⊢
      unfold Gd at *
      cases hb : lV (G i) (oH ops j) want with
      | true =>
        simp only [hb] at hy ⊢
        rw [mv] at hy ⊢
        obtain ⟨x, hx, h⟩ := hy
        exact ⟨x, hx, h ▸ hK⟩
      | false =>
        simp only [hb] at hy ⊢
        rwa [hy]
  rcases Nat.le_total k i with hki | hki
  · by_cases hx : ∃ h, k ≤ h ∧ h < i ∧ jJ h an.1 = true
    · obtain ⟨h, h1, h2, h3, h4⟩ := D8 hx
      have e : W h = W k := r.still' h1 (by omega) h4
      have p := st.pair h i h2 hi
      unfold wQ at p
      simp only [Bool.or_eq_true, Bool.and_eq_true, Bool.not_eq_true'] at p
      rcases p with p | p
      · have := hbi h (by omega) p
        have := (hS h (by omega) h3).1 this
        omega
      · have p2 := p.2
        rw [h3, hl] at p2
        simp only [Bool.or_eq_true] at p2
        cases hmv : uH (O i) with
        | true => exact moved hmv
        | false =>
          rcases p2 with p2 | p2
          · rw [hmv] at p2; cases p2
          · refine same ?_ hmv
            have c := r.chk h i h2 hi p2
            unfold Ff yB BB at c
            simp only [h3] at c
            rw [← e]; exact c
    · have e : W i = W k := r.still' hki (by omega) (fun h a b => by
        cases hm : jJ h an.1
        · rfl
        · exact absurd ⟨h, a, b, hm⟩ hx)
      have hy := r.yld i hi
      rw [r.light i hi hl, e] at hy
      exact hy
  · by_cases hx : ∃ h, i ≤ h ∧ h < k ∧ jJ h an.1 = true
    · obtain ⟨h, h1, h2, h3, h4⟩ := Cy hx
      have hne : h ≠ i := fun e => by rw [e, hl] at h3; cases h3
      have e : W k = W (h + 1) := r.still' (by omega) hk (fun h' a b => h4 h' (by omega) b)
      have p := st.pair i h (by omega) (by omega)
      unfold wQ at p
      simp only [Bool.or_eq_true, Bool.and_eq_true, Bool.not_eq_true'] at p
      rcases p with p | p
      · exact absurd (hdown i h (by omega) (by omega) ((hS h (by omega) h3).2 h2) p) hni
      · have p2 := p.2
        rw [h3, hl] at p2
        simp only [Bool.or_eq_true] at p2
        cases hmv : uH (O i) with
        | true => exact moved hmv
        | false =>
          rcases p2 with p2 | p2
          · rw [hmv] at p2; cases p2
          · refine same ?_ hmv
            have c := r.chk i h (by omega) (by omega) p2
            unfold Ff yB BB at c
            simp only [hl] at c
            rw [e]; exact c
    · have e : W k = W i := r.still' hki hk (fun h a b => by
        cases hm : jJ h an.1
        · rfl
        · exact absurd ⟨h, a, b, hm⟩ hx)
      have hy := r.yld i hi
      rw [r.light i hi hl, ← e] at hy
      exact hy
def iP (listed : Array Bool) (i : Nat) : Prop := listed.getD i false = true
theorem F5 {N n : Nat} (hn : n = ops.size) (hd : CM N ops) (hca : zZ P ops) {b : Array Nat} (r : FU P ops an g0 w0 n O G W V) (st : CJ ops an O b)
    {Q : Exit → Act → World → Prop} (hQ : ∀ a, wY N (G n) a → Q .normal a (W n)) :
    ∀ (fuel : Nat) (listed : Array Bool) (g : gZ) (a : Act) (k : Nat), listed.size = n → wY N g a → k ≤ n →
      (∀ j, j < n → iP listed j → ∀ e ∈ (O j).after, Region.binds .any e = true → iP listed e.on) →
      uD n O V g0 (iP listed) g → (∀ h, h < n → jJ h an.1 = true → (iP listed h ↔ h < k)) →
      ((List.range n).filter fun i => !listed.getD i false).length ≤ fuel →
      wpAny P .any ops Q fuel listed a (W k) := by
  subst hn
  have ready_iff : ∀ (listed : Array Bool), listed.size = ops.size → ∀ i, i ∈ Region.ready .any ops listed ↔ (i < ops.size ∧ ¬ iP listed i ∧ ∀ e ∈ (O i).after, Region.binds .any e = true → iP listed e.on) := by
    intro listed hsz i
    unfold Region.ready iP
    rw [List.mem_filter, List.mem_range]
    constructor
    · rintro ⟨h1, h2⟩
      rw [r.op i h1] at h2
      simp only [Bool.and_eq_true, Option.map_some, Option.getD_some] at h2
      refine ⟨h1, ?_, fun e he hb => ?_⟩
      · have := h2.1
        rw [Array.getD_eq_getD_getElem?] at this ⊢
        rw [Array.getElem?_eq_getElem (by omega)] at this ⊢
        simpa using this
      · have := Array.all_eq_true'.1 h2.2 e he
        simpa [hb] using this
    · rintro ⟨h1, h2, h3⟩
      refine ⟨h1, ?_⟩
      rw [r.op i h1]
      simp only [Bool.and_eq_true, Option.map_some, Option.getD_some]
      refine ⟨?_, Array.all_eq_true'.2 fun e he => ?_⟩
      · rw [Array.getD_eq_getD_getElem?] at h2 ⊢
        rw [Array.getElem?_eq_getElem (by omega)] at h2 ⊢
        simpa using h2
      · by_cases hb : Region.binds .any e = true
        · simp [hb, h3 e he hb]
        · simp [hb]
  have none_ready : ∀ (listed : Array Bool), listed.size = ops.size → Region.ready .any ops listed = [] → ∀ i, i < ops.size → iP listed i := by
    intro listed hsz hr i
    induction i using Nat.strongRecOn with
    | _ i ih =>
      intro hi
      refine Classical.byContradiction fun hl => ?_
      have : i ∈ Region.ready .any ops listed := (ready_iff listed hsz i).2 ⟨hi, hl, fun e he hb => by
        have := st.back i hi e he hb
        exact ih e.on this (by omega)⟩
      rw [hr] at this; cases this
  have all_done : ∀ (listed : Array Bool) (g : gZ) (a : Act) (k : Nat), wY N g a → k ≤ ops.size → uD ops.size O V g0 (iP listed) g →
      (∀ h, h < ops.size → jJ h an.1 = true → (iP listed h ↔ h < k)) → (∀ i, i < ops.size → iP listed i) → Q .normal a (W k) := by
    intro listed g a k hr hk he hh hall
    have e : W ops.size = W k := r.still' hk (Nat.le_refl _) (fun h h1 h2 => by
      cases hm : jJ h an.1
      · rfl
      · have := (hh h h2 hm).1 (hall h h2); omega)
    have eg : g = G ops.size := funext fun s => he.agree (r.envFor ops.size (Nat.le_refl _)) s (fun j hj _ => ⟨fun _ => hj, fun _ => hall j hj⟩)
    rw [← e]; exact hQ a (eg ▸ hr)
  intro fuel
  induction fuel with
  | zero =>
    intro listed g a k hsz hr hk hdep henv hh hc
    have hall : ∀ i, i < ops.size → iP listed i := by
      intro i hi
      have hnil : ((List.range ops.size).filter fun i => !listed.getD i false) = [] := List.length_eq_zero_iff.1 (by omega)
      have := List.filter_eq_nil_iff.1 hnil i (List.mem_range.2 hi)
      unfold iP; simpa using this
    refine ⟨?_, all_done listed g a k hr hk henv hh hall⟩
    rw [List.eq_nil_iff_forall_not_mem]
    intro i hi
    have := (ready_iff listed hsz i).1 hi
    exact this.2.1 (hall i this.1)
  | succ fuel ih =>
    intro listed g a k hsz hr hk hdep henv hh hc
    refine ⟨fun hn => all_done listed g a k hr hk henv hh (none_ready listed hsz hn), fun i hi => ?_⟩
    obtain ⟨h1, h2, h3⟩ := (ready_iff listed hsz i).1 hi
    have hdown : ∀ k j, j < ops.size → k < ops.size → iP listed k → FS b j k = true → iP listed j := by
      intro k
      induction k using Nat.strongRecOn with
      | _ k ihk =>
        intro j hj hk hl hb
        obtain ⟨e, he, hbi, h⟩ := st.closed j k hj hk hb
        have hle := hdep k hk hl e he hbi
        rcases h with h | h
        · exact h ▸ hle
        · have hlt := st.back k hk e he hbi
          exact ihk e.on hlt j hj (by omega) hle h
    have hbi : ∀ j, j < ops.size → FS b j i = true → iP listed j := by
      intro j hj hb
      obtain ⟨e, he, hbi, h⟩ := st.closed j i hj h1 hb
      have hle := h3 e he hbi
      rcases h with h | h
      · exact h ▸ hle
      · have hlt := st.back i h1 e he hbi
        exact hdown e.on j hj (by omega) hle h
    have hdown' : ∀ j k, j < ops.size → k < ops.size → iP listed k → FS b j k = true → iP listed j := fun j k => hdown k j
    have hlooks : ∀ s ∈ BD ops (O i), (G i) s = g s := fun s hs =>
      (r.envFor i (by omega)).agree henv s (fun j hj hd => by
        by_cases hji : j = i
        · subst hji
          exact ⟨fun h => absurd h (by omega), fun h => absurd h h2⟩
        · exact (st.order h1 hdown' hbi h2 (.inl hs) hj hji hd).symm)
    have hl' : ∀ j, iP (listed.setIfInBounds i true) j ↔ (iP listed j ∨ j = i) := by
      intro j
      unfold iP
      rw [Array.getD_eq_getD_getElem?, Array.getD_eq_getD_getElem?]
      by_cases hji : j = i
      · subst hji
        rw [Array.getElem?_setIfInBounds_self_of_lt (by omega)]
        simp
      · rw [Array.getElem?_setIfInBounds_ne (fun e => hji e.symm)]
        simp [hji]
    have next : ∀ k', k' ≤ ops.size → (∀ h, h < ops.size → jJ h an.1 = true → ((iP listed h ∨ h = i) ↔ h < k')) → BC P ops g (O i) (W k) (V i) (W k') →
        wpOp P ops Q i (wpAny P .any ops Q fuel (listed.setIfInBounds i true)) a (W k) := by
      intro k' hk' hh' hy
      refine BF (r.op i h1) (hca i _ (r.op i h1)) hr hy ?_
      refine ih _ (put g (O i).dst (V i)) _ k' (by simp [hsz]) (hr.put _ _ (hd i _ (r.op i h1))) hk' ?_ ?_ ?_ ?_
      · intro j hj hlj e he hb
        rw [hl'] at hlj ⊢
        rcases hlj with hlj | rfl
        · exact .inl (hdep j hj hlj e he hb)
        · exact .inl (h3 e he hb)
      · have := henv.step i h1 (fun s hs j hj hji hd hlj => (st.order h1 hdown' hbi h2 (.inr hs) hj hji hd).1 hlj)
        intro s
        rcases this s with ⟨j, j1, j2, j3, j4, j5⟩ | ⟨j1, j2⟩
        · exact .inl ⟨j, j1, (hl' j).2 j2, j3, fun k k1 k2 k3 => j4 k k1 ((hl' k).1 k2) k3, j5⟩
        · exact .inr ⟨fun j a b => j1 j a ((hl' j).1 b), j2⟩
      · intro h a b; rw [hl']; exact hh' h a b
      · have hin : i ∈ (List.range ops.size).filter fun i => !listed.getD i false :=
          List.mem_filter.2 ⟨List.mem_range.2 h1, by unfold iP at h2; simpa using h2⟩
        have e1 : ((List.range ops.size).filter fun j => !(listed.setIfInBounds i true).getD j false) = ((List.range ops.size).filter fun j => !listed.getD j false).filter fun j => j != i := by
          rw [List.filter_filter]
          refine List.filter_congr fun j _ => ?_
          have := hl' j
          unfold iP at this
          by_cases hji : j = i
          · have hh : (listed.setIfInBounds i true).getD j false = true := this.2 (.inr hji)
            rw [hh, hji]; simp
          · have hne : (j != i) = true := by simpa using hji
            rw [hne, Bool.true_and]
            cases ha : listed.getD j false with
            | true => rw [this.2 (.inl ha)]
            | false =>
              cases hb : (listed.setIfInBounds i true).getD j false with
              | false => rfl
              | true => rcases this.1 hb with h | h
                        · rw [ha] at h; cases h
                        · exact absurd h hji
        have hnd : ((List.range ops.size).filter fun j => !listed.getD j false).Nodup := List.nodup_range.filter _
        rw [e1, ← List.Nodup.erase_eq_filter hnd, List.length_erase_of_mem hin]
        omega
    cases hm : jJ i an.1 with
    | true =>
      have hS : ∀ h, h < ops.size → jJ h an.1 = true → (iP listed h ↔ h < i) := by
        intro h hh1 hhm
        rcases Nat.lt_trichotomy h i with hlt | heq | hgt
        · refine ⟨fun _ => hlt, fun _ => ?_⟩
          have p := st.pair h i hlt h1
          unfold wQ at p
          rw [hhm, hm] at p
          simp only [Bool.or_eq_true, Bool.and_eq_true, Bool.false_eq_true, and_false, or_false] at p
          exact hbi h hh1 p
        · subst heq; exact ⟨fun hh => absurd hh h2, fun hh => absurd hh (by omega)⟩
        · refine ⟨fun hl => ?_, fun hh => absurd hh (by omega)⟩
          have p := st.pair i h hgt hh1
          unfold wQ at p
          rw [hhm, hm] at p
          simp only [Bool.or_eq_true, Bool.and_eq_true, Bool.false_eq_true, and_false, or_false] at p
          exact absurd (hdown h i h1 hh1 hl p) h2
      have eW : W k = W i := by
        rcases Nat.le_total k i with hki | hki
        · exact (r.still' hki (by omega) (fun h a b => by
            cases hx : jJ h an.1
            · rfl
            · have := (hh h (by omega) hx).1 ((hS h (by omega) hx).2 b); omega)).symm
        · exact r.still' hki hk (fun h a b => by
            cases hx : jJ h an.1
            · rfl
            · have := (hS h (by omega) hx).1 ((hh h (by omega) hx).2 b); omega)
      refine next (i + 1) (by omega) (fun h a b => ?_) ?_
      · rw [hS h a b]; omega
      · rw [eW]
        intro K hK
        exact zO (ops := ops) (st.sel i h1) hlooks (r.yld i h1 K hK)
    | false =>
      refine next k hk (fun h a b => ?_) ?_
      · rw [← hh h a b]
        constructor
        · rintro (h' | rfl)
          · exact h'
          · rw [hm] at b; cases b
        · exact .inl
      · intro K hK
        exact zO (ops := ops) (st.sel i h1) hlooks (Ed rfl r st h1 hk hdown' hbi h2 hh hm K hK)
end
end Go.En
namespace Go.En
open Go
def EW (P : Program) (f : FuncId) (c : Code) (Q : Exit → Act → World → Prop) (a : Act) (w : World) : Prop :=
  ∀ (b : Frame) (k : List Item) (cs : List Frame), b.fn = f → ∃ e a' w', Q e a' w' ∧ Arrives P (lone (b.at a (.code c :: k)) cs w) b k cs e a' w'
section
variable {P : Program} {f : FuncId} {Q : Exit → Act → World → Prop} {a : Act} {w : World}
theorem Ck {c : Code} (h : c.wp P Q a w) : EW P f c Q a w := fun b k cs _ => h b k cs
theorem Hf {x y : Code} (h : EW P f x (Exit.then (EW P f y Q) Q) a w) : EW P f (.seq x y) Q a w := by
  intro b k cs hb
  obtain ⟨e, a1, w1, hq, har⟩ := h b (.code y :: k) cs hb
  cases e with
  | normal =>
    obtain ⟨e2, a2, w2, hq2, har2⟩ := hq b k cs hb
    exact ⟨e2, a2, w2, hq2, .of_steps (.head step_seq har) har2⟩
  | _ => exact ⟨_, a1, w1, hq, .of_steps (.one step_seq) (.pass (x := .code y) rfl (fun _ _ => .inl (by simp)) har)⟩
theorem Gg {c : Operand} {x y : Code} {t : Bool} (hc : a.eval c = .bool t) (h : EW P f (if t then x else y) Q a w) : EW P f (.cond c x y) Q a w :=
  fun b k cs hb => let ⟨e, a1, w1, q, r⟩ := h b k cs hb; ⟨e, a1, w1, q, .of_steps (.one (step_cond hc)) r⟩
theorem Fj {id : Nat} {c : Code} (h : EW P f c (Exit.inBlock id Q) a w) : EW P f (.block id c) Q a w := by
  intro b k cs hb
  obtain ⟨e, a1, w1, hq, har⟩ := h b (.inBlock id :: k) cs hb
  cases e with
  | normal => exact ⟨.normal, a1, w1, hq, .head step_block (Steps.trans har (.one step_inBlock))⟩
  | exit i =>
    by_cases hid : i = id
    · simp only [Exit.inBlock, hid, if_true] at hq
      exact ⟨.normal, a1, w1, hq, .head step_block (har k (by simp [exitTo, hid]))⟩
    · simp only [Exit.inBlock, hid, if_false] at hq
      refine ⟨.exit i, a1, w1, hq, fun k' hk => .head step_block (har k' ?_)⟩
      have : (id == i) = false := by simp; exact fun h => hid h.symm
      simp [exitTo, this, hk]
  | goto l => exact ⟨_, a1, w1, hq, fun k' hk => .head step_block (har k' (by simp [gotoIn, hk]))⟩
  | outgrown => exact ⟨_, a1, w1, hq, .of_steps (b := b) (k := k) (cs := cs) (e := .outgrown) (.one step_block) har⟩
  | _ => exact ⟨_, a1, w1, hq, .of_steps (.one step_block) har⟩
theorem Fz {c : Code} (h : EW P f c (Exit.noGoto Q) a w) : EW P f (.scope c) Q a w := by
  intro b k cs hb
  obtain ⟨e, a1, w1, hq, har⟩ := h b (.inScope c :: k) cs hb
  cases e with
  | normal => exact ⟨.normal, a1, w1, hq, .head step_scope (Steps.trans har (.one step_inScope))⟩
  | exit id => exact ⟨.exit id, a1, w1, hq, fun k' hk => .head step_scope (har k' (by simp [exitTo, hk]))⟩
  | goto l => exact hq.elim
  | _ => exact ⟨_, a1, w1, hq, .of_steps (.one step_scope) har⟩
theorem Gl {c : Code} (I : Act → World → Prop) (μ : Act → World → Nat) (h0 : I a w)
    (round : ∀ a w, I a w → EW P f c (Exit.then (fun a' w' => I a' w' ∧ μ a' w' < μ a w) Q) a w) : EW P f (.loop c) Q a w := by
  intro b k cs hb
  have key : ∀ n a w, μ a w = n → I a w →
      ∃ e a' w', Q e a' w' ∧ Arrives P (lone (b.at a (.code c :: .inLoop c :: k)) cs w) b k cs e a' w' := by
    intro n
    induction n using Nat.strongRecOn with
    | _ n ih =>
      intro a w hn hI
      obtain ⟨e, a1, w1, hq, har⟩ := round a w hI b (.inLoop c :: k) cs hb
      cases e with
      | normal =>
        obtain ⟨hI1, hlt⟩ := hq
        obtain ⟨e2, a2, w2, hq2, har2⟩ := ih (μ a1 w1) (hn ▸ hlt) a1 w1 rfl hI1
        exact ⟨e2, a2, w2, hq2, .of_steps (Steps.trans har (.one step_inLoop)) har2⟩
      | _ => exact ⟨_, a1, w1, hq, .pass (x := .inLoop c) rfl (fun _ _ => .inl (by simp)) har⟩
  obtain ⟨e, a', w', hq, har⟩ := key _ a w rfl h0
  exact ⟨e, a', w', hq, .of_steps (.one step_loop) har⟩
theorem B6 (hm : P.follows .mixedOrders = true) {id : Nat} {ops : Array Oper}
    (h : wpOps P ops Q (Region.schedule true ops (w.tape w.drawn (.order f id))) a { w with drawn := w.drawn + 1 }) : EW P f (.region id ops true) Q a w := by
  intro b k cs hb
  obtain ⟨e, a1, w1, q, r⟩ := wp_ops _ a _ h b k cs
  refine ⟨e, a1, w1, q, .of_steps (.one ?_) r⟩
  have := @step_region_draw P b a k cs w ops id
  rw [hm, hb] at this
  exact this
theorem DJ {fn : Func} {c : Code} {args : Array Value} {w : World} {R : Ending → World → Prop}
    (hf : P.funcs[f]? = some fn) (hb : fn.body = some c)
    (h : EW P f c (bodyPost P fn R) { tmps := args ++ Array.replicate (fn.ntmps - args.size) undef, defers := [] } w) : Calls P f args w R := by
  intro cs
  let b : Frame := { (default : Frame) with fn := f, kind := .normal }
  have henter : Frame.enter P f args .normal = b.at { tmps := args ++ Array.replicate (fn.ntmps - args.size) undef, defers := [] } [.code c] := by
    simp [Frame.enter, Frame.at, hf, hb, b]
  obtain ⟨e, a', w', hq, har⟩ := h b [] cs rfl
  rw [← henter] at har
  cases e with
  | normal =>
    obtain ⟨hd, v, hr, hR⟩ := hq
    exact ⟨.returned v, w', _, hR, Steps.trans har (.one step_end), rfl, rfl, hd, rfl, fn, hf, hr⟩
  | ret =>
    obtain ⟨hd, v, hr, hR⟩ := hq
    obtain ⟨todo, hs⟩ := har
    exact ⟨.returned v, w', _, hR, hs, rfl, rfl, hd, rfl, fn, hf, hr⟩
  | panic chain =>
    obtain ⟨hd, hR⟩ := hq
    obtain ⟨todo, hs⟩ := har
    exact ⟨.panicked chain, w', _, hR, hs, rfl, rfl, hd, fn, hf⟩
  | exit id => exact hq.elim
  | goto l => exact hq.elim
  | outgrown => exact ⟨.outgrown, w', b, hq, har.resolve_left (by simp [b]), rfl, trivial⟩
end
def DF (ops : Array Oper) : Nat → Array Bool → List Nat → Prop
  | 0, _, L => L = []
  | _ + 1, listed, [] => Region.ready .any ops listed = []
  | n + 1, listed, i :: L => i ∈ Region.ready .any ops listed ∧ DF ops n (listed.setIfInBounds i true) L
section
variable {P : Program} {ops : Array Oper} {Q : Exit → Act → World → Prop}
theorem GT : ∀ (fuel t : Nat) (listed : Array Bool), DF ops fuel listed (Region.linearise.go .any ops fuel t listed []) := by
  intro fuel
  induction fuel with
  | zero => intro t listed; simp [Region.linearise.go, DF]
  | succ fuel ih =>
    intro t listed
    simp only [Region.linearise.go]
    change DF ops (fuel + 1) listed (match (Region.ready .any ops listed)[t % (Region.ready .any ops listed).length]? with
      | some i => Region.linearise.go .any ops fuel (t / (Region.ready .any ops listed).length) (listed.setIfInBounds i true) [i]
      | none => [].reverse)
    cases hi : (Region.ready .any ops listed)[t % (Region.ready .any ops listed).length]? with
    | none =>
      have : Region.ready .any ops listed = [] := by
        cases hr : Region.ready .any ops listed with
        | nil => rfl
        | cons x xs =>
          rw [hr] at hi
          have hlt : t % (x :: xs).length < (x :: xs).length := Nat.mod_lt _ (by simp)
          rw [List.getElem?_eq_getElem hlt] at hi
          cases hi
      simpa [DF] using this
    | some i =>
      simp only []
      rw [linearise_go_acc]
      exact ⟨List.mem_of_getElem? hi, ih _ _⟩
theorem yV : ∀ (fuel : Nat) (listed : Array Bool) (L : List Nat) (a : Act) (w : World), wpAny P .any ops Q fuel listed a w → DF ops fuel listed L → wpOps P ops Q L a w := by
  intro fuel
  induction fuel with
  | zero => intro listed L a w h hL; obtain rfl : L = [] := hL; exact h.2
  | succ fuel ih =>
    intro listed L a w h hL
    cases L with
    | nil => exact h.1 hL
    | cons i L =>
      rw [wpOps_cons]
      exact wpOp_mono (fun a w hh => ih _ _ a w hh hL.2) (h.2 i hL.1)
end
structure Perm (π : List Nat) (ops : Array Oper) : Prop where
  len : π.length = ops.size
  to : ∀ i, i < ops.size → lA π i < ops.size ∧ π[lA π i]? = some i
  back : ∀ k, k < ops.size → ∃ i, π[k]? = some i ∧ lA π i = k ∧ i < ops.size
  after : ∀ (i : Nat) (o : Oper), ops[i]? = some o → ∀ e ∈ o.after, e.on < ops.size
  guard : ∀ (i : Nat) (o : Oper) (j : Nat) (b : Bool), ops[i]? = some o → o.guard = some (j, b) → j < ops.size
theorem GZ {π : List Nat} {ops : Array Oper} (h : EE π ops = true) : Perm π ops := by
  unfold EE at h
  simp only [Bool.and_eq_true] at h
  obtain ⟨⟨⟨h1, h2⟩, h3⟩, h4⟩ := h
  have h1 := Nat.eq_of_beq_eq_true h1
  have at4 : ∀ (i : Nat) (o : Oper), ops[i]? = some o → (o.after.all fun e => Nat.blt e.on ops.size) = true ∧ (match o.guard with | some (j, _) => Nat.blt j ops.size | none => true) = true := by
    intro i o ho
    have hi : i < ops.size := by
      rcases Nat.lt_or_ge i ops.size with h | h
      · exact h
      · rw [Array.getElem?_eq_none h] at ho; cases ho
    have := List.all_eq_true.1 h4 i (List.mem_range.2 hi)
    rw [ho] at this
    simp only [Bool.and_eq_true] at this
    refine ⟨this.1, ?_⟩
    have h := this.2
    revert h
    cases o.guard <;> exact id
  refine ⟨h1, fun i hi => ?_, fun k hk => ?_, fun i o ho e he => ?_, fun i o j b ho hg => ?_⟩
  · have := List.all_eq_true.1 h3 i (List.mem_range.2 hi)
    cases hp : π[lA π i]? with
    | none => rw [hp] at this; cases this
    | some j =>
      rw [hp] at this
      obtain rfl := Nat.eq_of_beq_eq_true this
      refine ⟨?_, rfl⟩
      rcases Nat.lt_or_ge (lA π j) π.length with h | h
      · omega
      · rw [List.getElem?_eq_none h] at hp; cases hp
  · have := List.all_eq_true.1 h2 k (List.mem_range.2 hk)
    cases hp : π[k]? with
    | none => rw [hp] at this; cases this
    | some i =>
      rw [hp] at this
      simp only [Bool.and_eq_true] at this
      exact ⟨i, rfl, Nat.eq_of_beq_eq_true this.1, (Nat.blt_eq (x := i) (y := ops.size)) ▸ this.2⟩
  · have := Array.all_eq_true'.1 (at4 i o ho).1 e he
    exact (Nat.blt_eq (x := e.on) (y := ops.size)) ▸ this
  · have := (at4 i o ho).2
    rw [hg] at this
    exact (Nat.blt_eq (x := j) (y := ops.size)) ▸ this
theorem C7 {π : List Nat} {es : List (Nat × Nat)} {l : List Oper} : ∀ (r : List Nat), (∀ i ∈ r, i < l.length) → (zG π es l r).length = r.length ∧ ∀ k i : Nat, r[k]? = some i → (zG π es l r)[k]? = (l[i]?).map (qQ π es i) := by
  intro r
  induction r with
  | nil => intro _; exact ⟨rfl, fun k i h => by simp at h⟩
  | cons j r ih =>
    intro h
    obtain ⟨h1, h2⟩ := ih fun i hi => h i (List.mem_cons_of_mem _ hi)
    have hj : j < l.length := h j (by simp)
    simp only [zG, List.getElem?_eq_getElem hj]
    refine ⟨by simp [h1], fun k i hk => ?_⟩
    cases k with
    | zero => simp at hk; subst hk; simp [List.getElem?_eq_getElem hj]
    | succ k => simp at hk ⊢; exact h2 k i hk
section
variable {P : Program} {ops : Array Oper} {Q : Exit → Act → World → Prop} {π : List Nat} {es : List (Nat × Nat)}
theorem Perm.mem (p : Perm π ops) : ∀ i ∈ π, i < ops.toList.length := by
  intro i hi
  obtain ⟨k, hk, e⟩ := List.getElem_of_mem hi
  obtain ⟨j, h1, _, h2⟩ := p.back k (by rw [← p.len]; exact hk)
  rw [List.getElem?_eq_getElem hk] at h1
  cases h1
  rw [← e]; simpa using h2
theorem Perm.size (p : Perm π ops) : (jH π es ops).size = ops.size := by
  unfold jH
  rw [List.size_toArray, (C7 (es := es) (π := π) π p.mem).1, p.len]
theorem Perm.get (p : Perm π ops) {i : Nat} (hi : i < ops.size) : (jH π es ops)[lA π i]? = (ops[i]?).map (qQ π es i) := by
  unfold jH
  have := (C7 (es := es) (π := π) π p.mem).2 (lA π i) i (p.to i hi).2
  rw [Array.getElem?_toList] at this
  simpa using this
theorem Fk {i : Nat} {o : Oper} {a : Act} {w : World} {K : Act → World → Prop} : (qQ π es i o).wp P a w K Q = o.wp P a w K Q := by
  unfold Oper.wp
  have : execOp a.eval (qQ π es i o) = execOp a.eval o := by
    obtain ⟨d, op, ty, ps, af, g⟩ := o
    cases op <;> rfl
  rw [this]
  generalize (execOp a.eval o).run P w = r
  cases r with
  | ok n w => cases n <;> rfl
  | halt x w => cases x <;> rfl
theorem D3 {i : Nat} {o : Oper} {a : Act} {w : World} : (qQ π es i o).asks P a w = o.asks P a w := by
  unfold Oper.asks
  have : execOp a.eval (qQ π es i o) = execOp a.eval o := by
    obtain ⟨d, op, ty, ps, af, g⟩ := o
    cases op <;> rfl
  rw [this]
theorem Ek (p : Perm π ops) {i : Nat} {o : Oper} (ho : ops[i]? = some o) (tmps : Array Value) :
    Region.wanted (qQ π es i o) (yielded (jH π es ops) tmps) = Region.wanted o (yielded ops tmps) := by
  unfold Region.wanted qQ
  simp only
  cases hg : o.guard with
  | none => rfl
  | some q =>
    obtain ⟨j, b⟩ := q
    simp only
    have hj := p.guard i o j b ho hg
    have : (jH π es ops)[lA π j]?.bind (·.dst) = (ops[j]?).bind (·.dst) := by
      rw [p.get hj]
      cases ops[j]? <;> rfl
    unfold yielded
    rw [this]
theorem Ex (p : Perm π ops) : ∀ (L : List Nat), (∀ i ∈ L, i < ops.size) → ∀ (a : Act) (w : World), wpOps P (jH π es ops) Q (L.map (lA π)) a w → wpOps P ops Q L a w := by
  intro L
  induction L with
  | nil => intro _ a w h; exact h
  | cons i L ih =>
    intro hL a w h
    rw [List.map_cons, wpOps_cons] at h
    rw [wpOps_cons]
    have hi := hL i (by simp)
    have ih := ih fun i hi => hL i (List.mem_cons_of_mem _ hi)
    unfold wpOp at h ⊢
    rw [p.get hi] at h
    rw [Array.getElem?_eq_getElem hi] at h ⊢
    simp only [Option.map_some] at h
    rw [Ek p (Array.getElem?_eq_getElem hi)] at h
    simp only
    split
    · rename_i hw
      rw [if_pos hw, Fk, D3] at h
      exact h.imp (Oper.wp_mono fun a w => ih a w) id
    · rename_i hw
      rw [if_neg hw] at h
      exact ih _ _ h
theorem xC {ops : Array Oper} {listed : Array Bool} (hsz : listed.size = ops.size) (i : Nat) :
    i ∈ Region.ready .any ops listed ↔ (i < ops.size ∧ listed.getD i false = false ∧ ∀ o, ops[i]? = some o → ∀ e ∈ o.after, Region.binds .any e = true → listed.getD e.on false = true) := by
  unfold Region.ready
  rw [List.mem_filter, List.mem_range]
  constructor
  · rintro ⟨h1, h2⟩
    rw [Array.getElem?_eq_getElem h1] at h2
    simp only [Bool.and_eq_true, Option.map_some, Option.getD_some] at h2
    refine ⟨h1, ?_, fun o ho e he hb => ?_⟩
    · have := h2.1
      rw [Array.getD_eq_getD_getElem?] at this ⊢
      rw [Array.getElem?_eq_getElem (by omega)] at this ⊢
      simpa using this
    · rw [Array.getElem?_eq_getElem h1] at ho
      cases ho
      have := Array.all_eq_true'.1 h2.2 e he
      simpa [hb] using this
  · rintro ⟨h1, h2, h3⟩
    refine ⟨h1, ?_⟩
    rw [Array.getElem?_eq_getElem h1]
    simp only [Bool.and_eq_true, Option.map_some, Option.getD_some]
    refine ⟨?_, Array.all_eq_true'.2 fun e he => ?_⟩
    · rw [Array.getD_eq_getD_getElem?] at h2 ⊢
      rw [Array.getElem?_eq_getElem (by omega)] at h2 ⊢
      simpa using h2
    · by_cases hb : Region.binds .any e = true
      · simp [hb, h3 _ (Array.getElem?_eq_getElem h1) e he hb]
      · simp [hb]
theorem Gf {π : List Nat} {i : Nat} : ∀ {es : List (Nat × Nat)} {e : Edge}, e ∈ qM π i es → ∃ a, (a, i) ∈ es ∧ e.on = lA π a := by
  intro es
  induction es with
  | nil => intro e h; simp [qM] at h
  | cons q r ih =>
    obtain ⟨a, b⟩ := q
    intro e h
    simp only [qM] at h
    cases hb : Nat.beq b i with
    | true =>
      rw [hb] at h
      obtain rfl := Nat.eq_of_beq_eq_true hb
      rcases List.mem_cons.1 h with rfl | h
      · exact ⟨a, by simp, rfl⟩
      · obtain ⟨a, h1, h2⟩ := ih h; exact ⟨a, List.mem_cons_of_mem _ h1, h2⟩
    | false => rw [hb] at h; obtain ⟨a, h1, h2⟩ := ih h; exact ⟨a, List.mem_cons_of_mem _ h1, h2⟩
theorem FF (p : Perm π ops) {L0 : List Nat} (hes : ∀ q ∈ es, L0.idxOf q.1 ≤ L0.idxOf q.2 ∧ q.1 ≠ q.2 ∧ q.1 < ops.size) :
    ∀ (fuel : Nat) (listed listed' : Array Bool) (pre L : List Nat), L0 = pre ++ L → listed.size = ops.size → listed'.size = ops.size →
      (∀ j, j < ops.size → listed'.getD (lA π j) false = listed.getD j false) → (∀ j ∈ pre, listed.getD j false = true) → (∀ j, listed.getD j false = true → j ∈ pre) →
      DF ops fuel listed L → DF (jH π es ops) fuel listed' (L.map (lA π)) ∧ ∀ i ∈ L, i < ops.size := by
  intro fuel
  induction fuel with
  | zero => intro listed listed' pre L _ _ _ _ _ _ h; obtain rfl : L = [] := h; exact ⟨rfl, by simp⟩
  | succ fuel ih =>
    intro listed listed' pre L hL0 hs hs' hrel hpre hpre' h
    have hsz : (jH π es ops).size = ops.size := p.size
    cases L with
    | nil =>
      refine ⟨?_, by simp⟩
      show Region.ready .any (jH π es ops) listed' = []
      rw [List.eq_nil_iff_forall_not_mem]
      intro k hk
      obtain ⟨h1, h2, h3⟩ := (xC (by omega) k).1 hk
      obtain ⟨i, hi1, hi2, hi3⟩ := p.back k (by omega)
      have : i ∈ Region.ready .any ops listed := by
        refine (xC hs i).2 ⟨hi3, ?_, fun o ho e he hb => ?_⟩
        · rw [← hrel i hi3, hi2]; exact h2
        · have g := p.get (es := es) hi3
          rw [hi2, ho] at g
          have hon := p.after i o ho e he
          have := h3 _ g ⟨lA π e.on, e.ground⟩ (by
            simp only [qQ, List.mem_toArray, List.mem_append, List.mem_map]
            exact .inl ⟨e, by simpa using he, rfl⟩) (by unfold Region.binds at hb ⊢; exact hb)
          rw [← hrel e.on hon]; exact this
      rw [show Region.ready .any ops listed = [] from h] at this
      cases this
    | cons i L =>
      obtain ⟨h1, h2⟩ := h
      obtain ⟨r1, r2, r3⟩ := (xC hs i).1 h1
      have hnot : i ∉ pre := fun hm => by rw [hpre i hm] at r2; cases r2
      have hidx : L0.idxOf i = pre.length := by
        rw [hL0, List.idxOf_append, if_neg hnot]; simp
      have ready' : lA π i ∈ Region.ready .any (jH π es ops) listed' := by
        refine (xC (by omega) _).2 ⟨by rw [hsz]; exact (p.to i r1).1, by rw [hrel i r1]; exact r2, fun o' ho' e' he' hb => ?_⟩
        rw [p.get r1, Array.getElem?_eq_getElem r1] at ho'
        simp only [Option.map_some, Option.some.injEq] at ho'
        subst ho'
        simp only [qQ, List.mem_toArray, List.mem_append, List.mem_map] at he'
        rcases he' with ⟨e, he, rfl⟩ | he'
        · have ho := Array.getElem?_eq_getElem r1
          have he2 : e ∈ ops[i].after := by simpa using he
          rw [hrel e.on (p.after i _ ho e he2)]
          exact r3 _ ho e he2 (by unfold Region.binds at hb ⊢; exact hb)
        · obtain ⟨a, ha, hon⟩ := Gf he'
          obtain ⟨q1, q2, q3⟩ := hes _ ha
          simp only at q1 q2 q3
          rw [hon, hrel a q3]
          refine hpre a ?_
          rw [hidx] at q1
          rw [hL0, List.idxOf_append] at q1
          by_cases hm : a ∈ pre
          · exact hm
          · rw [if_neg hm] at q1
            exfalso
            have hz : (i :: L).idxOf a = 0 := by omega
            rw [List.idxOf_cons] at hz
            cases hb : (i == a) with
            | true => exact q2 (by simpa using (beq_iff_eq.1 hb).symm)
            | false => rw [hb] at hz; simp at hz
      have hlen' : listed'.size = ops.size := hs'
      obtain ⟨k1, k2⟩ := ih (listed.setIfInBounds i true) (listed'.setIfInBounds (lA π i) true) (pre ++ [i]) L (by rw [hL0]; simp) (by simp [hs]) (by simp [hs'])
        (fun j hj => by
          by_cases hji : j = i
          · subst hji
            rw [Array.getD_eq_getD_getElem?, Array.getD_eq_getD_getElem?, Array.getElem?_setIfInBounds_self_of_lt (by rw [hs']; exact (p.to j hj).1), Array.getElem?_setIfInBounds_self_of_lt (by omega)]
          · have hne : lA π i ≠ lA π j := fun e => by
              have a1 := (p.to i r1).2
              have a2 := (p.to j hj).2
              rw [e] at a1
              rw [a1] at a2
              exact hji (Option.some.inj a2).symm
            have := hrel j hj
            rw [Array.getD_eq_getD_getElem?, Array.getD_eq_getD_getElem?] at this ⊢
            rw [Array.getElem?_setIfInBounds_ne hne, Array.getElem?_setIfInBounds_ne (fun e => hji e.symm)]
            exact this)
        (fun j hj => by
          rw [Array.getD_eq_getD_getElem?]
          rcases List.mem_append.1 hj with hj | hj
          · by_cases hji : j = i
            · subst hji; rw [Array.getElem?_setIfInBounds_self_of_lt (by omega)] <;> rfl
            · rw [Array.getElem?_setIfInBounds_ne (fun e => hji e.symm), ← Array.getD_eq_getD_getElem?]; exact hpre j hj
          · have : j = i := by simpa using hj
            subst this
            rw [Array.getElem?_setIfInBounds_self_of_lt (by omega)] <;> rfl)
        (fun j hj => by
          by_cases hji : j = i
          · subst hji; simp
          · rw [Array.getD_eq_getD_getElem?, Array.getElem?_setIfInBounds_ne (fun e => hji e.symm), ← Array.getD_eq_getD_getElem?] at hj
            exact List.mem_append_left _ (hpre' j hj))
        h2
      exact ⟨⟨ready', k1⟩, fun j hj => (List.mem_cons.1 hj).elim (fun e => e ▸ r1) (k2 j)⟩
end
section
variable {P : Program} {ops : Array Oper}
theorem BM {N : Nat} {an : Fb} {pl : D5} (hok : Cr ops an = true) (hpl : Cp ops.size an pl = true) (hd : CM N ops) (hca : zZ P ops)
    {K : gZ → World → Prop} {Q : Exit → Act → World → Prop} (hQ : ∀ g a w, wY N g a → K g w → Q .normal a w) {g : gZ} {a : Act} {w : World} (hr : wY N g a)
    (h : jT P ops ops.toList pl [] g w K) : wpAny P .any ops Q ops.size (Array.replicate ops.size false) a w := by
  have r0 : FU P ops an g w 0 (fun _ => default) (fun _ => g) (fun _ => w) (fun _ => undef) :=
    ⟨rfl, rfl, fun i hi => by omega, fun i hi => by omega, fun i hi => by omega, fun i hi => by omega, fun i j _ hj => by omega⟩
  obtain ⟨O, G, W, V, r, hk⟩ := D7 hpl ops.toList 0 [] _ _ _ _ (fun j => by simp) (by simp) r0 (fun i hi => by omega) h
  simp only [Nat.zero_add, Array.length_toList] at r hk
  have st := Fi hok r.op
  have := F5 (Q := Q) (n := ops.size) rfl hd hca r st (fun a hra => hQ _ a _ hra hk) ops.size (Array.replicate ops.size false) g a 0 (by simp) hr (by omega)
    (fun j hj hl => by unfold iP at hl; simp [Array.getD_eq_getD_getElem?, hj] at hl)
    (fun s => .inr ⟨fun j hj hl => by unfold iP at hl; simp [Array.getD_eq_getD_getElem?, hj] at hl, rfl⟩)
    (fun h hh _ => ⟨fun hl => by unfold iP at hl; simp [Array.getD_eq_getD_getElem?, hh] at hl, fun hl => by omega⟩)
    (Nat.le_trans (List.length_filter_le _ _) (by simp))
  rw [r.w0] at this
  exact this
theorem Dd {N : Nat} {ops : Array Oper} (h : ops.all (E1 N) = true) : CM N ops := by
  intro i o ho t ht
  have := Array.all_eq_true'.1 h o (Array.mem_of_getElem? ho)
  unfold E1 at this
  rw [ht] at this
  exact (Nat.blt_eq (x := t) (y := N)) ▸ this
theorem Cj {ops : Array Oper} (h : ops.all (wB P) = true) : zZ P ops :=
  fun _ o ho => Array.all_eq_true'.1 h o (Array.mem_of_getElem? ho)
theorem EA {N : Nat} {f : FuncId} {id : Nat} (hd : CM N ops) (hca : zZ P ops)
    {K : gZ → World → Prop} {Q : Exit → Act → World → Prop} (hQ : ∀ g a w, wY N g a → K g w → Q .normal a w) {g : gZ} {a : Act} {w0 w : World} (hr : wY N g a) :
    ∀ (T : HT) (path : List (Nat × Nat)), xT P N ops path T = true →
      (∀ q ∈ path, (Region.schedule true ops (w0.tape w0.drawn (.order f id))).idxOf q.1 ≤ (Region.schedule true ops (w0.tape w0.drawn (.order f id))).idxOf q.2 ∧ q.1 ≠ q.2) →
      DS P f id ops T g w0 w K → wpOps P ops Q (Region.schedule true ops (w0.tape w0.drawn (.order f id))) a w := by
  have lin : DF ops ops.size (Array.replicate ops.size false) (Region.schedule true ops (w0.tape w0.drawn (.order f id))) := by
    unfold Region.schedule
    simp only [Bool.true_or, if_true]
    exact GT _ _ _
  generalize hL : Region.schedule true ops (w0.tape w0.drawn (.order f id)) = L at lin ⊢
  intro T
  induction T with
  | leaf an pl =>
    intro path hok _ h
    simp only [xT, Bool.and_eq_true] at hok
    exact yV _ _ _ _ _ (BM hok.1 hok.2 hd hca hQ hr h) lin
  | perm π es an pl =>
    intro path hok hpath h
    simp only [xT, Bool.and_eq_true] at hok
    obtain ⟨⟨⟨⟨⟨h1, h2⟩, h3⟩, h4⟩, h5⟩, h6⟩ := hok
    have p := GZ h2
    have hes : ∀ q ∈ es, L.idxOf q.1 ≤ L.idxOf q.2 ∧ q.1 ≠ q.2 ∧ q.1 < ops.size := fun q hq => by
      have := List.all_eq_true.1 h1 q hq
      simp only [Bool.and_eq_true] at this
      have hp := hpath q (F4 this.1)
      exact ⟨hp.1, hp.2, (Nat.blt_eq (x := q.1) (y := ops.size)) ▸ this.2⟩
    obtain ⟨k1, k2⟩ := FF (es := es) p hes ops.size (Array.replicate ops.size false) (Array.replicate ops.size false) [] L rfl (by simp) (by simp)
      (fun j hj => by simp [Array.getD_eq_getD_getElem?, hj, (p.to j hj).1]) (by simp)
      (fun j hj => by rw [Array.getD_eq_getD_getElem?] at hj; by_cases hh : j < ops.size <;> simp [hh] at hj) lin
    have hw := BM h5 h6 (Dd h3) (Cj h4) hQ hr h
    rw [p.size] at hw
    exact Ex (es := es) p L k2 a w (yV _ _ _ _ _ hw k1)
  | split x y A B ihA ihB =>
    intro path hok hpath h
    simp only [xT, Bool.and_eq_true] at hok
    have hne : x ≠ y := by
      intro e
      have := hok.1.1
      rw [e] at this
      simp at this
    simp only [DS] at h
    unfold H6 GO at h
    rw [hL] at h
    cases hb : Nat.ble (L.idxOf x) (L.idxOf y) with
    | true =>
      rw [hb] at h
      refine ihA _ hok.1.2 (fun q hq => ?_) h
      rcases List.mem_cons.1 hq with rfl | hq
      · exact ⟨Nat.le_of_ble_eq_true hb, hne⟩
      · exact hpath q hq
    | false =>
      rw [hb] at h
      refine ihB _ hok.2 (fun q hq => ?_) h
      rcases List.mem_cons.1 hq with rfl | hq
      · refine ⟨?_, hne.symm⟩
        simp only
        rcases Nat.lt_or_ge (L.idxOf y) (L.idxOf x) with hh | hh
        · omega
        · have := Nat.ble_eq_true_of_le hh; rw [this] at hb; cases hb
      · exact hpath q hq
end
end Go.En
namespace Go.En
open Go
section
variable {P : Program} {ann : FA}
def iX : List Oper → List Nat
  | [] => []
  | o :: r => match o.dst with | some d => d :: iX r | none => iX r
def AQ : Code → List Nat
  | .region _ ops _ => iX ops.toList
  | .seq x y => AQ x ++ AQ y
  | .cond _ x y => AQ x ++ AQ y
  | .block _ c => AQ c
  | .scope c => AQ c
  | .loop c => AQ c
  | _ => []
def iU (l : List Nat) (g g' : gZ) : Prop := ∀ s, s ∉ l → g' s = g s
theorem iU.refl (l : List Nat) (g : gZ) : iU l g g := fun _ _ => rfl
theorem iU.trans {l l1 l2 : List Nat} {a b c : gZ} (h : iU l1 a b) (k : iU l2 b c) (h1 : ∀ s, s ∈ l1 → s ∈ l) (h2 : ∀ s, s ∈ l2 → s ∈ l) : iU l a c :=
  fun s hs => (k s fun h => hs (h2 s h)).trans (h s fun h => hs (h1 s h))
theorem iU.mono {l l1 : List Nat} {a b : gZ} (h : iU l1 a b) (h1 : ∀ s, s ∈ l1 → s ∈ l) : iU l a b := fun s hs => h s fun hh => hs (h1 s hh)
theorem iU.put {l : List Nat} {a : gZ} (d : Option Tmp) (v : Value) (h : ∀ t, d = some t → t ∈ l) : iU l a (put a d v) := by
  intro s hs
  cases d with
  | none => rfl
  | some t =>
    rw [Ci, if_neg (fun e => hs (by rw [e]; exact h t rfl))]
theorem EU {ops : Array Oper} {K : gZ → World → Prop} : ∀ (l : List Oper) (g : gZ) (w : World), Cx P ops l g w K →
    ∃ g' w', K g' w' ∧ iU (iX l) g g' ∧ ∀ K' : gZ → World → Prop, K' g' w' → Cx P ops l g w K' := by
  intro l
  induction l with
  | nil => intro g w h; exact ⟨g, w, h, iU.refl _ _, fun _ h => h⟩
  | cons o l ih =>
    intro g w h
    obtain ⟨v, w1, hy, h1⟩ := uN h
    obtain ⟨g', w', hk, ha, hall⟩ := ih _ _ h1
    refine ⟨g', w', hk, ?_, fun K' hk' => hy _ (hall K' hk')⟩
    refine iU.trans (iU.put o.dst v (l := iX (o :: l)) fun t ht => by simp [iX, ht]) ha (fun _ h => h) (fun s hs => ?_)
    unfold iX
    split
    · exact List.mem_cons_of_mem _ hs
    · exact hs
theorem BK {ops : Array Oper} {K : gZ → World → Prop} : ∀ (l : List Oper) (pl : D5) (hist : List GK) (g : gZ) (w : World), jT P ops l pl hist g w K →
    ∃ g' w', K g' w' ∧ iU (iX l) g g' ∧ ∀ K' : gZ → World → Prop, K' g' w' → jT P ops l pl hist g w K' := by
  intro l
  induction l with
  | nil => intro pl hist g w h; unfold jT at h; exact ⟨g, w, h, iU.refl _ _, fun _ h => (by unfold jT; exact h)⟩
  | cons o l ih =>
    intro pl hist g w h
    cases pl with
    | nil => exact h.elim
    | cons p pl =>
      obtain ⟨hv, ks⟩ := p
      obtain ⟨v, w1, hy, h1⟩ := uN h
      have tail : ∀ (w2 : World) (hist' : List GK), jT P ops l pl hist' (put g o.dst v) w2 K →
          ∃ g' w', K g' w' ∧ iU (iX (o :: l)) g g' ∧ ∀ K' : gZ → World → Prop, K' g' w' → jT P ops l pl hist' (put g o.dst v) w2 K' := by
        intro w2 hist' c2
        obtain ⟨g', w', hk, ha, hall⟩ := ih _ _ _ _ c2
        refine ⟨g', w', hk, ?_, hall⟩
        refine iU.trans (iU.put o.dst v (l := iX (o :: l)) fun t ht => by simp [iX, ht]) ha (fun _ h => h) (fun s hs => ?_)
        unfold iX
        split
        · exact List.mem_cons_of_mem _ hs
        · exact hs
      cases hv with
      | true =>
        cases ks with
        | nil =>
          obtain ⟨g', w', hk, ha, hall⟩ := tail w1 _ h1
          exact ⟨g', w', hk, ha, fun K' hk' => hy _ (hall K' hk')⟩
        | cons k ks =>
          obtain ⟨hc, h1⟩ := h1
          obtain ⟨g', w', hk, ha, hall⟩ := tail w1 _ h1
          exact ⟨g', w', hk, ha, fun K' hk' => hy _ ⟨hc, hall K' hk'⟩⟩
      | false =>
        cases ks with
        | nil =>
          obtain ⟨rfl, h1⟩ := h1
          obtain ⟨g', w', hk, ha, hall⟩ := tail w1 _ h1
          exact ⟨g', w', hk, ha, fun K' hk' => hy _ ⟨rfl, hall K' hk'⟩⟩
        | cons k ks =>
          obtain ⟨rfl, hc, h1⟩ := h1
          obtain ⟨g', w', hk, ha, hall⟩ := tail w1 _ h1
          exact ⟨g', w', hk, ha, fun K' hk' => hy _ ⟨rfl, hc, hall K' hk'⟩⟩
theorem vW {l : List Oper} {s : Nat} : s ∈ iX l ↔ ∃ o ∈ l, o.dst = some s := by
  induction l with
  | nil => simp [iX]
  | cons o l ih =>
    unfold iX
    cases hd : o.dst with
    | none => simp [ih, hd]
    | some d => simp [ih, hd, eq_comm]
theorem ER {π : List Nat} {es : List (Nat × Nat)} {l : List Oper} {s : Nat} : ∀ (r : List Nat), s ∈ iX (zG π es l r) → s ∈ iX l := by
  intro r
  induction r with
  | nil => intro h; simp [zG, iX] at h
  | cons i r ih =>
    intro h
    simp only [zG] at h
    cases ho : l[i]? with
    | none => rw [ho] at h; exact ih h
    | some o =>
      rw [ho] at h
      obtain ⟨o', h1, h2⟩ := vW.1 h
      rcases List.mem_cons.1 h1 with rfl | h1
      · exact vW.2 ⟨o, List.mem_of_getElem? ho, h2⟩
      · exact ih (vW.2 ⟨o', h1, h2⟩)
theorem GC {f : FuncId} {id : Nat} {ops : Array Oper} {K : gZ → World → Prop} {g : gZ} {w0 : World} : ∀ (T : HT) (w : World), DS P f id ops T g w0 w K →
    ∃ g' w', K g' w' ∧ iU (iX ops.toList) g g' ∧ ∀ K' : gZ → World → Prop, K' g' w' → DS P f id ops T g w0 w K' := by
  intro T
  induction T with
  | leaf an pl => intro w h; exact BK _ _ _ _ _ h
  | perm π es an pl =>
    intro w h
    obtain ⟨g', w', a, b, c⟩ := BK _ _ _ _ _ h
    exact ⟨g', w', a, b.mono (fun s hs => ER π (by simpa [jH] using hs)), c⟩
  | split x y A B ihA ihB =>
    intro w h
    simp only [DS, H6] at h ⊢
    cases hb : GO f id ops x y w0 with
    | true => rw [hb] at h; exact ihA w h
    | false => rw [hb] at h; exact ihB w h
theorem iY.head {α : Type} {F : (α → World → Prop) → α → World → Prop} (hmono : ∀ X Y g w, (∀ g w, X g w → Y g w) → F X g w → F Y g w)
    {g : α} {w : World} (h : F (fun g' w' => iY F g' w') g w) (hdet : ∃ g' w', iY F g' w' ∧ ∀ X : α → World → Prop, X g' w' → F X g w) : iY F g w := by
  obtain ⟨g1, w1, ⟨I, ⟨n1, h1⟩, hI⟩, hF⟩ := hdet
  refine ⟨fun n g' w' => I n g' w' ∨ (n = n1 + 1 ∧ g' = g ∧ w' = w), ⟨n1 + 1, .inr ⟨rfl, rfl, rfl⟩⟩, ?_⟩
  rintro n g' w' (h | ⟨rfl, rfl, rfl⟩)
  · exact hmono _ _ _ _ (fun _ _ ⟨m, hm, hh⟩ => ⟨m, hm, .inl hh⟩) (hI _ _ _ h)
  · exact hF _ ⟨n1, by omega, .inl h1⟩
theorem E5 : ∀ (c : Code) (Q : Exit → gZ → World → Prop) (g : gZ) (w : World), eH P ann c Q g w →
    ∃ e g' w', Q e g' w' ∧ iU (AQ c) g g' ∧ ∀ Q' : Exit → gZ → World → Prop, Q' e g' w' → eH P ann c Q' g w := by
  intro c
  induction c with
  | skip => intro Q g w h; exact ⟨_, _, _, h, iU.refl _ _, fun _ h => h⟩
  | region id ops draw =>
    intro Q g w h
    cases draw with
    | false =>
      obtain ⟨g', w', a, b, c⟩ := EU _ _ _ h
      exact ⟨.normal, g', w', a, b, fun Q' h => c _ h⟩
    | true =>
      obtain ⟨g', w', a, b, c⟩ := GC _ _ h
      exact ⟨.normal, g', w', a, b, fun Q' h => c _ h⟩
  | seq x y ihx ihy =>
    intro Q g w h
    obtain ⟨e, g1, w1, a, b, c⟩ := ihx _ _ _ h
    cases e with
    | normal =>
      obtain ⟨e2, g2, w2, a2, b2, c2⟩ := ihy _ _ _ a
      exact ⟨e2, g2, w2, a2, b.trans b2 (fun s h => List.mem_append_left _ h) (fun s h => List.mem_append_right _ h), fun Q' h => c _ (c2 _ h)⟩
    | _ => exact ⟨_, g1, w1, a, b.mono (fun s h => List.mem_append_left _ h), fun Q' h => c _ h⟩
  | cond c x y ihx ihy =>
    intro Q g w h
    simp only [eH] at h ⊢
    unfold lS at h ⊢
    cases hc : ev g c with
    | bool b =>
      rw [hc] at h
      cases b with
      | true =>
        obtain ⟨e, g', w', a, b, c⟩ := ihx _ _ _ h
        exact ⟨e, g', w', a, b.mono (fun s h => List.mem_append_left _ h), c⟩
      | false =>
        obtain ⟨e, g', w', a, b, c⟩ := ihy _ _ _ h
        exact ⟨e, g', w', a, b.mono (fun s h => List.mem_append_right _ h), c⟩
    | _ => rw [hc] at h; exact h.elim
  | block id c ih =>
    intro Q g w h
    obtain ⟨e, g', w', a, b, c⟩ := ih _ _ _ h
    cases e with
    | exit i =>
      simp only [CB] at a
      cases hb : Nat.beq i id with
      | true =>
        simp only [hb] at a
        refine ⟨.normal, g', w', a, b, fun Q' h => c _ ?_⟩
        simp only [CB, hb]; exact h
      | false =>
        simp only [hb] at a
        refine ⟨.exit i, g', w', a, b, fun Q' h => c _ ?_⟩
        simp only [CB, hb]; exact h
    | _ => exact ⟨_, g', w', a, b, fun Q' h => c _ h⟩
  | loop c ih =>
    intro Q g w h
    have hmono : ∀ (Q : Exit → gZ → World → Prop) (X Y : gZ → World → Prop) g w, (∀ g w, X g w → Y g w) → eH P ann c (fH X Q) g w → eH P ann c (fH Y Q) g w := by
      intro Q X Y g w hxy h
      obtain ⟨e, g', w', a, _, k⟩ := ih _ _ _ h
      refine k _ ?_
      cases e with
      | normal => exact hxy _ _ a
      | _ => exact a
    obtain ⟨I, ⟨n, h0⟩, hI⟩ := h
    have key : ∀ n g w, I n g w → ∃ e g' w', Q e g' w' ∧ iU (AQ c) g g' ∧ ∀ Q' : Exit → gZ → World → Prop, Q' e g' w' → iY (fun X g w => eH P ann c (fH X Q') g w) g w := by
      intro n
      induction n using Nat.strongRecOn with
      | _ n ih2 =>
        intro g w hg
        obtain ⟨e, g1, w1, a, b, k⟩ := ih _ _ _ (hI n g w hg)
        have once : ∀ (Q' : Exit → gZ → World → Prop), (∀ X : gZ → World → Prop, eH P ann c (fH X Q') g w) → iY (fun X g w => eH P ann c (fH X Q') g w) g w := by
          intro Q' h
          refine ⟨fun n g' w' => g' = g ∧ w' = w, ⟨0, rfl, rfl⟩, ?_⟩
          rintro _ g' w' ⟨rfl, rfl⟩
          exact h _
        cases e with
        | normal =>
          obtain ⟨m, hm, hIm⟩ := a
          obtain ⟨e2, g2, w2, a2, b2, k2⟩ := ih2 m hm g1 w1 hIm
          refine ⟨e2, g2, w2, a2, b.trans b2 (fun _ h => h) (fun _ h => h), fun Q' h => ?_⟩
          have hl := k2 Q' h
          exact iY.head (hmono Q') (k _ hl) ⟨g1, w1, hl, fun X hx => k _ hx⟩
        | _ => exact ⟨_, g1, w1, a, b, fun Q' h => once Q' fun X => k _ h⟩
    exact key n g w h0
  | exit id => intro Q g w h; exact ⟨_, _, _, h, iU.refl _ _, fun _ h => h⟩
  | label l => intro Q g w h; exact ⟨_, _, _, h, iU.refl _ _, fun _ h => h⟩
  | scope c ih => intro Q g w h; exact ih Q g w h
  | ret => intro Q g w h; exact ⟨_, _, _, h, iU.refl _ _, fun _ h => h⟩
  | _ => intro Q g w h; exact h.elim
theorem qW {c : Code} {Q Q' : Exit → gZ → World → Prop} {g : gZ} {w : World} (h : eH P ann c Q g w)
    (hq : ∀ e g' w', iU (AQ c) g g' → Q e g' w' → Q' e g' w') : eH P ann c Q' g w :=
  let ⟨_, _, _, a, b, k⟩ := E5 c Q g w h
  k _ (hq _ _ _ b a)
def HV (Q : Exit → gZ → World → Prop) : Exit → gZ → World → Prop
  | .goto _, _, _ => False
  | e, g, w => Q e g w
theorem EC : ∀ (c : Code) (Q : Exit → gZ → World → Prop) (g : gZ) (w : World), eH P ann c Q g w → eH P ann c (HV Q) g w := by
  intro c
  induction c with
  | skip => intro Q g w h; exact h
  | region id ops draw => intro Q g w h; cases draw <;> exact h
  | seq x y ihx ihy =>
    intro Q g w h
    show eH P ann x (fH (fun g w => eH P ann y (HV Q) g w) (HV Q)) g w
    refine qW (ihx _ _ _ h) (fun e g' w' _ hq => ?_)
    cases e with
    | normal => exact ihy _ _ _ hq
    | goto l => exact hq.elim
    | _ => exact hq
  | cond c x y ihx ihy =>
    intro Q g w h
    simp only [eH] at h ⊢
    unfold lS at h ⊢
    cases hc : ev g c with
    | bool b =>
      rw [hc] at h
      cases b with
      | true => exact ihx _ _ _ h
      | false => exact ihy _ _ _ h
    | _ => rw [hc] at h; exact h.elim
  | block id c ih =>
    intro Q g w h
    show eH P ann c (CB id (HV Q)) g w
    refine qW (ih _ _ _ h) (fun e g' w' _ hq => ?_)
    cases e with
    | exit i =>
      simp only [HV, CB] at hq ⊢
      cases hb : Nat.beq i id with
      | true => rw [hb] at hq; exact hq
      | false => rw [hb] at hq; exact hq
    | goto l => exact hq.elim
    | _ => exact hq
  | loop c ih =>
    intro Q g w h
    obtain ⟨I, h0, hI⟩ := h
    refine ⟨I, h0, fun n g w hi => ?_⟩
    refine qW (ih _ _ _ (hI n g w hi)) (fun e g' w' _ hq => ?_)
    cases e with
    | normal => exact hq
    | goto l => exact hq.elim
    | _ => exact hq
  | exit id => intro Q g w h; exact h
  | label l => intro Q g w h; exact h
  | scope c ih => intro Q g w h; exact ih Q g w h
  | ret => intro Q g w h; exact h
  | _ => intro Q g w h; exact h.elim
theorem Fl {N : Nat} (hm : P.follows .mixedOrders = true) : ∀ (c : Code), oK P N ann c = true →
    ∀ (Q : Exit → gZ → World → Prop) (QA : Exit → Act → World → Prop) (g : gZ) (a : Act) (w : World), wY N g a →
      (∀ e g a w, wY N g a → Q e g w → QA e a w) → eH P ann c Q g w → EW P ann.f c QA a w := by
  intro c
  induction c with
  | skip => intro _ Q QA g a w hr hq h; exact Ck (wp_skip (hq _ _ _ _ hr h))
  | region id ops draw =>
    intro hok Q QA g a w hr hq h
    simp only [oK, Bool.and_eq_true, Bool.or_eq_true, Bool.not_eq_true'] at hok
    have hd := Dd hok.1.1
    have hca := Cj hok.1.2
    cases draw with
    | false =>
      refine Ck (wp_region ?_)
      have := Fu hd hca (P := P) (Q := QA) (K := Q .normal) (fun g a w => hq .normal g a w) ops.toList 0 g a w (fun j => by simp) hr h
      rw [List.range_eq_range']
      simpa using this
    | true =>
      rcases hok.2 with h1 | h1
      · cases h1
      · exact B6 hm (EA hd hca (fun g a w => hq .normal g a w) hr _ [] h1 (by simp) h)
  | seq x y ihx ihy =>
    intro hok Q QA g a w hr hq h
    simp only [oK, Bool.and_eq_true] at hok
    refine Hf (ihx hok.1 _ _ g a w hr (fun e g a w hr h => ?_) h)
    cases e with
    | normal => exact ihy hok.2 _ _ g a w hr hq h
    | _ => exact hq _ _ _ _ hr h
  | cond c x y ihx ihy =>
    intro hok Q QA g a w hr hq h
    simp only [oK, Bool.and_eq_true] at hok
    simp only [eH] at h
    unfold lS at h
    have he := hr.ev c
    cases hc : ev g c with
    | bool b =>
      rw [hc] at h he
      refine Gg he ?_
      cases b with
      | true => exact ihx hok.1 _ _ g a w hr hq h
      | false => exact ihy hok.2 _ _ g a w hr hq h
    | _ => rw [hc] at h; exact h.elim
  | block id c ih =>
    intro hok Q QA g a w hr hq h
    refine Fj (ih hok _ _ g a w hr (fun e g a w hr h => ?_) h)
    cases e with
    | exit i =>
      unfold Exit.inBlock
      simp only [CB] at h
      by_cases hi : i = id
      · subst hi
        simp only [if_true]
        simp only [Nat.beq_refl] at h
        exact hq _ _ _ _ hr h
      · simp only [hi, if_false]
        have : Nat.beq i id = false := by
          cases hb : Nat.beq i id
          · rfl
          · exact absurd (Nat.eq_of_beq_eq_true hb) hi
        simp only [this] at h
        exact hq _ _ _ _ hr h
    | _ => exact hq _ _ _ _ hr h
  | loop c ih =>
    intro hok Q QA g a w hr hq h
    obtain ⟨I, h0, hround⟩ := h
    have hex : ∀ a w, (∃ n g, wY N g a ∧ I n g w) → ∃ n, (∃ g, wY N g a ∧ I n g w) ∧ ∀ m, (∃ g, wY N g a ∧ I m g w) → n ≤ m := by
      rintro a w ⟨n, hn⟩
      induction n using Nat.strongRecOn with
      | _ n ih2 =>
        by_cases hx : ∃ m, m < n ∧ ∃ g, wY N g a ∧ I m g w
        · obtain ⟨m, hm, h⟩ := hx; exact ih2 m hm h
        · exact ⟨n, hn, fun m hm => Nat.le_of_not_lt fun hlt => hx ⟨m, hlt, hm⟩⟩
    have hdec : ∀ a w, Decidable (∃ n g, wY N g a ∧ I n g w) := fun a w => Classical.propDecidable _
    let μ : Act → World → Nat := fun a w => if hh : ∃ n g, wY N g a ∧ I n g w then Classical.choose (hex a w hh) else 0
    have hμ : ∀ a w n g, wY N g a → I n g w → μ a w ≤ n ∧ ∃ g, wY N g a ∧ I (μ a w) g w := by
      intro a w n g hr hI
      have hh : ∃ n g, wY N g a ∧ I n g w := ⟨n, g, hr, hI⟩
      have e : μ a w = Classical.choose (hex a w hh) := dif_pos hh
      have s := Classical.choose_spec (hex a w hh)
      rw [e]
      exact ⟨s.2 n ⟨g, hr, hI⟩, s.1⟩
    obtain ⟨n0, h0⟩ := h0
    refine Gl (fun a w => ∃ n g, wY N g a ∧ I n g w) μ ⟨n0, g, hr, h0⟩ ?_
    rintro a w ⟨n, g, hr, hI⟩
    obtain ⟨_, g', hr', hI'⟩ := hμ a w n g hr hI
    refine ih hok _ _ g' a w hr' (fun e g1 a1 w1 hr1 h => ?_) (hround _ _ _ hI')
    cases e with
    | normal =>
      obtain ⟨m, hm, hIm⟩ := h
      have := hμ a1 w1 m g1 hr1 hIm
      exact ⟨⟨m, g1, hr1, hIm⟩, by omega⟩
    | _ => exact hq _ _ _ _ hr1 h
  | label l => intro _ Q QA g a w hr hq h; exact Ck (wp_label (hq _ _ _ _ hr h))
  | scope c ih =>
    intro hok Q QA g a w hr hq h
    refine Fz (ih hok (HV Q) _ g a w hr (fun e g a w hr h => ?_) (EC c _ g w h))
    cases e with
    | goto l => exact h.elim
    | _ => exact hq _ _ _ _ hr h
  | exit id => intro _ Q QA g a w hr hq h; exact Ck (wp_exit (hq _ _ _ _ hr h))
  | ret => intro _ Q QA g a w hr hq h; exact Ck (wp_ret (hq _ _ _ _ hr h))
  | _ => intro hok; simp [oK] at hok
def lU (P : Program) : List ResultVar → gZ → World → (List Value → Prop) → Prop
  | [], _, _, K => K []
  | .tmp t :: r, g, w, K => lU P r g w fun vs => K (g t :: vs)
  | .cell a t :: r, g, w, K => ∃ v, (do loadVar t (← asAddr (g a)) : Sem Value).run P w = .ok v w ∧ lU P r g w fun vs => K (v :: vs)
def GI : List Value → Value
  | [v] => v
  | vs => .tuple vs.toArray
def pK (P : Program) (rs : List ResultVar) (R : Value → World → Prop) : Exit → gZ → World → Prop
  | .normal, g, w => lU P rs g w fun vs => R (GI vs) w
  | .ret, g, w => lU P rs g w fun vs => R (GI vs) w
  | _, _, _ => False
theorem D9 {N : Nat} {g : gZ} {a : Act} {w : World} (hr : wY N g a) : ∀ (rs : List ResultVar) (K : List Value → Prop), lU P rs g w K →
    ∃ vs, K vs ∧ (rs.mapM fun | .tmp t => pure (a.tmps.getD t undef) | .cell b t => do loadVar t (← asAddr (a.tmps.getD b undef)) : Sem (List Value)).run P w = .ok vs w := by
  intro rs
  induction rs with
  | nil => intro K h; exact ⟨[], h, by simp⟩
  | cons r rs ih =>
    intro K h
    cases r with
    | tmp t =>
      obtain ⟨vs, h1, h2⟩ := ih _ h
      refine ⟨_, h1, ?_⟩
      rw [List.mapM_cons]
      rw [pure_bind, Sem.run_bind]
      simp only [h2, Result.andThen, Sem.run_pure, hr.2.2 t]
    | cell b t =>
      obtain ⟨v, hv, h⟩ := h
      obtain ⟨vs, h1, h2⟩ := ih _ h
      refine ⟨_, h1, ?_⟩
      rw [List.mapM_cons]
      rw [← hr.2.2 b] at hv
      rw [Sem.run_bind]
      simp only [hv, Result.andThen]
      rw [Sem.run_bind]
      simp only [h2, Result.andThen]
      rfl
theorem HF (vs : Array Value) : (if h : vs.size = 1 then vs[0] else Value.tuple vs) = GI vs.toList := by
  obtain ⟨l⟩ := vs
  match l with
  | [] => rfl
  | [v] => rfl
  | a :: b :: r => simp [GI]
theorem DQ {N : Nat} {g : gZ} {a : Act} {w : World} (fn : Func) {rs : List ResultVar} (hrs : fn.results = rs.toArray) (hr : wY N g a) {R : Value → World → Prop}
    (h : lU P rs g w fun vs => R (GI vs) w) : ∃ v, (results fn a.tmps).run P w = .ok v w ∧ R v w := by
  obtain ⟨vs, h1, h2⟩ := D9 hr rs _ h
  refine ⟨GI vs, ?_, h1⟩
  unfold results
  rw [hrs, Array.mapM_eq_mapM_toList, List.toList_toArray]
  simp only [bind_assoc, map_eq_pure_bind]
  rw [Sem.run_bind]
  refine Eq.trans (congrArg (fun r => Result.andThen r _) h2) ?_
  simp only [Result.andThen]
  simp only [pure_bind, Sem.run_pure, HF]
def jV (args : List Value) : gZ := fun i => args.getD i undef
theorem fM {f : FuncId} {fn : Func} {c : Code} {args : List Value} {w : World} {rs : List ResultVar} {R : Value → World → Prop} (hm : P.follows .mixedOrders = true) (hAf : ann.f = f)
    (hf : P.funcs[f]? = some fn) (hb : fn.body = some c) (hrs : fn.results = rs.toArray) {N : Nat} (hN : fn.ntmps = N) (hle : args.length ≤ N)
    (hok : oK P N ann c = true) (h : eH P ann c (pK P rs R) (jV args) w) : gE P f args.toArray w R := by
  obtain ⟨e, g', w', hq, _, hall⟩ := E5 _ _ _ _ h
  have hrv : lU P rs g' w' fun vs => R (GI vs) w' := by cases e <;> first | exact hq | exact hq.elim
  have hex : ∃ v, R v w' ∧ ∀ R' : Value → World → Prop, R' v w' → lU P rs g' w' fun vs => R' (GI vs) w' := by
    have gen : ∀ (rs : List ResultVar) (K : List Value → Prop), lU P rs g' w' K → ∃ vs, K vs ∧ ∀ K' : List Value → Prop, K' vs → lU P rs g' w' K' := by
      intro rs
      induction rs with
      | nil => intro K h; exact ⟨_, h, fun _ h => h⟩
      | cons r rs ih =>
        intro K h
        cases r with
        | tmp t =>
          obtain ⟨vs, a, b⟩ := ih _ h
          exact ⟨_, a, fun K' h => b _ h⟩
        | cell b t =>
          obtain ⟨v, hv, h⟩ := h
          obtain ⟨vs, a, b⟩ := ih _ h
          exact ⟨_, a, fun K' h => ⟨v, hv, b _ h⟩⟩
    obtain ⟨vs, a, b⟩ := gen _ _ hrv
    exact ⟨_, a, fun R' h => b _ h⟩
  obtain ⟨v, hv, hrest⟩ := hex
  refine ⟨v, w', ?_, hv⟩
  have hrel : wY N (jV args) { tmps := args.toArray ++ Array.replicate (fn.ntmps - args.toArray.size) undef, defers := [] } := by
    refine ⟨rfl, by simp [hN]; omega, fun i => ?_⟩
    simp only [jV, Array.getD_eq_getD_getElem?, List.getD_eq_getElem?_getD]
    by_cases hi : i < args.length
    · simp [Array.getElem?_append, hi]
    · simp only [Array.getElem?_append, List.size_toArray, hi, if_false, Array.getElem?_replicate]
      rw [List.getElem?_eq_none (by omega)]
      split <;> rfl
  refine DJ (f := f) hf hb ?_
  refine hAf ▸ Fl hm c hok (pK P rs fun v2 w2 => v2 = v ∧ w2 = w') _ _ _ _ hrel ?_ (hall _ ?_)
  · intro e g a w hr h
    have hx : ∀ {w}, (lU P rs g w fun vs => GI vs = v ∧ w = w') → a.defers = [] ∧ ∃ v2, (results fn a.tmps).run P w = .ok v2 w ∧ (Ending.returned v2 = .returned v ∧ w = w') := by
      intro w h
      obtain ⟨v2, h1, rfl, h3⟩ := DQ fn hrs hr (R := fun v2 w2 => v2 = v ∧ w2 = w') h
      exact ⟨hr.1, v2, h1, rfl, h3⟩
    cases e with
    | normal => exact hx h
    | ret => exact hx h
    | _ => exact h.elim
  · have := hrest (fun v2 w2 => v2 = v ∧ w2 = w') ⟨rfl, rfl⟩
    cases e <;> first | exact this | exact hq.elim
theorem CV {f : FuncId} {args : Array Value} {w : World} {R : Value → World → Prop} (h : gE P f args w R) :
    Calls P f args w fun e w' => ∃ v, e = .returned v ∧ R v w' := by
  obtain ⟨v, w', hr, hR⟩ := h
  refine Calls.mono hr ?_
  rintro e w'' ⟨rfl, rfl⟩
  exact ⟨v, rfl, hR⟩
end
end Go.En
namespace Go.En
open Go
def sA : Code → Code | .seq a _ => a | c => c
def bI : Code → Code | .block _ c => c | .loop c => c | .scope c => c | c => c
def iW (f : Func) : Code := match f.body with | some c => c | none => .skip
def cS : Nat → Code → Code
  | 0, c => c
  | 1, c => sA c
  | n + 1, .seq a b => .seq a (cS n b)
  | _, c => c
def aA : Nat → Code → Code
  | 0, c => c
  | n + 1, .seq _ b => aA n b
  | _, c => c
def EG : Nat → Code → Bool
  | 1, .seq _ _ => true
  | n + 1, .seq _ b => EG n b
  | _, _ => false
def dr (w : World) : World := { w with drawn := w.drawn + 1 }
def yH (P : Program) (t : TypeId) (a : Value) (w : World) (K : Value → Prop) : Prop := ∃ v, (do loadVar t (← asAddr a) : Sem Value).run P w = .ok v w ∧ K v
def Ik : List (Nat × (gZ → World → Prop)) → Nat → gZ → World → Prop
  | [], _, _, _ => False
  | (j, k) :: r, i, g, w => match Nat.beq i j with | true => k g w | false => Ik r i g w
def Iy (kn kr : gZ → World → Prop) (l : List (Nat × (gZ → World → Prop))) : Exit → gZ → World → Prop
  | .normal, g, w => kn g w
  | .ret, g, w => kr g w
  | .exit i, g, w => Ik l i g w
  | _, _, _ => False
def Gc (Q : Exit → gZ → World → Prop) : List (Nat × (gZ → World → Prop)) → Prop
  | [] => True
  | (i, k) :: r => (∀ g w, k g w → Q (.exit i) g w) ∧ Gc Q r
def jL (c a b : Value) : Sem Next := do pure (.value (if ← asBool c then a else b))
def iJ (t : TypeId) : Sem Next := V (Instr.alloc t true (.tuple #[]))
def Dz (t : TypeId) (x : Value) : Sem Next := V (Instr.box t x)
def eC (t : TypeId) (a : Value) : Sem Next := V (Instr.loadAt t a)
def eZ (t : TypeId) (a x : Value) : Sem Next := U (Instr.storeAt t a x)
def AP (x : Value) : Sem Next := execOp (fun _ => x) ⟨none, .nilCheck (.tmp 0), 0, default, #[], none⟩
def He (op : UnOp) (x : Value) : Sem Next := V (Op.unary op x)
def mJ (s d : TypeId) (x : Value) : Sem Next := V (convert s d x)
def lQ (t : TypeId) (l c : Value) : Sem Next := V (Instr.makeSlice t l c)
def jO (t : TypeId) (x : Value) (lo hi mx : Option Value) : Sem Next := V (Instr.sliceAt t x lo hi mx)
def eB (t : TypeId) (x : Value) (f : Nat) : Sem Next := V (Instr.fieldAt t x f)
def hX (t : TypeId) (x i : Value) : Sem Next := V (Instr.indexAt t x i)
def Gw (t : TypeId) (x i : Value) : Sem Next := V (Instr.index t x i)
def iA (t : Value) (i : Nat) : Sem Next := V (Instr.extract t i)
section
variable {P : Program} {ann : FA}
theorem Hx {Q : Exit → gZ → World → Prop} : ∀ {l : List (Nat × (gZ → World → Prop))}, Gc Q l → ∀ {i : Nat} {g : gZ} {w : World}, Ik l i g w → Q (.exit i) g w := by
  intro l
  induction l with
  | nil => intro _ i g w h; exact h.elim
  | cons p r ih =>
    obtain ⟨j, k⟩ := p
    rintro ⟨h1, h2⟩ i g w h
    simp only [Ik] at h
    cases hb : Nat.beq i j with
    | true =>
      simp only [hb] at h
      obtain rfl := Nat.eq_of_beq_eq_true hb
      exact h1 _ _ h
    | false => simp only [hb] at h; exact ih h2 h
theorem dV {c : Code} {kn kr : gZ → World → Prop} {l : List (Nat × (gZ → World → Prop))} {Q : Exit → gZ → World → Prop} {g : gZ} {w : World} {A : Prop}
    (e : A = eH P ann c (Iy kn kr l) g w) (h : A) (hn : ∀ g w, kn g w → Q .normal g w) (hr : ∀ g w, kr g w → Q .ret g w) (hl : Gc Q l) : eH P ann c Q g w := by
  rw [e] at h
  refine qW h (fun e g' w' _ hq => ?_)
  cases e with
  | normal => exact hn _ _ hq
  | ret => exact hr _ _ hq
  | exit i => exact Hx hl hq
  | _ => exact hq.elim
theorem Fm {x y z : Code} {Q : Exit → gZ → World → Prop} {g : gZ} {w : World} (h : eH P ann (.seq (.seq x y) z) Q g w) : eH P ann (.seq x (.seq y z)) Q g w := by
  show eH P ann x (fH (fun g w => eH P ann y (fH (fun g w => eH P ann z Q g w) Q) g w) Q) g w
  have h : eH P ann x (fH (fun g w => eH P ann y (fH (fun g w => eH P ann z Q g w) Q) g w) (fH (fun g w => eH P ann z Q g w) Q)) g w := h
  refine qW h (fun e g' w' _ hq => ?_)
  cases e <;> exact hq
theorem fG {K : gZ → World → Prop} {Q : Exit → gZ → World → Prop} {g : gZ} {w : World} (h : K g w) : fH K Q .normal g w := h
theorem Fs {Q : Exit → gZ → World → Prop} : ∀ (n : Nat) (c : Code) (g : gZ) (w : World), EG n c = true → eH P ann (.seq (cS n c) (aA n c)) Q g w → eH P ann c Q g w := by
  intro n
  induction n with
  | zero => intro c g w h; simp [EG] at h
  | succ n ih =>
    intro c g w h hd
    cases c with
    | seq a b =>
      cases n with
      | zero => exact hd
      | succ n =>
        have hb : EG (n + 1) b = true := by simpa [EG] using h
        have hd' : eH P ann (.seq (.seq a (cS (n + 1) b)) (aA (n + 1) b)) Q g w := hd
        have := Fm hd'
        show eH P ann a (fH (fun g w => eH P ann b Q g w) Q) g w
        have h2 : eH P ann a (fH (fun g w => eH P ann (.seq (cS (n + 1) b) (aA (n + 1) b)) Q g w) Q) g w := this
        refine qW h2 (fun e g' w' _ hq => ?_)
        cases e with
        | normal => exact ih b g' w' hb hq
        | _ => exact hq
    | _ => cases n <;> simp [EG] at h
theorem eJ {Q : Exit → gZ → World → Prop} (n : Nat) (c : Code) (g : gZ) (w : World) (h : EG n c = true)
    (hd : eH P ann (cS n c) (fH (fun g w => eH P ann (aA n c) Q g w) Q) g w) : eH P ann c Q g w := Fs n c g w h hd
def H2 (id : Nat) : Code → Bool | .block i _ => Nat.beq i id | _ => false
def HC : Code → Bool | .loop _ => true | _ => false
theorem kC {Q : Exit → gZ → World → Prop} (id : Nat) (c : Code) (g : gZ) (w : World) (h : H2 id c = true) (hd : eH P ann (bI c) (CB id Q) g w) : eH P ann c Q g w := by
  cases c with
  | block i c =>
    obtain rfl := Nat.eq_of_beq_eq_true (show Nat.beq i id = true from h)
    exact hd
  | _ => cases h
def Ie : Code → Bool | .scope _ => true | _ => false
theorem EZ {Q : Exit → gZ → World → Prop} (c : Code) (g : gZ) (w : World) (h : Ie c = true) (hd : eH P ann (bI c) Q g w) : eH P ann c Q g w := by
  cases c with
  | scope c => exact hd
  | _ => cases h
theorem FY {T : Type} (proj : gZ → T) (F : (T → World → Prop) → T → World → Prop) {c : Code} {Q : Exit → gZ → World → Prop} {g : gZ} {w : World}
    (hF : ∀ (X : T → World → Prop) g' w', iU (AQ c) g g' → F X (proj g') w' → eH P ann c (fH (fun g'' w'' => X (proj g'') w'') Q) g' w')
    (h : iY F (proj g) w) : eH P ann (.loop c) Q g w := by
  obtain ⟨I, ⟨n, h0⟩, hI⟩ := h
  refine ⟨fun n g' w' => iU (AQ c) g g' ∧ I n (proj g') w', ⟨n, iU.refl _ _, h0⟩, ?_⟩
  rintro n g' w' ⟨ha, hi⟩
  have := hF _ g' w' ha (hI n _ _ hi)
  refine qW this (fun e g2 w2 ha2 hq => ?_)
  cases e with
  | normal =>
    obtain ⟨m, hm, hh⟩ := hq
    exact ⟨m, hm, ha.trans ha2 (fun _ h => h) (fun _ h => h), hh⟩
  | _ => exact hq
theorem kL {T : Type} (proj : gZ → T) (F : (T → World → Prop) → T → World → Prop) (c : Code) {Q : Exit → gZ → World → Prop} {g : gZ} {w : World} (hl : HC c = true)
    (h : iY F (proj g) w)
    (hF : ∀ (X : T → World → Prop) g' w', iU (AQ (bI c)) g g' → F X (proj g') w' → eH P ann (bI c) (fH (fun g'' w'' => X (proj g'') w'') Q) g' w') : eH P ann c Q g w := by
  cases c with
  | loop c => exact FY proj F hF h
  | _ => cases hl
theorem Ey {l : List Nat} {s : Nat} (hs : jJ s l = false) : s ∉ l := by
  induction l with
  | nil => simp
  | cons a r ih =>
    unfold jJ at hs
    cases hb : Nat.beq a s with
    | true => simp only [hb] at hs; cases hs
    | false =>
      simp only [hb] at hs
      intro hm
      rcases List.mem_cons.1 hm with e | hm
      · subst e; simp at hb
      · exact ih hs hm
theorem eN {l : List Nat} {g g' : gZ} (h : iU l g g') {s : Nat} (hs : jJ s l = false) : g' s = g s := h s (Ey hs)
def xK (id : Nat) : Code → Array Oper
  | .region i ops _ => match Nat.beq i id with | true => ops | false => #[]
  | .seq a b => match (xK id a).size with | 0 => xK id b | _ + 1 => xK id a
  | .cond _ a b => match (xK id a).size with | 0 => xK id b | _ + 1 => xK id a
  | .block _ c => xK id c
  | .loop c => xK id c
  | .scope c => xK id c
  | _ => #[]
theorem F8 {b : Bool} {A B : Prop} (ha : A) (hb : B) : H6 b A B := by cases b <;> assumption
theorem iY.rule {α : Type} {F : (α → World → Prop) → α → World → Prop} (I : Nat → α → World → Prop) {g : α} {w : World} (n : Nat) (h0 : I n g w)
    (hr : ∀ n g w, I n g w → F (fun g' w' => ∃ m, m < n ∧ I m g' w') g w) : iY F g w := ⟨I, ⟨n, h0⟩, hr⟩
theorem cW (A B : Prop) : lS (.bool true) A B = A := Eq.trans rfl rfl
theorem cO (A B : Prop) : lS (.bool false) A B = B := Eq.trans rfl rfl
theorem dZ (s : (Value → World → Prop) → Prop) (w : World) (K : Value → World → Prop) : Gd true s w K = s K := Eq.trans rfl rfl
theorem dT (s : (Value → World → Prop) → Prop) (w : World) (K : Value → World → Prop) : Gd false s w K = K undef w := Eq.trans rfl rfl
theorem eM (p : Prop) : Gs true p = p := Eq.trans rfl rfl
theorem dY (p : Prop) : Gs false p = True := Eq.trans rfl rfl
theorem fK : iZ (.bool true) true = true := Eq.trans rfl rfl
theorem fB : iZ (.bool true) false = false := Eq.trans rfl rfl
theorem fJ : iZ (.bool false) true = false := Eq.trans rfl rfl
theorem eT : iZ (.bool false) false = true := Eq.trans rfl rfl
end
end Go.En
namespace Go.Proofs.YtoepfjgekpdddaaDoor
open Go Go.En
noncomputable abbrev pg : Program := Tryd.prog
theorem TrydM.mixed : pg.follows .mixedOrders = true := Tryd.checked.mixed
abbrev K0 := World → Prop
abbrev K1 := Value → K0
abbrev K2 := Value → K1
abbrev K3 := Value → K2
abbrev K4 := Value → K3
abbrev K5 := Value → K4
abbrev K6 := Value → K5
abbrev K7 := Value → K6
abbrev K8 := Value → K7
abbrev K9 := Value → K8
abbrev Cd := Value → K9
abbrev HR (rs : List ResultVar) (R : K1) (Q : Exit → gZ → World → Prop) : Prop := ∀ g w, (lU pg rs g w fun vs => R (GI vs) w) → Q .ret g w
abbrev no : gZ → World → Prop := fun _ _ => False
theorem lW {Q : gZ → World → Prop} : ∀ g w, no g w → Q g w := fun _ _ h => h.elim
abbrev kV : FuncId := 4
abbrev pH : FuncId := 6
abbrev jA : FuncId := 7
abbrev kJ : FuncId := 8
abbrev kI : FuncId := 14
abbrev lG : FuncId := 15
abbrev nM : FuncId := 16
abbrev qD : FuncId := 17
abbrev xB : FuncId := 18
abbrev oY : FuncId := 19
abbrev nQ : FuncId := 27
abbrev mN : FuncId := 28
abbrev kE : FuncId := 29
abbrev sK : FuncId := 30
abbrev kP : FuncId := 31
abbrev iC : FuncId := 32
abbrev mX : FuncId := 33
abbrev jW : FuncId := 34
abbrev lL : FuncId := 35
abbrev jR : FuncId := 36
abbrev qI : FuncId := 37
abbrev Ac : FuncId := 48
abbrev kS : FuncId := 49
abbrev jS : FuncId := 50
abbrev sD : FuncId := 51
end Go.Proofs.YtoepfjgekpdddaaDoor
namespace Go.Proofs.YtoepfjgekpdddaaDoor
open Go Go.En
set_option linter.unusedVariables false
set_option maxRecDepth 20000
attribute [local irreducible] Go.En.eH
variable (Q : Exit → gZ → World → Prop) (g : gZ) (w : World)
def eQ : FA := ⟨oY, fun i => match Nat.beq i 25 with | true => .leaf ([2, 3], [(0, 2)]) [(false, []), (false, []), (true, [1]), (true, []), (false, []), (false, [])] | false => .leaf ([], []) []⟩
def gY : List ResultVar := [.cell 6 51, .tmp 7, .tmp 8]
noncomputable def eF : Code := iW Tryd.f19
def mR (R : K1) (t6 uQ iV : Value) (w : World) : Prop :=
  cJ pg (eC 51 iV) (dr w) fun t101 w_ => w_ = (dr w) ∧
  (dr w) = (dr w) ∧
  gE pg jR #[uQ] (dr w) fun t103 Hi =>
  (hC pg (eC 51 iV) t101 Hi ∧ True) ∧
  cJ pg (eZ 51 t6 t101) Hi fun _u3 C1 =>
  C1 = C1 ∧
  C1 = C1 ∧
  yH pg 51 t6 C1 fun r0 => R (.tuple #[r0, t103, (.int .i64 0)]) C1
theorem Ag (R : K1) (hr : HR gY R Q) (h : mR R (g 6) (g 9) (g 12) w) : eH pg eQ (aA 1 (aA 7 eF)) Q g w :=
  dV (kn := no) (l := []) (by kernel_rfl) h lW hr trivial
def lD (kn : K5) (R : K1) (fD t6 uQ iV fR : Value) (w : World) : Prop :=
  cJ pg (eB 51 iV 1) w fun t91 w =>
  cJ pg (eC 30 t91) w fun t92 w =>
  cJ pg (lR .len #[30] 3 [t92]) w fun t93 w =>
  cJ pg (dU .gtr 3 (.tmp 93) (.tmp 94) t93 fD) w fun t95 w =>
  Gd (iZ t95 false) (fun K => K fR w) w fun t97 w =>
  Gd (iZ t95 false) (fun K => cJ pg (dU .lss 3 (.tmp 97) (.const (.int .i64 0)) t97 (.int .i64 0)) w K) w fun t98 w =>
  cJ pg (jL t95 (.bool true) t98) w fun t99 w =>
  lS t99
    (cJ pg (gF 51 []) w fun t100 w =>
    cJ pg (eZ 51 t6 t100) w fun _u w =>
    yH pg 51 t6 w fun r0 => R (.tuple #[r0, (.int .i64 0), (.int .i64 11)]) w)
    (kn fD t6 uQ iV fR w)
theorem Af (kn : K5) (R : K1) (hn : ∀ g w, kn (g 2) (g 6) (g 9) (g 12) (g 13) w → Q .normal g w) (hr : HR gY R Q) (h : lD kn R (g 2) (g 6) (g 9) (g 12) (g 13) w) : eH pg eQ (aA 6 (bI (aA 1 (bI (bI (cS 1 (aA 7 eF))))))) Q g w :=
  dV (l := []) (by kernel_rfl) h hn hr trivial
def qO (kn : K5) (R : K1) (fD t6 uQ iV fR : Value) (w : World) : Prop :=
  gE pg mX #[uQ, fR] w fun t52 w =>
  cJ pg (iA t52 0) w fun t53 w =>
  cJ pg (iA t52 1) w fun t54 w =>
  cJ pg (dU .neq 27 (.tmp 55) (.const (.int .i64 0)) t54 (.int .i64 0)) w fun t56 w =>
  lS t56
    (cJ pg (gF 51 []) w fun t57 w =>
    cJ pg (eZ 51 t6 t57) w fun _u w =>
    yH pg 51 t6 w fun r0 => R (.tuple #[r0, (.int .i64 0), t54]) w)
    (cJ pg (dU .sub 3 (.tmp 59) (.const (.int .i64 1)) t53 (.int .i64 1)) w fun t60 w =>
    gE pg jW #[t60] w fun t63 w =>
    cJ pg (dU .sub 3 (.tmp 61) (.tmp 63) fR t63) w fun t64 w =>
    cJ pg (eB 51 iV 1) w fun t65 w =>
    cJ pg (eC 30 t65) w fun t66 w =>
    cJ pg (hH 30 1 [(0, t60)]) w fun t68 w =>
    cJ pg (lR .append #[30, 30] 30 [t66, t68]) w fun t69 w =>
    cJ pg (eB 51 iV 1) w fun t70 w =>
    cJ pg (eZ 30 t70 t69) w fun _u w =>
    cJ pg (dU .eql 3 (.tmp 71) (.const (.int .i64 0)) t60 (.int .i64 0)) w fun t72 w =>
    lS t72
      (gE pg lL #[uQ] w fun t75 w =>
      cJ pg (iA t75 0) w fun t76 w =>
      cJ pg (iA t75 1) w fun t77 w =>
      cJ pg (dU .neq 27 (.tmp 78) (.const (.int .i64 0)) t77 (.int .i64 0)) w fun t79 w =>
      lS t79
        (cJ pg (gF 51 []) w fun t80 w =>
        cJ pg (eZ 51 t6 t80) w fun _u w =>
        yH pg 51 t6 w fun r0 => R (.tuple #[r0, (.int .i64 0), t77]) w)
        (cJ pg (dU .gtr 3 (.tmp 82) (.tmp 83) t76 fD) w fun t84 w =>
        lS t84
          (cJ pg (gF 51 []) w fun t85 w =>
          cJ pg (eZ 51 t6 t85) w fun _u w =>
          yH pg 51 t6 w fun r0 => R (.tuple #[r0, (.int .i64 0), (.int .i64 11)]) w)
          (cJ pg (eB 51 iV 1) w fun t86 w =>
          cJ pg (eC 30 t86) w fun t87 w =>
          cJ pg (lR .append #[30, 3] 30 [t87, t76]) w fun t89 w =>
          cJ pg (eB 51 iV 1) w fun t90 w =>
          cJ pg (eZ 30 t90 t89) w fun _u w =>
          kn fD t6 uQ iV t64 w)))
      (kn fD t6 uQ iV t64 w))
theorem yW (kn : K5) (R : K1) (hn : ∀ g w, kn (g 2) (g 6) (g 9) (g 12) (g 13) w → Q .normal g w) (hr : HR gY R Q) (h : qO kn R (g 2) (g 6) (g 9) (g 12) (g 13) w) : eH pg eQ (cS 6 (bI (aA 1 (bI (bI (cS 1 (aA 7 eF))))))) Q g w :=
  dV (l := []) (by kernel_rfl) h hn hr trivial
def rR (kn : K5) (R : K1) (fD t6 uQ iV fR : Value) (w : World) : Prop :=
  qO (fun fD t6 uQ iV fR w => lD kn R fD t6 uQ iV fR w) R fD t6 uQ iV fR w
theorem Am (kn : K5) (R : K1) (hn : ∀ g w, kn (g 2) (g 6) (g 9) (g 12) (g 13) w → Q .normal g w) (hr : HR gY R Q) (h : rR kn R (g 2) (g 6) (g 9) (g 12) (g 13) w) : eH pg eQ (bI (aA 1 (bI (bI (cS 1 (aA 7 eF)))))) Q g w :=
  eJ 6 _ g w (by kernel_rfl) (yW (fH (fun g w => eH pg eQ (aA 6 (bI (aA 1 (bI (bI (cS 1 (aA 7 eF))))))) Q g w) Q) g w (fun fD t6 uQ iV fR w => lD kn R fD t6 uQ iV fR w) R (fun g w h => fG (K := fun g w => eH pg eQ (aA 6 (bI (aA 1 (bI (bI (cS 1 (aA 7 eF))))))) Q g w) (Af Q g w kn R hn hr h)) hr h)
def mK (kn : K5) (R : K1) (fD t6 uQ iV fR : Value) (w : World) : Prop :=
  rR kn R fD t6 uQ iV fR w
theorem yQ (kn : K5) (R : K1) (hn : ∀ g w, kn (g 2) (g 6) (g 9) (g 12) (g 13) w → Q .normal g w) (hr : HR gY R Q) (h : mK kn R (g 2) (g 6) (g 9) (g 12) (g 13) w) : eH pg eQ (aA 1 (bI (bI (cS 1 (aA 7 eF))))) Q g w :=
  kC 1 _ g w (by kernel_rfl) (Am (CB 1 Q) g w kn R hn hr h)
def rD (kn : K5) (k0 : K3) (fD t6 uQ iV fR : Value) (w : World) : Prop :=
  cJ pg (dU .gtr 3 (.tmp 47) (.const (.int .i64 0)) fR (.int .i64 0)) w fun t48 w =>
  lS t48
    (kn fD t6 uQ iV fR w)
    (k0 t6 uQ iV w)
theorem Az (kn : K5) (k0 : K3) (hn : ∀ g w, kn (g 2) (g 6) (g 9) (g 12) (g 13) w → Q .normal g w) (h0 : ∀ g w, k0 (g 6) (g 9) (g 12) w → Q (.exit 0) g w) (h : rD kn k0 (g 2) (g 6) (g 9) (g 12) (g 13) w) : eH pg eQ (cS 1 (bI (bI (cS 1 (aA 7 eF))))) Q g w :=
  dV (kr := no) (l := [(0, fun g w => k0 (g 6) (g 9) (g 12) w)]) (by kernel_rfl) h hn lW ⟨h0, trivial⟩
def mW (kn : K5) (k0 : K3) (R : K1) (fD t6 uQ iV fR : Value) (w : World) : Prop :=
  rD (fun fD t6 uQ iV fR w => mK kn R fD t6 uQ iV fR w) k0 fD t6 uQ iV fR w
theorem zA (kn : K5) (k0 : K3) (R : K1) (hn : ∀ g w, kn (g 2) (g 6) (g 9) (g 12) (g 13) w → Q .normal g w) (h0 : ∀ g w, k0 (g 6) (g 9) (g 12) w → Q (.exit 0) g w) (hr : HR gY R Q) (h : mW kn k0 R (g 2) (g 6) (g 9) (g 12) (g 13) w) : eH pg eQ (bI (bI (cS 1 (aA 7 eF)))) Q g w :=
  eJ 1 _ g w (by kernel_rfl) (Az (fH (fun g w => eH pg eQ (aA 1 (bI (bI (cS 1 (aA 7 eF))))) Q g w) Q) g w (fun fD t6 uQ iV fR w => mK kn R fD t6 uQ iV fR w) k0 (fun g w h => fG (K := fun g w => eH pg eQ (aA 1 (bI (bI (cS 1 (aA 7 eF))))) Q g w) (yQ Q g w kn R hn hr h)) h0 h)
def rZ (k0 : K3) (R : K1) (fD t6 uQ iV fR : Value) (w : World) : Prop :=
  iY (fun (X : Value → K0) (t : Value) (w : World) => mW (fun _ _ _ _ fR w => X fR w) k0 R fD t6 uQ iV t w) fR w
theorem zB (k0 : K3) (R : K1) (h0 : ∀ g w, k0 (g 6) (g 9) (g 12) w → Q (.exit 0) g w) (hr : HR gY R Q) (h : rZ k0 R (g 2) (g 6) (g 9) (g 12) (g 13) w) : eH pg eQ (bI (cS 1 (aA 7 eF))) Q g w := by
  refine kL (T := Value) (fun g : gZ => g 13) (fun X t w => mW (fun _ _ _ _ fR w => X fR w) k0 R (g 2) (g 6) (g 9) (g 12) t w) _ (by kernel_rfl) h (fun X g1 w1 ha hL => ?_)
  rw [← eN (s := 2) ha (by kernel_rfl)] at hL
  rw [← eN (s := 6) ha (by kernel_rfl)] at hL
  rw [← eN (s := 9) ha (by kernel_rfl)] at hL
  rw [← eN (s := 12) ha (by kernel_rfl)] at hL
  exact (zA (fH (fun g2 w2 => X ((fun g : gZ => g 13) g2) w2) Q) g1 w1 (fun _ _ _ _ fR w => X fR w) k0 R (fun _ _ h => h) h0 hr hL)
def qR (kn : K3) (R : K1) (fD t6 uQ iV fR : Value) (w : World) : Prop :=
  rZ kn R fD t6 uQ iV fR w
theorem AI (kn : K3) (R : K1) (hn : ∀ g w, kn (g 6) (g 9) (g 12) w → Q .normal g w) (hr : HR gY R Q) (h : qR kn R (g 2) (g 6) (g 9) (g 12) (g 13) w) : eH pg eQ (cS 1 (aA 7 eF)) Q g w :=
  kC 0 _ g w (by kernel_rfl) (zB (CB 0 Q) g w kn R hn hr h)
def kF (R : K1) (fD t6 uQ iV fR : Value) (w : World) : Prop :=
  qR (fun t6 uQ iV w => mR R t6 uQ iV w) R fD t6 uQ iV fR w
theorem xP (R : K1) (hr : HR gY R Q) (h : kF R (g 2) (g 6) (g 9) (g 12) (g 13) w) : eH pg eQ (aA 7 eF) Q g w :=
  eJ 1 _ g w (by kernel_rfl) (AI (fH (fun g w => eH pg eQ (aA 1 (aA 7 eF)) Q g w) Q) g w (fun t6 uQ iV w => mR R t6 uQ iV w) R (fun g w h => fG (K := fun g w => eH pg eQ (aA 1 (aA 7 eF)) Q g w) (Ag Q g w R hr h)) hr h)
def pU (kn : K5) (R : K1) (yI Cw fD : Value) (w : World) : Prop :=
  cJ pg (iJ 51) w fun t6 w =>
  gE pg kP #[yI] w fun t20 w =>
  gE pg iC #[t20, (.int .i64 4)] w fun t23 w =>
  cJ pg (iA t23 0) w fun t24 w =>
  cJ pg (iA t23 1) w fun t25 w =>
  cJ pg (dU .neq 27 (.tmp 26) (.const (.int .i64 0)) t25 (.int .i64 0)) w fun t27 w =>
  lS t27
    (cJ pg (gF 51 []) w fun t28 w =>
    cJ pg (eZ 51 t6 t28) w fun _u w =>
    yH pg 51 t6 w fun r0 => R (.tuple #[r0, (.int .i64 0), t25]) w)
    (cJ pg (mJ 83 3 t24) w fun t31 w =>
    cJ pg (dU .add 3 (.tmp 31) (.const (.int .i64 5)) t31 (.int .i64 5)) w fun t32 w =>
    cJ pg (gF 51 [(0, t32)]) w fun t33 w =>
    cJ pg (iJ 51) w fun iV w =>
    cJ pg (eZ 51 iV t33) w fun _u w =>
    cJ pg (eB 51 iV 0) w fun t34 w =>
    cJ pg (eC 3 t34) w fun t35 w =>
    cJ pg (dU .gtr 3 (.tmp 35) (.tmp 36) t35 Cw) w fun t37 w =>
    Gd (iZ t37 false) (fun K => cJ pg (eB 51 iV 0) w K) w fun t39 w =>
    Gd (iZ t37 false) (fun K => cJ pg (eC 3 t39) w K) w fun t40 w =>
    Gd (iZ t37 false) (fun K => cJ pg (dU .gtr 3 (.tmp 40) (.const (.int .i64 15)) t40 (.int .i64 15)) w K) w fun t41 w =>
    cJ pg (jL t37 (.bool true) t41) w fun t42 w =>
    lS t42
      (cJ pg (gF 51 []) w fun t43 w =>
      cJ pg (eZ 51 t6 t43) w fun _u w =>
      yH pg 51 t6 w fun r0 => R (.tuple #[r0, (.int .i64 0), (.int .i64 12)]) w)
      (cJ pg (eB 51 iV 0) w fun t44 w =>
      cJ pg (eC 3 t44) w fun t45 w =>
      cJ pg (dU .shl 3 (.const (.int .i64 1)) (.tmp 45) (.int .i64 1) t45) w fun t46 w =>
      kn fD t6 t20 iV t46 w))
theorem yD (kn : K5) (R : K1) (hn : ∀ g w, kn (g 2) (g 6) (g 9) (g 12) (g 13) w → Q .normal g w) (hr : HR gY R Q) (h : pU kn R (g 0) (g 1) (g 2) w) : eH pg eQ (cS 7 eF) Q g w :=
  dV (l := []) (by kernel_rfl) h hn hr trivial
def pP (R : K1) (yI Cw fD : Value) (w : World) : Prop :=
  pU (fun fD t6 uQ iV fR w => kF R fD t6 uQ iV fR w) R yI Cw fD w
theorem xU (R : K1) (hr : HR gY R Q) (h : pP R (g 0) (g 1) (g 2) w) : eH pg eQ eF Q g w :=
  eJ 7 _ g w (by kernel_rfl) (yD (fH (fun g w => eH pg eQ (aA 7 eF) Q g w) Q) g w (fun fD t6 uQ iV fR w => kF R fD t6 uQ iV fR w) R (fun g w h => fG (K := fun g w => eH pg eQ (aA 7 eF) Q g w) (xP Q g w R hr h)) hr h)
def BE (a0 a1 a2 : Value) (w : World) (R : K1) : Prop :=
  pP R a0 a1 a2 w
theorem Bc {a0 a1 a2 : Value} {w : World} {R : K1} (h : BE a0 a1 a2 w R) : gE pg oY #[a0, a1, a2] w R := by
  refine fM (ann := eQ) (fn := Tryd.f19) (c := eF) (args := [a0, a1, a2]) (rs := gY) (N := 104) TrydM.mixed (by kernel_rfl) Tryd.func19 (by kernel_rfl) (by kernel_rfl) (by kernel_rfl) (of_decide_eq_true (by kernel_rfl)) (by kernel_rfl) ?_
  exact (xU (pK pg gY R) (jV [a0, a1, a2]) w R (fun _ _ h => h) h)
end Go.Proofs.YtoepfjgekpdddaaDoor
namespace Go.Proofs.YtoepfjgekpdddaaDoor
open Go Go.En
set_option linter.unusedVariables false
set_option maxRecDepth 20000
attribute [local irreducible] Go.En.eH
variable (Q : Exit → gZ → World → Prop) (g : gZ) (w : World)
def pW : FA := ⟨kP, fun i => .leaf ([], []) []⟩
def lX : List ResultVar := [.tmp 2]
noncomputable def pJ : Code := iW Tryd.f31
def lY (R : K1) (yI : Value) (w : World) : Prop :=
  gE pg jS #[yI] w fun t4 w =>
  cJ pg (gF 113 [(0, t4)]) w fun t5 w =>
  cJ pg (Dz 113 t5) w fun t6 w =>
  R t6 w
theorem vM (R : K1) (hr : HR lX R Q) (h : lY R (g 0) w) : eH pg pW pJ Q g w :=
  dV (kn := no) (l := []) (by kernel_rfl) h lW hr trivial
def uW (a0 : Value) (w : World) (R : K1) : Prop :=
  lY R a0 w
theorem wK {a0 : Value} {w : World} {R : K1} (h : uW a0 w R) : gE pg kP #[a0] w R := by
  refine fM (ann := pW) (fn := Tryd.f31) (c := pJ) (args := [a0]) (rs := lX) (N := 7) TrydM.mixed (by kernel_rfl) Tryd.func31 (by kernel_rfl) (by kernel_rfl) (by kernel_rfl) (of_decide_eq_true (by kernel_rfl)) (by kernel_rfl) ?_
  exact (vM (pK pg lX R) (jV [a0]) w R (fun _ _ h => h) h)
def oE : FA := ⟨iC, fun i => match Nat.beq i 3 with | true => .leaf ([], []) [(false, []), (false, []), (false, []), (false, []), (false, []), (false, []), (false, []), (false, []), (false, []), (false, []), (false, []), (false, []), (false, []), (false, [])] | false => match Nat.beq i 5 with | true => .leaf ([9], []) [(false, []), (false, []), (false, []), (false, []), (false, []), (false, []), (false, []), (false, []), (false, []), (true, []), (false, [])] | false => .leaf ([], []) []⟩
def lE : List ResultVar := [.tmp 4, .tmp 5]
noncomputable def nH : Code := iW Tryd.f32
def lH (R : K1) (tZ H9 : Value) (w : World) : Prop :=
  cJ pg (dU .eql 81 (.tmp 8) (.const (.pointer none)) tZ (.pointer none)) w fun t9 w =>
  Gd (iZ t9 false) (fun K => K H9 w) w fun t11 w =>
  Gd (iZ t9 false) (fun K => cJ pg (dU .lss 3 (.tmp 11) (.const (.int .i64 0)) t11 (.int .i64 0)) w K) w fun t12 w =>
  cJ pg (jL t9 (.bool true) t12) w fun t13 w =>
  Gd (iZ t13 false) (fun K => K H9 w) w fun t15 w =>
  Gd (iZ t13 false) (fun K => cJ pg (dU .gtr 3 (.tmp 15) (.const (.int .i64 32)) t15 (.int .i64 32)) w K) w fun t16 w =>
  cJ pg (jL t13 (.bool true) t16) w fun t17 w =>
  lS t17
    (R (.tuple #[(.int .u64 0), (.int .i64 1)]) w)
    ((dr w) = (dr w) ∧
    cJ pg (AP tZ) (dr w) fun t20 w_ => w_ = (dr w) ∧
    cJ pg (eB 113 t20 0) (dr w) fun t21 w_ => w_ = (dr w) ∧
    cJ pg (eC 22 t21) (dr w) fun t22 w_ => w_ = (dr w) ∧
    cJ pg (lR .len #[22] 3 [t22]) (dr w) fun t23 w_ => w_ = (dr w) ∧
    cJ pg (dU .mul 3 (.const (.int .i64 8)) (.tmp 23) (.int .i64 8) t23) (dr w) fun t24 w_ => w_ = (dr w) ∧
    (dr w) = (dr w) ∧
    cJ pg (AP tZ) (dr w) fun t26 w_ => w_ = (dr w) ∧
    cJ pg (eB 113 t26 1) (dr w) fun t27 w_ => w_ = (dr w) ∧
    cJ pg (eC 3 t27) (dr w) fun t28 w_ => w_ = (dr w) ∧
    cJ pg (dU .sub 3 (.tmp 24) (.tmp 28) t24 t28) (dr w) fun t29 w_ => w_ = (dr w) ∧
    (dr w) = (dr w) ∧
    cJ pg (dU .lss 3 (.tmp 29) (.tmp 30) t29 H9) (dr w) fun t31 w_ => w_ = (dr w) ∧
    (dr w) = (dr w) ∧
    lS t31
      (R (.tuple #[(.int .u64 0), (.int .i64 10)]) (dr w))
      ((dr (dr w)) = (dr (dr w)) ∧
      cJ pg (AP tZ) (dr (dr w)) fun t33 w_ => w_ = (dr (dr w)) ∧
      cJ pg (eB 113 t33 0) (dr (dr w)) fun t34 w_ => w_ = (dr (dr w)) ∧
      cJ pg (eC 22 t34) (dr (dr w)) fun t35 w_ => w_ = (dr (dr w)) ∧
      (dr (dr w)) = (dr (dr w)) ∧
      cJ pg (AP tZ) (dr (dr w)) fun t37 w_ => w_ = (dr (dr w)) ∧
      cJ pg (eB 113 t37 1) (dr (dr w)) fun t38 w_ => w_ = (dr (dr w)) ∧
      cJ pg (eC 3 t38) (dr (dr w)) fun t39 w_ => w_ = (dr (dr w)) ∧
      (dr (dr w)) = (dr (dr w)) ∧
      gE pg sD #[t35, t39, H9] (dr (dr w)) fun t41 Hw =>
      Hw = Hw ∧
      cJ pg (AP tZ) Hw fun t43 w =>
      cJ pg (eB 113 t43 1) w fun t44 w =>
      cJ pg (eC 3 t44) w fun t45 w =>
      cJ pg (dU .add 3 (.tmp 45) (.tmp 46) t45 H9) w fun t47 w =>
      cJ pg (AP tZ) w fun t48 w =>
      cJ pg (eB 113 t48 1) w fun t49 w =>
      cJ pg (eZ 3 t49 t47) w fun _u w =>
      R (.tuple #[t41, (.int .i64 0)]) w))
theorem tN (R : K1) (hr : HR lE R Q) (h : lH R (g 0) (g 1) w) : eH pg oE nH Q g w :=
  dV (kn := no) (l := []) (by kernel_rfl) h lW hr trivial
def sE (a0 a1 : Value) (w : World) (R : K1) : Prop :=
  lH R a0 a1 w
theorem uK {a0 a1 : Value} {w : World} {R : K1} (h : sE a0 a1 w R) : gE pg iC #[a0, a1] w R := by
  refine fM (ann := oE) (fn := Tryd.f32) (c := nH) (args := [a0, a1]) (rs := lE) (N := 51) TrydM.mixed (by kernel_rfl) Tryd.func32 (by kernel_rfl) (by kernel_rfl) (by kernel_rfl) (of_decide_eq_true (by kernel_rfl)) (by kernel_rfl) ?_
  exact (tN (pK pg lE R) (jV [a0, a1]) w R (fun _ _ h => h) h)
def tV : FA := ⟨mX, fun i => .leaf ([], []) []⟩
def pM : List ResultVar := [.tmp 4, .tmp 5]
noncomputable def sH : Code := iW Tryd.f33
def pS (R : K1) (tZ F6 : Value) (w : World) : Prop :=
  cJ pg (dU .add 3 (.tmp 11) (.const (.int .i64 1)) F6 (.int .i64 1)) w fun t12 w =>
  cJ pg (mJ 3 75 t12) w fun t13 w =>
  gE pg kE #[t13] w fun t14 w =>
  cJ pg (dU .sub 3 (.tmp 17) (.const (.int .i64 1)) t14 (.int .i64 1)) w fun t18 w =>
  gE pg iC #[tZ, t18] w fun t19 w =>
  cJ pg (iA t19 0) w fun t20 w =>
  cJ pg (iA t19 1) w fun t21 w =>
  cJ pg (dU .neq 27 (.tmp 22) (.const (.int .i64 0)) t21 (.int .i64 0)) w fun t23 w =>
  lS t23
    (R (.tuple #[(.int .i64 0), t21]) w)
    (cJ pg (dU .shl 3 (.const (.int .i64 1)) (.tmp 25) (.int .i64 1) t14) w fun t26 w =>
    cJ pg (dU .sub 3 (.tmp 26) (.const (.int .i64 2)) t26 (.int .i64 2)) w fun t27 w =>
    cJ pg (dU .sub 3 (.tmp 27) (.tmp 28) t27 F6) w fun t29 w =>
    cJ pg (mJ 83 3 t20) w fun t31 w =>
    cJ pg (dU .lss 3 (.tmp 31) (.tmp 32) t31 t29) w fun t33 w =>
    lS t33
      (cJ pg (mJ 83 3 t20) w fun t35 w =>
      R (.tuple #[t35, (.int .i64 0)]) w)
      (gE pg iC #[tZ, (.int .i64 1)] w fun t38 w =>
      cJ pg (iA t38 0) w fun t39 w =>
      cJ pg (iA t38 1) w fun t40 w =>
      cJ pg (dU .neq 27 (.tmp 42) (.const (.int .i64 0)) t40 (.int .i64 0)) w fun t43 w =>
      lS t43
        (R (.tuple #[(.int .i64 0), t40]) w)
        (cJ pg (dU .eql 83 (.tmp 46) (.const (.int .u64 0)) t39 (.int .u64 0)) w fun t47 w =>
        lS t47
          (cJ pg (mJ 83 3 t20) w fun t49 w =>
          R (.tuple #[t49, (.int .i64 0)]) w)
          (cJ pg (mJ 83 3 t20) w fun t51 w =>
          cJ pg (dU .sub 3 (.tmp 52) (.const (.int .i64 1)) t14 (.int .i64 1)) w fun t53 w =>
          cJ pg (dU .shl 3 (.const (.int .i64 1)) (.tmp 53) (.int .i64 1) t53) w fun t54 w =>
          cJ pg (dU .add 3 (.tmp 51) (.tmp 54) t51 t54) w fun t55 w =>
          cJ pg (dU .sub 3 (.tmp 55) (.tmp 56) t55 t29) w fun t57 w =>
          R (.tuple #[t57, (.int .i64 0)]) w))))
theorem xX (R : K1) (hr : HR pM R Q) (h : pS R (g 0) (g 1) w) : eH pg tV sH Q g w :=
  dV (kn := no) (l := []) (by kernel_rfl) h lW hr trivial
def yL (a0 a1 : Value) (w : World) (R : K1) : Prop :=
  pS R a0 a1 w
theorem zN {a0 a1 : Value} {w : World} {R : K1} (h : yL a0 a1 w R) : gE pg mX #[a0, a1] w R := by
  refine fM (ann := tV) (fn := Tryd.f33) (c := sH) (args := [a0, a1]) (rs := pM) (N := 58) TrydM.mixed (by kernel_rfl) Tryd.func33 (by kernel_rfl) (by kernel_rfl) (by kernel_rfl) (of_decide_eq_true (by kernel_rfl)) (by kernel_rfl) ?_
  exact (xX (pK pg pM R) (jV [a0, a1]) w R (fun _ _ h => h) h)
def eP : FA := ⟨lL, fun i => .leaf ([], []) []⟩
def hB : List ResultVar := [.tmp 2, .tmp 3]
noncomputable def eI : Code := iW Tryd.f35
def kR (R : K1) (Ct : Value) (w : World) : Prop :=
  R (.tuple #[Ct, (.int .i64 0)]) w
theorem wJ (R : K1) (hr : HR hB R Q) (h : kR R (g 4) w) : eH pg eP (aA 1 (aA 2 (bI (aA 1 eI)))) Q g w :=
  dV (kn := no) (l := []) (by kernel_rfl) h lW hr trivial
def kW (kn : K2) (k0 : K1) (R : K1) (tZ Ct : Value) (w : World) : Prop :=
  gE pg iC #[tZ, (.int .i64 2)] w fun t9 w =>
  cJ pg (iA t9 0) w fun t10 w =>
  cJ pg (iA t9 1) w fun t11 w =>
  cJ pg (dU .neq 27 (.tmp 12) (.const (.int .i64 0)) t11 (.int .i64 0)) w fun t13 w =>
  lS t13
    (R (.tuple #[(.int .i64 0), t11]) w)
    (cJ pg (mJ 83 3 t10) w fun t17 w =>
    cJ pg (dU .add 3 (.tmp 15) (.tmp 17) Ct t17) w fun t18 w =>
    cJ pg (dU .lss 83 (.tmp 19) (.const (.int .u64 3)) t10 (.int .u64 3)) w fun t20 w =>
    lS t20
      (k0 t18 w)
      (kn tZ t18 w))
theorem vX (kn : K2) (k0 : K1) (R : K1) (hn : ∀ g w, kn (g 0) (g 4) w → Q .normal g w) (h0 : ∀ g w, k0 (g 4) w → Q (.exit 0) g w) (hr : HR hB R Q) (h : kW kn k0 R (g 0) (g 4) w) : eH pg eP (bI (bI (cS 1 (aA 2 (bI (aA 1 eI)))))) Q g w :=
  dV (l := [(0, fun g w => k0 (g 4) w)]) (by kernel_rfl) h hn hr ⟨h0, trivial⟩
def nF (k0 : K1) (R : K1) (tZ Ct : Value) (w : World) : Prop :=
  iY (fun (X : Value → K0) (t : Value) (w : World) => kW (fun _ Ct w => X Ct w) k0 R tZ t w) Ct w
theorem vY (k0 : K1) (R : K1) (h0 : ∀ g w, k0 (g 4) w → Q (.exit 0) g w) (hr : HR hB R Q) (h : nF k0 R (g 0) (g 4) w) : eH pg eP (bI (cS 1 (aA 2 (bI (aA 1 eI))))) Q g w := by
  refine kL (T := Value) (fun g : gZ => g 4) (fun X t w => kW (fun _ Ct w => X Ct w) k0 R (g 0) t w) _ (by kernel_rfl) h (fun X g1 w1 ha hL => ?_)
  rw [← eN (s := 0) ha (by kernel_rfl)] at hL
  exact (vX (fH (fun g2 w2 => X ((fun g : gZ => g 4) g2) w2) Q) g1 w1 (fun _ Ct w => X Ct w) k0 R (fun _ _ h => h) h0 hr hL)
def nI (kn : K1) (R : K1) (tZ Ct : Value) (w : World) : Prop :=
  nF kn R tZ Ct w
theorem wD (kn : K1) (R : K1) (hn : ∀ g w, kn (g 4) w → Q .normal g w) (hr : HR hB R Q) (h : nI kn R (g 0) (g 4) w) : eH pg eP (cS 1 (aA 2 (bI (aA 1 eI)))) Q g w :=
  kC 0 _ g w (by kernel_rfl) (vY (CB 0 Q) g w kn R hn hr h)
def kQ (R : K1) (tZ Ct : Value) (w : World) : Prop :=
  nI (fun Ct w => kR R Ct w) R tZ Ct w
theorem wE (R : K1) (hr : HR hB R Q) (h : kQ R (g 0) (g 4) w) : eH pg eP (aA 2 (bI (aA 1 eI))) Q g w :=
  eJ 1 _ g w (by kernel_rfl) (wD (fH (fun g w => eH pg eP (aA 1 (aA 2 (bI (aA 1 eI)))) Q g w) Q) g w (fun Ct w => kR R Ct w) R (fun g w h => fG (K := fun g w => eH pg eP (aA 1 (aA 2 (bI (aA 1 eI)))) Q g w) (wJ Q g w R hr h)) hr h)
def nS (kn : K2) (tZ : Value) (w : World) : Prop :=
  kn tZ (.int .i64 0) w
theorem vZ (kn : K2) (hn : ∀ g w, kn (g 0) (g 4) w → Q .normal g w) (h : nS kn (g 0) w) : eH pg eP (cS 2 (bI (aA 1 eI))) Q g w :=
  dV (kr := no) (l := []) (by kernel_rfl) h hn lW trivial
def mY (R : K1) (tZ : Value) (w : World) : Prop :=
  nS (fun tZ Ct w => kQ R tZ Ct w) tZ w
theorem wA (R : K1) (hr : HR hB R Q) (h : mY R (g 0) w) : eH pg eP (bI (aA 1 eI)) Q g w :=
  eJ 2 _ g w (by kernel_rfl) (vZ (fH (fun g w => eH pg eP (aA 2 (bI (aA 1 eI))) Q g w) Q) g w (fun tZ Ct w => kQ R tZ Ct w) (fun g w h => fG (K := fun g w => eH pg eP (aA 2 (bI (aA 1 eI))) Q g w) (wE Q g w R hr h)) h)
def kO (R : K1) (tZ : Value) (w : World) : Prop :=
  mY R tZ w
theorem wL (R : K1) (hr : HR hB R Q) (h : kO R (g 0) w) : eH pg eP (aA 1 eI) Q g w :=
  EZ _ g w (by kernel_rfl) (wA Q g w R hr h)
def nN (kn : K1) (tZ : Value) (w : World) : Prop :=
  kn tZ w
theorem wR (kn : K1) (hn : ∀ g w, kn (g 0) w → Q .normal g w) (h : nN kn (g 0) w) : eH pg eP (cS 1 eI) Q g w :=
  dV (kr := no) (l := []) (by kernel_rfl) h hn lW trivial
def mC (R : K1) (tZ : Value) (w : World) : Prop :=
  nN (fun tZ w => kO R tZ w) tZ w
theorem vI (R : K1) (hr : HR hB R Q) (h : mC R (g 0) w) : eH pg eP eI Q g w :=
  eJ 1 _ g w (by kernel_rfl) (wR (fH (fun g w => eH pg eP (aA 1 eI) Q g w) Q) g w (fun tZ w => kO R tZ w) (fun g w h => fG (K := fun g w => eH pg eP (aA 1 eI) Q g w) (wL Q g w R hr h)) h)
def wI (a0 : Value) (w : World) (R : K1) : Prop :=
  mC R a0 w
theorem xI {a0 : Value} {w : World} {R : K1} (h : wI a0 w R) : gE pg lL #[a0] w R := by
  refine fM (ann := eP) (fn := Tryd.f35) (c := eI) (args := [a0]) (rs := hB) (N := 22) TrydM.mixed (by kernel_rfl) Tryd.func35 (by kernel_rfl) (by kernel_rfl) (by kernel_rfl) (of_decide_eq_true (by kernel_rfl)) (by kernel_rfl) ?_
  exact (vI (pK pg hB R) (jV [a0]) w R (fun _ _ h => h) h)
def oF : FA := ⟨jR, fun i => .leaf ([], []) []⟩
def lJ : List ResultVar := [.tmp 2]
noncomputable def nE : Code := iW Tryd.f36
def lI (R : K1) (tZ : Value) (w : World) : Prop :=
  cJ pg (dU .eql 81 (.tmp 3) (.const (.pointer none)) tZ (.pointer none)) w fun t4 w =>
  lS t4
    (R (.int .i64 0) w)
    (cJ pg (AP tZ) w fun t6 w =>
    cJ pg (eB 113 t6 1) w fun t7 w =>
    cJ pg (eC 3 t7) w fun t8 w =>
    cJ pg (dU .add 3 (.tmp 8) (.const (.int .i64 7)) t8 (.int .i64 7)) w fun t9 w =>
    cJ pg (dU .quo 3 (.tmp 9) (.const (.int .i64 8)) t9 (.int .i64 8)) w fun t10 w =>
    R t10 w)
theorem tK (R : K1) (hr : HR lJ R Q) (h : lI R (g 0) w) : eH pg oF nE Q g w :=
  dV (kn := no) (l := []) (by kernel_rfl) h lW hr trivial
def sJ (a0 : Value) (w : World) (R : K1) : Prop :=
  lI R a0 w
theorem uO {a0 : Value} {w : World} {R : K1} (h : sJ a0 w R) : gE pg jR #[a0] w R := by
  refine fM (ann := oF) (fn := Tryd.f36) (c := nE) (args := [a0]) (rs := lJ) (N := 11) TrydM.mixed (by kernel_rfl) Tryd.func36 (by kernel_rfl) (by kernel_rfl) (by kernel_rfl) (of_decide_eq_true (by kernel_rfl)) (by kernel_rfl) ?_
  exact (tK (pK pg lJ R) (jV [a0]) w R (fun _ _ h => h) h)
def gH : FA := ⟨sD, fun i => .leaf ([], []) []⟩
def nA : List ResultVar := [.tmp 6]
noncomputable def fU : Code := iW Tryd.f51
def qJ (R : K1) (xL : Value) (w : World) : Prop :=
  R xL w
theorem BT (R : K1) (hr : HR nA R Q) (h : qJ R (g 7) w) : eH pg gH (aA 1 (aA 2 fU)) Q g w :=
  dV (kn := no) (l := []) (by kernel_rfl) h lW hr trivial
def qL (kn : K5) (k0 : K1) (yI qC xL t10 t11 : Value) (w : World) : Prop :=
  cJ pg (dU .lss 3 (.tmp 11) (.tmp 10) t11 t10) w fun t12 w =>
  lS t12
    (cJ pg (dU .add 3 (.tmp 14) (.tmp 15) qC t11) w fun t16 w =>
    cJ pg (dU .quo 3 (.tmp 19) (.const (.int .i64 8)) t16 (.int .i64 8)) w fun t20 w =>
    cJ pg (hX 22 yI t20) w fun t21 w =>
    cJ pg (eC 5 t21) w fun t22 w =>
    cJ pg (dU .rem 3 (.tmp 23) (.const (.int .i64 8)) t16 (.int .i64 8)) w fun t24 w =>
    cJ pg (dU .shr 5 (.tmp 22) (.tmp 24) t22 t24) w fun t25 w =>
    cJ pg (dU .and 5 (.tmp 25) (.const (.int .u8 1)) t25 (.int .u8 1)) w fun t26 w =>
    cJ pg (mJ 5 83 t26) w fun t27 w =>
    cJ pg (mJ 3 75 t11) w fun t29 w =>
    cJ pg (dU .shl 83 (.tmp 27) (.tmp 29) t27 t29) w fun t30 w =>
    cJ pg (dU .or 83 (.tmp 17) (.tmp 30) xL t30) w fun t31 w =>
    cJ pg (dU .add 3 (.tmp 11) (.const (.int .i64 1)) t11 (.int .i64 1)) w fun t32 w =>
    kn yI qC t31 t10 t32 w)
    (k0 xL w)
theorem BO (kn : K5) (k0 : K1) (hn : ∀ g w, kn (g 0) (g 1) (g 7) (g 10) (g 11) w → Q .normal g w) (h0 : ∀ g w, k0 (g 7) w → Q (.exit 0) g w) (h : qL kn k0 (g 0) (g 1) (g 7) (g 10) (g 11) w) : eH pg gH (bI (bI (aA 1 (cS 1 (aA 2 fU))))) Q g w :=
  dV (kr := no) (l := [(0, fun g w => k0 (g 7) w)]) (by kernel_rfl) h hn lW ⟨h0, trivial⟩
def uS (k0 : K1) (yI qC xL t10 t11 : Value) (w : World) : Prop :=
  iY (fun (X : (Value × Value) → K0) (t : Value × Value) (w : World) => qL (fun _ _ xL _ t11 w => X (xL, t11) w) k0 yI qC t.1 t10 t.2 w) (xL, t11) w
theorem B3 (k0 : K1) (h0 : ∀ g w, k0 (g 7) w → Q (.exit 0) g w) (h : uS k0 (g 0) (g 1) (g 7) (g 10) (g 11) w) : eH pg gH (bI (aA 1 (cS 1 (aA 2 fU)))) Q g w := by
  refine kL (T := Value × Value) (fun g : gZ => (g 7, g 11)) (fun X t w => qL (fun _ _ xL _ t11 w => X (xL, t11) w) k0 (g 0) (g 1) t.1 (g 10) t.2 w) _ (by kernel_rfl) h (fun X g1 w1 ha hL => ?_)
  rw [← eN (s := 0) ha (by kernel_rfl)] at hL
  rw [← eN (s := 1) ha (by kernel_rfl)] at hL
  rw [← eN (s := 10) ha (by kernel_rfl)] at hL
  exact (BO (fH (fun g2 w2 => X ((fun g : gZ => (g 7, g 11)) g2) w2) Q) g1 w1 (fun _ _ xL _ t11 w => X (xL, t11) w) k0 (fun _ _ h => h) h0 hL)
def qG (kn : K1) (yI qC xL t10 t11 : Value) (w : World) : Prop :=
  uS kn yI qC xL t10 t11 w
theorem B0 (kn : K1) (hn : ∀ g w, kn (g 7) w → Q .normal g w) (h : qG kn (g 0) (g 1) (g 7) (g 10) (g 11) w) : eH pg gH (aA 1 (cS 1 (aA 2 fU))) Q g w :=
  kC 0 _ g w (by kernel_rfl) (B3 (CB 0 Q) g w kn hn h)
def uB (kn : K5) (yI qC sC xL : Value) (w : World) : Prop :=
  kn yI qC xL sC (.int .i64 0) w
theorem BZ (kn : K5) (hn : ∀ g w, kn (g 0) (g 1) (g 7) (g 10) (g 11) w → Q .normal g w) (h : uB kn (g 0) (g 1) (g 2) (g 7) w) : eH pg gH (cS 1 (cS 1 (aA 2 fU))) Q g w :=
  dV (kr := no) (l := []) (by kernel_rfl) h hn lW trivial
def uG (kn : K1) (yI qC sC xL : Value) (w : World) : Prop :=
  uB (fun yI qC xL t10 t11 w => qG kn yI qC xL t10 t11 w) yI qC sC xL w
theorem B5 (kn : K1) (hn : ∀ g w, kn (g 7) w → Q .normal g w) (h : uG kn (g 0) (g 1) (g 2) (g 7) w) : eH pg gH (cS 1 (aA 2 fU)) Q g w :=
  eJ 1 _ g w (by kernel_rfl) (BZ (fH (fun g w => eH pg gH (aA 1 (cS 1 (aA 2 fU))) Q g w) Q) g w (fun yI qC xL t10 t11 w => qG kn yI qC xL t10 t11 w) (fun g w h => fG (K := fun g w => eH pg gH (aA 1 (cS 1 (aA 2 fU))) Q g w) (B0 Q g w kn hn h)) h)
def pZ (R : K1) (yI qC sC xL : Value) (w : World) : Prop :=
  uG (fun xL w => qJ R xL w) yI qC sC xL w
theorem BQ (R : K1) (hr : HR nA R Q) (h : pZ R (g 0) (g 1) (g 2) (g 7) w) : eH pg gH (aA 2 fU) Q g w :=
  eJ 1 _ g w (by kernel_rfl) (B5 (fH (fun g w => eH pg gH (aA 1 (aA 2 fU)) Q g w) Q) g w (fun xL w => qJ R xL w) (fun g w h => fG (K := fun g w => eH pg gH (aA 1 (aA 2 fU)) Q g w) (BT Q g w R hr h)) h)
def uC (kn : K4) (yI qC sC : Value) (w : World) : Prop :=
  kn yI qC sC (.int .u64 0) w
theorem BV (kn : K4) (hn : ∀ g w, kn (g 0) (g 1) (g 2) (g 7) w → Q .normal g w) (h : uC kn (g 0) (g 1) (g 2) w) : eH pg gH (cS 2 fU) Q g w :=
  dV (kr := no) (l := []) (by kernel_rfl) h hn lW trivial
def uR (R : K1) (yI qC sC : Value) (w : World) : Prop :=
  uC (fun yI qC sC xL w => pZ R yI qC sC xL w) yI qC sC w
theorem BR (R : K1) (hr : HR nA R Q) (h : uR R (g 0) (g 1) (g 2) w) : eH pg gH fU Q g w :=
  eJ 2 _ g w (by kernel_rfl) (BV (fH (fun g w => eH pg gH (aA 2 fU) Q g w) Q) g w (fun yI qC sC xL w => pZ R yI qC sC xL w) (fun g w h => fG (K := fun g w => eH pg gH (aA 2 fU) Q g w) (BQ Q g w R hr h)) h)
def C2 (a0 a1 a2 : Value) (w : World) (R : K1) : Prop :=
  uR R a0 a1 a2 w
theorem CL {a0 a1 a2 : Value} {w : World} {R : K1} (h : C2 a0 a1 a2 w R) : gE pg sD #[a0, a1, a2] w R := by
  refine fM (ann := gH) (fn := Tryd.f51) (c := fU) (args := [a0, a1, a2]) (rs := nA) (N := 34) TrydM.mixed (by kernel_rfl) Tryd.func51 (by kernel_rfl) (by kernel_rfl) (by kernel_rfl) (of_decide_eq_true (by kernel_rfl)) (by kernel_rfl) ?_
  exact (BR (pK pg nA R) (jV [a0, a1, a2]) w R (fun _ _ h => h) h)
end Go.Proofs.YtoepfjgekpdddaaDoor
namespace Go.Proofs.YtoepfjgekpdddaaDoor
open Go Go.En
set_option linter.unusedVariables false
set_option maxRecDepth 20000
attribute [local irreducible] Go.En.eH
variable (Q : Exit → gZ → World → Prop) (g : gZ) (w : World)
def fF : FA := ⟨kV, fun i => .leaf ([], []) []⟩
def hY : List ResultVar := [.tmp 6]
noncomputable def eY : Code := iW Tryd.f4
def jZ (R : K1) (t6 : Value) (w : World) : Prop :=
  R t6 w
theorem vB (R : K1) (hr : HR hY R Q) (h : jZ R (g 6) w) : eH pg fF (aA 1 (aA 2 (aA 10 eY))) Q g w :=
  dV (kn := no) (l := []) (by kernel_rfl) h lW hr trivial
def mE (kn : K1) (iI t11 xW xH EH : Value) (w : World) : Prop :=
  cJ pg (dU .eql 27 (.tmp 62) (.const (.int .i64 0)) xH (.int .i64 0)) w fun t63 w =>
  Gd (iZ t63 true) (fun K => K xW w) w fun t65 w =>
  Gd (iZ t63 true) (fun K => cJ pg (dU .eql 3 (.tmp 65) (.const (.int .i64 1)) t65 (.int .i64 1)) w K) w fun t66 w =>
  cJ pg (jL t63 t66 (.bool false)) w fun t67 w =>
  Gd (iZ t67 true) (fun K => K EH w) w fun t69 w =>
  Gd (iZ t67 true) (fun K => cJ pg (dU .eql 27 (.tmp 69) (.const (.int .i64 10)) t69 (.int .i64 10)) w K) w fun t70 w =>
  cJ pg (jL t67 t70 (.bool false)) w fun t71 w =>
  Gd (iZ t71 true) (fun K => cJ pg (eB 26 t11 0) w K) w fun t73 w =>
  Gd (iZ t71 true) (fun K => cJ pg (eC 3 t73) w K) w fun t74 w =>
  Gd (iZ t71 true) (fun K => cJ pg (dU .eql 3 (.tmp 74) (.const (.int .i64 0)) t74 (.int .i64 0)) w K) w fun t75 w =>
  cJ pg (jL t71 t75 (.bool false)) w fun t76 w =>
  Gd (iZ t76 true) (fun K => cJ pg (eB 26 t11 1) w K) w fun t78 w =>
  Gd (iZ t76 true) (fun K => cJ pg (eC 24 t78) w K) w fun t79 w =>
  Gd (iZ t76 true) (fun K => cJ pg (lR .len #[24] 3 [t79]) w K) w fun t80 w =>
  Gd (iZ t76 true) (fun K => cJ pg (dU .eql 3 (.tmp 80) (.const (.int .i64 1)) t80 (.int .i64 1)) w K) w fun t81 w =>
  cJ pg (jL t76 t81 (.bool false)) w fun t82 w =>
  Gd (iZ t82 true) (fun K => cJ pg (eB 26 t11 1) w K) w fun t84 w =>
  Gd (iZ t82 true) (fun K => cJ pg (eC 24 t84) w K) w fun t85 w =>
  Gd (iZ t82 true) (fun K => cJ pg (hX 24 t85 (.int .i64 0)) w K) w fun t86 w =>
  Gd (iZ t82 true) (fun K => cJ pg (eB 32 t86 0) w K) w fun t87 w =>
  Gd (iZ t82 true) (fun K => cJ pg (eC 5 t87) w K) w fun t88 w =>
  Gd (iZ t82 true) (fun K => K iI w) w fun t89 w =>
  Gd (iZ t82 true) (fun K => cJ pg (dU .eql 5 (.tmp 88) (.tmp 89) t88 t89) w K) w fun t90 w =>
  cJ pg (jL t82 t90 (.bool false)) w fun t91 w =>
  Gd (iZ t91 true) (fun K => cJ pg (eB 26 t11 1) w K) w fun t93 w =>
  Gd (iZ t91 true) (fun K => cJ pg (eC 24 t93) w K) w fun t94 w =>
  Gd (iZ t91 true) (fun K => cJ pg (hX 24 t94 (.int .i64 0)) w K) w fun t95 w =>
  Gd (iZ t91 true) (fun K => cJ pg (eB 32 t95 1) w K) w fun t96 w =>
  Gd (iZ t91 true) (fun K => cJ pg (eC 3 t96) w K) w fun t97 w =>
  Gd (iZ t91 true) (fun K => cJ pg (dU .eql 3 (.tmp 97) (.const (.int .i64 0)) t97 (.int .i64 0)) w K) w fun t98 w =>
  cJ pg (jL t91 t98 (.bool false)) w fun t99 w =>
  Gd (iZ t99 true) (fun K => cJ pg (eB 26 t11 1) w K) w fun t101 w =>
  Gd (iZ t99 true) (fun K => cJ pg (eC 24 t101) w K) w fun t102 w =>
  Gd (iZ t99 true) (fun K => cJ pg (hX 24 t102 (.int .i64 0)) w K) w fun t103 w =>
  Gd (iZ t99 true) (fun K => cJ pg (eB 32 t103 2) w K) w fun t104 w =>
  Gd (iZ t99 true) (fun K => cJ pg (eC 3 t104) w K) w fun t105 w =>
  Gd (iZ t99 true) (fun K => cJ pg (dU .eql 3 (.tmp 105) (.const (.int .i64 0)) t105 (.int .i64 0)) w K) w fun t106 w =>
  cJ pg (jL t99 t106 (.bool false)) w fun t107 w =>
  kn t107 w
theorem vH (kn : K1) (hn : ∀ g w, kn (g 6) w → Q .normal g w) (h : mE kn (g 1) (g 11) (g 12) (g 13) (g 16) w) : eH pg fF (cS 1 (aA 2 (aA 10 eY))) Q g w :=
  dV (kr := no) (l := []) (by kernel_rfl) h hn lW trivial
def kD (R : K1) (iI t11 xW xH EH : Value) (w : World) : Prop :=
  mE (fun t6 w => jZ R t6 w) iI t11 xW xH EH w
theorem vC (R : K1) (hr : HR hY R Q) (h : kD R (g 1) (g 11) (g 12) (g 13) (g 16) w) : eH pg fF (aA 2 (aA 10 eY)) Q g w :=
  eJ 1 _ g w (by kernel_rfl) (vH (fH (fun g w => eH pg fF (aA 1 (aA 2 (aA 10 eY))) Q g w) Q) g w (fun t6 w => jZ R t6 w) (fun g w h => fG (K := fun g w => eH pg fF (aA 1 (aA 2 (aA 10 eY))) Q g w) (vB Q g w R hr h)) h)
def kA (kn : K5) (R : K1) (iI HK xQ t11 xW xH : Value) (w : World) : Prop :=
  cJ pg (gF 26 []) w fun t47 w =>
  gE pg kJ #[HK, (.int .i64 1), (.slice none 0 0), t47] w fun t48 w =>
  cJ pg (iA t48 0) w fun t49 w =>
  cJ pg (iA t48 1) w fun t50 w =>
  cJ pg (iA t48 2) w fun t51 w =>
  cJ pg (iJ 26) w fun t14 w =>
  cJ pg (eZ 26 t14 t49) w fun _u w =>
  cJ pg (mJ 5 3 iI) w fun t53 w =>
  cJ pg (dU .gtr 3 (.tmp 53) (.tmp 54) t53 xQ) w fun t55 w =>
  lS t55
    (cJ pg (dU .eql 27 (.tmp 56) (.const (.int .i64 11)) xH (.int .i64 11)) w fun t57 w =>
    Gd (iZ t57 true) (fun K => K t51 w) w fun t59 w =>
    Gd (iZ t57 true) (fun K => cJ pg (dU .eql 27 (.tmp 59) (.const (.int .i64 10)) t59 (.int .i64 10)) w K) w fun t60 w =>
    cJ pg (jL t57 t60 (.bool false)) w fun t61 w =>
    R t61 w)
    (kn iI t11 xW xH t51 w)
theorem vP (kn : K5) (R : K1) (hn : ∀ g w, kn (g 1) (g 11) (g 12) (g 13) (g 16) w → Q .normal g w) (hr : HR hY R Q) (h : kA kn R (g 1) (g 8) (g 9) (g 11) (g 12) (g 13) w) : eH pg fF (cS 2 (aA 10 eY)) Q g w :=
  dV (l := []) (by kernel_rfl) h hn hr trivial
def jC (R : K1) (iI HK xQ t11 xW xH : Value) (w : World) : Prop :=
  kA (fun iI t11 xW xH EH w => kD R iI t11 xW xH EH w) R iI HK xQ t11 xW xH w
theorem vJ (R : K1) (hr : HR hY R Q) (h : jC R (g 1) (g 8) (g 9) (g 11) (g 12) (g 13) w) : eH pg fF (aA 10 eY) Q g w :=
  eJ 2 _ g w (by kernel_rfl) (vP (fH (fun g w => eH pg fF (aA 2 (aA 10 eY)) Q g w) Q) g w (fun iI t11 xW xH EH w => kD R iI t11 xW xH EH w) R (fun g w h => fG (K := fun g w => eH pg fF (aA 2 (aA 10 eY)) Q g w) (vC Q g w R hr h)) hr h)
def mG (kn : K6) (R : K1) (iD iI DA : Value) (w : World) : Prop :=
  gE pg pH #[] w fun t17 w =>
  cJ pg (He .not t17) w fun t19 w =>
  lS t19
    (R (.bool false) w)
    (cJ pg (lR .len #[22] 3 [DA]) w fun t21 w =>
    cJ pg (dU .gtr 3 (.tmp 21) (.const (.int .i64 50)) t21 (.int .i64 50)) w fun t22 w =>
    lS t22
      (R (.bool true) w)
      (cJ pg (dU .rem 5 (.tmp 23) (.const (.int .u8 3)) iD (.int .u8 3)) w fun t24 w =>
      cJ pg (mJ 5 3 t24) w fun t25 w =>
      cJ pg (hH 30 3 [(0, (.int .i64 35)), (1, (.int .i64 31)), (2, (.int .i64 52))]) w fun t26 w =>
      cJ pg (hX 30 t26 t25) w fun t28 w =>
      cJ pg (eC 3 t28) w fun t29 w =>
      cJ pg (hH 22 1 [(0, iI)]) w fun t32 w =>
      cJ pg (lR .append #[22, 22] 22 [(.slice none 0 0), t32]) w fun t33 w =>
      cJ pg (lR .append #[22, 22] 22 [t33, DA]) w fun t36 w =>
      cJ pg (gF 26 []) w fun t40 w =>
      gE pg kJ #[t25, (.int .i64 1), t36, t40] w fun t41 w =>
      cJ pg (iA t41 0) w fun t42 w =>
      cJ pg (iA t41 1) w fun t43 w =>
      cJ pg (iA t41 2) w fun t44 w =>
      cJ pg (iJ 26) w fun t11 w =>
      cJ pg (eZ 26 t11 t42) w fun _u w =>
      kn iI t25 t29 t11 t43 t44 w))
theorem vE (kn : K6) (R : K1) (hn : ∀ g w, kn (g 1) (g 8) (g 9) (g 11) (g 12) (g 13) w → Q .normal g w) (hr : HR hY R Q) (h : mG kn R (g 0) (g 1) (g 2) w) : eH pg fF (cS 10 eY) Q g w :=
  dV (l := []) (by kernel_rfl) h hn hr trivial
def mB (R : K1) (iD iI DA : Value) (w : World) : Prop :=
  mG (fun iI HK xQ t11 xW xH w => jC R iI HK xQ t11 xW xH w) R iD iI DA w
theorem vN (R : K1) (hr : HR hY R Q) (h : mB R (g 0) (g 1) (g 2) w) : eH pg fF eY Q g w :=
  eJ 10 _ g w (by kernel_rfl) (vE (fH (fun g w => eH pg fF (aA 10 eY) Q g w) Q) g w (fun iI HK xQ t11 xW xH w => jC R iI HK xQ t11 xW xH w) R (fun g w h => fG (K := fun g w => eH pg fF (aA 10 eY) Q g w) (vJ Q g w R hr h)) hr h)
def uX (a0 a1 a2 : Value) (w : World) (R : K1) : Prop :=
  mB R a0 a1 a2 w
theorem wM {a0 a1 a2 : Value} {w : World} {R : K1} (h : uX a0 a1 a2 w R) : gE pg kV #[a0, a1, a2] w R := by
  refine fM (ann := fF) (fn := Tryd.f4) (c := eY) (args := [a0, a1, a2]) (rs := hY) (N := 108) TrydM.mixed (by kernel_rfl) Tryd.func4 (by kernel_rfl) (by kernel_rfl) (by kernel_rfl) (of_decide_eq_true (by kernel_rfl)) (by kernel_rfl) ?_
  exact (vN (pK pg hY R) (jV [a0, a1, a2]) w R (fun _ _ h => h) h)
end Go.Proofs.YtoepfjgekpdddaaDoor
namespace Go.Proofs.YtoepfjgekpdddaaDoor
open Go Go.En
set_option linter.unusedVariables false
set_option maxRecDepth 20000
attribute [local irreducible] Go.En.eH
variable (Q : Exit → gZ → World → Prop) (g : gZ) (w : World)
def hZ : FA := ⟨pH, fun i => .leaf ([], []) []⟩
def kX : List ResultVar := [.tmp 0]
noncomputable def hJ : Code := iW Tryd.f6
def nL (R : K1) (t0 : Value) (w : World) : Prop :=
  R t0 w
theorem yP (R : K1) (hr : HR kX R Q) (h : nL R (g 0) w) : eH pg hZ (aA 1 (aA 4 hJ)) Q g w :=
  dV (kn := no) (l := []) (by kernel_rfl) h lW hr trivial
def rG (kn : K1) (t1 sC Hr GL HG Hq : Value) (w : World) : Prop :=
  cJ pg (eB 26 t1 1) w fun t23 w =>
  cJ pg (eC 24 t23) w fun t24 w =>
  cJ pg (lR .len #[24] 3 [t24]) w fun t25 w =>
  cJ pg (dU .eql 3 (.tmp 25) (.const (.int .i64 1)) t25 (.int .i64 1)) w fun t26 w =>
  Gd (iZ t26 true) (fun K => cJ pg (eB 26 t1 1) w K) w fun t28 w =>
  Gd (iZ t26 true) (fun K => cJ pg (eC 24 t28) w K) w fun t29 w =>
  Gd (iZ t26 true) (fun K => cJ pg (hX 24 t29 (.int .i64 0)) w K) w fun t30 w =>
  Gd (iZ t26 true) (fun K => cJ pg (eB 32 t30 0) w K) w fun t31 w =>
  Gd (iZ t26 true) (fun K => cJ pg (eC 5 t31) w K) w fun t32 w =>
  Gd (iZ t26 true) (fun K => cJ pg (dU .eql 5 (.tmp 32) (.const (.int .u8 7)) t32 (.int .u8 7)) w K) w fun t33 w =>
  cJ pg (jL t26 t33 (.bool false)) w fun t34 w =>
  Gd (iZ t34 true) (fun K => K sC w) w fun t36 w =>
  Gd (iZ t34 true) (fun K => cJ pg (dU .eql 3 (.tmp 36) (.const (.int .i64 1)) t36 (.int .i64 1)) w K) w fun t37 w =>
  cJ pg (jL t34 t37 (.bool false)) w fun t38 w =>
  Gd (iZ t38 true) (fun K => K Hr w) w fun t40 w =>
  Gd (iZ t38 true) (fun K => cJ pg (dU .eql 27 (.tmp 40) (.const (.int .i64 0)) t40 (.int .i64 0)) w K) w fun t41 w =>
  cJ pg (jL t38 t41 (.bool false)) w fun t42 w =>
  Gd (iZ t42 true) (fun K => cJ pg (eB 26 GL 1) w K) w fun t44 w =>
  Gd (iZ t42 true) (fun K => cJ pg (eC 24 t44) w K) w fun t45 w =>
  Gd (iZ t42 true) (fun K => cJ pg (lR .len #[24] 3 [t45]) w K) w fun t46 w =>
  Gd (iZ t42 true) (fun K => cJ pg (dU .eql 3 (.tmp 46) (.const (.int .i64 64)) t46 (.int .i64 64)) w K) w fun t47 w =>
  cJ pg (jL t42 t47 (.bool false)) w fun t48 w =>
  Gd (iZ t48 true) (fun K => K HG w) w fun t50 w =>
  Gd (iZ t48 true) (fun K => cJ pg (dU .eql 27 (.tmp 50) (.const (.int .i64 0)) t50 (.int .i64 0)) w K) w fun t51 w =>
  cJ pg (jL t48 t51 (.bool false)) w fun t52 w =>
  Gd (iZ t52 true) (fun K => K Hq w) w fun t54 w =>
  Gd (iZ t52 true) (fun K => cJ pg (dU .eql 27 (.tmp 54) (.const (.int .i64 1)) t54 (.int .i64 1)) w K) w fun t55 w =>
  cJ pg (jL t52 t55 (.bool false)) w fun t56 w =>
  Gd (iZ t56 true) (fun K => gE pg kI #[(.int .i64 1)] w K) w fun t58 w =>
  Gd (iZ t56 true) (fun K => cJ pg (dU .eql 3 (.tmp 58) (.const (.int .i64 8)) t58 (.int .i64 8)) w K) w fun t59 w =>
  cJ pg (jL t56 t59 (.bool false)) w fun t60 w =>
  Gd (iZ t60 true) (fun K => gE pg kI #[(.int .i64 7)] w K) w fun t62 w =>
  Gd (iZ t60 true) (fun K => cJ pg (dU .eql 3 (.tmp 62) (.const (.int .i64 0)) t62 (.int .i64 0)) w K) w fun t63 w =>
  cJ pg (jL t60 t63 (.bool false)) w fun t64 w =>
  kn t64 w
theorem zC (kn : K1) (hn : ∀ g w, kn (g 0) w → Q .normal g w) (h : rG kn (g 1) (g 2) (g 3) (g 4) (g 5) (g 7) w) : eH pg hZ (cS 1 (aA 4 hJ)) Q g w :=
  dV (kr := no) (l := []) (by kernel_rfl) h hn lW trivial
def nD (R : K1) (t1 sC Hr GL HG Hq : Value) (w : World) : Prop :=
  rG (fun t0 w => nL R t0 w) t1 sC Hr GL HG Hq w
theorem yK (R : K1) (hr : HR kX R Q) (h : nD R (g 1) (g 2) (g 3) (g 4) (g 5) (g 7) w) : eH pg hZ (aA 4 hJ) Q g w :=
  eJ 1 _ g w (by kernel_rfl) (zC (fH (fun g w => eH pg hZ (aA 1 (aA 4 hJ)) Q g w) Q) g w (fun t0 w => nL R t0 w) (fun g w h => fG (K := fun g w => eH pg hZ (aA 1 (aA 4 hJ)) Q g w) (yP Q g w R hr h)) h)
def rA (kn : K6)  (w : World) : Prop :=
  cJ pg (hH 22 1 [(0, (.int .u8 7))]) w fun t9 w =>
  cJ pg (gF 26 []) w fun t10 w =>
  gE pg kJ #[(.int .i64 0), (.int .i64 1), t9, t10] w fun t11 w =>
  cJ pg (iA t11 0) w fun t12 w =>
  cJ pg (iA t11 1) w fun t13 w =>
  cJ pg (iA t11 2) w fun t14 w =>
  cJ pg (iJ 26) w fun t1 w =>
  cJ pg (eZ 26 t1 t12) w fun _u w =>
  gE pg jA #[(.int .i64 2)] w fun t16 w =>
  cJ pg (iA t16 0) w fun t17 w =>
  cJ pg (iA t16 1) w fun t18 w =>
  cJ pg (iJ 26) w fun GL w =>
  cJ pg (eZ 26 GL t17) w fun _u w =>
  gE pg jA #[(.int .i64 3)] w fun t20 w =>
  cJ pg (iA t20 0) w fun t21 w =>
  cJ pg (iA t20 1) w fun t22 w =>
  cJ pg (iJ 26) w fun t6 w =>
  cJ pg (eZ 26 t6 t21) w fun _u w =>
  kn t1 t13 t14 GL t18 t22 w
theorem zI (kn : K6) (hn : ∀ g w, kn (g 1) (g 2) (g 3) (g 4) (g 5) (g 7) w → Q .normal g w) (h : rA kn w) : eH pg hZ (cS 4 hJ) Q g w :=
  dV (kr := no) (l := []) (by kernel_rfl) h hn lW trivial
def rO (R : K1)  (w : World) : Prop :=
  rA (fun t1 sC Hr GL HG Hq w => nD R t1 sC Hr GL HG Hq w) w
theorem Ay (R : K1) (hr : HR kX R Q) (h : rO R w) : eH pg hZ hJ Q g w :=
  eJ 4 _ g w (by kernel_rfl) (zI (fH (fun g w => eH pg hZ (aA 4 hJ) Q g w) Q) g w (fun t1 sC Hr GL HG Hq w => nD R t1 sC Hr GL HG Hq w) (fun g w h => fG (K := fun g w => eH pg hZ (aA 4 hJ) Q g w) (yK Q g w R hr h)) h)
def BG (w : World) (R : K1) : Prop :=
  rO R w
theorem AY {w : World} {R : K1} (h : BG w R) : gE pg pH #[] w R := by
  refine fM (ann := hZ) (fn := Tryd.f6) (c := hJ) (args := []) (rs := kX) (N := 65) TrydM.mixed (by kernel_rfl) Tryd.func6 (by kernel_rfl) (by kernel_rfl) (by kernel_rfl) (of_decide_eq_true (by kernel_rfl)) (by kernel_rfl) ?_
  exact (Ay (pK pg kX R) (jV []) w R (fun _ _ h => h) h)
def rW : FA := ⟨jA, fun i => .leaf ([], []) []⟩
def mV : List ResultVar := [.cell 2 26, .tmp 3]
noncomputable def pX : Code := iW Tryd.f7
def nV (R : K1) (iD : Value) (w : World) : Prop :=
  cJ pg (iJ 26) w fun t2 w =>
  gE pg nM #[iD] w fun t5 w =>
  gE pg lG #[t5] w fun t6 w =>
  cJ pg (iA t6 0) w fun t7 w =>
  cJ pg (iA t6 1) w fun t8 w =>
  cJ pg (eZ 26 t2 t7) w fun _u w =>
  yH pg 26 t2 w fun r0 => R (.tuple #[r0, t8]) w
theorem vS (R : K1) (hr : HR mV R Q) (h : nV R (g 0) w) : eH pg rW pX Q g w :=
  dV (kn := no) (l := []) (by kernel_rfl) h lW hr trivial
def wO (a0 : Value) (w : World) (R : K1) : Prop :=
  nV R a0 w
theorem xG {a0 : Value} {w : World} {R : K1} (h : wO a0 w R) : gE pg jA #[a0] w R := by
  refine fM (ann := rW) (fn := Tryd.f7) (c := pX) (args := [a0]) (rs := mV) (N := 9) TrydM.mixed (by kernel_rfl) Tryd.func7 (by kernel_rfl) (by kernel_rfl) (by kernel_rfl) (of_decide_eq_true (by kernel_rfl)) (by kernel_rfl) ?_
  exact (vS (pK pg mV R) (jV [a0]) w R (fun _ _ h => h) h)
def uV : FA := ⟨kJ, fun i => .leaf ([], []) []⟩
def rE : List ResultVar := [.cell 8 26, .tmp 9, .tmp 10]
noncomputable def tQ : Code := iW Tryd.f8
def rI (R : K1) (iD CG Il Ig : Value) (w : World) : Prop :=
  cJ pg (Dz 26 Ig) w fun Hk w =>
  cJ pg (iJ 26) w fun t8 w =>
  gE pg qD #[iD] w fun t19 w =>
  cJ pg (dU .lss 3 (.tmp 20) (.const (.int .i64 0)) t19 (.int .i64 0)) w fun t21 w =>
  Gd (iZ t21 false) (fun K => K CG w) w fun t23 w =>
  Gd (iZ t21 false) (fun K => cJ pg (dU .lss 3 (.tmp 23) (.const (.int .i64 0)) t23 (.int .i64 0)) w K) w fun t24 w =>
  cJ pg (jL t21 (.bool true) t24) w fun t25 w =>
  Gd (iZ t25 false) (fun K => K CG w) w fun t27 w =>
  Gd (iZ t25 false) (fun K => cJ pg (dU .gtr 3 (.tmp 27) (.const (.int .i64 3)) t27 (.int .i64 3)) w K) w fun t28 w =>
  cJ pg (jL t25 (.bool true) t28) w fun t29 w =>
  lS t29
    (cJ pg (gF 26 []) w fun t30 w =>
    cJ pg (eZ 26 t8 t30) w fun _u w =>
    yH pg 26 t8 w fun r0 => R (.tuple #[r0, (.int .i64 0), (.int .i64 1)]) w)
    (cJ pg (dU .eql 3 (.tmp 31) (.const (.int .i64 0)) CG (.int .i64 0)) w fun t33 w =>
    lS t33
      (gE pg jA #[iD] w fun t36 w =>
      cJ pg (iA t36 0) w fun t37 w =>
      cJ pg (iA t36 1) w fun t38 w =>
      cJ pg (iJ 26) w fun t12 w =>
      cJ pg (eZ 26 t12 t37) w fun _u w =>
      cJ pg (eC 26 t12) w fun t39 w =>
      cJ pg (eZ 26 t8 t39) w fun _u w =>
      yH pg 26 t8 w fun r0 => R (.tuple #[r0, (.int .i64 0), t38]) w)
      (cJ pg (dU .eql 3 (.tmp 31) (.const (.int .i64 1)) CG (.int .i64 1)) w fun t42 w =>
      lS t42
        (cJ pg (lR .len #[22] 3 [Il]) w fun t45 w =>
        cJ pg (dU .eql 3 (.tmp 45) (.const (.int .i64 0)) t45 (.int .i64 0)) w fun t46 w =>
        lS t46
          (cJ pg (gF 26 []) w fun t47 w =>
          cJ pg (eZ 26 t8 t47) w fun _u w =>
          yH pg 26 t8 w fun r0 => R (.tuple #[r0, (.int .i64 0), (.int .i64 10)]) w)
          (cJ pg (hX 22 Il (.int .i64 0)) w fun t50 w =>
          cJ pg (eC 5 t50) w fun t51 w =>
          cJ pg (mJ 5 3 t51) w fun t52 w =>
          cJ pg (dU .gtr 3 (.tmp 52) (.tmp 53) t52 t19) w fun t54 w =>
          lS t54
            (cJ pg (gF 26 []) w fun t55 w =>
            cJ pg (eZ 26 t8 t55) w fun _u w =>
            yH pg 26 t8 w fun r0 => R (.tuple #[r0, (.int .i64 0), (.int .i64 11)]) w)
            (cJ pg (hX 22 Il (.int .i64 0)) w fun t57 w =>
            cJ pg (eC 5 t57) w fun t58 w =>
            gE pg xB #[t58] w fun t59 w =>
            cJ pg (eZ 26 t8 t59) w fun _u w =>
            yH pg 26 t8 w fun r0 => R (.tuple #[r0, (.int .i64 1), (.int .i64 0)]) w)))
        (cJ pg (dU .eql 3 (.tmp 31) (.const (.int .i64 3)) CG (.int .i64 3)) w fun t61 w =>
        lS t61
          (cJ pg (eB 26 Hk 1) w fun t62 w =>
          cJ pg (eC 24 t62) w fun t63 w =>
          cJ pg (lR .len #[24] 3 [t63]) w fun t64 w =>
          cJ pg (dU .eql 3 (.tmp 64) (.const (.int .i64 0)) t64 (.int .i64 0)) w fun t65 w =>
          lS t65
            (cJ pg (gF 26 []) w fun t66 w =>
            cJ pg (eZ 26 t8 t66) w fun _u w =>
            yH pg 26 t8 w fun r0 => R (.tuple #[r0, (.int .i64 0), (.int .i64 11)]) w)
            (cJ pg (eC 26 Hk) w fun t67 w =>
            cJ pg (eZ 26 t8 t67) w fun _u w =>
            yH pg 26 t8 w fun r0 => R (.tuple #[r0, (.int .i64 0), (.int .i64 0)]) w))
          (gE pg kI #[iD] w fun t71 w =>
          cJ pg (dU .add 3 (.tmp 72) (.const (.int .i64 1)) t19 (.int .i64 1)) w fun t73 w =>
          gE pg oY #[Il, t71, t73] w fun t74 w =>
          cJ pg (iA t74 0) w fun t75 w =>
          cJ pg (iA t74 1) w fun t76 w =>
          cJ pg (iA t74 2) w fun t77 w =>
          cJ pg (iJ 51) w fun If w =>
          cJ pg (eZ 51 If t75) w fun _u w =>
          cJ pg (dU .neq 27 (.tmp 78) (.const (.int .i64 0)) t77 (.int .i64 0)) w fun t79 w =>
          lS t79
            (cJ pg (gF 26 []) w fun t80 w =>
            cJ pg (eZ 26 t8 t80) w fun _u w =>
            yH pg 26 t8 w fun r0 => R (.tuple #[r0, (.int .i64 0), t77]) w)
            (cJ pg (eC 51 If) w fun t83 w =>
            gE pg lG #[t83] w fun t84 w =>
            cJ pg (iA t84 0) w fun t85 w =>
            cJ pg (iA t84 1) w fun t86 w =>
            cJ pg (iJ 26) w fun t17 w =>
            cJ pg (eZ 26 t17 t85) w fun _u w =>
            cJ pg (dU .neq 27 (.tmp 87) (.const (.int .i64 0)) t86 (.int .i64 0)) w fun t88 w =>
            lS t88
              (cJ pg (gF 26 []) w fun t89 w =>
              cJ pg (eZ 26 t8 t89) w fun _u w =>
              yH pg 26 t8 w fun r0 => R (.tuple #[r0, (.int .i64 0), t86]) w)
              (cJ pg (eC 26 t17) w fun t91 w =>
              cJ pg (eZ 26 t8 t91) w fun _u w =>
              yH pg 26 t8 w fun r0 => R (.tuple #[r0, t76, (.int .i64 0)]) w))))))
theorem zH (R : K1) (hr : HR rE R Q) (h : rI R (g 0) (g 1) (g 2) (g 3) w) : eH pg uV tQ Q g w :=
  dV (kn := no) (l := []) (by kernel_rfl) h lW hr trivial
def Bz (a0 a1 a2 a3 : Value) (w : World) (R : K1) : Prop :=
  rI R a0 a1 a2 a3 w
theorem A9 {a0 a1 a2 a3 : Value} {w : World} {R : K1} (h : Bz a0 a1 a2 a3 w R) : gE pg kJ #[a0, a1, a2, a3] w R := by
  refine fM (ann := uV) (fn := Tryd.f8) (c := tQ) (args := [a0, a1, a2, a3]) (rs := rE) (N := 93) TrydM.mixed (by kernel_rfl) Tryd.func8 (by kernel_rfl) (by kernel_rfl) (by kernel_rfl) (of_decide_eq_true (by kernel_rfl)) (by kernel_rfl) ?_
  exact (zH (pK pg rE R) (jV [a0, a1, a2, a3]) w R (fun _ _ h => h) h)
def fC : FA := ⟨kI, fun i => .leaf ([], []) []⟩
def iO : List ResultVar := [.tmp 2]
noncomputable def eS : Code := iW Tryd.f14
def mS (R : K1)  (w : World) : Prop :=
  R (.int .i64 0) w
theorem AC (R : K1) (hr : HR iO R Q) (h : mS R w) : eH pg fC (aA 1 (aA 1 eS)) Q g w :=
  dV (kn := no) (l := []) (by kernel_rfl) h lW hr trivial
def jF (kn : K0) (R : K1) (t3 t4 : Value) (w : World) : Prop :=
  lS t4
    (R (.int .i64 9) w)
    (cJ pg (dU .eql 3 (.tmp 3) (.const (.int .i64 1)) t3 (.int .i64 1)) w fun t8 w =>
    lS t8
      (R (.int .i64 8) w)
      (kn w))
theorem zY (kn : K0) (R : K1) (hn : ∀ g w, kn w → Q .normal g w) (hr : HR iO R Q) (h : jF kn R (g 3) (g 4) w) : eH pg fC (aA 1 (bI (aA 1 (cS 1 (aA 1 eS))))) Q g w :=
  dV (l := []) (by kernel_rfl) h hn hr trivial
def rX (kn : K2) (t3 : Value) (w : World) : Prop :=
  cJ pg (dU .eql 3 (.tmp 3) (.const (.int .i64 0)) t3 (.int .i64 0)) w fun t5 w =>
  lS t5
    (kn t3 t5 w)
    (cJ pg (dU .eql 3 (.tmp 3) (.const (.int .i64 2)) t3 (.int .i64 2)) w fun t6 w =>
    kn t3 t6 w)
theorem AA (kn : K2) (hn : ∀ g w, kn (g 3) (g 4) w → Q .normal g w) (h : rX kn (g 3) w) : eH pg fC (cS 1 (bI (aA 1 (cS 1 (aA 1 eS))))) Q g w :=
  dV (kr := no) (l := []) (by kernel_rfl) h hn lW trivial
def rK (kn : K0) (R : K1) (t3 : Value) (w : World) : Prop :=
  rX (fun t3 t4 w => jF kn R t3 t4 w) t3 w
theorem zV (kn : K0) (R : K1) (hn : ∀ g w, kn w → Q .normal g w) (hr : HR iO R Q) (h : rK kn R (g 3) w) : eH pg fC (bI (aA 1 (cS 1 (aA 1 eS)))) Q g w :=
  eJ 1 _ g w (by kernel_rfl) (AA (fH (fun g w => eH pg fC (aA 1 (bI (aA 1 (cS 1 (aA 1 eS))))) Q g w) Q) g w (fun t3 t4 w => jF kn R t3 t4 w) (fun g w h => fG (K := fun g w => eH pg fC (aA 1 (bI (aA 1 (cS 1 (aA 1 eS))))) Q g w) (zY Q g w kn R hn hr h)) h)
def mZ (kn : K0) (R : K1) (t3 : Value) (w : World) : Prop :=
  rK kn R t3 w
theorem Aw (kn : K0) (R : K1) (hn : ∀ g w, kn w → Q .normal g w) (hr : HR iO R Q) (h : mZ kn R (g 3) w) : eH pg fC (aA 1 (cS 1 (aA 1 eS))) Q g w :=
  kC 0 _ g w (by kernel_rfl) (zV (CB 0 Q) g w kn R hn hr h)
def rP (kn : K1) (iD : Value) (w : World) : Prop :=
  kn iD w
theorem Au (kn : K1) (hn : ∀ g w, kn (g 3) w → Q .normal g w) (h : rP kn (g 0) w) : eH pg fC (cS 1 (cS 1 (aA 1 eS))) Q g w :=
  dV (kr := no) (l := []) (by kernel_rfl) h hn lW trivial
def qN (kn : K0) (R : K1) (iD : Value) (w : World) : Prop :=
  rP (fun t3 w => mZ kn R t3 w) iD w
theorem Aj (kn : K0) (R : K1) (hn : ∀ g w, kn w → Q .normal g w) (hr : HR iO R Q) (h : qN kn R (g 0) w) : eH pg fC (cS 1 (aA 1 eS)) Q g w :=
  eJ 1 _ g w (by kernel_rfl) (Au (fH (fun g w => eH pg fC (aA 1 (cS 1 (aA 1 eS))) Q g w) Q) g w (fun t3 w => mZ kn R t3 w) (fun g w h => fG (K := fun g w => eH pg fC (aA 1 (cS 1 (aA 1 eS))) Q g w) (Aw Q g w kn R hn hr h)) h)
def mQ (R : K1) (iD : Value) (w : World) : Prop :=
  qN (fun  w => mS R w) R iD w
theorem Ad (R : K1) (hr : HR iO R Q) (h : mQ R (g 0) w) : eH pg fC (aA 1 eS) Q g w :=
  eJ 1 _ g w (by kernel_rfl) (Aj (fH (fun g w => eH pg fC (aA 1 (aA 1 eS)) Q g w) Q) g w (fun  w => mS R w) R (fun g w h => fG (K := fun g w => eH pg fC (aA 1 (aA 1 eS)) Q g w) (AC Q g w R hr h)) hr h)
def rL (kn : K1) (iD : Value) (w : World) : Prop :=
  kn iD w
theorem zL (kn : K1) (hn : ∀ g w, kn (g 0) w → Q .normal g w) (h : rL kn (g 0) w) : eH pg fC (cS 1 eS) Q g w :=
  dV (kr := no) (l := []) (by kernel_rfl) h hn lW trivial
def pL (R : K1) (iD : Value) (w : World) : Prop :=
  rL (fun iD w => mQ R iD w) iD w
theorem yG (R : K1) (hr : HR iO R Q) (h : pL R (g 0) w) : eH pg fC eS Q g w :=
  eJ 1 _ g w (by kernel_rfl) (zL (fH (fun g w => eH pg fC (aA 1 eS) Q g w) Q) g w (fun iD w => mQ R iD w) (fun g w h => fG (K := fun g w => eH pg fC (aA 1 eS) Q g w) (Ad Q g w R hr h)) h)
def BN (a0 : Value) (w : World) (R : K1) : Prop :=
  pL R a0 w
theorem A0 {a0 : Value} {w : World} {R : K1} (h : BN a0 w R) : gE pg kI #[a0] w R := by
  refine fM (ann := fC) (fn := Tryd.f14) (c := eS) (args := [a0]) (rs := iO) (N := 9) TrydM.mixed (by kernel_rfl) Tryd.func14 (by kernel_rfl) (by kernel_rfl) (by kernel_rfl) (of_decide_eq_true (by kernel_rfl)) (by kernel_rfl) ?_
  exact (yG (pK pg iO R) (jV [a0]) w R (fun _ _ h => h) h)
def dG : FA := ⟨lG, fun i => match Nat.beq i 3 with | true => .split 3 5 (.perm [0, 1, 2, 3, 4, 5, 6] [(3, 5)] ([3, 5, 6], [(0, 3), (0, 5), (1, 3), (1, 5), (4, 5)]) [(false, []), (false, []), (false, []), (true, [1, 2]), (false, []), (true, [0, 3, 4]), (true, [])]) (.perm [0, 1, 2, 5, 3, 4, 6] [(5, 3)] ([3, 4, 6], [(0, 3), (0, 4), (1, 3), (1, 4), (2, 3)]) [(false, []), (false, []), (false, []), (true, [0, 1, 2]), (true, [2, 3]), (false, []), (true, [])]) | false => match Nat.beq i 16 with | true => .leaf ([5, 10], [(1, 5), (2, 5)]) [(false, []), (false, []), (false, []), (false, []), (false, []), (true, [2, 3]), (false, []), (false, []), (false, []), (false, []), (true, [])] | false => match Nat.beq i 17 with | true => .leaf ([13], []) [(false, []), (false, []), (false, []), (false, []), (false, []), (false, []), (false, []), (false, []), (false, []), (false, []), (false, []), (false, []), (false, []), (true, [])] | false => .leaf ([], []) []⟩
def jK : List ResultVar := [.cell 2 26, .tmp 3]
noncomputable def dA : Code := iW Tryd.f15
def qH (R : K1) (t2 t4 : Value) (w : World) : Prop :=
  cJ pg (eC 26 t4) w fun t90 w =>
  cJ pg (eZ 26 t2 t90) w fun _u w =>
  yH pg 26 t2 w fun r0 => R (.tuple #[r0, (.int .i64 0)]) w
theorem Cc (R : K1) (hr : HR jK R Q) (h : qH R (g 2) (g 4) w) : eH pg dG (aA 1 (aA 1 (aA 1 (aA 3 dA)))) Q g w :=
  dV (kn := no) (l := []) (by kernel_rfl) h lW hr trivial
def qE (kn : K6) (gW t2 t4 eD t42 t43 : Value) (w : World) : Prop :=
  cJ pg (dU .add 3 (.tmp 43) (.const (.int .i64 1)) t43 (.int .i64 1)) w fun t89 w =>
  kn gW t2 t4 eD t42 t89 w
theorem BX (kn : K6) (hn : ∀ g w, kn (g 1) (g 2) (g 4) (g 5) (g 42) (g 43) w → Q .normal g w) (h : qE kn (g 1) (g 2) (g 4) (g 5) (g 42) (g 43) w) : eH pg dG (aA 1 (aA 2 (bI (bI (aA 1 (cS 1 (aA 1 (aA 1 (aA 3 dA))))))))) Q g w :=
  dV (kr := no) (l := []) (by kernel_rfl) h hn lW trivial
def qA (kn : K6) (gW t2 t4 eD EK zU t42 t43 : Value) (w : World) : Prop :=
  (dr w) = (dr w) ∧
  (dr w) = (dr w) ∧
  (dr w) = (dr w) ∧
  cJ pg (AP EK) (dr w) fun t79 w_ => w_ = (dr w) ∧
  cJ pg (eB 32 t79 1) (dr w) fun t80 w_ => w_ = (dr w) ∧
  cJ pg (eC 3 t80) (dr w) fun t81 w_ => w_ = (dr w) ∧
  cJ pg (dU .shl 3 (.tmp 77) (.tmp 81) zU t81) (dr w) fun t82 w_ => w_ = (dr w) ∧
  cJ pg (eB 26 t4 1) (dr w) fun t83 w_ => w_ = (dr w) ∧
  cJ pg (eC 24 t83) (dr w) fun t84 w_ => w_ = (dr w) ∧
  cJ pg (lR .len #[24] 3 [t84]) (dr w) fun t85 w_ => w_ = (dr w) ∧
  cJ pg (dU .sub 3 (.tmp 82) (.tmp 85) t82 t85) (dr w) fun t86 w_ => w_ = (dr w) ∧
  cJ pg (AP EK) (dr w) fun t87 w_ => w_ = (dr w) ∧
  cJ pg (eB 32 t87 2) (dr w) fun t88 w_ => w_ = (dr w) ∧
  cJ pg (eZ 3 t88 t86) (dr w) fun _u13 Hy =>
  kn gW t2 t4 eD t42 t43 Hy
theorem B1 (kn : K6) (hn : ∀ g w, kn (g 1) (g 2) (g 4) (g 5) (g 42) (g 43) w → Q .normal g w) (h : qA kn (g 1) (g 2) (g 4) (g 5) (g 9) (g 10) (g 42) (g 43) w) : eH pg dG (aA 1 (aA 4 (bI (cS 1 (aA 2 (bI (bI (aA 1 (cS 1 (aA 1 (aA 1 (aA 3 dA)))))))))))) Q g w :=
  dV (kr := no) (l := []) (by kernel_rfl) h hn lW trivial
def uT (kn : K8) (gW t2 t4 eD EK zU t42 t43 : Value) (w : World) : Prop :=
  (dr w) = (dr w) ∧
  cJ pg (eB 51 gW 0) (dr w) fun t67 w_ => w_ = (dr w) ∧
  cJ pg (eC 3 t67) (dr w) fun t68 w_ => w_ = (dr w) ∧
  (dr w) = (dr w) ∧
  cJ pg (mJ 3 75 zU) (dr w) fun t70 w_ => w_ = (dr w) ∧
  gE pg kE #[t70] (dr w) fun t71 wP =>
  (hC pg (eC 3 t67) t68 wP ∧ hC pg (eB 51 gW 0) t67 wP ∧ True) ∧
  cJ pg (dU .sub 3 (.tmp 68) (.tmp 71) t68 t71) wP fun t72 w_ => w_ = wP ∧
  cJ pg (dU .add 3 (.tmp 72) (.const (.int .i64 1)) t72 (.int .i64 1)) wP fun t73 w_ => w_ = wP ∧
  cJ pg (AP EK) wP fun t74 w_ => w_ = wP ∧
  cJ pg (eB 32 t74 1) wP fun t75 w_ => w_ = wP ∧
  cJ pg (eZ 3 t75 t73) wP fun _u10 Hp =>
  kn gW t2 t4 eD EK zU t42 t43 Hp
theorem BY (kn : K8) (hn : ∀ g w, kn (g 1) (g 2) (g 4) (g 5) (g 9) (g 10) (g 42) (g 43) w → Q .normal g w) (h : uT kn (g 1) (g 2) (g 4) (g 5) (g 9) (g 10) (g 42) (g 43) w) : eH pg dG (cS 1 (aA 4 (bI (cS 1 (aA 2 (bI (bI (aA 1 (cS 1 (aA 1 (aA 1 (aA 3 dA)))))))))))) Q g w :=
  dV (kr := no) (l := []) (by kernel_rfl) h hn lW trivial
def pY (kn : K6) (gW t2 t4 eD EK zU t42 t43 : Value) (w : World) : Prop :=
  uT (fun gW t2 t4 eD EK zU t42 t43 w => qA kn gW t2 t4 eD EK zU t42 t43 w) gW t2 t4 eD EK zU t42 t43 w
theorem BP (kn : K6) (hn : ∀ g w, kn (g 1) (g 2) (g 4) (g 5) (g 42) (g 43) w → Q .normal g w) (h : pY kn (g 1) (g 2) (g 4) (g 5) (g 9) (g 10) (g 42) (g 43) w) : eH pg dG (aA 4 (bI (cS 1 (aA 2 (bI (bI (aA 1 (cS 1 (aA 1 (aA 1 (aA 3 dA))))))))))) Q g w :=
  eJ 1 _ g w (by kernel_rfl) (BY (fH (fun g w => eH pg dG (aA 1 (aA 4 (bI (cS 1 (aA 2 (bI (bI (aA 1 (cS 1 (aA 1 (aA 1 (aA 3 dA)))))))))))) Q g w) Q) g w (fun gW t2 t4 eD EK zU t42 t43 w => qA kn gW t2 t4 eD EK zU t42 t43 w) (fun g w h => fG (K := fun g w => eH pg dG (aA 1 (aA 4 (bI (cS 1 (aA 2 (bI (bI (aA 1 (cS 1 (aA 1 (aA 1 (aA 3 dA)))))))))))) Q g w) (B1 Q g w kn hn h)) h)
def uM (kn : K8) (gW t2 t4 eD t42 t43 : Value) (w : World) : Prop :=
  cJ pg (eB 26 t4 1) w fun t46 w =>
  cJ pg (eC 24 t46) w fun t47 w =>
  cJ pg (hX 24 t47 t43) w fun t49 w =>
  cJ pg (AP t49) w fun t52 w =>
  cJ pg (eB 32 t52 0) w fun t53 w =>
  cJ pg (eC 5 t53) w fun t54 w =>
  cJ pg (hX 30 eD t54) w fun t55 w =>
  cJ pg (eC 3 t55) w fun t56 w =>
  cJ pg (AP t49) w fun t59 w =>
  cJ pg (eB 32 t59 0) w fun t60 w =>
  cJ pg (eC 5 t60) w fun t61 w =>
  cJ pg (hX 30 eD t61) w fun t62 w =>
  cJ pg (eC 3 t62) w fun t63 w =>
  cJ pg (dU .add 3 (.tmp 63) (.const (.int .i64 1)) t63 (.int .i64 1)) w fun t64 w =>
  cJ pg (hX 30 eD t61) w fun t65 w =>
  cJ pg (eZ 3 t65 t64) w fun _u w =>
  kn gW t2 t4 eD t49 t56 t42 t43 w
theorem BW (kn : K8) (hn : ∀ g w, kn (g 1) (g 2) (g 4) (g 5) (g 9) (g 10) (g 42) (g 43) w → Q .normal g w) (h : uM kn (g 1) (g 2) (g 4) (g 5) (g 42) (g 43) w) : eH pg dG (cS 4 (bI (cS 1 (aA 2 (bI (bI (aA 1 (cS 1 (aA 1 (aA 1 (aA 3 dA))))))))))) Q g w :=
  dV (kr := no) (l := []) (by kernel_rfl) h hn lW trivial
def uI (kn : K6) (gW t2 t4 eD t42 t43 : Value) (w : World) : Prop :=
  uM (fun gW t2 t4 eD EK zU t42 t43 w => pY kn gW t2 t4 eD EK zU t42 t43 w) gW t2 t4 eD t42 t43 w
theorem B2 (kn : K6) (hn : ∀ g w, kn (g 1) (g 2) (g 4) (g 5) (g 42) (g 43) w → Q .normal g w) (h : uI kn (g 1) (g 2) (g 4) (g 5) (g 42) (g 43) w) : eH pg dG (bI (cS 1 (aA 2 (bI (bI (aA 1 (cS 1 (aA 1 (aA 1 (aA 3 dA)))))))))) Q g w :=
  eJ 4 _ g w (by kernel_rfl) (BW (fH (fun g w => eH pg dG (aA 4 (bI (cS 1 (aA 2 (bI (bI (aA 1 (cS 1 (aA 1 (aA 1 (aA 3 dA))))))))))) Q g w) Q) g w (fun gW t2 t4 eD EK zU t42 t43 w => pY kn gW t2 t4 eD EK zU t42 t43 w) (fun g w h => fG (K := fun g w => eH pg dG (aA 4 (bI (cS 1 (aA 2 (bI (bI (aA 1 (cS 1 (aA 1 (aA 1 (aA 3 dA))))))))))) Q g w) (BP Q g w kn hn h)) h)
def uJ (kn : K6) (gW t2 t4 eD t42 t43 : Value) (w : World) : Prop :=
  uI kn gW t2 t4 eD t42 t43 w
theorem BS (kn : K6) (hn : ∀ g w, kn (g 1) (g 2) (g 4) (g 5) (g 42) (g 43) w → Q .normal g w) (h : uJ kn (g 1) (g 2) (g 4) (g 5) (g 42) (g 43) w) : eH pg dG (cS 1 (aA 2 (bI (bI (aA 1 (cS 1 (aA 1 (aA 1 (aA 3 dA))))))))) Q g w :=
  kC 3 _ g w (by kernel_rfl) (B2 (CB 3 Q) g w kn hn h)
def nU (kn : K6) (gW t2 t4 eD t42 t43 : Value) (w : World) : Prop :=
  uJ (fun gW t2 t4 eD t42 t43 w => qE kn gW t2 t4 eD t42 t43 w) gW t2 t4 eD t42 t43 w
theorem B9 (kn : K6) (hn : ∀ g w, kn (g 1) (g 2) (g 4) (g 5) (g 42) (g 43) w → Q .normal g w) (h : nU kn (g 1) (g 2) (g 4) (g 5) (g 42) (g 43) w) : eH pg dG (aA 2 (bI (bI (aA 1 (cS 1 (aA 1 (aA 1 (aA 3 dA)))))))) Q g w :=
  eJ 1 _ g w (by kernel_rfl) (BS (fH (fun g w => eH pg dG (aA 1 (aA 2 (bI (bI (aA 1 (cS 1 (aA 1 (aA 1 (aA 3 dA))))))))) Q g w) Q) g w (fun gW t2 t4 eD t42 t43 w => qE kn gW t2 t4 eD t42 t43 w) (fun g w h => fG (K := fun g w => eH pg dG (aA 1 (aA 2 (bI (bI (aA 1 (cS 1 (aA 1 (aA 1 (aA 3 dA))))))))) Q g w) (BX Q g w kn hn h)) h)
def tA (kn : K6) (k2 : K2) (gW t2 t4 eD t42 t43 : Value) (w : World) : Prop :=
  cJ pg (dU .lss 3 (.tmp 43) (.tmp 42) t43 t42) w fun t44 w =>
  lS t44
    (kn gW t2 t4 eD t42 t43 w)
    (k2 t2 t4 w)
theorem AX (kn : K6) (k2 : K2) (hn : ∀ g w, kn (g 1) (g 2) (g 4) (g 5) (g 42) (g 43) w → Q .normal g w) (h2 : ∀ g w, k2 (g 2) (g 4) w → Q (.exit 2) g w) (h : tA kn k2 (g 1) (g 2) (g 4) (g 5) (g 42) (g 43) w) : eH pg dG (cS 2 (bI (bI (aA 1 (cS 1 (aA 1 (aA 1 (aA 3 dA)))))))) Q g w :=
  dV (kr := no) (l := [(2, fun g w => k2 (g 2) (g 4) w)]) (by kernel_rfl) h hn lW ⟨h2, trivial⟩
def pA (kn : K6) (k2 : K2) (gW t2 t4 eD t42 t43 : Value) (w : World) : Prop :=
  tA (fun gW t2 t4 eD t42 t43 w => nU kn gW t2 t4 eD t42 t43 w) k2 gW t2 t4 eD t42 t43 w
theorem A3 (kn : K6) (k2 : K2) (hn : ∀ g w, kn (g 1) (g 2) (g 4) (g 5) (g 42) (g 43) w → Q .normal g w) (h2 : ∀ g w, k2 (g 2) (g 4) w → Q (.exit 2) g w) (h : pA kn k2 (g 1) (g 2) (g 4) (g 5) (g 42) (g 43) w) : eH pg dG (bI (bI (aA 1 (cS 1 (aA 1 (aA 1 (aA 3 dA))))))) Q g w :=
  eJ 2 _ g w (by kernel_rfl) (AX (fH (fun g w => eH pg dG (aA 2 (bI (bI (aA 1 (cS 1 (aA 1 (aA 1 (aA 3 dA)))))))) Q g w) Q) g w (fun gW t2 t4 eD t42 t43 w => nU kn gW t2 t4 eD t42 t43 w) k2 (fun g w h => fG (K := fun g w => eH pg dG (aA 2 (bI (bI (aA 1 (cS 1 (aA 1 (aA 1 (aA 3 dA)))))))) Q g w) (B9 Q g w kn hn h)) h2 h)
def tI (k2 : K2) (gW t2 t4 eD t42 t43 : Value) (w : World) : Prop :=
  iY (fun (X : Value → K0) (t : Value) (w : World) => pA (fun _ _ _ _ _ t43 w => X t43 w) k2 gW t2 t4 eD t42 t w) t43 w
theorem AJ (k2 : K2) (h2 : ∀ g w, k2 (g 2) (g 4) w → Q (.exit 2) g w) (h : tI k2 (g 1) (g 2) (g 4) (g 5) (g 42) (g 43) w) : eH pg dG (bI (aA 1 (cS 1 (aA 1 (aA 1 (aA 3 dA)))))) Q g w := by
  refine kL (T := Value) (fun g : gZ => g 43) (fun X t w => pA (fun _ _ _ _ _ t43 w => X t43 w) k2 (g 1) (g 2) (g 4) (g 5) (g 42) t w) _ (by kernel_rfl) h (fun X g1 w1 ha hL => ?_)
  rw [← eN (s := 1) ha (by kernel_rfl)] at hL
  rw [← eN (s := 2) ha (by kernel_rfl)] at hL
  rw [← eN (s := 4) ha (by kernel_rfl)] at hL
  rw [← eN (s := 5) ha (by kernel_rfl)] at hL
  rw [← eN (s := 42) ha (by kernel_rfl)] at hL
  exact (A3 (fH (fun g2 w2 => X ((fun g : gZ => g 43) g2) w2) Q) g1 w1 (fun _ _ _ _ _ t43 w => X t43 w) k2 (fun _ _ h => h) h2 hL)
def pB (kn : K2) (gW t2 t4 eD t42 t43 : Value) (w : World) : Prop :=
  tI kn gW t2 t4 eD t42 t43 w
theorem AN (kn : K2) (hn : ∀ g w, kn (g 2) (g 4) w → Q .normal g w) (h : pB kn (g 1) (g 2) (g 4) (g 5) (g 42) (g 43) w) : eH pg dG (aA 1 (cS 1 (aA 1 (aA 1 (aA 3 dA))))) Q g w :=
  kC 2 _ g w (by kernel_rfl) (AJ (CB 2 Q) g w kn hn h)
def sS (kn : K6) (gW t2 t4 eD : Value) (w : World) : Prop :=
  cJ pg (eB 26 t4 1) w fun t40 w =>
  cJ pg (eC 24 t40) w fun t41 w =>
  cJ pg (lR .len #[24] 3 [t41]) w fun t42 w =>
  kn gW t2 t4 eD t42 (.int .i64 0) w
theorem Bt (kn : K6) (hn : ∀ g w, kn (g 1) (g 2) (g 4) (g 5) (g 42) (g 43) w → Q .normal g w) (h : sS kn (g 1) (g 2) (g 4) (g 5) w) : eH pg dG (cS 1 (cS 1 (aA 1 (aA 1 (aA 3 dA))))) Q g w :=
  dV (kr := no) (l := []) (by kernel_rfl) h hn lW trivial
def sR (kn : K2) (gW t2 t4 eD : Value) (w : World) : Prop :=
  sS (fun gW t2 t4 eD t42 t43 w => pB kn gW t2 t4 eD t42 t43 w) gW t2 t4 eD w
theorem Bv (kn : K2) (hn : ∀ g w, kn (g 2) (g 4) w → Q .normal g w) (h : sR kn (g 1) (g 2) (g 4) (g 5) w) : eH pg dG (cS 1 (aA 1 (aA 1 (aA 3 dA)))) Q g w :=
  eJ 1 _ g w (by kernel_rfl) (Bt (fH (fun g w => eH pg dG (aA 1 (cS 1 (aA 1 (aA 1 (aA 3 dA))))) Q g w) Q) g w (fun gW t2 t4 eD t42 t43 w => pB kn gW t2 t4 eD t42 t43 w) (fun g w h => fG (K := fun g w => eH pg dG (aA 1 (cS 1 (aA 1 (aA 1 (aA 3 dA))))) Q g w) (AN Q g w kn hn h)) h)
def lO (R : K1) (gW t2 t4 eD : Value) (w : World) : Prop :=
  sR (fun t2 t4 w => qH R t2 t4 w) gW t2 t4 eD w
theorem Bm (R : K1) (hr : HR jK R Q) (h : lO R (g 1) (g 2) (g 4) (g 5) w) : eH pg dG (aA 1 (aA 1 (aA 3 dA))) Q g w :=
  eJ 1 _ g w (by kernel_rfl) (Bv (fH (fun g w => eH pg dG (aA 1 (aA 1 (aA 1 (aA 3 dA)))) Q g w) Q) g w (fun t2 t4 w => qH R t2 t4 w) (fun g w h => fG (K := fun g w => eH pg dG (aA 1 (aA 1 (aA 1 (aA 3 dA)))) Q g w) (Cc Q g w R hr h)) h)
def lN (kn : K7) (k0 : K4) (gW t2 t4 eD t25 t26 t27 : Value) (w : World) : Prop :=
  cJ pg (dU .lss 3 (.tmp 27) (.tmp 26) t27 t26) w fun t28 w =>
  lS t28
    (cJ pg (hX 30 t25 t27) w fun t30 w =>
    cJ pg (eC 3 t30) w fun t31 w =>
    cJ pg (He .neg t31) w fun t36 w =>
    cJ pg (lR .max #[3, 3] 3 [t31, t36]) w fun t37 w =>
    cJ pg (hX 30 eD t27) w fun t38 w =>
    cJ pg (eZ 3 t38 t37) w fun _u w =>
    cJ pg (dU .add 3 (.tmp 27) (.const (.int .i64 1)) t27 (.int .i64 1)) w fun t39 w =>
    kn gW t2 t4 eD t25 t26 t39 w)
    (k0 gW t2 t4 eD w)
theorem AO (kn : K7) (k0 : K4) (hn : ∀ g w, kn (g 1) (g 2) (g 4) (g 5) (g 25) (g 26) (g 27) w → Q .normal g w) (h0 : ∀ g w, k0 (g 1) (g 2) (g 4) (g 5) w → Q (.exit 0) g w) (h : lN kn k0 (g 1) (g 2) (g 4) (g 5) (g 25) (g 26) (g 27) w) : eH pg dG (bI (bI (aA 1 (cS 1 (aA 1 (aA 3 dA)))))) Q g w :=
  dV (kr := no) (l := [(0, fun g w => k0 (g 1) (g 2) (g 4) (g 5) w)]) (by kernel_rfl) h hn lW ⟨h0, trivial⟩
def tG (k0 : K4) (gW t2 t4 eD t25 t26 t27 : Value) (w : World) : Prop :=
  iY (fun (X : Value → K0) (t : Value) (w : World) => lN (fun _ _ _ _ _ _ t27 w => X t27 w) k0 gW t2 t4 eD t25 t26 t w) t27 w
theorem Bk (k0 : K4) (h0 : ∀ g w, k0 (g 1) (g 2) (g 4) (g 5) w → Q (.exit 0) g w) (h : tG k0 (g 1) (g 2) (g 4) (g 5) (g 25) (g 26) (g 27) w) : eH pg dG (bI (aA 1 (cS 1 (aA 1 (aA 3 dA))))) Q g w := by
  refine kL (T := Value) (fun g : gZ => g 27) (fun X t w => lN (fun _ _ _ _ _ _ t27 w => X t27 w) k0 (g 1) (g 2) (g 4) (g 5) (g 25) (g 26) t w) _ (by kernel_rfl) h (fun X g1 w1 ha hL => ?_)
  rw [← eN (s := 1) ha (by kernel_rfl)] at hL
  rw [← eN (s := 2) ha (by kernel_rfl)] at hL
  rw [← eN (s := 4) ha (by kernel_rfl)] at hL
  rw [← eN (s := 5) ha (by kernel_rfl)] at hL
  rw [← eN (s := 25) ha (by kernel_rfl)] at hL
  rw [← eN (s := 26) ha (by kernel_rfl)] at hL
  exact (AO (fH (fun g2 w2 => X ((fun g : gZ => g 27) g2) w2) Q) g1 w1 (fun _ _ _ _ _ _ t27 w => X t27 w) k0 (fun _ _ h => h) h0 hL)
def pG (kn : K4) (gW t2 t4 eD t25 t26 t27 : Value) (w : World) : Prop :=
  tG kn gW t2 t4 eD t25 t26 t27 w
theorem AR (kn : K4) (hn : ∀ g w, kn (g 1) (g 2) (g 4) (g 5) w → Q .normal g w) (h : pG kn (g 1) (g 2) (g 4) (g 5) (g 25) (g 26) (g 27) w) : eH pg dG (aA 1 (cS 1 (aA 1 (aA 3 dA)))) Q g w :=
  kC 0 _ g w (by kernel_rfl) (Bk (CB 0 Q) g w kn hn h)
def sZ (kn : K7) (gW t2 t4 eD : Value) (w : World) : Prop :=
  cJ pg (eB 51 gW 1) w fun t24 w =>
  cJ pg (eC 30 t24) w fun t25 w =>
  cJ pg (lR .len #[30] 3 [t25]) w fun t26 w =>
  kn gW t2 t4 eD t25 t26 (.int .i64 0) w
theorem A7 (kn : K7) (hn : ∀ g w, kn (g 1) (g 2) (g 4) (g 5) (g 25) (g 26) (g 27) w → Q .normal g w) (h : sZ kn (g 1) (g 2) (g 4) (g 5) w) : eH pg dG (cS 1 (cS 1 (aA 1 (aA 3 dA)))) Q g w :=
  dV (kr := no) (l := []) (by kernel_rfl) h hn lW trivial
def sV (kn : K4) (gW t2 t4 eD : Value) (w : World) : Prop :=
  sZ (fun gW t2 t4 eD t25 t26 t27 w => pG kn gW t2 t4 eD t25 t26 t27 w) gW t2 t4 eD w
theorem Br (kn : K4) (hn : ∀ g w, kn (g 1) (g 2) (g 4) (g 5) w → Q .normal g w) (h : sV kn (g 1) (g 2) (g 4) (g 5) w) : eH pg dG (cS 1 (aA 1 (aA 3 dA))) Q g w :=
  eJ 1 _ g w (by kernel_rfl) (A7 (fH (fun g w => eH pg dG (aA 1 (cS 1 (aA 1 (aA 3 dA)))) Q g w) Q) g w (fun gW t2 t4 eD t25 t26 t27 w => pG kn gW t2 t4 eD t25 t26 t27 w) (fun g w h => fG (K := fun g w => eH pg dG (aA 1 (cS 1 (aA 1 (aA 3 dA)))) Q g w) (AR Q g w kn hn h)) h)
def oU (R : K1) (gW t2 t4 eD : Value) (w : World) : Prop :=
  sV (fun gW t2 t4 eD w => lO R gW t2 t4 eD w) gW t2 t4 eD w
theorem Bo (R : K1) (hr : HR jK R Q) (h : oU R (g 1) (g 2) (g 4) (g 5) w) : eH pg dG (aA 1 (aA 3 dA)) Q g w :=
  eJ 1 _ g w (by kernel_rfl) (Br (fH (fun g w => eH pg dG (aA 1 (aA 1 (aA 3 dA))) Q g w) Q) g w (fun gW t2 t4 eD w => lO R gW t2 t4 eD w) (fun g w h => fG (K := fun g w => eH pg dG (aA 1 (aA 1 (aA 3 dA))) Q g w) (Bm Q g w R hr h)) h)
def sX (kn : K4) (gW t2 t4 : Value) (w : World) : Prop :=
  cJ pg (eB 51 gW 1) w fun t20 w =>
  cJ pg (eC 30 t20) w fun t21 w =>
  cJ pg (lR .len #[30] 3 [t21]) w fun t22 w =>
  cJ pg (lQ 30 t22 t22) w fun t23 w =>
  kn gW t2 t4 t23 w
theorem Bf (kn : K4) (hn : ∀ g w, kn (g 1) (g 2) (g 4) (g 5) w → Q .normal g w) (h : sX kn (g 1) (g 2) (g 4) w) : eH pg dG (cS 1 (aA 3 dA)) Q g w :=
  dV (kr := no) (l := []) (by kernel_rfl) h hn lW trivial
def kG (R : K1) (gW t2 t4 : Value) (w : World) : Prop :=
  sX (fun gW t2 t4 eD w => oU R gW t2 t4 eD w) gW t2 t4 w
theorem A2 (R : K1) (hr : HR jK R Q) (h : kG R (g 1) (g 2) (g 4) w) : eH pg dG (aA 3 dA) Q g w :=
  eJ 1 _ g w (by kernel_rfl) (Bf (fH (fun g w => eH pg dG (aA 1 (aA 3 dA)) Q g w) Q) g w (fun gW t2 t4 eD w => oU R gW t2 t4 eD w) (fun g w h => fG (K := fun g w => eH pg dG (aA 1 (aA 3 dA)) Q g w) (Bo Q g w R hr h)) h)
def pC (kn : K3) (R : K1) (Fo : Value) (w : World) : Prop :=
  cJ pg (Dz 51 Fo) w fun gW w =>
  cJ pg (iJ 26) w fun t2 w =>
  cJ pg (eC 51 gW) w fun t11 w =>
  gE pg nQ #[t11, (.int .i64 15)] w fun t12 w =>
  cJ pg (dU .neq 27 (.tmp 12) (.const (.int .i64 0)) t12 (.int .i64 0)) w fun t13 w =>
  lS t13
    (cJ pg (gF 26 []) w fun t14 w =>
    cJ pg (eZ 26 t2 t14) w fun _u w =>
    yH pg 26 t2 w fun r0 => R (.tuple #[r0, (.int .i64 1)]) w)
    (H6 (GO lG 3 (xK 3 dA) 3 5 w)
      (cJ pg (eB 51 gW 0) (dr w) fun t15 w_ => w_ = (dr w) ∧
      cJ pg (eC 3 t15) (dr w) fun t16 w_ => w_ = (dr w) ∧
      cJ pg (eC 51 gW) (dr w) fun t17 w_ => w_ = (dr w) ∧
      gE pg mN #[t17] (dr w) fun t18 CX =>
      (hC pg (eC 3 t15) t16 CX ∧ hC pg (eB 51 gW 0) t15 CX ∧ True) ∧
      cJ pg (gF 26 [(0, t16), (1, t18)]) CX fun t19 w_ => w_ = CX ∧
      cJ pg (iJ 26) CX fun t4 GX =>
      (hC pg (gF 26 [(0, t16), (1, t18)]) t19 GX ∧ hC pg (eC 3 t15) t16 GX ∧ hC pg (eB 51 gW 0) t15 GX ∧ True) ∧
      cJ pg (eZ 26 t4 t19) GX fun _u6 HP =>
      kn gW t2 t4 HP)
      (cJ pg (eB 51 gW 0) (dr w) fun t15 w_ => w_ = (dr w) ∧
      cJ pg (eC 3 t15) (dr w) fun t16 w_ => w_ = (dr w) ∧
      cJ pg (eC 51 gW) (dr w) fun t17 w_ => w_ = (dr w) ∧
      cJ pg (iJ 26) (dr w) fun t4 CX =>
      (hC pg (eC 51 gW) t17 CX ∧ hC pg (eC 3 t15) t16 CX ∧ hC pg (eB 51 gW 0) t15 CX ∧ True) ∧
      gE pg mN #[t17] CX fun t18 Gy =>
      (hC pg (eC 3 t15) t16 Gy ∧ hC pg (eB 51 gW 0) t15 Gy ∧ True) ∧
      cJ pg (gF 26 [(0, t16), (1, t18)]) Gy fun t19 w_ => w_ = Gy ∧
      cJ pg (eZ 26 t4 t19) Gy fun _u6 HP =>
      kn gW t2 t4 HP))
theorem Bi (kn : K3) (R : K1) (hn : ∀ g w, kn (g 1) (g 2) (g 4) w → Q .normal g w) (hr : HR jK R Q) (h : pC kn R (g 0) w) : eH pg dG (cS 3 dA) Q g w :=
  dV (l := []) (by kernel_rfl) h hn hr trivial
def oZ (R : K1) (Fo : Value) (w : World) : Prop :=
  pC (fun gW t2 t4 w => kG R gW t2 t4 w) R Fo w
theorem Ba (R : K1) (hr : HR jK R Q) (h : oZ R (g 0) w) : eH pg dG dA Q g w :=
  eJ 3 _ g w (by kernel_rfl) (Bi (fH (fun g w => eH pg dG (aA 3 dA) Q g w) Q) g w (fun gW t2 t4 w => kG R gW t2 t4 w) R (fun g w h => fG (K := fun g w => eH pg dG (aA 3 dA) Q g w) (A2 Q g w R hr h)) hr h)
def AW (a0 : Value) (w : World) (R : K1) : Prop :=
  oZ R a0 w
theorem vR {a0 : Value} {w : World} {R : K1} (h : AW a0 w R) : gE pg lG #[a0] w R := by
  refine fM (ann := dG) (fn := Tryd.f15) (c := dA) (args := [a0]) (rs := jK) (N := 91) TrydM.mixed (by kernel_rfl) Tryd.func15 (by kernel_rfl) (by kernel_rfl) (by kernel_rfl) (of_decide_eq_true (by kernel_rfl)) (by kernel_rfl) ?_
  exact (Ba (pK pg jK R) (jV [a0]) w R (fun _ _ h => h) h)
def tX : FA := ⟨nM, fun i => .leaf ([], []) []⟩
def pQ : List ResultVar := [.cell 2 51]
noncomputable def sG : Code := iW Tryd.f16
def pV (R : K1) (iD : Value) (w : World) : Prop :=
  cJ pg (iJ 51) w fun t2 w =>
  cJ pg (dU .eql 3 (.tmp 6) (.const (.int .i64 0)) iD (.int .i64 0)) w fun t8 w =>
  lS t8
    (cJ pg (eC 76 (.pointer (some ⟨0, 0, none⟩))) w fun t9 w =>
    cJ pg (iJ 76) w fun It w =>
    cJ pg (eZ 76 It t9) w fun _u w =>
    cJ pg (jO 76 It none none none) w fun t10 w =>
    cJ pg (gF 51 [(0, (.int .i64 6)), (1, t10)]) w fun t11 w =>
    cJ pg (eZ 51 t2 t11) w fun _u w =>
    yH pg 51 t2 w fun r0 => R r0 w)
    (cJ pg (dU .eql 3 (.tmp 6) (.const (.int .i64 1)) iD (.int .i64 1)) w fun t13 w =>
    lS t13
      (cJ pg (eC 77 (.pointer (some ⟨1, 0, none⟩))) w fun t14 w =>
      cJ pg (iJ 77) w fun Iu w =>
      cJ pg (eZ 77 Iu t14) w fun _u w =>
      cJ pg (jO 77 Iu none none none) w fun t15 w =>
      cJ pg (gF 51 [(0, (.int .i64 5)), (1, t15)]) w fun t16 w =>
      cJ pg (eZ 51 t2 t16) w fun _u w =>
      yH pg 51 t2 w fun r0 => R r0 w)
      (cJ pg (dU .eql 3 (.tmp 6) (.const (.int .i64 2)) iD (.int .i64 2)) w fun t18 w =>
      lS t18
        (cJ pg (eC 78 (.pointer (some ⟨2, 0, none⟩))) w fun t19 w =>
        cJ pg (iJ 78) w fun H4 w =>
        cJ pg (eZ 78 H4 t19) w fun _u w =>
        cJ pg (jO 78 H4 none none none) w fun t20 w =>
        cJ pg (gF 51 [(0, (.int .i64 6)), (1, t20)]) w fun t21 w =>
        cJ pg (eZ 51 t2 t21) w fun _u w =>
        yH pg 51 t2 w fun r0 => R r0 w)
        (cJ pg (gF 51 []) w fun t22 w =>
        cJ pg (eZ 51 t2 t22) w fun _u w =>
        yH pg 51 t2 w fun r0 => R r0 w)))
theorem xZ (R : K1) (hr : HR pQ R Q) (h : pV R (g 0) w) : eH pg tX sG Q g w :=
  dV (kn := no) (l := []) (by kernel_rfl) h lW hr trivial
def zT (a0 : Value) (w : World) (R : K1) : Prop :=
  pV R a0 w
theorem zE {a0 : Value} {w : World} {R : K1} (h : zT a0 w R) : gE pg nM #[a0] w R := by
  refine fM (ann := tX) (fn := Tryd.f16) (c := sG) (args := [a0]) (rs := pQ) (N := 23) TrydM.mixed (by kernel_rfl) Tryd.func16 (by kernel_rfl) (by kernel_rfl) (by kernel_rfl) (of_decide_eq_true (by kernel_rfl)) (by kernel_rfl) ?_
  exact (xZ (pK pg pQ R) (jV [a0]) w R (fun _ _ h => h) h)
def wF : FA := ⟨qD, fun i => .leaf ([], []) []⟩
def tF : List ResultVar := [.tmp 2]
noncomputable def uY : Code := iW Tryd.f17
def tB (R : K1) (iD : Value) (w : World) : Prop :=
  cJ pg (dU .eql 3 (.tmp 6) (.const (.int .i64 1)) iD (.int .i64 1)) w fun t7 w =>
  lS t7
    (R (.int .i64 31) w)
    (gE pg sK #[iD] w fun t10 w =>
    cJ pg (iA t10 0) w fun t11 w =>
    cJ pg (iA t10 1) w fun t12 w =>
    cJ pg (iA t10 2) w fun t13 w =>
    cJ pg (lR .len #[30] 3 [t13]) w fun t16 w =>
    cJ pg (dU .add 3 (.tmp 14) (.tmp 16) t11 t16) w fun t17 w =>
    cJ pg (dU .sub 3 (.tmp 17) (.const (.int .i64 1)) t17 (.int .i64 1)) w fun t18 w =>
    R t18 w)
theorem AK (R : K1) (hr : HR tF R Q) (h : tB R (g 0) w) : eH pg wF uY Q g w :=
  dV (kn := no) (l := []) (by kernel_rfl) h lW hr trivial
def Cg (a0 : Value) (w : World) (R : K1) : Prop :=
  tB R a0 w
theorem Ca {a0 : Value} {w : World} {R : K1} (h : Cg a0 w R) : gE pg qD #[a0] w R := by
  refine fM (ann := wF) (fn := Tryd.f17) (c := uY) (args := [a0]) (rs := tF) (N := 19) TrydM.mixed (by kernel_rfl) Tryd.func17 (by kernel_rfl) (by kernel_rfl) (by kernel_rfl) (of_decide_eq_true (by kernel_rfl)) (by kernel_rfl) ?_
  exact (AK (pK pg tF R) (jV [a0]) w R (fun _ _ h => h) h)
def BA : FA := ⟨xB, fun i => .leaf ([], []) []⟩
def yC : List ResultVar := [.cell 2 26]
noncomputable def Al : Code := iW Tryd.f18
def xR (R : K1) (Gb : Value) (w : World) : Prop :=
  cJ pg (iJ 26) w fun t2 w =>
  cJ pg (gF 32 [(0, Gb)]) w fun t4 w =>
  cJ pg (hH 24 1 [(0, t4)]) w fun t5 w =>
  cJ pg (gF 26 [(1, t5)]) w fun t6 w =>
  cJ pg (eZ 26 t2 t6) w fun _u w =>
  yH pg 26 t2 w fun r0 => R r0 w
theorem CS (R : K1) (hr : HR yC R Q) (h : xR R (g 0) w) : eH pg BA Al Q g w :=
  dV (kn := no) (l := []) (by kernel_rfl) h lW hr trivial
def E2 (a0 : Value) (w : World) (R : K1) : Prop :=
  xR R a0 w
theorem Dx {a0 : Value} {w : World} {R : K1} (h : E2 a0 w R) : gE pg xB #[a0] w R := by
  refine fM (ann := BA) (fn := Tryd.f18) (c := Al) (args := [a0]) (rs := yC) (N := 7) TrydM.mixed (by kernel_rfl) Tryd.func18 (by kernel_rfl) (by kernel_rfl) (by kernel_rfl) (of_decide_eq_true (by kernel_rfl)) (by kernel_rfl) ?_
  exact (CS (pK pg yC R) (jV [a0]) w R (fun _ _ h => h) h)
def tT : FA := ⟨nQ, fun i => .leaf ([], []) []⟩
def pR : List ResultVar := [.tmp 4]
noncomputable def sN : Code := iW Tryd.f27
def pO (R : K1) (Fo Cw : Value) (w : World) : Prop :=
  cJ pg (Dz 51 Fo) w fun Iw w =>
  cJ pg (eC 51 Iw) w fun t6 w =>
  gE pg qI #[t6] w fun t7 w =>
  cJ pg (He .not t7) w fun t8 w =>
  lS t8
    (R (.int .i64 1) w)
    (cJ pg (eB 51 Iw 0) w fun t10 w =>
    cJ pg (eC 3 t10) w fun t11 w =>
    cJ pg (dU .gtr 3 (.tmp 11) (.tmp 12) t11 Cw) w fun t13 w =>
    lS t13
      (R (.int .i64 12) w)
      (R (.int .i64 0) w))
theorem xS (R : K1) (hr : HR pR R Q) (h : pO R (g 0) (g 1) w) : eH pg tT sN Q g w :=
  dV (kn := no) (l := []) (by kernel_rfl) h lW hr trivial
def yZ (a0 a1 : Value) (w : World) (R : K1) : Prop :=
  pO R a0 a1 w
theorem Aa {a0 a1 : Value} {w : World} {R : K1} (h : yZ a0 a1 w R) : gE pg nQ #[a0, a1] w R := by
  refine fM (ann := tT) (fn := Tryd.f27) (c := sN) (args := [a0, a1]) (rs := pR) (N := 14) TrydM.mixed (by kernel_rfl) Tryd.func27 (by kernel_rfl) (by kernel_rfl) (by kernel_rfl) (of_decide_eq_true (by kernel_rfl)) (by kernel_rfl) ?_
  exact (xS (pK pg pR R) (jV [a0, a1]) w R (fun _ _ h => h) h)
def bP : FA := ⟨mN, fun i => .leaf ([], []) []⟩
def jM : List ResultVar := [.tmp 2]
noncomputable def bL : Code := iW Tryd.f28
def oX (R : K1) (dP : Value) (w : World) : Prop :=
  R dP w
theorem A1 (R : K1) (hr : HR jM R Q) (h : oX R (g 4) w) : eH pg bP (aA 1 (aA 1 (aA 1 (aA 4 bL)))) Q g w :=
  dV (kn := no) (l := []) (by kernel_rfl) h lW hr trivial
def pD (kn : K7) (iG dP dE fP t37 t38 t39 : Value) (w : World) : Prop :=
  cJ pg (dU .add 3 (.tmp 39) (.const (.int .i64 1)) t39 (.int .i64 1)) w fun t68 w =>
  kn iG dP dE fP t37 t38 t68 w
theorem AU (kn : K7) (hn : ∀ g w, kn (g 3) (g 4) (g 5) (g 8) (g 37) (g 38) (g 39) w → Q .normal g w) (h : pD kn (g 3) (g 4) (g 5) (g 8) (g 37) (g 38) (g 39) w) : eH pg bP (aA 1 (aA 2 (bI (bI (aA 1 (cS 1 (aA 1 (aA 1 (aA 4 bL))))))))) Q g w :=
  dV (kr := no) (l := []) (by kernel_rfl) h hn lW trivial
def pE (kn : Cd) (iG dP dE fP pT t37 t38 t39 t45 t46 : Value) (w : World) : Prop :=
  cJ pg (dU .add 3 (.tmp 46) (.const (.int .i64 1)) t46 (.int .i64 1)) w fun t67 w =>
  kn iG dP dE fP pT t37 t38 t39 t45 t67 w
theorem A4 (kn : Cd) (hn : ∀ g w, kn (g 3) (g 4) (g 5) (g 8) (g 9) (g 37) (g 38) (g 39) (g 45) (g 46) w → Q .normal g w) (h : pE kn (g 3) (g 4) (g 5) (g 8) (g 9) (g 37) (g 38) (g 39) (g 45) (g 46) w) : eH pg bP (aA 1 (aA 2 (bI (bI (aA 2 (bI (aA 1 (bI (cS 1 (aA 2 (bI (bI (aA 1 (cS 1 (aA 1 (aA 1 (aA 4 bL))))))))))))))))) Q g w :=
  dV (kr := no) (l := []) (by kernel_rfl) h hn lW trivial
def oP (kn : Cd) (k5 : Cd) (iG dP dE fP pT t37 t38 t39 t45 t46 : Value) (w : World) : Prop :=
  cJ pg (dU .shr 3 (.tmp 55) (.const (.int .u64 1)) iG (.int .u64 1)) w fun t56 w =>
  cJ pg (dU .add 3 (.tmp 54) (.tmp 56) fP t56) w fun t57 w =>
  cJ pg (dU .shr 3 (.tmp 58) (.const (.int .u64 3)) iG (.int .u64 3)) w fun t59 w =>
  cJ pg (dU .add 3 (.tmp 57) (.tmp 59) t57 t59) w fun t60 w =>
  cJ pg (dU .add 3 (.tmp 60) (.const (.int .i64 3)) t60 (.int .i64 3)) w fun t61 w =>
  cJ pg (dU .rem 3 (.tmp 61) (.tmp 62) t61 iG) w fun t63 w =>
  cJ pg (dU .lss 3 (.tmp 64) (.tmp 65) t63 dE) w fun t66 w =>
  lS t66
    (k5 iG dP dE t63 pT t37 t38 t39 t45 t46 w)
    (kn iG dP dE t63 pT t37 t38 t39 t45 t46 w)
theorem A8 (kn : Cd) (k5 : Cd) (hn : ∀ g w, kn (g 3) (g 4) (g 5) (g 8) (g 9) (g 37) (g 38) (g 39) (g 45) (g 46) w → Q .normal g w) (h5 : ∀ g w, k5 (g 3) (g 4) (g 5) (g 8) (g 9) (g 37) (g 38) (g 39) (g 45) (g 46) w → Q (.exit 5) g w) (h : oP kn k5 (g 3) (g 4) (g 5) (g 8) (g 9) (g 37) (g 38) (g 39) (g 45) (g 46) w) : eH pg bP (bI (bI (aA 1 (bI (cS 1 (aA 2 (bI (bI (aA 2 (bI (aA 1 (bI (cS 1 (aA 2 (bI (bI (aA 1 (cS 1 (aA 1 (aA 1 (aA 4 bL))))))))))))))))))))) Q g w :=
  dV (kr := no) (l := [(5, fun g w => k5 (g 3) (g 4) (g 5) (g 8) (g 9) (g 37) (g 38) (g 39) (g 45) (g 46) w)]) (by kernel_rfl) h hn lW ⟨h5, trivial⟩
def pF (k5 : Cd) (iG dP dE fP pT t37 t38 t39 t45 t46 : Value) (w : World) : Prop :=
  iY (fun (X : Value → K0) (t : Value) (w : World) => oP (fun _ _ _ fP _ _ _ _ _ _ w => X fP w) k5 iG dP dE t pT t37 t38 t39 t45 t46 w) fP w
theorem Bn (k5 : Cd) (h5 : ∀ g w, k5 (g 3) (g 4) (g 5) (g 8) (g 9) (g 37) (g 38) (g 39) (g 45) (g 46) w → Q (.exit 5) g w) (h : pF k5 (g 3) (g 4) (g 5) (g 8) (g 9) (g 37) (g 38) (g 39) (g 45) (g 46) w) : eH pg bP (bI (aA 1 (bI (cS 1 (aA 2 (bI (bI (aA 2 (bI (aA 1 (bI (cS 1 (aA 2 (bI (bI (aA 1 (cS 1 (aA 1 (aA 1 (aA 4 bL)))))))))))))))))))) Q g w := by
  refine kL (T := Value) (fun g : gZ => g 8) (fun X t w => oP (fun _ _ _ fP _ _ _ _ _ _ w => X fP w) k5 (g 3) (g 4) (g 5) t (g 9) (g 37) (g 38) (g 39) (g 45) (g 46) w) _ (by kernel_rfl) h (fun X g1 w1 ha hL => ?_)
  rw [← eN (s := 3) ha (by kernel_rfl)] at hL
  rw [← eN (s := 4) ha (by kernel_rfl)] at hL
  rw [← eN (s := 5) ha (by kernel_rfl)] at hL
  rw [← eN (s := 9) ha (by kernel_rfl)] at hL
  rw [← eN (s := 37) ha (by kernel_rfl)] at hL
  rw [← eN (s := 38) ha (by kernel_rfl)] at hL
  rw [← eN (s := 39) ha (by kernel_rfl)] at hL
  rw [← eN (s := 45) ha (by kernel_rfl)] at hL
  rw [← eN (s := 46) ha (by kernel_rfl)] at hL
  exact (A8 (fH (fun g2 w2 => X ((fun g : gZ => g 8) g2) w2) Q) g1 w1 (fun _ _ _ fP _ _ _ _ _ _ w => X fP w) k5 (fun _ _ h => h) h5 hL)
def oR (k5 : Cd) (iG dP dE fP pT t37 t38 t39 t45 t46 : Value) (w : World) : Prop :=
  pF k5 iG dP dE fP pT t37 t38 t39 t45 t46 w
theorem Bp (k5 : Cd) (h5 : ∀ g w, k5 (g 3) (g 4) (g 5) (g 8) (g 9) (g 37) (g 38) (g 39) (g 45) (g 46) w → Q (.exit 5) g w) (h : oR k5 (g 3) (g 4) (g 5) (g 8) (g 9) (g 37) (g 38) (g 39) (g 45) (g 46) w) : eH pg bP (aA 1 (bI (cS 1 (aA 2 (bI (bI (aA 2 (bI (aA 1 (bI (cS 1 (aA 2 (bI (bI (aA 1 (cS 1 (aA 1 (aA 1 (aA 4 bL))))))))))))))))))) Q g w :=
  kC 6 _ g w (by kernel_rfl) (Bn (CB 6 Q) g w k5 h5 h)
def tE (kn : Cd) (iG dP dE fP pT t37 t38 t39 t45 t46 : Value) (w : World) : Prop :=
  cJ pg (mJ 3 5 pT) w fun t51 w =>
  cJ pg (hX 24 dP fP) w fun t52 w =>
  cJ pg (eB 32 t52 0) w fun t53 w =>
  cJ pg (eZ 5 t53 t51) w fun _u w =>
  kn iG dP dE fP pT t37 t38 t39 t45 t46 w
theorem Bd (kn : Cd) (hn : ∀ g w, kn (g 3) (g 4) (g 5) (g 8) (g 9) (g 37) (g 38) (g 39) (g 45) (g 46) w → Q .normal g w) (h : tE kn (g 3) (g 4) (g 5) (g 8) (g 9) (g 37) (g 38) (g 39) (g 45) (g 46) w) : eH pg bP (cS 1 (bI (cS 1 (aA 2 (bI (bI (aA 2 (bI (aA 1 (bI (cS 1 (aA 2 (bI (bI (aA 1 (cS 1 (aA 1 (aA 1 (aA 4 bL))))))))))))))))))) Q g w :=
  dV (kr := no) (l := []) (by kernel_rfl) h hn lW trivial
def tC (k5 : Cd) (iG dP dE fP pT t37 t38 t39 t45 t46 : Value) (w : World) : Prop :=
  tE (fun iG dP dE fP pT t37 t38 t39 t45 t46 w => oR k5 iG dP dE fP pT t37 t38 t39 t45 t46 w) iG dP dE fP pT t37 t38 t39 t45 t46 w
theorem Bh (k5 : Cd) (h5 : ∀ g w, k5 (g 3) (g 4) (g 5) (g 8) (g 9) (g 37) (g 38) (g 39) (g 45) (g 46) w → Q (.exit 5) g w) (h : tC k5 (g 3) (g 4) (g 5) (g 8) (g 9) (g 37) (g 38) (g 39) (g 45) (g 46) w) : eH pg bP (bI (cS 1 (aA 2 (bI (bI (aA 2 (bI (aA 1 (bI (cS 1 (aA 2 (bI (bI (aA 1 (cS 1 (aA 1 (aA 1 (aA 4 bL)))))))))))))))))) Q g w :=
  eJ 1 _ g w (by kernel_rfl) (Bd (fH (fun g w => eH pg bP (aA 1 (bI (cS 1 (aA 2 (bI (bI (aA 2 (bI (aA 1 (bI (cS 1 (aA 2 (bI (bI (aA 1 (cS 1 (aA 1 (aA 1 (aA 4 bL))))))))))))))))))) Q g w) Q) g w (fun iG dP dE fP pT t37 t38 t39 t45 t46 w => oR k5 iG dP dE fP pT t37 t38 t39 t45 t46 w) (fun g w h => fG (K := fun g w => eH pg bP (aA 1 (bI (cS 1 (aA 2 (bI (bI (aA 2 (bI (aA 1 (bI (cS 1 (aA 2 (bI (bI (aA 1 (cS 1 (aA 1 (aA 1 (aA 4 bL))))))))))))))))))) Q g w) (Bp Q g w k5 h5 h)) h)
def sT (kn : Cd) (iG dP dE fP pT t37 t38 t39 t45 t46 : Value) (w : World) : Prop :=
  tC kn iG dP dE fP pT t37 t38 t39 t45 t46 w
theorem Bl (kn : Cd) (hn : ∀ g w, kn (g 3) (g 4) (g 5) (g 8) (g 9) (g 37) (g 38) (g 39) (g 45) (g 46) w → Q .normal g w) (h : sT kn (g 3) (g 4) (g 5) (g 8) (g 9) (g 37) (g 38) (g 39) (g 45) (g 46) w) : eH pg bP (cS 1 (aA 2 (bI (bI (aA 2 (bI (aA 1 (bI (cS 1 (aA 2 (bI (bI (aA 1 (cS 1 (aA 1 (aA 1 (aA 4 bL))))))))))))))))) Q g w :=
  kC 5 _ g w (by kernel_rfl) (Bh (CB 5 Q) g w kn hn h)
def mP (kn : Cd) (iG dP dE fP pT t37 t38 t39 t45 t46 : Value) (w : World) : Prop :=
  sT (fun iG dP dE fP pT t37 t38 t39 t45 t46 w => pE kn iG dP dE fP pT t37 t38 t39 t45 t46 w) iG dP dE fP pT t37 t38 t39 t45 t46 w
theorem zR (kn : Cd) (hn : ∀ g w, kn (g 3) (g 4) (g 5) (g 8) (g 9) (g 37) (g 38) (g 39) (g 45) (g 46) w → Q .normal g w) (h : mP kn (g 3) (g 4) (g 5) (g 8) (g 9) (g 37) (g 38) (g 39) (g 45) (g 46) w) : eH pg bP (aA 2 (bI (bI (aA 2 (bI (aA 1 (bI (cS 1 (aA 2 (bI (bI (aA 1 (cS 1 (aA 1 (aA 1 (aA 4 bL)))))))))))))))) Q g w :=
  eJ 1 _ g w (by kernel_rfl) (Bl (fH (fun g w => eH pg bP (aA 1 (aA 2 (bI (bI (aA 2 (bI (aA 1 (bI (cS 1 (aA 2 (bI (bI (aA 1 (cS 1 (aA 1 (aA 1 (aA 4 bL))))))))))))))))) Q g w) Q) g w (fun iG dP dE fP pT t37 t38 t39 t45 t46 w => pE kn iG dP dE fP pT t37 t38 t39 t45 t46 w) (fun g w h => fG (K := fun g w => eH pg bP (aA 1 (aA 2 (bI (bI (aA 2 (bI (aA 1 (bI (cS 1 (aA 2 (bI (bI (aA 1 (cS 1 (aA 1 (aA 1 (aA 4 bL))))))))))))))))) Q g w) (A4 Q g w kn hn h)) h)
def nB (kn : Cd) (k4 : K7) (iG dP dE fP pT t37 t38 t39 t45 t46 : Value) (w : World) : Prop :=
  cJ pg (dU .lss 3 (.tmp 46) (.tmp 45) t46 t45) w fun t47 w =>
  lS t47
    (kn iG dP dE fP pT t37 t38 t39 t45 t46 w)
    (k4 iG dP dE fP t37 t38 t39 w)
theorem zQ (kn : Cd) (k4 : K7) (hn : ∀ g w, kn (g 3) (g 4) (g 5) (g 8) (g 9) (g 37) (g 38) (g 39) (g 45) (g 46) w → Q .normal g w) (h4 : ∀ g w, k4 (g 3) (g 4) (g 5) (g 8) (g 37) (g 38) (g 39) w → Q (.exit 4) g w) (h : nB kn k4 (g 3) (g 4) (g 5) (g 8) (g 9) (g 37) (g 38) (g 39) (g 45) (g 46) w) : eH pg bP (cS 2 (bI (bI (aA 2 (bI (aA 1 (bI (cS 1 (aA 2 (bI (bI (aA 1 (cS 1 (aA 1 (aA 1 (aA 4 bL)))))))))))))))) Q g w :=
  dV (kr := no) (l := [(4, fun g w => k4 (g 3) (g 4) (g 5) (g 8) (g 37) (g 38) (g 39) w)]) (by kernel_rfl) h hn lW ⟨h4, trivial⟩
def lC (kn : Cd) (k4 : K7) (iG dP dE fP pT t37 t38 t39 t45 t46 : Value) (w : World) : Prop :=
  nB (fun iG dP dE fP pT t37 t38 t39 t45 t46 w => mP kn iG dP dE fP pT t37 t38 t39 t45 t46 w) k4 iG dP dE fP pT t37 t38 t39 t45 t46 w
theorem Ax (kn : Cd) (k4 : K7) (hn : ∀ g w, kn (g 3) (g 4) (g 5) (g 8) (g 9) (g 37) (g 38) (g 39) (g 45) (g 46) w → Q .normal g w) (h4 : ∀ g w, k4 (g 3) (g 4) (g 5) (g 8) (g 37) (g 38) (g 39) w → Q (.exit 4) g w) (h : lC kn k4 (g 3) (g 4) (g 5) (g 8) (g 9) (g 37) (g 38) (g 39) (g 45) (g 46) w) : eH pg bP (bI (bI (aA 2 (bI (aA 1 (bI (cS 1 (aA 2 (bI (bI (aA 1 (cS 1 (aA 1 (aA 1 (aA 4 bL))))))))))))))) Q g w :=
  eJ 2 _ g w (by kernel_rfl) (zQ (fH (fun g w => eH pg bP (aA 2 (bI (bI (aA 2 (bI (aA 1 (bI (cS 1 (aA 2 (bI (bI (aA 1 (cS 1 (aA 1 (aA 1 (aA 4 bL)))))))))))))))) Q g w) Q) g w (fun iG dP dE fP pT t37 t38 t39 t45 t46 w => mP kn iG dP dE fP pT t37 t38 t39 t45 t46 w) k4 (fun g w h => fG (K := fun g w => eH pg bP (aA 2 (bI (bI (aA 2 (bI (aA 1 (bI (cS 1 (aA 2 (bI (bI (aA 1 (cS 1 (aA 1 (aA 1 (aA 4 bL)))))))))))))))) Q g w) (zR Q g w kn hn h)) h4 h)
def rV (k4 : K7) (iG dP dE fP pT t37 t38 t39 t45 t46 : Value) (w : World) : Prop :=
  iY (fun (X : (Value × Value) → K0) (t : Value × Value) (w : World) => lC (fun _ _ _ fP _ _ _ _ _ t46 w => X (fP, t46) w) k4 iG dP dE t.1 pT t37 t38 t39 t45 t.2 w) (fP, t46) w
theorem AH (k4 : K7) (h4 : ∀ g w, k4 (g 3) (g 4) (g 5) (g 8) (g 37) (g 38) (g 39) w → Q (.exit 4) g w) (h : rV k4 (g 3) (g 4) (g 5) (g 8) (g 9) (g 37) (g 38) (g 39) (g 45) (g 46) w) : eH pg bP (bI (aA 2 (bI (aA 1 (bI (cS 1 (aA 2 (bI (bI (aA 1 (cS 1 (aA 1 (aA 1 (aA 4 bL)))))))))))))) Q g w := by
  refine kL (T := Value × Value) (fun g : gZ => (g 8, g 46)) (fun X t w => lC (fun _ _ _ fP _ _ _ _ _ t46 w => X (fP, t46) w) k4 (g 3) (g 4) (g 5) t.1 (g 9) (g 37) (g 38) (g 39) (g 45) t.2 w) _ (by kernel_rfl) h (fun X g1 w1 ha hL => ?_)
  rw [← eN (s := 3) ha (by kernel_rfl)] at hL
  rw [← eN (s := 4) ha (by kernel_rfl)] at hL
  rw [← eN (s := 5) ha (by kernel_rfl)] at hL
  rw [← eN (s := 9) ha (by kernel_rfl)] at hL
  rw [← eN (s := 37) ha (by kernel_rfl)] at hL
  rw [← eN (s := 38) ha (by kernel_rfl)] at hL
  rw [← eN (s := 39) ha (by kernel_rfl)] at hL
  rw [← eN (s := 45) ha (by kernel_rfl)] at hL
  exact (Ax (fH (fun g2 w2 => X ((fun g : gZ => (g 8, g 46)) g2) w2) Q) g1 w1 (fun _ _ _ fP _ _ _ _ _ t46 w => X (fP, t46) w) k4 (fun _ _ h => h) h4 hL)
def mL (kn : K7) (iG dP dE fP pT t37 t38 t39 t45 t46 : Value) (w : World) : Prop :=
  rV kn iG dP dE fP pT t37 t38 t39 t45 t46 w
theorem Ap (kn : K7) (hn : ∀ g w, kn (g 3) (g 4) (g 5) (g 8) (g 37) (g 38) (g 39) w → Q .normal g w) (h : mL kn (g 3) (g 4) (g 5) (g 8) (g 9) (g 37) (g 38) (g 39) (g 45) (g 46) w) : eH pg bP (aA 2 (bI (aA 1 (bI (cS 1 (aA 2 (bI (bI (aA 1 (cS 1 (aA 1 (aA 1 (aA 4 bL))))))))))))) Q g w :=
  kC 4 _ g w (by kernel_rfl) (AH (CB 4 Q) g w kn hn h)
def qU (kn : Cd) (iG dP dE fP pT DD t37 t38 t39 : Value) (w : World) : Prop :=
  cJ pg (lR .max #[3, 3] 3 [DD, (.int .i64 0)]) w fun t45 w =>
  kn iG dP dE fP pT t37 t38 t39 t45 (.int .i64 0) w
theorem yN (kn : Cd) (hn : ∀ g w, kn (g 3) (g 4) (g 5) (g 8) (g 9) (g 37) (g 38) (g 39) (g 45) (g 46) w → Q .normal g w) (h : qU kn (g 3) (g 4) (g 5) (g 8) (g 9) (g 10) (g 37) (g 38) (g 39) w) : eH pg bP (cS 2 (bI (aA 1 (bI (cS 1 (aA 2 (bI (bI (aA 1 (cS 1 (aA 1 (aA 1 (aA 4 bL))))))))))))) Q g w :=
  dV (kr := no) (l := []) (by kernel_rfl) h hn lW trivial
def rQ (kn : K7) (iG dP dE fP pT DD t37 t38 t39 : Value) (w : World) : Prop :=
  qU (fun iG dP dE fP pT t37 t38 t39 t45 t46 w => mL kn iG dP dE fP pT t37 t38 t39 t45 t46 w) iG dP dE fP pT DD t37 t38 t39 w
theorem zJ (kn : K7) (hn : ∀ g w, kn (g 3) (g 4) (g 5) (g 8) (g 37) (g 38) (g 39) w → Q .normal g w) (h : rQ kn (g 3) (g 4) (g 5) (g 8) (g 9) (g 10) (g 37) (g 38) (g 39) w) : eH pg bP (bI (aA 1 (bI (cS 1 (aA 2 (bI (bI (aA 1 (cS 1 (aA 1 (aA 1 (aA 4 bL)))))))))))) Q g w :=
  eJ 2 _ g w (by kernel_rfl) (yN (fH (fun g w => eH pg bP (aA 2 (bI (aA 1 (bI (cS 1 (aA 2 (bI (bI (aA 1 (cS 1 (aA 1 (aA 1 (aA 4 bL))))))))))))) Q g w) Q) g w (fun iG dP dE fP pT t37 t38 t39 t45 t46 w => mL kn iG dP dE fP pT t37 t38 t39 t45 t46 w) (fun g w h => fG (K := fun g w => eH pg bP (aA 2 (bI (aA 1 (bI (cS 1 (aA 2 (bI (bI (aA 1 (cS 1 (aA 1 (aA 1 (aA 4 bL))))))))))))) Q g w) (Ap Q g w kn hn h)) h)
def nG (kn : K7) (iG dP dE fP pT DD t37 t38 t39 : Value) (w : World) : Prop :=
  rQ kn iG dP dE fP pT DD t37 t38 t39 w
theorem yT (kn : K7) (hn : ∀ g w, kn (g 3) (g 4) (g 5) (g 8) (g 37) (g 38) (g 39) w → Q .normal g w) (h : nG kn (g 3) (g 4) (g 5) (g 8) (g 9) (g 10) (g 37) (g 38) (g 39) w) : eH pg bP (aA 1 (bI (cS 1 (aA 2 (bI (bI (aA 1 (cS 1 (aA 1 (aA 1 (aA 4 bL))))))))))) Q g w :=
  EZ _ g w (by kernel_rfl) (zJ Q g w kn hn h)
def rT (kn : K9) (iG dP dE fP t37 t38 t39 : Value) (w : World) : Prop :=
  cJ pg (hX 30 t37 t39) w fun t42 w =>
  cJ pg (eC 3 t42) w fun t43 w =>
  kn iG dP dE fP t39 t43 t37 t38 t39 w
theorem yJ (kn : K9) (hn : ∀ g w, kn (g 3) (g 4) (g 5) (g 8) (g 9) (g 10) (g 37) (g 38) (g 39) w → Q .normal g w) (h : rT kn (g 3) (g 4) (g 5) (g 8) (g 37) (g 38) (g 39) w) : eH pg bP (cS 1 (bI (cS 1 (aA 2 (bI (bI (aA 1 (cS 1 (aA 1 (aA 1 (aA 4 bL))))))))))) Q g w :=
  dV (kr := no) (l := []) (by kernel_rfl) h hn lW trivial
def rJ (kn : K7) (iG dP dE fP t37 t38 t39 : Value) (w : World) : Prop :=
  rT (fun iG dP dE fP pT DD t37 t38 t39 w => nG kn iG dP dE fP pT DD t37 t38 t39 w) iG dP dE fP t37 t38 t39 w
theorem AD (kn : K7) (hn : ∀ g w, kn (g 3) (g 4) (g 5) (g 8) (g 37) (g 38) (g 39) w → Q .normal g w) (h : rJ kn (g 3) (g 4) (g 5) (g 8) (g 37) (g 38) (g 39) w) : eH pg bP (bI (cS 1 (aA 2 (bI (bI (aA 1 (cS 1 (aA 1 (aA 1 (aA 4 bL)))))))))) Q g w :=
  eJ 1 _ g w (by kernel_rfl) (yJ (fH (fun g w => eH pg bP (aA 1 (bI (cS 1 (aA 2 (bI (bI (aA 1 (cS 1 (aA 1 (aA 1 (aA 4 bL))))))))))) Q g w) Q) g w (fun iG dP dE fP pT DD t37 t38 t39 w => nG kn iG dP dE fP pT DD t37 t38 t39 w) (fun g w h => fG (K := fun g w => eH pg bP (aA 1 (bI (cS 1 (aA 2 (bI (bI (aA 1 (cS 1 (aA 1 (aA 1 (aA 4 bL))))))))))) Q g w) (yT Q g w kn hn h)) h)
def rB (kn : K7) (iG dP dE fP t37 t38 t39 : Value) (w : World) : Prop :=
  rJ kn iG dP dE fP t37 t38 t39 w
theorem yS (kn : K7) (hn : ∀ g w, kn (g 3) (g 4) (g 5) (g 8) (g 37) (g 38) (g 39) w → Q .normal g w) (h : rB kn (g 3) (g 4) (g 5) (g 8) (g 37) (g 38) (g 39) w) : eH pg bP (cS 1 (aA 2 (bI (bI (aA 1 (cS 1 (aA 1 (aA 1 (aA 4 bL))))))))) Q g w :=
  kC 3 _ g w (by kernel_rfl) (AD (CB 3 Q) g w kn hn h)
def nJ (kn : K7) (iG dP dE fP t37 t38 t39 : Value) (w : World) : Prop :=
  rB (fun iG dP dE fP t37 t38 t39 w => pD kn iG dP dE fP t37 t38 t39 w) iG dP dE fP t37 t38 t39 w
theorem Ae (kn : K7) (hn : ∀ g w, kn (g 3) (g 4) (g 5) (g 8) (g 37) (g 38) (g 39) w → Q .normal g w) (h : nJ kn (g 3) (g 4) (g 5) (g 8) (g 37) (g 38) (g 39) w) : eH pg bP (aA 2 (bI (bI (aA 1 (cS 1 (aA 1 (aA 1 (aA 4 bL)))))))) Q g w :=
  eJ 1 _ g w (by kernel_rfl) (yS (fH (fun g w => eH pg bP (aA 1 (aA 2 (bI (bI (aA 1 (cS 1 (aA 1 (aA 1 (aA 4 bL))))))))) Q g w) Q) g w (fun iG dP dE fP t37 t38 t39 w => pD kn iG dP dE fP t37 t38 t39 w) (fun g w h => fG (K := fun g w => eH pg bP (aA 1 (aA 2 (bI (bI (aA 1 (cS 1 (aA 1 (aA 1 (aA 4 bL))))))))) Q g w) (AU Q g w kn hn h)) h)
def nC (kn : K7) (k2 : K1) (iG dP dE fP t37 t38 t39 : Value) (w : World) : Prop :=
  cJ pg (dU .lss 3 (.tmp 39) (.tmp 38) t39 t38) w fun t40 w =>
  lS t40
    (kn iG dP dE fP t37 t38 t39 w)
    (k2 dP w)
theorem As (kn : K7) (k2 : K1) (hn : ∀ g w, kn (g 3) (g 4) (g 5) (g 8) (g 37) (g 38) (g 39) w → Q .normal g w) (h2 : ∀ g w, k2 (g 4) w → Q (.exit 2) g w) (h : nC kn k2 (g 3) (g 4) (g 5) (g 8) (g 37) (g 38) (g 39) w) : eH pg bP (cS 2 (bI (bI (aA 1 (cS 1 (aA 1 (aA 1 (aA 4 bL)))))))) Q g w :=
  dV (kr := no) (l := [(2, fun g w => k2 (g 4) w)]) (by kernel_rfl) h hn lW ⟨h2, trivial⟩
def lK (kn : K7) (k2 : K1) (iG dP dE fP t37 t38 t39 : Value) (w : World) : Prop :=
  nC (fun iG dP dE fP t37 t38 t39 w => nJ kn iG dP dE fP t37 t38 t39 w) k2 iG dP dE fP t37 t38 t39 w
theorem yU (kn : K7) (k2 : K1) (hn : ∀ g w, kn (g 3) (g 4) (g 5) (g 8) (g 37) (g 38) (g 39) w → Q .normal g w) (h2 : ∀ g w, k2 (g 4) w → Q (.exit 2) g w) (h : lK kn k2 (g 3) (g 4) (g 5) (g 8) (g 37) (g 38) (g 39) w) : eH pg bP (bI (bI (aA 1 (cS 1 (aA 1 (aA 1 (aA 4 bL))))))) Q g w :=
  eJ 2 _ g w (by kernel_rfl) (As (fH (fun g w => eH pg bP (aA 2 (bI (bI (aA 1 (cS 1 (aA 1 (aA 1 (aA 4 bL)))))))) Q g w) Q) g w (fun iG dP dE fP t37 t38 t39 w => nJ kn iG dP dE fP t37 t38 t39 w) k2 (fun g w h => fG (K := fun g w => eH pg bP (aA 2 (bI (bI (aA 1 (cS 1 (aA 1 (aA 1 (aA 4 bL)))))))) Q g w) (Ae Q g w kn hn h)) h2 h)
def qT (k2 : K1) (iG dP dE fP t37 t38 t39 : Value) (w : World) : Prop :=
  iY (fun (X : (Value × Value) → K0) (t : Value × Value) (w : World) => lK (fun _ _ _ fP _ _ t39 w => X (fP, t39) w) k2 iG dP dE t.1 t37 t38 t.2 w) (fP, t39) w
theorem AE (k2 : K1) (h2 : ∀ g w, k2 (g 4) w → Q (.exit 2) g w) (h : qT k2 (g 3) (g 4) (g 5) (g 8) (g 37) (g 38) (g 39) w) : eH pg bP (bI (aA 1 (cS 1 (aA 1 (aA 1 (aA 4 bL)))))) Q g w := by
  refine kL (T := Value × Value) (fun g : gZ => (g 8, g 39)) (fun X t w => lK (fun _ _ _ fP _ _ t39 w => X (fP, t39) w) k2 (g 3) (g 4) (g 5) t.1 (g 37) (g 38) t.2 w) _ (by kernel_rfl) h (fun X g1 w1 ha hL => ?_)
  rw [← eN (s := 3) ha (by kernel_rfl)] at hL
  rw [← eN (s := 4) ha (by kernel_rfl)] at hL
  rw [← eN (s := 5) ha (by kernel_rfl)] at hL
  rw [← eN (s := 37) ha (by kernel_rfl)] at hL
  rw [← eN (s := 38) ha (by kernel_rfl)] at hL
  exact (yU (fH (fun g2 w2 => X ((fun g : gZ => (g 8, g 39)) g2) w2) Q) g1 w1 (fun _ _ _ fP _ _ t39 w => X (fP, t39) w) k2 (fun _ _ h => h) h2 hL)
def nP (kn : K1) (iG dP dE fP t37 t38 t39 : Value) (w : World) : Prop :=
  qT kn iG dP dE fP t37 t38 t39 w
theorem Ak (kn : K1) (hn : ∀ g w, kn (g 4) w → Q .normal g w) (h : nP kn (g 3) (g 4) (g 5) (g 8) (g 37) (g 38) (g 39) w) : eH pg bP (aA 1 (cS 1 (aA 1 (aA 1 (aA 4 bL))))) Q g w :=
  kC 2 _ g w (by kernel_rfl) (AE (CB 2 Q) g w kn hn h)
def rY (kn : K7) (gW iG dP dE fP : Value) (w : World) : Prop :=
  cJ pg (eB 51 gW 1) w fun t36 w =>
  cJ pg (eC 30 t36) w fun t37 w =>
  cJ pg (lR .len #[30] 3 [t37]) w fun t38 w =>
  kn iG dP dE fP t37 t38 (.int .i64 0) w
theorem zS (kn : K7) (hn : ∀ g w, kn (g 3) (g 4) (g 5) (g 8) (g 37) (g 38) (g 39) w → Q .normal g w) (h : rY kn (g 1) (g 3) (g 4) (g 5) (g 8) w) : eH pg bP (cS 1 (cS 1 (aA 1 (aA 1 (aA 4 bL))))) Q g w :=
  dV (kr := no) (l := []) (by kernel_rfl) h hn lW trivial
def qV (kn : K1) (gW iG dP dE fP : Value) (w : World) : Prop :=
  rY (fun iG dP dE fP t37 t38 t39 w => nP kn iG dP dE fP t37 t38 t39 w) gW iG dP dE fP w
theorem zW (kn : K1) (hn : ∀ g w, kn (g 4) w → Q .normal g w) (h : qV kn (g 1) (g 3) (g 4) (g 5) (g 8) w) : eH pg bP (cS 1 (aA 1 (aA 1 (aA 4 bL)))) Q g w :=
  eJ 1 _ g w (by kernel_rfl) (zS (fH (fun g w => eH pg bP (aA 1 (cS 1 (aA 1 (aA 1 (aA 4 bL))))) Q g w) Q) g w (fun iG dP dE fP t37 t38 t39 w => nP kn iG dP dE fP t37 t38 t39 w) (fun g w h => fG (K := fun g w => eH pg bP (aA 1 (cS 1 (aA 1 (aA 1 (aA 4 bL))))) Q g w) (Ak Q g w kn hn h)) h)
def nO (R : K1) (gW iG dP dE fP : Value) (w : World) : Prop :=
  qV (fun dP w => oX R dP w) gW iG dP dE fP w
theorem yR (R : K1) (hr : HR jM R Q) (h : nO R (g 1) (g 3) (g 4) (g 5) (g 8) w) : eH pg bP (aA 1 (aA 1 (aA 4 bL))) Q g w :=
  eJ 1 _ g w (by kernel_rfl) (zW (fH (fun g w => eH pg bP (aA 1 (aA 1 (aA 1 (aA 4 bL)))) Q g w) Q) g w (fun dP w => oX R dP w) (fun g w h => fG (K := fun g w => eH pg bP (aA 1 (aA 1 (aA 1 (aA 4 bL)))) Q g w) (A1 Q g w R hr h)) h)
def qX (kn : K5) (gW iG dP dE : Value) (w : World) : Prop :=
  kn gW iG dP dE (.int .i64 0) w
theorem zK (kn : K5) (hn : ∀ g w, kn (g 1) (g 3) (g 4) (g 5) (g 8) w → Q .normal g w) (h : qX kn (g 1) (g 3) (g 4) (g 5) w) : eH pg bP (cS 1 (aA 1 (aA 4 bL))) Q g w :=
  dV (kr := no) (l := []) (by kernel_rfl) h hn lW trivial
def mU (R : K1) (gW iG dP dE : Value) (w : World) : Prop :=
  qX (fun gW iG dP dE fP w => nO R gW iG dP dE fP w) gW iG dP dE w
theorem zD (R : K1) (hr : HR jM R Q) (h : mU R (g 1) (g 3) (g 4) (g 5) w) : eH pg bP (aA 1 (aA 4 bL)) Q g w :=
  eJ 1 _ g w (by kernel_rfl) (zK (fH (fun g w => eH pg bP (aA 1 (aA 1 (aA 4 bL))) Q g w) Q) g w (fun gW iG dP dE fP w => nO R gW iG dP dE fP w) (fun g w h => fG (K := fun g w => eH pg bP (aA 1 (aA 1 (aA 4 bL))) Q g w) (yR Q g w R hr h)) h)
def mT (kn : K7) (gW iG dP dE t18 t19 t20 : Value) (w : World) : Prop :=
  cJ pg (dU .add 3 (.tmp 20) (.const (.int .i64 1)) t20 (.int .i64 1)) w fun t35 w =>
  kn gW iG dP dE t18 t19 t35 w
theorem Ar (kn : K7) (hn : ∀ g w, kn (g 1) (g 3) (g 4) (g 5) (g 18) (g 19) (g 20) w → Q .normal g w) (h : mT kn (g 1) (g 3) (g 4) (g 5) (g 18) (g 19) (g 20) w) : eH pg bP (aA 3 (bI (bI (aA 1 (cS 1 (aA 4 bL)))))) Q g w :=
  dV (kr := no) (l := []) (by kernel_rfl) h hn lW trivial
def nT (kn : K7) (k0 : K4) (gW iG dP dE t18 t19 t20 : Value) (w : World) : Prop :=
  cJ pg (dU .lss 3 (.tmp 20) (.tmp 19) t20 t19) w fun t21 w =>
  lS t21
    (cJ pg (hX 30 t18 t20) w fun t23 w =>
    cJ pg (eC 3 t23) w fun t24 w =>
    cJ pg (dU .eql 3 (.tmp 25) (.const (.int .i64 (-1))) t24 (.int .i64 (-1))) w fun t26 w =>
    lS t26
      (cJ pg (dU .sub 3 (.tmp 27) (.const (.int .i64 1)) dE (.int .i64 1)) w fun t28 w =>
      cJ pg (mJ 3 5 t20) w fun t32 w =>
      cJ pg (hX 24 dP t28) w fun t33 w =>
      cJ pg (eB 32 t33 0) w fun t34 w =>
      cJ pg (eZ 5 t34 t32) w fun _u w =>
      kn gW iG dP t28 t18 t19 t20 w)
      (kn gW iG dP dE t18 t19 t20 w))
    (k0 gW iG dP dE w)
theorem AF (kn : K7) (k0 : K4) (hn : ∀ g w, kn (g 1) (g 3) (g 4) (g 5) (g 18) (g 19) (g 20) w → Q .normal g w) (h0 : ∀ g w, k0 (g 1) (g 3) (g 4) (g 5) w → Q (.exit 0) g w) (h : nT kn k0 (g 1) (g 3) (g 4) (g 5) (g 18) (g 19) (g 20) w) : eH pg bP (cS 3 (bI (bI (aA 1 (cS 1 (aA 4 bL)))))) Q g w :=
  dV (kr := no) (l := [(0, fun g w => k0 (g 1) (g 3) (g 4) (g 5) w)]) (by kernel_rfl) h hn lW ⟨h0, trivial⟩
def lF (kn : K7) (k0 : K4) (gW iG dP dE t18 t19 t20 : Value) (w : World) : Prop :=
  nT (fun gW iG dP dE t18 t19 t20 w => mT kn gW iG dP dE t18 t19 t20 w) k0 gW iG dP dE t18 t19 t20 w
theorem zX (kn : K7) (k0 : K4) (hn : ∀ g w, kn (g 1) (g 3) (g 4) (g 5) (g 18) (g 19) (g 20) w → Q .normal g w) (h0 : ∀ g w, k0 (g 1) (g 3) (g 4) (g 5) w → Q (.exit 0) g w) (h : lF kn k0 (g 1) (g 3) (g 4) (g 5) (g 18) (g 19) (g 20) w) : eH pg bP (bI (bI (aA 1 (cS 1 (aA 4 bL))))) Q g w :=
  eJ 3 _ g w (by kernel_rfl) (AF (fH (fun g w => eH pg bP (aA 3 (bI (bI (aA 1 (cS 1 (aA 4 bL)))))) Q g w) Q) g w (fun gW iG dP dE t18 t19 t20 w => mT kn gW iG dP dE t18 t19 t20 w) k0 (fun g w h => fG (K := fun g w => eH pg bP (aA 3 (bI (bI (aA 1 (cS 1 (aA 4 bL)))))) Q g w) (Ar Q g w kn hn h)) h0 h)
def rM (k0 : K4) (gW iG dP dE t18 t19 t20 : Value) (w : World) : Prop :=
  iY (fun (X : (Value × Value) → K0) (t : Value × Value) (w : World) => lF (fun _ _ _ dE _ _ t20 w => X (dE, t20) w) k0 gW iG dP t.1 t18 t19 t.2 w) (dE, t20) w
theorem Ao (k0 : K4) (h0 : ∀ g w, k0 (g 1) (g 3) (g 4) (g 5) w → Q (.exit 0) g w) (h : rM k0 (g 1) (g 3) (g 4) (g 5) (g 18) (g 19) (g 20) w) : eH pg bP (bI (aA 1 (cS 1 (aA 4 bL)))) Q g w := by
  refine kL (T := Value × Value) (fun g : gZ => (g 5, g 20)) (fun X t w => lF (fun _ _ _ dE _ _ t20 w => X (dE, t20) w) k0 (g 1) (g 3) (g 4) t.1 (g 18) (g 19) t.2 w) _ (by kernel_rfl) h (fun X g1 w1 ha hL => ?_)
  rw [← eN (s := 1) ha (by kernel_rfl)] at hL
  rw [← eN (s := 3) ha (by kernel_rfl)] at hL
  rw [← eN (s := 4) ha (by kernel_rfl)] at hL
  rw [← eN (s := 18) ha (by kernel_rfl)] at hL
  rw [← eN (s := 19) ha (by kernel_rfl)] at hL
  exact (zX (fH (fun g2 w2 => X ((fun g : gZ => (g 5, g 20)) g2) w2) Q) g1 w1 (fun _ _ _ dE _ _ t20 w => X (dE, t20) w) k0 (fun _ _ h => h) h0 hL)
def mO (kn : K4) (gW iG dP dE t18 t19 t20 : Value) (w : World) : Prop :=
  rM kn gW iG dP dE t18 t19 t20 w
theorem Ah (kn : K4) (hn : ∀ g w, kn (g 1) (g 3) (g 4) (g 5) w → Q .normal g w) (h : mO kn (g 1) (g 3) (g 4) (g 5) (g 18) (g 19) (g 20) w) : eH pg bP (aA 1 (cS 1 (aA 4 bL))) Q g w :=
  kC 0 _ g w (by kernel_rfl) (Ao (CB 0 Q) g w kn hn h)
def rF (kn : K7) (gW iG dP dE : Value) (w : World) : Prop :=
  cJ pg (eB 51 gW 1) w fun t17 w =>
  cJ pg (eC 30 t17) w fun t18 w =>
  cJ pg (lR .len #[30] 3 [t18]) w fun t19 w =>
  kn gW iG dP dE t18 t19 (.int .i64 0) w
theorem An (kn : K7) (hn : ∀ g w, kn (g 1) (g 3) (g 4) (g 5) (g 18) (g 19) (g 20) w → Q .normal g w) (h : rF kn (g 1) (g 3) (g 4) (g 5) w) : eH pg bP (cS 1 (cS 1 (aA 4 bL))) Q g w :=
  dV (kr := no) (l := []) (by kernel_rfl) h hn lW trivial
def qY (kn : K4) (gW iG dP dE : Value) (w : World) : Prop :=
  rF (fun gW iG dP dE t18 t19 t20 w => mO kn gW iG dP dE t18 t19 t20 w) gW iG dP dE w
theorem yX (kn : K4) (hn : ∀ g w, kn (g 1) (g 3) (g 4) (g 5) w → Q .normal g w) (h : qY kn (g 1) (g 3) (g 4) (g 5) w) : eH pg bP (cS 1 (aA 4 bL)) Q g w :=
  eJ 1 _ g w (by kernel_rfl) (An (fH (fun g w => eH pg bP (aA 1 (cS 1 (aA 4 bL))) Q g w) Q) g w (fun gW iG dP dE t18 t19 t20 w => mO kn gW iG dP dE t18 t19 t20 w) (fun g w h => fG (K := fun g w => eH pg bP (aA 1 (cS 1 (aA 4 bL))) Q g w) (Ah Q g w kn hn h)) h)
def nR (R : K1) (gW iG dP dE : Value) (w : World) : Prop :=
  qY (fun gW iG dP dE w => mU R gW iG dP dE w) gW iG dP dE w
theorem AB (R : K1) (hr : HR jM R Q) (h : nR R (g 1) (g 3) (g 4) (g 5) w) : eH pg bP (aA 4 bL) Q g w :=
  eJ 1 _ g w (by kernel_rfl) (yX (fH (fun g w => eH pg bP (aA 1 (aA 4 bL)) Q g w) Q) g w (fun gW iG dP dE w => mU R gW iG dP dE w) (fun g w h => fG (K := fun g w => eH pg bP (aA 1 (aA 4 bL)) Q g w) (zD Q g w R hr h)) h)
def qZ (kn : K4) (Fo : Value) (w : World) : Prop :=
  cJ pg (Dz 51 Fo) w fun gW w =>
  cJ pg (eB 51 gW 0) w fun t11 w =>
  cJ pg (eC 3 t11) w fun t12 w =>
  cJ pg (dU .shl 3 (.const (.int .i64 1)) (.tmp 12) (.int .i64 1) t12) w fun t13 w =>
  cJ pg (lQ 24 t13 t13) w fun t15 w =>
  kn gW t13 t15 t13 w
theorem AG (kn : K4) (hn : ∀ g w, kn (g 1) (g 3) (g 4) (g 5) w → Q .normal g w) (h : qZ kn (g 0) w) : eH pg bP (cS 4 bL) Q g w :=
  dV (kr := no) (l := []) (by kernel_rfl) h hn lW trivial
def rC (R : K1) (Fo : Value) (w : World) : Prop :=
  qZ (fun gW iG dP dE w => nR R gW iG dP dE w) Fo w
theorem yY (R : K1) (hr : HR jM R Q) (h : rC R (g 0) w) : eH pg bP bL Q g w :=
  eJ 4 _ g w (by kernel_rfl) (AG (fH (fun g w => eH pg bP (aA 4 bL) Q g w) Q) g w (fun gW iG dP dE w => nR R gW iG dP dE w) (fun g w h => fG (K := fun g w => eH pg bP (aA 4 bL) Q g w) (AB Q g w R hr h)) h)
def Cu (a0 : Value) (w : World) (R : K1) : Prop :=
  rC R a0 w
theorem Cb {a0 : Value} {w : World} {R : K1} (h : Cu a0 w R) : gE pg mN #[a0] w R := by
  refine fM (ann := bP) (fn := Tryd.f28) (c := bL) (args := [a0]) (rs := jM) (N := 70) TrydM.mixed (by kernel_rfl) Tryd.func28 (by kernel_rfl) (by kernel_rfl) (by kernel_rfl) (of_decide_eq_true (by kernel_rfl)) (by kernel_rfl) ?_
  exact (yY (pK pg jM R) (jV [a0]) w R (fun _ _ h => h) h)
def sF : FA := ⟨kE, fun i => .leaf ([], []) []⟩
def oJ : List ResultVar := [.tmp 2]
noncomputable def rS : Code := iW Tryd.f29
def oL (R : K1) (wV : Value) (w : World) : Prop :=
  lS (.bool false)
    (cJ pg (mJ 75 56 wV) w fun t4 w =>
    gE pg Ac #[t4] w fun t5 w =>
    R t5 w)
    (gE pg kS #[wV] w fun t7 w =>
    R t7 w)
theorem xF (R : K1) (hr : HR oJ R Q) (h : oL R (g 0) w) : eH pg sF rS Q g w :=
  dV (kn := no) (l := []) (by kernel_rfl) h lW hr trivial
def xM (a0 : Value) (w : World) (R : K1) : Prop :=
  oL R a0 w
theorem yE {a0 : Value} {w : World} {R : K1} (h : xM a0 w R) : gE pg kE #[a0] w R := by
  refine fM (ann := sF) (fn := Tryd.f29) (c := rS) (args := [a0]) (rs := oJ) (N := 8) TrydM.mixed (by kernel_rfl) Tryd.func29 (by kernel_rfl) (by kernel_rfl) (by kernel_rfl) (of_decide_eq_true (by kernel_rfl)) (by kernel_rfl) ?_
  exact (xF (pK pg oJ R) (jV [a0]) w R (fun _ _ h => h) h)
def xN : FA := ⟨sK, fun i => match Nat.beq i 4 with | true => .leaf ([], []) [(false, []), (false, []), (false, []), (false, [])] | false => match Nat.beq i 7 with | true => .leaf ([], []) [(false, []), (false, []), (false, []), (false, [])] | false => .leaf ([], []) []⟩
def uF : List ResultVar := [.tmp 2, .tmp 3, .tmp 4]
noncomputable def wN : Code := iW Tryd.f30
def uE (R : K1) (iD : Value) (w : World) : Prop :=
  cJ pg (dU .eql 3 (.tmp 7) (.const (.int .i64 0)) iD (.int .i64 0)) w fun t9 w =>
  lS t9
    (cJ pg (eC 109 (.pointer (some ⟨3, 0, none⟩))) w fun t10 w =>
    cJ pg (iJ 109) w fun H4 w =>
    cJ pg (eZ 109 H4 t10) w fun _u w =>
    cJ pg (jO 109 H4 none none none) (dr w) fun t11 w_ => w_ = (dr w) ∧
    (dr w) = (dr w) ∧
    (dr w) = (dr w) ∧
    (dr w) = (dr w) ∧
    R (.tuple #[(.int .i64 16), (.int .u32 0), t11]) (dr w))
    (cJ pg (dU .eql 3 (.tmp 7) (.const (.int .i64 2)) iD (.int .i64 2)) w fun t13 w =>
    lS t13
      (cJ pg (eC 110 (.pointer (some ⟨4, 0, none⟩))) w fun t14 w =>
      cJ pg (iJ 110) w fun Iq w =>
      cJ pg (eZ 110 Iq t14) w fun _u w =>
      cJ pg (jO 110 Iq none none none) (dr w) fun t15 w_ => w_ = (dr w) ∧
      (dr w) = (dr w) ∧
      (dr w) = (dr w) ∧
      (dr w) = (dr w) ∧
      R (.tuple #[(.int .i64 32), (.int .u32 3), t15]) (dr w))
      (R (.tuple #[(.int .i64 0), (.int .u32 0), (.slice none 0 0)]) w))
theorem BU (R : K1) (hr : HR uF R Q) (h : uE R (g 0) w) : eH pg xN wN Q g w :=
  dV (kn := no) (l := []) (by kernel_rfl) h lW hr trivial
def CY (a0 : Value) (w : World) (R : K1) : Prop :=
  uE R a0 w
theorem Cv {a0 : Value} {w : World} {R : K1} (h : CY a0 w R) : gE pg sK #[a0] w R := by
  refine fM (ann := xN) (fn := Tryd.f30) (c := wN) (args := [a0]) (rs := uF) (N := 16) TrydM.mixed (by kernel_rfl) Tryd.func30 (by kernel_rfl) (by kernel_rfl) (by kernel_rfl) (of_decide_eq_true (by kernel_rfl)) (by kernel_rfl) ?_
  exact (BU (pK pg uF R) (jV [a0]) w R (fun _ _ h => h) h)
def tR : FA := ⟨jW, fun i => .leaf ([], []) []⟩
def pN : List ResultVar := [.tmp 2]
noncomputable def sM : Code := iW Tryd.f34
def lT (R : K1) (Iv : Value) (w : World) : Prop :=
  cJ pg (dU .lss 3 (.tmp 3) (.const (.int .i64 0)) Iv (.int .i64 0)) w fun t4 w =>
  lS t4
    (R (.int .i64 1) w)
    (R Iv w)
theorem yA (R : K1) (hr : HR pN R Q) (h : lT R (g 0) w) : eH pg tR sM Q g w :=
  dV (kn := no) (l := []) (by kernel_rfl) h lW hr trivial
def uA (a0 : Value) (w : World) (R : K1) : Prop :=
  lT R a0 w
theorem Av {a0 : Value} {w : World} {R : K1} (h : uA a0 w R) : gE pg jW #[a0] w R := by
  refine fM (ann := tR) (fn := Tryd.f34) (c := sM) (args := [a0]) (rs := pN) (N := 6) TrydM.mixed (by kernel_rfl) Tryd.func34 (by kernel_rfl) (by kernel_rfl) (by kernel_rfl) (of_decide_eq_true (by kernel_rfl)) (by kernel_rfl) ?_
  exact (yA (pK pg pN R) (jV [a0]) w R (fun _ _ h => h) h)
def fT : FA := ⟨qI, fun i => .leaf ([], []) []⟩
def iM : List ResultVar := [.tmp 2]
noncomputable def fO : Code := iW Tryd.f37
def oQ (R : K1) (iE : Value) (w : World) : Prop :=
  cJ pg (dU .eql 3 (.tmp 60) (.const (.int .i64 0)) iE (.int .i64 0)) w fun t61 w =>
  R t61 w
theorem Bb (R : K1) (hr : HR iM R Q) (h : oQ R (g 3) w) : eH pg fT (aA 1 (aA 3 fO)) Q g w :=
  dV (kn := no) (l := []) (by kernel_rfl) h lW hr trivial
def kK (kn : K4) (k0 : K1) (R : K1) (iE t41 t42 t43 : Value) (w : World) : Prop :=
  cJ pg (dU .lss 3 (.tmp 43) (.tmp 42) t43 t42) w fun t44 w =>
  lS t44
    (cJ pg (hX 30 t41 t43) w fun t45 w =>
    cJ pg (eC 3 t45) w fun t46 w =>
    cJ pg (dU .lss 3 (.tmp 47) (.const (.int .i64 (-1))) t46 (.int .i64 (-1))) w fun t48 w =>
    Gd (iZ t48 false) (fun K => K t46 w) w fun t50 w =>
    Gd (iZ t48 false) (fun K => gE pg jW #[t50] w K) w fun t51 w =>
    Gd (iZ t48 false) (fun K => K iE w) w fun t52 w =>
    Gd (iZ t48 false) (fun K => cJ pg (dU .gtr 3 (.tmp 51) (.tmp 52) t51 t52) w K) w fun t53 w =>
    cJ pg (jL t48 (.bool true) t53) w fun t54 w =>
    lS t54
      (R (.bool false) w)
      (gE pg jW #[t46] w fun t57 w =>
      cJ pg (dU .sub 3 (.tmp 55) (.tmp 57) iE t57) w fun t58 w =>
      cJ pg (dU .add 3 (.tmp 43) (.const (.int .i64 1)) t43 (.int .i64 1)) w fun t59 w =>
      kn t58 t41 t42 t59 w))
    (k0 iE w)
theorem AM (kn : K4) (k0 : K1) (R : K1) (hn : ∀ g w, kn (g 3) (g 41) (g 42) (g 43) w → Q .normal g w) (h0 : ∀ g w, k0 (g 3) w → Q (.exit 0) g w) (hr : HR iM R Q) (h : kK kn k0 R (g 3) (g 41) (g 42) (g 43) w) : eH pg fT (bI (bI (aA 1 (cS 1 (aA 3 fO))))) Q g w :=
  dV (l := [(0, fun g w => k0 (g 3) w)]) (by kernel_rfl) h hn hr ⟨h0, trivial⟩
def tH (k0 : K1) (R : K1) (iE t41 t42 t43 : Value) (w : World) : Prop :=
  iY (fun (X : (Value × Value) → K0) (t : Value × Value) (w : World) => kK (fun iE _ _ t43 w => X (iE, t43) w) k0 R t.1 t41 t42 t.2 w) (iE, t43) w
theorem Be (k0 : K1) (R : K1) (h0 : ∀ g w, k0 (g 3) w → Q (.exit 0) g w) (hr : HR iM R Q) (h : tH k0 R (g 3) (g 41) (g 42) (g 43) w) : eH pg fT (bI (aA 1 (cS 1 (aA 3 fO)))) Q g w := by
  refine kL (T := Value × Value) (fun g : gZ => (g 3, g 43)) (fun X t w => kK (fun iE _ _ t43 w => X (iE, t43) w) k0 R t.1 (g 41) (g 42) t.2 w) _ (by kernel_rfl) h (fun X g1 w1 ha hL => ?_)
  rw [← eN (s := 41) ha (by kernel_rfl)] at hL
  rw [← eN (s := 42) ha (by kernel_rfl)] at hL
  exact (AM (fH (fun g2 w2 => X ((fun g : gZ => (g 3, g 43)) g2) w2) Q) g1 w1 (fun iE _ _ t43 w => X (iE, t43) w) k0 R (fun _ _ h => h) h0 hr hL)
def pI (kn : K1) (R : K1) (iE t41 t42 t43 : Value) (w : World) : Prop :=
  tH kn R iE t41 t42 t43 w
theorem Bw (kn : K1) (R : K1) (hn : ∀ g w, kn (g 3) w → Q .normal g w) (hr : HR iM R Q) (h : pI kn R (g 3) (g 41) (g 42) (g 43) w) : eH pg fT (aA 1 (cS 1 (aA 3 fO))) Q g w :=
  kC 0 _ g w (by kernel_rfl) (Be (CB 0 Q) g w kn R hn hr h)
def sY (kn : K4) (gW iE : Value) (w : World) : Prop :=
  cJ pg (eB 51 gW 1) w fun t40 w =>
  cJ pg (eC 30 t40) w fun t41 w =>
  cJ pg (lR .len #[30] 3 [t41]) w fun t42 w =>
  kn iE t41 t42 (.int .i64 0) w
theorem Bq (kn : K4) (hn : ∀ g w, kn (g 3) (g 41) (g 42) (g 43) w → Q .normal g w) (h : sY kn (g 1) (g 3) w) : eH pg fT (cS 1 (cS 1 (aA 3 fO))) Q g w :=
  dV (kr := no) (l := []) (by kernel_rfl) h hn lW trivial
def tD (kn : K1) (R : K1) (gW iE : Value) (w : World) : Prop :=
  sY (fun iE t41 t42 t43 w => pI kn R iE t41 t42 t43 w) gW iE w
theorem AL (kn : K1) (R : K1) (hn : ∀ g w, kn (g 3) w → Q .normal g w) (hr : HR iM R Q) (h : tD kn R (g 1) (g 3) w) : eH pg fT (cS 1 (aA 3 fO)) Q g w :=
  eJ 1 _ g w (by kernel_rfl) (Bq (fH (fun g w => eH pg fT (aA 1 (cS 1 (aA 3 fO))) Q g w) Q) g w (fun iE t41 t42 t43 w => pI kn R iE t41 t42 t43 w) (fun g w h => fG (K := fun g w => eH pg fT (aA 1 (cS 1 (aA 3 fO))) Q g w) (Bw Q g w kn R hn hr h)) h)
def oS (R : K1) (gW iE : Value) (w : World) : Prop :=
  tD (fun iE w => oQ R iE w) R gW iE w
theorem AV (R : K1) (hr : HR iM R Q) (h : oS R (g 1) (g 3) w) : eH pg fT (aA 3 fO) Q g w :=
  eJ 1 _ g w (by kernel_rfl) (AL (fH (fun g w => eH pg fT (aA 1 (aA 3 fO)) Q g w) Q) g w (fun iE w => oQ R iE w) R (fun g w h => fG (K := fun g w => eH pg fT (aA 1 (aA 3 fO)) Q g w) (Bb Q g w R hr h)) hr h)
def sP (kn : K2) (R : K1) (Fo : Value) (w : World) : Prop :=
  cJ pg (Dz 51 Fo) w fun gW w =>
  cJ pg (eB 51 gW 0) w fun t6 w =>
  cJ pg (eC 3 t6) w fun t7 w =>
  cJ pg (dU .lss 3 (.tmp 7) (.const (.int .i64 5)) t7 (.int .i64 5)) w fun t8 w =>
  Gd (iZ t8 false) (fun K => cJ pg (eB 51 gW 0) w K) w fun t10 w =>
  Gd (iZ t8 false) (fun K => cJ pg (eC 3 t10) w K) w fun t11 w =>
  Gd (iZ t8 false) (fun K => cJ pg (dU .gtr 3 (.tmp 11) (.const (.int .i64 15)) t11 (.int .i64 15)) w K) w fun t12 w =>
  cJ pg (jL t8 (.bool true) t12) w fun t13 w =>
  Gd (iZ t13 false) (fun K => cJ pg (eB 51 gW 1) w K) w fun t15 w =>
  Gd (iZ t13 false) (fun K => cJ pg (eC 30 t15) w K) w fun t16 w =>
  Gd (iZ t13 false) (fun K => cJ pg (lR .len #[30] 3 [t16]) w K) w fun t17 w =>
  Gd (iZ t13 false) (fun K => cJ pg (dU .lss 3 (.tmp 17) (.const (.int .i64 1)) t17 (.int .i64 1)) w K) w fun t18 w =>
  cJ pg (jL t13 (.bool true) t18) w fun t19 w =>
  Gd (iZ t19 false) (fun K => cJ pg (eB 51 gW 1) w K) w fun t21 w =>
  Gd (iZ t19 false) (fun K => cJ pg (eC 30 t21) w K) w fun t22 w =>
  Gd (iZ t19 false) (fun K => cJ pg (lR .len #[30] 3 [t22]) w K) w fun t23 w =>
  Gd (iZ t19 false) (fun K => cJ pg (dU .gtr 3 (.tmp 23) (.const (.int .i64 256)) t23 (.int .i64 256)) w K) w fun t24 w =>
  cJ pg (jL t19 (.bool true) t24) w fun t25 w =>
  Gd (iZ t25 false) (fun K => cJ pg (eB 51 gW 1) w K) w fun t27 w =>
  Gd (iZ t25 false) (fun K => cJ pg (eC 30 t27) w K) w fun t28 w =>
  Gd (iZ t25 false) (fun K => cJ pg (eB 51 gW 1) w K) w fun t29 w =>
  Gd (iZ t25 false) (fun K => cJ pg (eC 30 t29) w K) w fun t30 w =>
  Gd (iZ t25 false) (fun K => cJ pg (lR .len #[30] 3 [t30]) w K) w fun t31 w =>
  Gd (iZ t25 false) (fun K => cJ pg (dU .sub 3 (.tmp 31) (.const (.int .i64 1)) t31 (.int .i64 1)) w K) w fun t32 w =>
  Gd (iZ t25 false) (fun K => cJ pg (hX 30 t28 t32) w K) w fun t33 w =>
  Gd (iZ t25 false) (fun K => cJ pg (eC 3 t33) w K) w fun t34 w =>
  Gd (iZ t25 false) (fun K => cJ pg (dU .eql 3 (.tmp 34) (.const (.int .i64 0)) t34 (.int .i64 0)) w K) w fun t35 w =>
  cJ pg (jL t25 (.bool true) t35) w fun t36 w =>
  lS t36
    (R (.bool false) w)
    (cJ pg (eB 51 gW 0) w fun t37 w =>
    cJ pg (eC 3 t37) w fun t38 w =>
    cJ pg (dU .shl 3 (.const (.int .i64 1)) (.tmp 38) (.int .i64 1) t38) w fun t39 w =>
    kn gW t39 w)
theorem Bx (kn : K2) (R : K1) (hn : ∀ g w, kn (g 1) (g 3) w → Q .normal g w) (hr : HR iM R Q) (h : sP kn R (g 0) w) : eH pg fT (cS 3 fO) Q g w :=
  dV (l := []) (by kernel_rfl) h hn hr trivial
def sU (R : K1) (Fo : Value) (w : World) : Prop :=
  sP (fun gW iE w => oS R gW iE w) R Fo w
theorem A6 (R : K1) (hr : HR iM R Q) (h : sU R (g 0) w) : eH pg fT fO Q g w :=
  eJ 3 _ g w (by kernel_rfl) (Bx (fH (fun g w => eH pg fT (aA 3 fO) Q g w) Q) g w (fun gW iE w => oS R gW iE w) R (fun g w h => fG (K := fun g w => eH pg fT (aA 3 fO) Q g w) (AV Q g w R hr h)) hr h)
def CD (a0 : Value) (w : World) (R : K1) : Prop :=
  sU R a0 w
theorem B8 {a0 : Value} {w : World} {R : K1} (h : CD a0 w R) : gE pg qI #[a0] w R := by
  refine fM (ann := fT) (fn := Tryd.f37) (c := fO) (args := [a0]) (rs := iM) (N := 62) TrydM.mixed (by kernel_rfl) Tryd.func37 (by kernel_rfl) (by kernel_rfl) (by kernel_rfl) (of_decide_eq_true (by kernel_rfl)) (by kernel_rfl) ?_
  exact (A6 (pK pg iM R) (jV [a0]) w R (fun _ _ h => h) h)
def fE : FA := ⟨kS, fun i => .leaf ([], []) []⟩
def iQ : List ResultVar := [.tmp 2]
noncomputable def eX : Code := iW Tryd.f49
def jE (R : K1) (wV sC : Value) (w : World) : Prop :=
  cJ pg (mJ 83 5 wV) w fun t21 w =>
  cJ pg (Gw 9 (.string ⟨#[0, 1, 2, 2, 3, 3, 3, 3, 4, 4, 4, 4, 4, 4, 4, 4, 5, 5, 5, 5, 5, 5, 5, 5, 5, 5, 5, 5, 5, 5, 5, 5, 6, 6, 6, 6, 6, 6, 6, 6, 6, 6, 6, 6, 6, 6, 6, 6, 6, 6, 6, 6, 6, 6, 6, 6, 6, 6, 6, 6, 6, 6, 6, 6, 7, 7, 7, 7, 7, 7, 7, 7, 7, 7, 7, 7, 7, 7, 7, 7, 7, 7, 7, 7, 7, 7, 7, 7, 7, 7, 7, 7, 7, 7, 7, 7, 7, 7, 7, 7, 7, 7, 7, 7, 7, 7, 7, 7, 7, 7, 7, 7, 7, 7, 7, 7, 7, 7, 7, 7, 7, 7, 7, 7, 7, 7, 7, 7, 8, 8, 8, 8, 8, 8, 8, 8, 8, 8, 8, 8, 8, 8, 8, 8, 8, 8, 8, 8, 8, 8, 8, 8, 8, 8, 8, 8, 8, 8, 8, 8, 8, 8, 8, 8, 8, 8, 8, 8, 8, 8, 8, 8, 8, 8, 8, 8, 8, 8, 8, 8, 8, 8, 8, 8, 8, 8, 8, 8, 8, 8, 8, 8, 8, 8, 8, 8, 8, 8, 8, 8, 8, 8, 8, 8, 8, 8, 8, 8, 8, 8, 8, 8, 8, 8, 8, 8, 8, 8, 8, 8, 8, 8, 8, 8, 8, 8, 8, 8, 8, 8, 8, 8, 8, 8, 8, 8, 8, 8, 8, 8, 8, 8, 8, 8, 8, 8, 8, 8, 8, 8, 8, 8, 8, 8, 8, 8]⟩) t21) w fun t22 w =>
  cJ pg (mJ 5 3 t22) w fun t23 w =>
  cJ pg (dU .add 3 (.tmp 19) (.tmp 23) sC t23) w fun t24 w =>
  R t24 w
theorem vD (R : K1) (hr : HR iQ R Q) (h : jE R (g 0) (g 2) w) : eH pg fE (aA 1 (aA 1 (aA 2 eX))) Q g w :=
  dV (kn := no) (l := []) (by kernel_rfl) h lW hr trivial
def lZ (kn : K2) (wV sC : Value) (w : World) : Prop :=
  cJ pg (dU .geq 83 (.tmp 13) (.const (.int .u64 256)) wV (.int .u64 256)) w fun t14 w =>
  lS t14
    (cJ pg (dU .shr 83 (.tmp 15) (.const (.int .u64 8)) wV (.int .u64 8)) w fun t16 w =>
    cJ pg (dU .add 3 (.tmp 17) (.const (.int .i64 8)) sC (.int .i64 8)) w fun t18 w =>
    kn t16 t18 w)
    (kn wV sC w)
theorem vK (kn : K2) (hn : ∀ g w, kn (g 0) (g 2) w → Q .normal g w) (h : lZ kn (g 0) (g 2) w) : eH pg fE (cS 1 (aA 1 (aA 2 eX))) Q g w :=
  dV (kr := no) (l := []) (by kernel_rfl) h hn lW trivial
def jD (R : K1) (wV sC : Value) (w : World) : Prop :=
  lZ (fun wV sC w => jE R wV sC w) wV sC w
theorem vG (R : K1) (hr : HR iQ R Q) (h : jD R (g 0) (g 2) w) : eH pg fE (aA 1 (aA 2 eX)) Q g w :=
  eJ 1 _ g w (by kernel_rfl) (vK (fH (fun g w => eH pg fE (aA 1 (aA 1 (aA 2 eX))) Q g w) Q) g w (fun wV sC w => jE R wV sC w) (fun g w h => fG (K := fun g w => eH pg fE (aA 1 (aA 1 (aA 2 eX))) Q g w) (vD Q g w R hr h)) h)
def mF (kn : K2) (wV sC : Value) (w : World) : Prop :=
  cJ pg (dU .geq 83 (.tmp 7) (.const (.int .u64 65536)) wV (.int .u64 65536)) w fun t8 w =>
  lS t8
    (cJ pg (dU .shr 83 (.tmp 9) (.const (.int .u64 16)) wV (.int .u64 16)) w fun t10 w =>
    cJ pg (dU .add 3 (.tmp 11) (.const (.int .i64 16)) sC (.int .i64 16)) w fun t12 w =>
    kn t10 t12 w)
    (kn wV sC w)
theorem vL (kn : K2) (hn : ∀ g w, kn (g 0) (g 2) w → Q .normal g w) (h : mF kn (g 0) (g 2) w) : eH pg fE (cS 1 (aA 2 eX)) Q g w :=
  dV (kr := no) (l := []) (by kernel_rfl) h hn lW trivial
def jG (R : K1) (wV sC : Value) (w : World) : Prop :=
  mF (fun wV sC w => jD R wV sC w) wV sC w
theorem vF (R : K1) (hr : HR iQ R Q) (h : jG R (g 0) (g 2) w) : eH pg fE (aA 2 eX) Q g w :=
  eJ 1 _ g w (by kernel_rfl) (vL (fH (fun g w => eH pg fE (aA 1 (aA 2 eX)) Q g w) Q) g w (fun wV sC w => jD R wV sC w) (fun g w h => fG (K := fun g w => eH pg fE (aA 1 (aA 2 eX)) Q g w) (vG Q g w R hr h)) h)
def mH (kn : K2) (wV : Value) (w : World) : Prop :=
  cJ pg (dU .geq 83 (.tmp 3) (.const (.int .u64 4294967296)) wV (.int .u64 4294967296)) w fun t4 w =>
  lS t4
    (cJ pg (dU .shr 83 (.tmp 5) (.const (.int .u64 32)) wV (.int .u64 32)) w fun t6 w =>
    kn t6 (.int .i64 32) w)
    (kn wV (.int .i64 0) w)
theorem vQ (kn : K2) (hn : ∀ g w, kn (g 0) (g 2) w → Q .normal g w) (h : mH kn (g 0) w) : eH pg fE (cS 2 eX) Q g w :=
  dV (kr := no) (l := []) (by kernel_rfl) h hn lW trivial
def mA (R : K1) (wV : Value) (w : World) : Prop :=
  mH (fun wV sC w => jG R wV sC w) wV w
theorem vO (R : K1) (hr : HR iQ R Q) (h : mA R (g 0) w) : eH pg fE eX Q g w :=
  eJ 2 _ g w (by kernel_rfl) (vQ (fH (fun g w => eH pg fE (aA 2 eX) Q g w) Q) g w (fun wV sC w => jG R wV sC w) (fun g w h => fG (K := fun g w => eH pg fE (aA 2 eX) Q g w) (vF Q g w R hr h)) h)
def uZ (a0 : Value) (w : World) (R : K1) : Prop :=
  mA R a0 w
theorem vT {a0 : Value} {w : World} {R : K1} (h : uZ a0 w R) : gE pg kS #[a0] w R := by
  refine fM (ann := fE) (fn := Tryd.f49) (c := eX) (args := [a0]) (rs := iQ) (N := 25) TrydM.mixed (by kernel_rfl) Tryd.func49 (by kernel_rfl) (by kernel_rfl) (by kernel_rfl) (of_decide_eq_true (by kernel_rfl)) (by kernel_rfl) ?_
  exact (vO (pK pg iQ R) (jV [a0]) w R (fun _ _ h => h) h)
def oD : FA := ⟨jS, fun i => .leaf ([], []) []⟩
def lB : List ResultVar := [.tmp 2]
noncomputable def nK : Code := iW Tryd.f50
def kY (R : K1) (Ir : Value) (w : World) : Prop :=
  cJ pg (dU .eql 22 (.tmp 3) (.const (.slice none 0 0)) Ir (.slice none 0 0)) w fun t4 w =>
  lS t4
    (R (.slice none 0 0) w)
    (cJ pg (hH 22 0 []) w fun t5 w =>
    cJ pg (lR .append #[22, 22] 22 [t5, Ir]) w fun t7 w =>
    R t7 w)
theorem tS (R : K1) (hr : HR lB R Q) (h : kY R (g 0) w) : eH pg oD nK Q g w :=
  dV (kn := no) (l := []) (by kernel_rfl) h lW hr trivial
def sO (a0 : Value) (w : World) (R : K1) : Prop :=
  kY R a0 w
theorem uL {a0 : Value} {w : World} {R : K1} (h : sO a0 w R) : gE pg jS #[a0] w R := by
  refine fM (ann := oD) (fn := Tryd.f50) (c := nK) (args := [a0]) (rs := lB) (N := 8) TrydM.mixed (by kernel_rfl) Tryd.func50 (by kernel_rfl) (by kernel_rfl) (by kernel_rfl) (of_decide_eq_true (by kernel_rfl)) (by kernel_rfl) ?_
  exact (tS (pK pg lB R) (jV [a0]) w R (fun _ _ h => h) h)
end Go.Proofs.YtoepfjgekpdddaaDoor
namespace Go.En
open Go
section
variable {P : Program} {w : World} {t : TypeId} {ox oy : Operand} {k : IntKind} {a b : Int}
theorem jY (s : Sem Value) : (V s).run P w = (s.run P w).andThen fun v w => .ok (.value v) w := by
  unfold V; rw [Sem.run_bind] <;> rfl
theorem Ip (s : Sem Unit) : (U s).run P w = (s.run P w).andThen fun _ w => .ok .skip w := by
  unfold U; rw [Sem.run_bind] <;> rfl
theorem fA : (dU .add t ox oy (.int k a) (.int k b)).run P w = .ok (.value (.int k (k.wrap (a + b)))) w := by
  simp [dU, tW, jY, binOp, Op.intArith]
theorem fN : (dU .sub t ox oy (.int k a) (.int k b)).run P w = .ok (.value (.int k (k.wrap (a - b)))) w := by
  simp [dU, tW, jY, binOp, Op.intArith]
theorem gM : (dU .mul t ox oy (.int k a) (.int k b)).run P w = .ok (.value (.int k (k.wrap (a * b)))) w := by
  simp [dU, tW, jY, binOp, Op.intArith]
theorem gJ (h : b ≠ 0) : (dU .quo t ox oy (.int k a) (.int k b)).run P w = .ok (.value (.int k (k.wrap (a.tdiv b)))) w := by
  simp [dU, tW, jY, binOp, Op.intDiv, h]
theorem gG (h : b ≠ 0) : (dU .rem t ox oy (.int k a) (.int k b)).run P w = .ok (.value (.int k (a.tmod b))) w := by
  simp [dU, tW, jY, binOp, Op.intDiv, h]
def GR (k : IntKind) (a b : Int) : Int := k.wrap (BitVec.ofInt k.bits a &&& BitVec.ofInt k.bits b).toNat
def Io (k : IntKind) (a b : Int) : Int := k.wrap (BitVec.ofInt k.bits a ||| BitVec.ofInt k.bits b).toNat
def Hg (k : IntKind) (a b : Int) : Int := k.wrap (BitVec.ofInt k.bits a ^^^ BitVec.ofInt k.bits b).toNat
def Fe (k : IntKind) (a b : Int) : Int := k.wrap (BitVec.ofInt k.bits a &&& ~~~BitVec.ofInt k.bits b).toNat
theorem gN : (dU .and t ox oy (.int k a) (.int k b)).run P w = .ok (.value (.int k (GR k a b))) w := by
  simp [dU, tW, jY, binOp, Op.intBits, GR]
theorem iN : (dU .or t ox oy (.int k a) (.int k b)).run P w = .ok (.value (.int k (Io k a b))) w := by
  simp [dU, tW, jY, binOp, Op.intBits, Io]
theorem gU : (dU .xor t ox oy (.int k a) (.int k b)).run P w = .ok (.value (.int k (Hg k a b))) w := by
  simp [dU, tW, jY, binOp, Op.intBits, Hg]
theorem dX : (dU .andNot t ox oy (.int k a) (.int k b)).run P w = .ok (.value (.int k (Fe k a b))) w := by
  simp [dU, tW, jY, binOp, Op.intBits, Fe]
theorem fX {k' : IntKind} (h : 0 ≤ b) : (dU .shl t ox oy (.int k a) (.int k' b)).run P w = .ok (.value (.int k (k.wrap (a * 2 ^ (min b.toNat k.bits))))) w := by
  simp [dU, tW, jY, binOp, Op.shift, Int.not_lt.2 h]
theorem fV {k' : IntKind} (h : 0 ≤ b) : (dU .shr t ox oy (.int k a) (.int k' b)).run P w = .ok (.value (.int k (a.fdiv (2 ^ (min b.toNat k.bits))))) w := by
  simp [dU, tW, jY, binOp, Op.shift, Int.not_lt.2 h]
theorem fW : (dU .eql t ox oy (.int k a) (.int k b)).run P w = .ok (.value (.bool (a == b))) w := by
  simp [dU, tW, jY, binOp, Op.intCmp, eqGuard]
theorem fL : (dU .neq t ox oy (.int k a) (.int k b)).run P w = .ok (.value (.bool (a != b))) w := by
  simp [dU, tW, jY, binOp, Op.intCmp, eqGuard]
theorem eU : (dU .lss t ox oy (.int k a) (.int k b)).run P w = .ok (.value (.bool (decide (a < b)))) w := by
  simp [dU, tW, jY, binOp, Op.intCmp]
theorem gP : (dU .leq t ox oy (.int k a) (.int k b)).run P w = .ok (.value (.bool (decide (a ≤ b)))) w := by
  simp [dU, tW, jY, binOp, Op.intCmp]
theorem fI : (dU .gtr t ox oy (.int k a) (.int k b)).run P w = .ok (.value (.bool (decide (b < a)))) w := by
  simp [dU, tW, jY, binOp, Op.intCmp]
theorem gC : (dU .geq t ox oy (.int k a) (.int k b)).run P w = .ok (.value (.bool (decide (b ≤ a)))) w := by
  simp [dU, tW, jY, binOp, Op.intCmp]
theorem gO : (He .neg (.int k a)).run P w = .ok (.value (.int k (k.wrap (0 - a)))) w := by
  simp [He, jY, Op.unary, Op.intArith]
theorem gV : (He .xor (.int k a)).run P w = .ok (.value (.int k (Hg k (if k.signed then -1 else k.max) a))) w := by
  simp [He, jY, Op.unary, Op.intBits, Hg]
theorem gI (c : Bool) : (He .not (.bool c)).run P w = .ok (.value (.bool !c)) w := by
  simp [He, jY, Op.unary]
theorem eK (c : Bool) (x y : Value) : (jL (.bool c) x y).run P w = .ok (.value (if c then x else y)) w := by
  simp [jL, asBool]
theorem Cz {x y : Value} {r : Bool} (hg : eqGuard .eql t ox oy x y = pure ()) (hb : binOp .eql t x y = (do pure (.bool (← Op.equal t x y)))) (he : (Op.equal t x y).run P w = .ok r w) :
    (dU .eql t ox oy x y).run P w = .ok (.value (.bool r)) w := by
  unfold dU
  simp only [tW, jY, hg, hb, pure_bind]
  rw [Sem.run_bind, he] <;> rfl
theorem Fh (n : Nat) (c d : Bool) (hu : P.underlying t = some .bool) : (Op.equalIn (n + 1) t (.bool c) (.bool d)).run P w = .ok (c == d) w := by
  simp only [Op.equalIn, underlying]
  simp [hu]
theorem G3 (c d : Bool) (hu : P.underlying t = some .bool) : (Op.equal t (.bool c) (.bool d)).run P w = .ok (c == d) w := Fh 9999 c d hu
theorem HH (c d : Bool) (hu : P.underlying t = some .bool) : (dU .eql t ox oy (.bool c) (.bool d)).run P w = .ok (.value (.bool (c == d))) w :=
  Cz rfl rfl (G3 c d hu)
theorem eE {n : Int} (h0 : -9223372036854775808 ≤ n) (h1 : n ≤ 9223372036854775807) : IntKind.i64.wrap n = n := by
  unfold IntKind.wrap; simp [IntKind.bits, IntKind.signed]; split <;> omega
theorem gB {n : Int} (h0 : 0 ≤ n) (h1 : n ≤ 18446744073709551615) : IntKind.u64.wrap n = n := by
  unfold IntKind.wrap; simp [IntKind.bits, IntKind.signed]; omega
theorem gQ {n : Int} (h0 : -2147483648 ≤ n) (h1 : n ≤ 2147483647) : IntKind.i32.wrap n = n := by
  unfold IntKind.wrap; simp [IntKind.bits, IntKind.signed]; split <;> omega
theorem gR {n : Int} (h0 : 0 ≤ n) (h1 : n ≤ 4294967295) : IntKind.u32.wrap n = n := by
  unfold IntKind.wrap; simp [IntKind.bits, IntKind.signed]; omega
theorem gS {n : Int} (h0 : 0 ≤ n) (h1 : n ≤ 65535) : IntKind.u16.wrap n = n := by
  unfold IntKind.wrap; simp [IntKind.bits, IntKind.signed]; omega
theorem iK {n : Int} (h0 : 0 ≤ n) (h1 : n ≤ 255) : IntKind.u8.wrap n = n := by
  unfold IntKind.wrap; simp [IntKind.bits, IntKind.signed]; omega
theorem F0 (n : Nat) {e : TypeId} (hu : P.underlying t = some (.pointer e)) (x : Option Addr) : (Op.equalIn (n + 1) t (.pointer x) (.pointer none)).run P w = .ok x.isNone w := by
  simp only [Op.equalIn, underlying]
  cases x <;> simp [hu]
theorem Hv {e : TypeId} (hu : P.underlying t = some (.pointer e)) (x : Option Addr) : (Op.equal t (.pointer x) (.pointer none)).run P w = .ok x.isNone w := F0 9999 hu x
theorem GV (m : Nat) {e : TypeId} (hu : P.underlying t = some (.slice e)) (x : Option Addr) (n c : Nat) : (Op.equalIn (m + 1) t (.slice x n c) (.slice none 0 0)).run P w = .ok x.isNone w := by
  simp only [Op.equalIn, underlying]
  cases x <;> simp [hu]
theorem Ic {e : TypeId} (hu : P.underlying t = some (.slice e)) (x : Option Addr) (n c : Nat) : (Op.equal t (.slice x n c) (.slice none 0 0)).run P w = .ok x.isNone w := GV 9999 hu x n c
theorem GA {e : TypeId} (hu : P.underlying t = some (.pointer e)) (x : Option Addr) : (dU .eql t ox oy (.pointer x) (.pointer none)).run P w = .ok (.value (.bool x.isNone)) w :=
  Cz rfl rfl (Hv hu x)
theorem GN {e : TypeId} (hu : P.underlying t = some (.slice e)) (x : Option Addr) (n c : Nat) : (dU .eql t ox oy (.slice x n c) (.slice none 0 0)).run P w = .ok (.value (.bool x.isNone)) w :=
  Cz rfl rfl (Ic hu x n c)
theorem tJ {s : TypeId} {d : TypeDesc} {kd : IntKind} (hs : P.underlying s = some d) (hu : P.underlying t = some (.int kd)) : (mJ s t (.int k a)).run P w = .ok (.value (.int kd (kd.wrap a))) w := by
  cases d <;> simp [mJ, jY, convert, underlying, hs, hu, Conv.intToInt]
theorem Bu {ty : TypeId} {e : TypeId} (hu : P.underlying t = some (.slice e)) (x : Option Addr) (n c : Nat) : (lR .len #[t] ty [.slice x n c]).run P w = .ok (.value (.int .i64 n)) w := by
  simp [lR, builtin, Builtin.len_, underlying, hu, goInt]
theorem HN {ty : TypeId} (hu : P.underlying t = some .string) (x : ByteArray) : (lR .len #[t] ty [.string x]).run P w = .ok (.value (.int .i64 x.size)) w := by
  simp [lR, builtin, Builtin.len_, underlying, hu, goInt]
theorem gT {ats : Array TypeId} {ty : TypeId} : (lR .min ats ty [.int k a, .int k b]).run P w = .ok (.value (.int k (if b < a then b else a))) w := by
  simp [lR, builtin, Builtin.min_, Builtin.min2]
theorem gL {ats : Array TypeId} {ty : TypeId} : (lR .max ats ty [.int k a, .int k b]).run P w = .ok (.value (.int k (if b > a then b else a))) w := by
  simp [lR, builtin, Builtin.max_, Builtin.max2]
theorem kT (a b : Value) : (iA (.tuple #[a, b]) 0).run P w = .ok (.value a) w := Eq.trans rfl rfl
theorem kN (a b : Value) : (iA (.tuple #[a, b]) 1).run P w = .ok (.value b) w := Eq.trans rfl rfl
theorem nX (a b c : Value) : (iA (.tuple #[a, b, c]) 0).run P w = .ok (.value a) w := Eq.trans rfl rfl
theorem oC (a b c : Value) : (iA (.tuple #[a, b, c]) 1).run P w = .ok (.value b) w := Eq.trans rfl rfl
theorem nW (a b c : Value) : (iA (.tuple #[a, b, c]) 2).run P w = .ok (.value c) w := Eq.trans rfl rfl
theorem oB (a b c d : Value) : (iA (.tuple #[a, b, c, d]) 0).run P w = .ok (.value a) w := Eq.trans rfl rfl
theorem oA (a b c d : Value) : (iA (.tuple #[a, b, c, d]) 1).run P w = .ok (.value b) w := Eq.trans rfl rfl
theorem nY (a b c d : Value) : (iA (.tuple #[a, b, c, d]) 2).run P w = .ok (.value c) w := Eq.trans rfl rfl
theorem nZ (a b c d : Value) : (iA (.tuple #[a, b, c, d]) 3).run P w = .ok (.value d) w := Eq.trans rfl rfl
theorem gA (x : Addr) : (AP (.pointer (some x))).run P w = .ok (.value (.pointer (some x))) w := Eq.trans rfl rfl
theorem iS {fs : Array Field} {f : Field} {i : Nat} {inf : TypeInfo} (hu : P.underlying t = some (.struct fs)) (hf : fs[i]? = some f)
    (hi : P.info? f.type = some inf) (hz : inf.size ≠ 0) (x : Addr) : (eB t (.pointer (some x)) i).run P w = .ok (.value (.pointer (some (x.add f.offset)))) w := by
  simp [eB, jY, Instr.fieldAt, underlying, hu, hf, Instr.sureAddr, fieldPlace, sizeOf, typeInfo, hi, hz]
theorem DX {e : TypeId} {inf : TypeInfo} (hu : P.underlying t = some (.slice e)) (hi : P.info? e = some inf) (x : Addr) (n c : Nat) (h0 : 0 ≤ a) (h1 : a < n) :
    (hX t (.slice (some x) n c) (.int k a)).run P w = .ok (.value (.pointer (some (x.add (a.toNat * inf.size))))) w := by
  simp [hX, jY, Instr.indexAt, asIntOf, underlying, hu, h0, h1, sizeOf, typeInfo, hi]
theorem Ge {e : TypeId} {len : Nat} {inf : TypeInfo} (hu : P.underlying t = some (.array len e)) (hi : P.info? e = some inf) (x : Addr) (h0 : 0 ≤ a) (h1 : a < len) :
    (hX t (.pointer (some x)) (.int k a)).run P w = .ok (.value (.pointer (some (x.add (a.toNat * inf.size))))) w := by
  simp [hX, jY, Instr.indexAt, asIntOf, underlying, hu, h0, h1, sizeOf, typeInfo, hi, Instr.sureAddr]
theorem HO (hu : P.underlying t = some .string) (x : ByteArray) (h0 : 0 ≤ a) (h1 : a.toNat < x.size) :
    (Gw t (.string x) (.int k a)).run P w = .ok (.value (.int .u8 (x[a.toNat]'h1).toNat)) w := by
  simp [Gw, jY, Instr.index, asIntOf, underlying, hu, h0, h1]
end
end Go.En
namespace Go.En
open Go
def iB (w : World) (b : Nat) (cs : List Value) : Prop :=
  ∃ T lo hi, w.heap[b]? = some (.cells cs.toArray T (lo, hi)) ∧ (cs.length ≤ lo ∨ hi = lo)
structure fS (w w' : World) (M : Nat → Prop) : Prop where
  os : w'.os = w.os
  tape : w'.tape = w.tape
  output : w'.output = w.output
  size : w.heap.size ≤ w'.heap.size
  keep : ∀ b, b < w.heap.size → ¬ M b → w'.heap[b]? = w.heap[b]?
def jI : Nat → Prop := fun _ => False
theorem fS.refl (w : World) (M : Nat → Prop) : fS w w M := ⟨rfl, rfl, rfl, Nat.le_refl _, fun _ _ _ => rfl⟩
theorem fS.mono {w w' : World} {M N : Nat → Prop} (h : fS w w' M) (hm : ∀ b, b < w.heap.size → M b → N b) : fS w w' N :=
  ⟨h.os, h.tape, h.output, h.size, fun b hb hn => h.keep b hb fun hM => hn (hm b hb hM)⟩
theorem fS.trans {a b c : World} {M N : Nat → Prop} (h : fS a b M) (k : fS b c N) (hn : ∀ x, x < a.heap.size → N x → M x) : fS a c M :=
  ⟨k.os.trans h.os, k.tape.trans h.tape, k.output.trans h.output, Nat.le_trans h.size k.size,
    fun x hx hM => (k.keep x (Nat.lt_of_lt_of_le hx h.size) fun h => hM (hn x hx h)).trans (h.keep x hx hM)⟩
theorem fS.seq {a b c : World} {M : Nat → Prop} (h : fS a b M) (k : fS b c M) : fS a c M := h.trans k fun _ _ h => h
theorem fS.new {a b c : World} {M : Nat → Prop} {x : Nat} (h : fS a b M) (k : fS b c (fun y => y = x)) (hx : a.heap.size ≤ x) : fS a c M :=
  h.trans k fun y hy e => absurd hy (by subst e; omega)
theorem fS.more {a b c : World} {M : Nat → Prop} (h : fS a b M) (k : fS b c (fun _ => False)) : fS a c M := h.trans k fun _ _ h => h.elim
theorem fS.below {w w' : World} (h : fS w w' jI) : Go.RowKit.Below w.heap.size w w' :=
  ⟨h.os, h.tape, h.output, h.size, fun k hk => h.keep k hk fun h => h⟩
theorem fS.dr (w : World) (M : Nat → Prop) : fS w (dr w) M := ⟨rfl, rfl, rfl, Nat.le_refl _, fun _ _ _ => rfl⟩
theorem fS.alloc (w : World) (o : Obj) (M : Nat → Prop) : fS w (w.alloc o) M :=
  ⟨rfl, rfl, rfl, by simp, fun b hb _ => by show (w.heap.push o)[b]? = _; rw [Array.getElem?_push, if_neg (by omega)]⟩
theorem B7 (w : World) (a : Addr) (v : Value) (b : Nat) (h : b ≠ a.block) : (w.setCell a v).heap[b]? = w.heap[b]? := Go.RowKit.Below.heap_setCell w a v b h
theorem fS.setCell (w : World) (a : Addr) (v : Value) {M : Nat → Prop} (h : a.block < w.heap.size → M a.block) : fS w (w.setCell a v) M :=
  ⟨rfl, rfl, rfl, by simp, fun b hb hM => B7 w a v b fun e => hM (e ▸ h (e ▸ hb))⟩
theorem iB.lt {w : World} {b : Nat} {cs : List Value} (h : iB w b cs) : b < w.heap.size := by
  obtain ⟨T, lo, hi, h, _⟩ := h
  rcases Nat.lt_or_ge b w.heap.size with h' | h'
  · exact h'
  · rw [Array.getElem?_eq_none h'] at h; cases h
theorem iB.ext {w w' : World} {b : Nat} {cs : List Value} {M : Nat → Prop} (h : iB w b cs) (hx : fS w w' M) (hM : ¬ M b) : iB w' b cs := by
  have := h.lt
  obtain ⟨T, lo, hi, h, k⟩ := h
  exact ⟨T, lo, hi, by rw [hx.keep b this hM]; exact h, k⟩
theorem iB.cell {w : World} {b off : Nat} {cs : List Value} (h : iB w b cs) : w.cell? ⟨b, off, none⟩ = cs[off]? := by
  obtain ⟨T, lo, hi, h, _⟩ := h
  simp [World.cell?, h]
theorem iB.free {w : World} {b off : Nat} {cs : List Value} {s : Option Nat} (h : iB w b cs) (ho : off < cs.length) : w.frozen? ⟨b, off, s⟩ = false := by
  obtain ⟨T, lo, hi, h, k⟩ := h
  simp only [World.frozen?, h]
  rcases k with k | k <;> (simp; omega)
theorem iB.setCell {w : World} {b off : Nat} {cs : List Value} (h : iB w b cs) (v : Value) : iB (w.setCell ⟨b, off, none⟩ v) b (cs.set off v) := by
  have hb := h.lt
  obtain ⟨T, lo, hi, h, k⟩ := h
  refine ⟨T, lo, hi, ?_, by simpa using k⟩
  simp only [World.setCell, Array.getElem?_modify, h]
  simp
theorem iB.alloc (w : World) (cs : List Value) (T : TypeId) : iB (w.alloc (.cells cs.toArray T)) w.heap.size cs :=
  ⟨T, 0, 0, by show (w.heap.push _)[w.heap.size]? = _; simp, .inr rfl⟩
theorem Gh {w w' : World} {M : Nat → Prop} {a : Addr} {v : Value} (h : w.cell? a = some v) (hx : fS w w' M) (hM : ¬ M a.block) : w'.cell? a = some v := by
  have hb := World.block_lt_of_cell? w a h
  have e := hx.keep _ hb hM
  unfold World.cell? at h ⊢
  rw [e]; exact h
section
variable {P : Program} {w : World} {t : TypeId}
def Fq (d : TypeDesc) : Bool := match d with | .struct _ | .array _ _ => true | _ => false
theorem xD {d : TypeDesc} (hu : P.underlying t = some d) : (isAgg t).run P w = .ok (Fq d) w := by
  cases d <;> simp [isAgg, underlying, hu, Fq]
theorem gK {i : TypeInfo} (hi : P.info? t = some i) : (sizeOf t).run P w = .ok i.size w := by simp [sizeOf, typeInfo, hi]
theorem zF {b off : Nat} {cs : List Value} (ho : iB w b cs) : ∀ (n i : Nat) (acc : Array Value), off + i + n ≤ cs.length →
    (loadCellsFrom ⟨b, off, none⟩ i n acc).run P w = .ok (acc ++ ((cs.drop (off + i)).take n).toArray) w := by
  intro n
  induction n with
  | zero => intro i acc _; simp [loadCellsFrom]
  | succ n ih =>
    intro i acc h
    have hc : w.cell? ((⟨b, off, none⟩ : Addr).add i) = some cs[off + i] := by
      unfold Addr.add
      split
      · rename_i hi; subst hi; rw [ho.cell]; simp
      · show w.cell? ⟨b, off + i, none⟩ = _; rw [ho.cell]; simp
    simp only [loadCellsFrom, Sem.run_bind, run_load, hc, Result.andThen_ok]
    rw [ih (i + 1) _ (by omega)]
    congr 1
    rw [List.drop_eq_getElem_cons (by omega : off + i < cs.length)]
    simp [Nat.add_assoc]
theorem xO {b off n : Nat} {cs : List Value} (ho : iB w b cs) (h : off + n ≤ cs.length) :
    (loadCells ⟨b, off, none⟩ n).run P w = .ok ((cs.drop off).take n).toArray w := by
  unfold loadCells
  rw [zF ho n 0 #[] (by omega)]
  simp
theorem Fc {d : TypeDesc} {i : TypeInfo} (hu : P.underlying t = some d) (hd : Fq d = true) (hi : P.info? t = some i) {b off : Nat} {cs : List Value} (ho : iB w b cs) (h : off + i.size ≤ cs.length) :
    (eC t (.pointer (some ⟨b, off, none⟩))).run P w = .ok (.value (.agg ((cs.drop off).take i.size).toArray)) w := by
  unfold eC
  rw [jY]
  simp only [Instr.loadAt, Instr.sureAddr, loadVar, pure_bind, Sem.run_bind, xD hu, hd, Result.andThen_ok, if_true, gK hi, xO ho h, Sem.run_pure]
def one (v : Value) : Bool := match v with | .agg _ | .tuple _ => false | _ => true
theorem EI {a : Addr} {v x : Value} (hv : one v = true) (hc : w.cell? a = some x) (hf : w.frozen? a = false) : (store a v).run P w = .ok () (w.setCell a v) := by
  unfold store
  cases v <;> simp [one] at hv <;> simp [Sem.run, hc, hf]
def fZ (cs : List Value) (off : Nat) : List Value → List Value
  | [] => cs
  | v :: vs => fZ (cs.set off v) (off + 1) vs
theorem qS {b : Nat} {M : Nat → Prop} (hM : M b) : ∀ (vs : List Value) (w : World) (off i : Nat) (cs : List Value), iB w b cs → off + i + vs.length ≤ cs.length → (∀ v ∈ vs, one v = true) →
    ∃ w', (storeCells ⟨b, off, none⟩ vs i).run P w = .ok () w' ∧ iB w' b (fZ cs (off + i) vs) ∧ fS w w' M ∧ w'.heap.size = w.heap.size ∧ w'.drawn = w.drawn := by
  intro vs
  induction vs with
  | nil => intro w off i cs ho _ _; exact ⟨w, by simp [storeCells], ho, fS.refl _ _, rfl, rfl⟩
  | cons v vs ih =>
    intro w off i cs ho h hv
    simp only [List.length_cons] at h
    have ha : (⟨b, off, none⟩ : Addr).add i = ⟨b, off + i, none⟩ := by
      unfold Addr.add; split
      · rename_i hi; subst hi; rfl
      · rfl
    have hlt : off + i < cs.length := by omega
    have hc : w.cell? ⟨b, off + i, none⟩ = some cs[off + i] := by rw [ho.cell]; simp
    have hs := EI (P := P) (hv v (by simp)) hc (ho.free hlt)
    obtain ⟨w', h1, h2, h3, h4, h5⟩ := ih (w.setCell ⟨b, off + i, none⟩ v) off (i + 1) (cs.set (off + i) v) (ho.setCell v) (by simp; omega) (fun x hx => hv x (List.mem_cons_of_mem _ hx))
    refine ⟨w', ?_, h2, (fS.setCell w _ v fun _ => hM).trans h3 (fun _ _ h => h), by rw [h4]; simp, by rw [h5] <;> rfl⟩
    simp only [storeCells, Sem.run_bind, ha, hs, Result.andThen_ok]
    exact h1
theorem mI {i : TypeInfo} (hi : P.info? t = some i) {b off : Nat} {cs : List Value} (ho : iB w b cs) {v : Value} (hs : v.cells.size = i.size)
    (hv : ∀ x ∈ v.cells.toList, one x = true) (h : off + i.size ≤ cs.length) {K : Value → World → Prop}
    (hk : ∀ w', iB w' b (fZ cs off v.cells.toList) → fS w w' (fun x => x = b) → w'.heap.size = w.heap.size → K undef w') : cJ P (eZ t (.pointer (some ⟨b, off, none⟩)) v) w K := by
  obtain ⟨w', h1, h2, h3, h4, _⟩ := qS (P := P) (M := fun x => x = b) rfl v.cells.toList w off 0 cs ho (by simp [hs]; omega) hv
  have : (eZ t (.pointer (some ⟨b, off, none⟩)) v).run P w = .ok .skip w' := by
    unfold eZ
    rw [Ip]
    simp only [Instr.storeAt, Instr.sureAddr, storeVar, pure_bind, Sem.run_bind, gK hi, Result.andThen_ok, hs]
    simp [h1]
  unfold cJ
  rw [this]
  exact hk w' h2 h3 h4
theorem De {v : Value} (hv : one v = true) : v.cells = #[v] := by cases v <;> simp [one] at hv <;> rfl
theorem xV {i : TypeInfo} (hi : P.info? t = some i) (h1 : i.size = 1) {b off : Nat} {cs : List Value} (ho : iB w b cs) {v : Value} (hv : one v = true) (h : off < cs.length) {K : Value → World → Prop}
    (hk : ∀ w', iB w' b (cs.set off v) → fS w w' (fun x => x = b) → w'.heap.size = w.heap.size → K undef w') : cJ P (eZ t (.pointer (some ⟨b, off, none⟩)) v) w K := by
  have e := De hv
  refine mI hi ho (by rw [e, h1] <;> rfl) (by rw [e]; simpa using hv) (by omega) fun w' a b c => hk w' ?_ b c
  rw [e] at a; exact a
def FR (c : Option Value) (w : World) (FT : Result Next) : Result Next := match c with | some v => .ok (.value v) w | none => FT
def FT (P : Program) (t : TypeId) (x : Addr) (w : World) : Result Next := (eC t (.pointer (some x))).run P w
theorem cU (v : Value) (w : World) (f : Result Next) : FR (some v) w f = .ok (.value v) w := rfl
theorem Do {d : TypeDesc} (hu : P.underlying t = some d) (hd : Fq d = false) (x : Addr) (w : World) :
    (eC t (.pointer (some x))).run P w = FR (w.cell? x) w (FT P t x w) := by
  cases h : w.cell? x with
  | none => rfl
  | some v =>
    unfold eC
    rw [jY]
    simp only [Instr.loadAt, Instr.sureAddr, loadVar, pure_bind, Sem.run_bind, xD hu, hd, Result.andThen_ok, Bool.false_eq_true, if_false, run_load, h, FR]
theorem E8 {d : TypeDesc} {i : TypeInfo} (hu : P.underlying t = some d) (hd : Fq d = true) (hi : P.info? t = some i) {b off : Nat} {cs : List Value} (ho : iB w b cs) (h : off + i.size ≤ cs.length) {K : Value → Prop}
    (hk : K (.agg ((cs.drop off).take i.size).toArray)) : yH P t (.pointer (some ⟨b, off, none⟩)) w K := by
  refine ⟨_, ?_, hk⟩
  simp only [asAddr, loadVar, pure_bind, Sem.run_bind, xD hu, hd, Result.andThen_ok, if_true, gK hi, xO ho h, Sem.run_pure]
theorem uP {v : Value} {K : Value → World → Prop} (hk : ∀ w', iB w' w.heap.size v.cells.toList → fS w w' jI → w'.heap.size = w.heap.size + 1 → K (.pointer (some ⟨w.heap.size, 0, none⟩)) w') :
    cJ P (Dz t v) w K := by
  have : (Dz t v).run P w = .ok (.value (.pointer (some ⟨w.heap.size, 0, none⟩))) (w.alloc (.cells v.cells.toList.toArray t)) := by
    unfold Dz; rw [jY]
    simp [Instr.box, newVar, newRow]
  unfold cJ
  rw [this]
  exact hk _ (iB.alloc _ _ _) (fS.alloc _ _ _) (by simp)
theorem oN {i : TypeInfo} {z : Value} (hi : P.info? t = some i) (hz : i.zero = some z) {K : Value → World → Prop}
    (hk : ∀ w', iB w' w.heap.size z.cells.toList → fS w w' jI → w'.heap.size = w.heap.size + 1 → K (.pointer (some ⟨w.heap.size, 0, none⟩)) w') :
    cJ P (iJ t) w K := by
  have : (iJ t).run P w = .ok (.value (.pointer (some ⟨w.heap.size, 0, none⟩))) (w.alloc (.cells z.cells.toList.toArray t)) := by
    unfold iJ; rw [jY]
    simp [Instr.alloc, zeroValue, typeInfo, hi, hz, newVar, newRow]
  unfold cJ
  rw [this]
  exact hk _ (iB.alloc _ _ _) (fS.alloc _ _ _) (by simp)
end
theorem wX {P : Program} {w : World} {k : IntKind} {a : Int} {y : Nat} {code : BoundsCode} (h0 : 0 ≤ a) (h1 : a ≤ y) : (Instr.sliceBound (.int k a) y code).run P w = .ok a.toNat w := by
  simp [Instr.sliceBound, asIntOf, h0, h1]
section
variable {P : Program} {w : World} {t e : TypeId} {k k' : IntKind} {lo hi : Int} {i : TypeInfo}
def oI (x : Option Addr) (m l sz : Nat) : Option Addr := if m = l then x else x.map (·.add (l * sz))
theorem Ez (hu : P.underlying t = some (.slice e)) (hi' : P.info? e = some i) (x : Option Addr) (n c : Nat) (h0 : 0 ≤ hi) (h1 : hi ≤ c) :
    (jO t (.slice x n c) none (some (.int k hi)) none).run P w = .ok (.value (.slice (oI x c 0 i.size) (hi.toNat - 0) (c - 0))) w := by
  simp only [jO, jY, Instr.sliceAt, underlying, hu, Sem.run_bind, run_program, Result.andThen_ok, Sem.run_pure, Instr.slice, Instr.sliceBounds, pure_bind, wX h0 h1, gK hi', oI]
theorem Dm (hu : P.underlying t = some (.slice e)) (hi' : P.info? e = some i) (x : Option Addr) (n c : Nat) (h0 : 0 ≤ lo) (h1 : lo ≤ hi) (h2 : hi ≤ c) :
    (jO t (.slice x n c) (some (.int k lo)) (some (.int k' hi)) none).run P w = .ok (.value (.slice (oI x c lo.toNat i.size) (hi.toNat - lo.toNat) (c - lo.toNat))) w := by
  have h3 : (0 : Int) ≤ hi := by omega
  have h4 : lo ≤ (hi.toNat : Int) := by omega
  simp only [jO, jY, Instr.sliceAt, underlying, hu, Sem.run_bind, run_program, Result.andThen_ok, Sem.run_pure, Instr.slice, Instr.sliceBounds, pure_bind, wX h3 h2, wX h0 h4, gK hi', oI]
def kM (a : Addr) (m l sz : Nat) : Addr := if m = l then a else a.add (l * sz)
theorem D4 {n : Nat} (hu : P.underlying t = some (.array n e)) (hi' : P.info? e = some i) (x : Addr) (h0 : 0 ≤ hi) (h1 : hi ≤ n) :
    (jO t (.pointer (some x)) none (some (.int k hi)) none).run P w = .ok (.value (.slice (some (kM x n 0 i.size)) (hi.toNat - 0) (n - 0))) w := by
  simp only [jO, jY, Instr.sliceAt, Instr.sureAddr, underlying, hu, Sem.run_bind, run_program, Result.andThen_ok, Sem.run_pure, Instr.sliceBounds, pure_bind, wX h0 h1, gK hi', kM]
theorem mM {n : Nat} (hu : P.underlying t = some (.array n e)) (hi' : P.info? e = some i) (x : Addr) :
    (jO t (.pointer (some x)) none none none).run P w = .ok (.value (.slice (some (kM x n 0 i.size)) (n - 0) (n - 0))) w := by
  simp only [jO, jY, Instr.sliceAt, Instr.sureAddr, underlying, hu, Sem.run_bind, run_program, Result.andThen_ok, Sem.run_pure, Instr.sliceBounds, pure_bind, gK hi', kM]
end
def Sl (w : World) (v : Value) (l : List Value) : Prop :=
  ∃ a n c, v = .slice a n c ∧ n = l.length ∧ n ≤ c ∧ (0 < n → ∃ b off, a = some ⟨b, off, none⟩ ∧ ∀ i, i < n → w.cell? ⟨b, off + i, none⟩ = l[i]?)
def GH (v : Value) (M : Nat → Prop) : Prop := match v with | .slice (some a) (_ + 1) _ => M a.block | _ => False
theorem Sl.ext {w w' : World} {v : Value} {l : List Value} {M : Nat → Prop} (h : Sl w v l) (hx : fS w w' M) (hM : ¬ GH v M) : Sl w' v l := by
  obtain ⟨a, n, c, rfl, hn, hc, h⟩ := h
  refine ⟨a, n, c, rfl, hn, hc, fun h0 => ?_⟩
  obtain ⟨b, off, rfl, h2⟩ := h h0
  refine ⟨b, off, rfl, fun i hi => ?_⟩
  have h1 := h2 i hi
  obtain ⟨v, hv⟩ : ∃ v, l[i]? = some v := ⟨l[i], by simp⟩
  rw [hv] at h1 ⊢
  refine Gh h1 hx ?_
  obtain ⟨m, rfl⟩ : ∃ m, n = m + 1 := ⟨n - 1, by omega⟩
  exact hM
theorem Sl.old {w : World} {v : Value} {l : List Value} (h : Sl w v l) : ¬ GH v (fun b => w.heap.size ≤ b) := by
  obtain ⟨a, n, c, rfl, hn, hc, h⟩ := h
  unfold GH
  split
  · rename_i x m _ e
    obtain ⟨rfl, rfl, rfl⟩ : a = some x ∧ n = m + 1 ∧ c = _ := by simpa using e
    obtain ⟨b, off, e, h2⟩ := h (by omega)
    have e := Option.some.inj e; subst e
    have h1 := h2 0 (by omega)
    obtain ⟨v, hv⟩ : ∃ v, l[0]? = some v := ⟨l[0], by simp⟩
    rw [hv] at h1
    have := World.block_lt_of_cell? _ _ h1
    simp at this ⊢; omega
  · simp
def GJ (x : UInt8) : Value := .int .u8 x.toNat
abbrev Bs (w : World) (v : Value) (l : List UInt8) : Prop := Sl w v (l.map GJ)
end Go.En
namespace Go.En
open Go
theorem sW (b o n : Nat) : (⟨b, o, none⟩ : Addr).add n = ⟨b, o + n, none⟩ := by
  unfold Addr.add; split
  · rename_i h; subst h; rfl
  · rfl
section
variable {P : Program} {w : World} {t e : TypeId} {k : IntKind} {a : Int}
theorem CZ {inf : TypeInfo} {sz : Nat} (hz : inf.size = sz) (hu : P.underlying t = some (.slice e)) (hi : P.info? e = some inf) (b o n c : Nat) (h0 : 0 ≤ a) (h1 : a < n) :
    (hX t (.slice (some ⟨b, o, none⟩) n c) (.int k a)).run P w = .ok (.value (.pointer (some ⟨b, o + a.toNat * sz, none⟩))) w := by
  rw [DX hu hi _ n c h0 h1, sW, hz]
theorem wZ {inf : TypeInfo} (hz : inf.size = 1) (hu : P.underlying t = some (.slice e)) (hi : P.info? e = some inf) (b o n c : Nat) (h0 : 0 ≤ a) (h1 : a < n) :
    (hX t (.slice (some ⟨b, o, none⟩) n c) (.int k a)).run P w = .ok (.value (.pointer (some ⟨b, o + a.toNat, none⟩))) w := by
  rw [DX hu hi _ n c h0 h1, sW, hz, Nat.mul_one]
theorem Da {inf : TypeInfo} {len : Nat} (hz : inf.size = 1) (hu : P.underlying t = some (.array len e)) (hi : P.info? e = some inf) (b o : Nat) (h0 : 0 ≤ a) (h1 : a < (len : Int)) :
    (hX t (.pointer (some ⟨b, o, none⟩)) (.int k a)).run P w = .ok (.value (.pointer (some ⟨b, o + a.toNat, none⟩))) w := by
  rw [Ge hu hi _ h0 h1, sW, hz, Nat.mul_one]
end
section
variable {P : Program} {w : World} {s d e : TypeId}
end
end Go.En
namespace Go.En
open Go
theorem FV (l : List UInt8) : ∀ x ∈ l.map GJ, one x = true := by
  intro x hx
  obtain ⟨c, _, rfl⟩ := List.mem_map.1 hx
  rfl
theorem Fy {b o m l sz : Nat} (h : l ≠ m) : kM ⟨b, o, none⟩ m l sz = ⟨b, o + l * sz, none⟩ := by
  unfold kM; rw [if_neg (fun e => h e.symm), sW]
theorem sB {b o m l : Nat} (h : l ≠ m) : kM ⟨b, o, none⟩ m l 1 = ⟨b, o + l, none⟩ := by rw [Fy h, Nat.mul_one]
theorem Sl.drop {w : World} {b o n c : Nat} {l : List Value} (h : Sl w (.slice (some ⟨b, o, none⟩) n c) l) {k : Nat} (hk : k ≤ n) :
    Sl w (.slice (oI (some ⟨b, o, none⟩) c k 1) (n - k) (c - k)) (l.drop k) := by
  obtain ⟨x, m, c', e, hm, hc, hh⟩ := h
  cases e
  refine ⟨_, _, _, rfl, by rw [List.length_drop]; omega, by omega, fun h0 => ?_⟩
  obtain ⟨b', o', e, h2⟩ := hh (by omega)
  cases e
  have hne : ¬ c = k := by omega
  refine ⟨b, o + k, by unfold oI; rw [if_neg hne, Option.map_some, sW, Nat.mul_one], fun i hi => ?_⟩
  rw [Nat.add_assoc, h2 (k + i) (by omega), List.getElem?_drop]
theorem Sl.take {w : World} {b o n c : Nat} {l : List Value} (h : Sl w (.slice (some ⟨b, o, none⟩) n c) l) {k : Nat} (hk : k ≤ n) :
    Sl w (.slice (oI (some ⟨b, o, none⟩) c 0 1) (k - 0) (c - 0)) (l.take k) := by
  obtain ⟨x, m, c', e, hm, hc, hh⟩ := h
  cases e
  refine ⟨_, _, _, rfl, by rw [List.length_take]; omega, by omega, fun h0 => ?_⟩
  obtain ⟨b', o', e, h2⟩ := hh (by omega)
  cases e
  have hne : ¬ c = 0 := by omega
  refine ⟨b, o, by unfold oI; rw [if_neg hne, Option.map_some, sW] <;> rfl, fun i hi => ?_⟩
  rw [h2 i (by omega), List.getElem?_take_of_lt (by omega)]
theorem iB.bs {w : World} {b off c : Nat} {cs : List Value} {l : List UInt8} (h : iB w b cs) (hc : l.length ≤ c) (hl : ∀ i (hi : i < l.length), cs[off + i]? = some (GJ l[i])) : Bs w (.slice (some ⟨b, off, none⟩) l.length c) l :=
  ⟨_, _, _, rfl, by simp, hc, fun _ => ⟨b, off, rfl, fun i hi => by rw [h.cell, hl i hi]; simp [hi]⟩⟩
section
variable {P : Program} {w : World} {t e : TypeId} {k : IntKind} {a : Int}
theorem DC {b off : Nat} {l : List Value} (h : ∀ i, i < l.length → w.cell? ⟨b, off + i, none⟩ = l[i]?) (n : Nat) (hn : n ≤ l.length) :
    (loadCells ⟨b, off, none⟩ n).run P w = .ok (l.take n).toArray w := by
  have key : ∀ (m i : Nat) (acc : Array Value), i + m ≤ l.length → (loadCellsFrom ⟨b, off, none⟩ i m acc).run P w = .ok (acc ++ ((l.drop i).take m).toArray) w := by
    intro m
    induction m with
    | zero => intro i acc _; simp [loadCellsFrom]
    | succ m ih =>
      intro i acc hm
      have hc := h i (by omega)
      rw [List.getElem?_eq_getElem (by omega)] at hc
      simp only [loadCellsFrom, Sem.run_bind, run_load, sW, hc, Result.andThen_ok]
      rw [ih (i + 1) _ (by omega), List.drop_eq_getElem_cons (by omega : i < l.length), List.take_succ_cons]
      simp
  unfold loadCells
  rw [key n 0 #[] (by omega)]
  simp
theorem F7 {i : TypeInfo} {z : Value} (hu : P.underlying t = some (.slice e)) (hi : P.info? e = some i) (h1 : i.size = 1) (hz : i.zero = some z) (hz1 : one z = true) {n : Int} (h0 : 0 ≤ n) (hn : i.bytes * n ≤ 2 ^ 48) (hn2 : n ≤ 9223372036854775807)
    {K : Value → World → Prop}
    (hk : ∀ w', iB w' w.heap.size (List.replicate n.toNat z) → fS w w' jI → w'.heap.size = w.heap.size + 1 → K (.slice (some ⟨w.heap.size, 0, none⟩) n.toNat n.toNat) w') :
    cJ P (lQ t (.int k n) (.int k n)) w K := by
  have hw : IntKind.i64.wrap n = n := eE (by omega) hn2
  have hcells : z.cells = #[z] := De hz1
  have harr : (Array.range n.toNat).map (fun j => (#[z] : Array Value)[j % (#[z] : Array Value).size]!) = (List.replicate n.toNat z).toArray := by
    apply Array.ext
    · simp
    · intro j h1 h2; simp [Nat.mod_one]
  have hz' : (zeroValue e).run P w = .ok z w := by simp [zeroValue, typeInfo, hi, hz]
  have : (lQ t (.int k n) (.int k n)).run P w = .ok (.value (.slice (some ⟨w.heap.size, 0, none⟩) n.toNat n.toNat)) (w.alloc (.cells (List.replicate n.toNat z).toArray e)) := by
    unfold lQ
    rw [jY]
    have t1 : (decide (n < 0) || decide ((i.bytes : Int) * n > 2 ^ 48) || decide (n < 0) || decide (n > n)) = false := by
      simp only [Bool.or_eq_false_iff, decide_eq_false_iff_not]; omega
    by_cases hn0 : n.toNat = 0
    · simp only [Instr.makeSlice, underlying, typeInfo, asInt, asIntOf, pure_bind, Sem.run_bind, run_program, Result.andThen_ok, hu, hi, Sem.run_pure, hw, t1, Bool.false_eq_true, if_false, run_askRoom, gK hi, h1, Nat.mul_one, hn0, if_true, newRow, run_newObj]
      have : (Array.range 0).map (fun x => (#[] : Array Value)[x % (#[] : Array Value).size]!) = (List.replicate 0 z).toArray := by simp
      rw [this]
      rfl
    · simp only [Instr.makeSlice, underlying, typeInfo, asInt, asIntOf, pure_bind, Sem.run_bind, run_program, Result.andThen_ok, hu, hi, Sem.run_pure, hw, t1, Bool.false_eq_true, if_false, run_askRoom, gK hi, h1, Nat.mul_one, hn0, hz', hcells, newRow, run_newObj, harr]
      rfl
  unfold cJ
  rw [this]
  exact hk _ (iB.alloc _ _ _) (fS.alloc _ _ _) (by simp)
end
end Go.En
namespace Go.En
open Go
def Cl (w : World) (sz : Nat) (v : Value) (n : Nat) (l : List Value) : Prop :=
  ∃ a c, v = .slice a n c ∧ l.length = n * sz ∧ (0 < n → ∃ b off, a = some ⟨b, off, none⟩ ∧ ∀ i, i < l.length → w.cell? ⟨b, off + i, none⟩ = l[i]?)
def wW (w : World) (base sz : Nat) (v : Value) (n : Nat) (l : List Value) : Prop :=
  l.length = n * sz ∧ ((v = .slice none 0 0 ∧ n = 0) ∨
    ∃ b c rest, v = .slice (some ⟨b, 0, none⟩) n c ∧ base ≤ b ∧ iB w b (l ++ rest) ∧ (l ++ rest).length = c * sz ∧ n ≤ c)
def Ij (w : World) (S : Nat → Prop) (sz : Nat) (v : Value) (n : Nat) (l : List Value) : Prop :=
  l.length = n * sz ∧ ((v = .slice none 0 0 ∧ n = 0) ∨
    ∃ b c rest, v = .slice (some ⟨b, 0, none⟩) n c ∧ S b ∧ iB w b (l ++ rest) ∧ (l ++ rest).length = c * sz ∧ n ≤ c)
theorem Sl.cl {w : World} {v : Value} {l : List Value} (h : Sl w v l) : Cl w 1 v l.length l := by
  obtain ⟨a, n, c, rfl, rfl, hc, h⟩ := h
  exact ⟨a, c, rfl, by omega, fun h0 => h h0⟩
theorem iB.cl {w : World} {b sz n c off : Nat} {cs l : List Value} (h : iB w b cs) (hl : l.length = n * sz) (hcs : ∀ i, i < l.length → cs[off + i]? = l[i]?) : Cl w sz (.slice (some ⟨b, off, none⟩) n c) n l :=
  ⟨_, _, rfl, hl, fun _ => ⟨b, off, rfl, fun i hi => by rw [h.cell, hcs i hi]⟩⟩
theorem wW.nil (w : World) (base sz : Nat) : wW w base sz (.slice none 0 0) 0 [] := ⟨by simp, .inl ⟨rfl, rfl⟩⟩
theorem wW.ext {w w' : World} {base sz n : Nat} {v : Value} {l : List Value} {M : Nat → Prop} (h : wW w base sz v n l) (hx : fS w w' M) (hM : ∀ b, base ≤ b → ¬ M b) : wW w' base sz v n l := by
  refine ⟨h.1, ?_⟩
  rcases h.2 with h2 | ⟨b, c, rest, h1, h2, h3, h4, h5⟩
  · exact .inl h2
  · exact .inr ⟨b, c, rest, h1, h2, h3.ext hx (hM b h2), h4, h5⟩
theorem wW.cl {w : World} {base sz n : Nat} {v : Value} {l : List Value} (h : wW w base sz v n l) : Cl w sz v n l := by
  rcases h.2 with ⟨rfl, rfl⟩ | ⟨b, c, rest, rfl, h2, h3, h4, h5⟩
  · exact ⟨_, _, rfl, h.1, fun h => by omega⟩
  · refine ⟨_, _, rfl, h.1, fun _ => ⟨b, 0, rfl, fun i hi => ?_⟩⟩
    rw [h3.cell, Nat.zero_add, List.getElem?_append_left hi]
theorem wW.sl {w : World} {base n : Nat} {v : Value} {l : List Value} (h : wW w base 1 v n l) : Sl w v l := by
  have hl := h.1
  rcases h.2 with ⟨rfl, rfl⟩ | ⟨b, c, rest, rfl, h2, h3, h4, h5⟩
  · exact ⟨_, _, _, rfl, by omega, by omega, fun h => by omega⟩
  · refine ⟨_, _, _, rfl, by omega, h5, fun _ => ⟨b, 0, rfl, fun i hi => ?_⟩⟩
    rw [h3.cell, Nat.zero_add, List.getElem?_append_left (by omega)]
section
variable {P : Program} {w : World} {t e : TypeId}
theorem yO {b off : Nat} {l : List Value} (h : ∀ i, i < l.length → w.cell? ⟨b, off + i, none⟩ = l[i]?) : (loadCells ⟨b, off, none⟩ l.length).run P w = .ok l.toArray w := by
  have := DC (P := P) h l.length (Nat.le_refl _)
  rwa [List.take_length] at this
theorem lP {sz n : Nat} {v : Value} {l : List Value} (h : Cl w sz v n l) : (Builtin.firstCells sz n v).run P w = .ok l.toArray w := by
  obtain ⟨x, c, rfl, hl, hh⟩ := h
  cases x with
  | none =>
    have : n = 0 := by
      rcases Nat.eq_zero_or_pos n with h | h
      · exact h
      · obtain ⟨b, off, e, _⟩ := hh h; cases e
    subst this
    have : l = [] := List.length_eq_zero_iff.1 (by omega)
    subst this
    simp [Builtin.firstCells]
  | some x =>
    simp only [Builtin.firstCells]
    rw [← hl]
    by_cases h0 : 0 < n
    · obtain ⟨b, off, e, h2⟩ := hh h0
      have e := Option.some.inj e; subst e
      exact yO h2
    · have : n = 0 := by omega
      subst this
      have : l = [] := List.length_eq_zero_iff.1 (by omega)
      subst this
      simp [loadCells, loadCellsFrom]
theorem jB (zs : Array Value) (n : Nat) : (Builtin.zeroCells zs n).size = n * zs.size := by simp [Builtin.zeroCells]
theorem sQ (vs : List Value) : ∀ (Iz rest : List Value), vs.length ≤ rest.length → fZ (Iz ++ rest) Iz.length vs = Iz ++ vs ++ rest.drop vs.length := by
  induction vs with
  | nil => intro Iz rest _; simp [fZ]
  | cons v vs ih =>
    intro Iz rest h
    cases rest with
    | nil => simp at h
    | cons r rest =>
      have := ih (Iz ++ [v]) rest (by simpa using h)
      simp only [fZ, List.length_append, List.length_cons, List.length_nil, List.append_assoc, List.cons_append, List.nil_append] at this ⊢
      rw [List.drop_succ_cons, ← this, List.set_append_right _ _ (Nat.le_refl _), Nat.sub_self, List.set_cons_zero, Nat.zero_add]
theorem DP {S : Nat → Prop} {sz n m : Nat} {i : TypeInfo} {z : Value} {ty t2 e2 : TypeId} (hu : P.underlying t = some (.slice e)) (hu2 : P.underlying t2 = some (.slice e2)) (hi : P.info? e = some i) (hsz : i.size = sz) (hz : i.zero = some z) (hzs : z.cells.size = sz)
    {v x : Value} {l news : List Value} (h : Ij w S sz v n l) (hx : Cl w sz x m news) (hone : ∀ y ∈ news, one y = true) (hb : ∀ b, w.heap.size ≤ b → S b)
    (hn : n + m ≤ 9223372036854775807) (hbytes : (n + m) * i.bytes ≤ 140737488355328) (_hpos : i.bytes ≠ 0)
    {K : Value → World → Prop} (hk : ∀ v' w', Ij w' S sz v' (n + m) (l ++ news) → fS w w' S → K v' w') : cJ P (lR .append #[t, t2] ty [v, x]) w K := by
  have hlx : (Builtin.lenOf x).run P w = .ok m w := by
    obtain ⟨a, c, rfl, _⟩ := hx; simp [Builtin.lenOf]
  have hnl := hx.choose_spec.choose_spec.2.1
  have hfx := lP (P := P) hx
  have hmax : IntKind.i64.max = 9223372036854775807 := by decide
  have hnot : ¬ (((n + m : Nat) : Int) > IntKind.i64.max ∧ (False ∨ i.bytes = 0)) := by rw [hmax]; omega
  have hz' : ∀ w, (zeroValue e).run P w = .ok z w := fun w => by simp [zeroValue, typeInfo, hi, hz]
  have hlen := h.1
  rcases h.2 with ⟨rfl, rfl⟩ | ⟨b, c, rest, rfl, h2, h3, h4, h5⟩
  ·
    have hl0 : l = [] := List.length_eq_zero_iff.1 (by omega)
    subst hl0
    by_cases hm : m = 0
    · subst hm
      have hn0 : news = [] := List.length_eq_zero_iff.1 (by omega)
      subst hn0
      have : (lR .append #[t, t2] ty [.slice none 0 0, x]).run P w = .ok (.value (.slice none 0 0)) w := by
        unfold lR builtin
        simp only [Builtin.append_, List.getElem?_toArray, List.getElem?_cons_zero, List.getElem?_cons_succ]
        simp only [underlying, Sem.run_bind, run_program, Result.andThen_ok, hu, hu2, Sem.run_pure, gK hi, hsz, Bool.false_eq_true, if_false, hlx, Nat.le_refl, Nat.add_zero, if_true, Bool.not_false, hfx]
      unfold cJ
      rw [this]
      exact hk _ _ ⟨by simp, .inl ⟨rfl, by omega⟩⟩ (fS.refl _ _)
    · have hfit := growslice_fits (need := 0 + m) (old := 0) (bytes := i.bytes) (by omega) (by omega)
      have hfit' : ¬ (Builtin.nextslicecap (0 + m) 0 * i.bytes > 2 ^ 48) := by omega
      have hle : ¬ (0 + m ≤ 0) := by omega
      have hq : (Question.appendCap (0 + m) 0 e).forced = false := rfl
      obtain ⟨r, hr⟩ : ∃ r, (Question.appendCap (0 + m) 0 e).cut (w.tape w.drawn (.appendCap (0 + m) 0 e)) = m + r :=
        ⟨(w.tape w.drawn (.appendCap (0 + m) 0 e)) % (2 ^ 63 - (0 + m)), by simp only [Question.cut]; omega⟩
      have : (lR .append #[t, t2] ty [.slice none 0 0, x]).run P w = .ok (.value (.slice (some ⟨w.heap.size, 0, none⟩) (0 + m) (m + r))) ((dr w).alloc (.cells (news ++ (Builtin.zeroCells z.cells (m + r - (0 + m))).toList).toArray e)) := by
        have hfx' := lP (P := P) (w := dr w) hx
        unfold lR builtin
        simp only [Builtin.append_, List.getElem?_toArray, List.getElem?_cons_zero, List.getElem?_cons_succ]
        simp only [underlying, typeInfo, Sem.run_bind, run_program, Result.andThen_ok, hu, hu2, hi, Sem.run_pure, gK hi, hsz, Bool.false_eq_true, if_false, hlx, hle, Bool.not_false, if_true, hnot, hfit', run_choose, hq, hr, run_askRoom]
        change ((Sem.run P _ (dr w)).andThen _).andThen _ = _
        simp only [Sem.run_bind, hfx', run_firstCells_none, Result.andThen_ok, hz', Sem.run_pure, newRow, run_newObj]
        have e1 : (#[] ++ news.toArray ++ Builtin.zeroCells z.cells (m + r - (0 + m)) : Array Value) = (news ++ (Builtin.zeroCells z.cells (m + r - (0 + m))).toList).toArray := by
          apply Array.ext'; simp
        rw [e1]
        rfl
      unfold cJ
      rw [this]
      refine hk _ _ ⟨by simp only [List.nil_append]; rw [hnl, Nat.zero_add], .inr ⟨w.heap.size, m + r, (Builtin.zeroCells z.cells (m + r - (0 + m))).toList, by rw [Nat.zero_add], hb _ (Nat.le_refl _), iB.alloc (dr w) _ _, ?_, by omega⟩⟩ ((fS.dr w _).seq (fS.alloc _ _ _))
      simp only [List.nil_append, List.length_append, Array.length_toList, jB, hzs, hnl]
      rw [show m + r - (0 + m) = r from by omega, Nat.add_mul]
  · by_cases hc : n + m ≤ c
    ·
      have hroom : news.length ≤ rest.length := by
        rw [List.length_append, hlen] at h4
        have : (n + m) * sz ≤ c * sz := Nat.mul_le_mul_right _ hc
        rw [Nat.add_mul] at this; omega
      obtain ⟨w', s1, s2, s3, s4, _⟩ := qS (P := P) (M := S) h2 news w (n * sz) 0 (l ++ rest) h3 (by rw [List.length_append, hlen]; omega) hone
      have : (lR .append #[t, t2] ty [.slice (some ⟨b, 0, none⟩) n c, x]).run P w = .ok (.value (.slice (some ⟨b, 0, none⟩) (n + m) c)) w' := by
        unfold lR builtin
        simp only [Builtin.append_, List.getElem?_toArray, List.getElem?_cons_zero, List.getElem?_cons_succ]
        simp only [underlying, Sem.run_bind, run_program, Result.andThen_ok, hu, hu2, Sem.run_pure, gK hi, hsz, Bool.false_eq_true, if_false, hlx, hc, if_true, Bool.not_false, hfx, sW, Nat.zero_add, s1]
      unfold cJ
      rw [this]
      rw [Nat.add_zero, ← hlen, sQ _ _ _ hroom] at s2
      refine hk _ _ ⟨by rw [List.length_append, hlen, hnl, Nat.add_mul], .inr ⟨b, c, rest.drop news.length, rfl, h2, s2, ?_, hc⟩⟩ s3
      rw [← h4]; simp; omega
    ·
      have hfit := growslice_fits (need := n + m) (old := c) (bytes := i.bytes) (by omega) hbytes
      have hfit' : ¬ (Builtin.nextslicecap (n + m) c * i.bytes > 2 ^ 48) := by omega
      have hq : (Question.appendCap (n + m) c e).forced = false := rfl
      obtain ⟨r, hr⟩ : ∃ r, (Question.appendCap (n + m) c e).cut (w.tape w.drawn (.appendCap (n + m) c e)) = n + m + r :=
        ⟨(w.tape w.drawn (.appendCap (n + m) c e)) % (2 ^ 63 - (n + m)), by simp only [Question.cut]⟩
      have hold : Cl (dr w) sz (.slice (some ⟨b, 0, none⟩) n c) n l := ⟨_, _, rfl, hlen, fun _ => ⟨b, 0, rfl, fun i hi => by
        show w.cell? _ = _
        rw [h3.cell, Nat.zero_add, List.getElem?_append_left hi]⟩⟩
      have : (lR .append #[t, t2] ty [.slice (some ⟨b, 0, none⟩) n c, x]).run P w = .ok (.value (.slice (some ⟨w.heap.size, 0, none⟩) (n + m) (n + m + r))) ((dr w).alloc (.cells (l ++ news ++ (Builtin.zeroCells z.cells (n + m + r - (n + m))).toList).toArray e)) := by
        have hfx' := lP (P := P) (w := dr w) hx
        have hfo := lP (P := P) hold
        unfold lR builtin
        simp only [Builtin.append_, List.getElem?_toArray, List.getElem?_cons_zero, List.getElem?_cons_succ]
        simp only [underlying, typeInfo, Sem.run_bind, run_program, Result.andThen_ok, hu, hu2, hi, Sem.run_pure, gK hi, hsz, Bool.false_eq_true, if_false, hlx, hc, Bool.not_false, if_true, hnot, hfit', run_choose, hq, hr, run_askRoom]
        change ((Sem.run P _ (dr w)).andThen _).andThen _ = _
        simp only [Sem.run_bind, hfx', hfo, Result.andThen_ok, hz', Sem.run_pure, newRow, run_newObj]
        have e1 : (l.toArray ++ news.toArray ++ Builtin.zeroCells z.cells (n + m + r - (n + m)) : Array Value) = (l ++ news ++ (Builtin.zeroCells z.cells (n + m + r - (n + m))).toList).toArray := by
          apply Array.ext'; simp
        rw [e1]
        rfl
      unfold cJ
      rw [this]
      refine hk _ _ ⟨by rw [List.length_append, hlen, hnl, Nat.add_mul], .inr ⟨w.heap.size, n + m + r, _, rfl, hb _ (Nat.le_refl _), iB.alloc (dr w) _ _, ?_, by omega⟩⟩ ((fS.dr w _).seq (fS.alloc _ _ _))
      simp only [List.length_append, Array.length_toList, jB, hzs, hnl, hlen]
      rw [show n + m + r - (n + m) = r from by omega, Nat.add_mul, Nat.add_mul]
theorem Cf {base sz n m : Nat} {i : TypeInfo} {z : Value} {ty t2 e2 : TypeId} (hu : P.underlying t = some (.slice e)) (hu2 : P.underlying t2 = some (.slice e2)) (hi : P.info? e = some i) (hsz : i.size = sz) (hz : i.zero = some z) (hzs : z.cells.size = sz)
    {v x : Value} {l news : List Value} (h : wW w base sz v n l) (hx : Cl w sz x m news) (hone : ∀ y ∈ news, one y = true) (hb : base ≤ w.heap.size)
    (hn : n + m ≤ 9223372036854775807) (hbytes : (n + m) * i.bytes ≤ 140737488355328) (_hpos : i.bytes ≠ 0)
    {K : Value → World → Prop} (hk : ∀ v' w', wW w' base sz v' (n + m) (l ++ news) → fS w w' (fun y => base ≤ y) → K v' w') : cJ P (lR .append #[t, t2] ty [v, x]) w K :=
  DP (S := fun y => base ≤ y) hu hu2 hi hsz hz hzs h hx hone (fun _ h => Nat.le_trans hb h) hn hbytes _hpos hk
end
end Go.En
namespace Go.En
open Go
section
variable {P : Program} {w : World} {t e : TypeId}
theorem xY {i : TypeInfo} {z : Value} {n : Nat} {ps : List (Nat × Value)} {cells : Array Value} (hu : P.underlying t = some (.slice e)) (hi : P.info? e = some i) (hz : i.zero = some z)
    (h1 : ¬ n * i.size > 2 ^ 24) (h0 : ¬ n * i.size = 0) (hf : Instr.fill (fun j => some (j * i.size, i.size)) ((Array.range (n * i.size)).map (z.cells[· % z.cells.size]!)) ps = some cells)
    {K : Value → World → Prop} (hk : ∀ w', iB w' w.heap.size cells.toList → fS w w' jI → w'.heap.size = w.heap.size + 1 → K (.slice (some ⟨w.heap.size, 0, none⟩) n n) w') :
    cJ P (hH t n ps) w K := by
  have hz' : (zeroValue e).run P w = .ok z w := by simp [zeroValue, typeInfo, hi, hz]
  have : (hH t n ps).run P w = .ok (.value (.slice (some ⟨w.heap.size, 0, none⟩) n n)) (w.alloc (.cells cells.toList.toArray e)) := by
    unfold hH; rw [jY]
    simp only [Instr.buildSlice, underlying, pure_bind, Sem.run_bind, run_program, Result.andThen_ok, hu, Sem.run_pure, gK hi, h1, h0, if_false, hz', hf, newRow, run_newObj]
    rfl
  unfold cJ
  rw [this]
  exact hk _ (iB.alloc _ _ _) (fS.alloc _ _ _) (by simp)
end
end Go.En
namespace Go.En
open Go
section
variable {P : Program} {w : World} {t e : TypeId}
def HW (es : Array MapEntry) (clock : Nat) : Prop := (es.toList.map (·.born)).Pairwise (· < ·) ∧ ∀ e ∈ es.toList, e.born < clock
def Mp {κ : Type} (w : World) (m : Nat) (enc : κ → Value) (l : List (κ × Value)) : Prop :=
  ∃ es clock, w.heap[m]? = some (.map es clock) ∧ es.toList.map (fun e => (e.key, e.val)) = l.map (fun p => (enc p.1, p.2)) ∧ HW es clock ∧ (l.map (·.1)).Nodup
theorem Mp.lt {κ : Type} {m : Nat} {enc : κ → Value} {l : List (κ × Value)} (h : Mp w m enc l) : m < w.heap.size := by
  obtain ⟨es, c, h, _⟩ := h
  rcases Nat.lt_or_ge m w.heap.size with h' | h'
  · exact h'
  · rw [Array.getElem?_eq_none h'] at h; cases h
theorem Mp.ext {κ : Type} {w w' : World} {m : Nat} {enc : κ → Value} {l : List (κ × Value)} {M : Nat → Prop} (h : Mp w m enc l) (hx : fS w w' M) (hM : ¬ M m) : Mp w' m enc l := by
  have := h.lt
  obtain ⟨es, c, h, k⟩ := h
  exact ⟨es, c, by rw [hx.keep m this hM]; exact h, k⟩
theorem Mp.dr {κ : Type} {w : World} {m : Nat} {enc : κ → Value} {l : List (κ × Value)} (h : Mp w m enc l) : Mp (dr w) m enc l := h
variable {κ : Type} [DecidableEq κ] {enc : κ → Value}
theorem yM {d : TypeDesc} {i : TypeInfo} (hu : P.underlying t = some d) (hd : Fq d = true) (hi : P.info? t = some i) {b off : Nat} {l : List Value} (hl : i.size = l.length) (h : ∀ j, j < l.length → w.cell? ⟨b, off + j, none⟩ = l[j]?) :
    (eC t (.pointer (some ⟨b, off, none⟩))).run P w = .ok (.value (.agg l.toArray)) w := by
  unfold eC
  rw [jY]
  simp only [Instr.loadAt, Instr.sureAddr, loadVar, pure_bind, Sem.run_bind, xD hu, hd, Result.andThen_ok, if_true, gK hi, hl, yO h, Sem.run_pure]
end
theorem kB {w : World} {b : Nat} {cs : List Value} (h : iB w b cs) : iB (dr w) b cs := h.ext (fS.dr w jI) (fun h => h)
theorem Sl.dr {w : World} {v : Value} {l : List Value} (h : Sl w v l) : Sl (dr w) v l := h
theorem Sl.open {w : World} {v : Value} {l : List UInt8} (h : Bs w v l) (h0 : 0 < l.length) : ∃ b off c, v = .slice (some ⟨b, off, none⟩) l.length c ∧ l.length ≤ c ∧ ∀ i, (h : i < l.length) → w.cell? ⟨b, off + i, none⟩ = some (GJ l[i]) := by
  obtain ⟨a, n, c, rfl, hn, hc, h⟩ := h
  simp only [List.length_map] at hn
  subst hn
  obtain ⟨b, off, rfl, hh⟩ := h h0
  exact ⟨b, off, c, rfl, hc, fun i hi => by rw [hh i hi]; simp [hi]⟩
theorem Sl.len {w : World} {v : Value} {l : List Value} (h : Sl w v l) : ∃ a c, v = .slice a l.length c ∧ l.length ≤ c := by
  obtain ⟨a, n, c, rfl, rfl, hc, _⟩ := h
  exact ⟨a, c, rfl, hc⟩
theorem iL (v : Value) : ¬ GH v jI := by unfold GH jI; split <;> simp
end Go.En

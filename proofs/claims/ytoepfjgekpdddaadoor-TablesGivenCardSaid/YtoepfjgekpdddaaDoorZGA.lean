/- Parts of the proof of TablesGiven: merged and given short names by a program of ours. -/
import Derived.Orders
import Derived.Below
import Derived.KernelRfl
import Derived.Eval
import Derived.Laws.Sem
import Derived.Scope
import Derived.Test.YtoepfjgekpdddaaDoorRows
import Derived.Laws.IdiomStrings
namespace Go.En
open Go
abbrev hC := Nat → Value
def put (g : hC) (d : Option Tmp) (v : Value) : hC :=
  match d with
  | some d => fun i => match Nat.beq i d with | true => v | false => g i
  | none => g
def ev (g : hC) : Operand → Value
  | .tmp t => g t
  | .const v => v
  | .global b => .pointer (some ⟨b, 0, none⟩)
  | .func f => .func (.func f) #[] #[]
def I6 (P : Program) (f : FuncId) (args : Array Value) (w : World) (v : Value) (w' : World) : Prop :=
  Calls P f args w fun e w'' => e = .returned v ∧ w'' = w'
def gH (P : Program) (f : FuncId) (args : Array Value) (w : World) (R : Value → World → Prop) : Prop :=
  ∃ v w', I6 P f args w v w' ∧ R v w'
theorem gH.mono {P : Program} {f : FuncId} {args : Array Value} {w : World} {R R' : Value → World → Prop} (h : gH P f args w R)
    (hr : ∀ v w', R v w' → R' v w') : gH P f args w R' :=
  let ⟨v, w', a, b⟩ := h; ⟨v, w', a, hr _ _ b⟩
def GN (P : Program) (r : Result Next) (K : Value → World → Prop) : Prop :=
  match r with
  | .ok (.value v) w => K v w
  | .ok .skip w => K undef w
  | .ok (.enter f args) w => gH P f args w K
  | _ => False
theorem aD (P : Program) (v : Value) (w : World) (K : Value → World → Prop) : GN P (.ok (.value v) w) K = K v w := Eq.trans rfl rfl
theorem dP (P : Program) (w : World) (K : Value → World → Prop) : GN P (.ok .skip w) K = K undef w := Eq.trans rfl rfl
def cJ (P : Program) (s : Sem Next) (w : World) (K : Value → World → Prop) : Prop := GN P (s.run P w) K
def hP (P : Program) (s : Sem Next) (v : Value) (w : World) : Prop := s.run P w = .ok (.value v) w
def Gd (b : Bool) (s : (Value → World → Prop) → Prop) (w : World) (K : Value → World → Prop) : Prop :=
  match b with
  | true => s K
  | false => K undef w
def I2 (v : Value) : Option Bool := match v with | .bool b => some b | _ => none
def kE (v : Value) (want : Bool) : Bool := I2 v == some want
def mG (v : Value) (A B : Prop) : Prop :=
  match v with
  | .bool b => (match b with | true => A | false => B)
  | _ => False
def pD (ops : Array Oper) (j : Nat) : Option Tmp := (ops[j]?).bind (·.dst)
def mP (g : hC) (t : Option Tmp) (want : Bool) : Bool := match t with | some t => kE (g t) want | none => false
def V (s : Sem Value) : Sem Next := do pure (.value (← s))
def U (s : Sem Unit) : Sem Next := do s; pure .skip
def tJ (op : BinOp) : Bool := match op with | .eql | .neq => true | _ => false
def dY (op : BinOp) (t : TypeId) (ox oy : Operand) (x y : Value) : Sem Next :=
  match tJ op with
  | true => V (do eqGuard op t ox oy x y; binOp op t x y)
  | false => V (binOp op t x y)
def mM (b : Builtin) (ats : Array TypeId) (ty : TypeId) (args : List Value) : Sem Next := builtin b ats ty #[] args.toArray
def gJ (t : TypeId) (ps : List (Nat × Value)) : Sem Next := V (Instr.build t ps.toArray)
def hZ (t : TypeId) (n : Nat) (ps : List (Nat × Value)) : Sem Next := V (Instr.buildSlice t n ps.toArray)
def uX (g : hC) (o : Oper) : Sem Next :=
  match o.op with
  | .binOp op t x y _ => dY op t x y (ev g x) (ev g y)
  | .build t ps => gJ t (ps.toList.map fun p => (p.1, ev g p.2))
  | .buildSlice t n ps => hZ t n (ps.toList.map fun p => (p.1, ev g p.2))
  | .call c => (match c.callee with
    | .builtin b => mM b c.argTypes o.type (c.args.toList.map (ev g))
    | _ => execOp (ev g) o)
  | _ => execOp (ev g) o
def sW (P : Program) (g : hC) (o : Oper) (w : World) (K : Value → World → Prop) : Prop :=
  match o.op with
  | .move x => K (ev g x) w
  | .assign x => K (ev g x) w
  | .call c => (match c.callee with
    | .value (.func f) => gH P f (c.args.toList.map (ev g)).toArray w K
    | _ => cJ P (uX g o) w K)
  | _ => cJ P (uX g o) w K
def rZ (P : Program) (ops : Array Oper) (g : hC) (o : Oper) (w : World) (K : Value → World → Prop) : Prop :=
  match o.guard with
  | none => sW P g o w K
  | some (j, want) => Gd (mP g (pD ops j) want) (sW P g o w) w K
def Da (P : Program) (ops : Array Oper) : List Oper → hC → World → (hC → World → Prop) → Prop
  | [], g, w, K => K g w
  | o :: rest, g, w, K => rZ P ops g o w fun v w' => Da P ops rest (put g o.dst v) w' K
structure Hj where
  heavy : Bool
  o : Oper
  g : hC
  w : World
  v : Value
def IX (ops : Array Oper) (o : Oper) (g : hC) : Bool := match o.guard with | none => true | some (j, want) => mP g (pD ops j) want
def Gs (b : Bool) (p : Prop) : Prop := match b with | true => p | false => True
def yW (P : Program) (ops : Array Oper) (q : Hj) (o : Oper) (g : hC) (w' : World) (v : Value) : Prop :=
  match q.heavy with
  | true => Gs (IX ops o g) (hP P (uX g o) v q.w)
  | false => Gs (IX ops q.o q.g) (hP P (uX q.g q.o) q.v w')
def CQ (i j : Nat) : List (Nat × Nat) → Bool
  | [] => false
  | (a, b) :: r => match Nat.beq a i with
    | true => (match Nat.beq b j with | true => true | false => CQ i j r)
    | false => CQ i j r
def jU (i : Nat) : List Nat → Bool
  | [] => false
  | a :: r => match Nat.beq a i with | true => true | false => jU i r
def Ej : List Hj → Nat → Option Hj
  | [], _ => none
  | q :: _, 0 => some q
  | _ :: r, n + 1 => Ej r n
def HS (P : Program) (ops : Array Oper) (o : Oper) (g : hC) (w' : World) (v : Value) (hist : List Hj) : List Nat → Prop
  | [] => True
  | k :: ks => (match Ej hist k with
    | some q => yW P ops q o g w' v
    | none => False) ∧ HS P ops o g w' v hist ks
abbrev FL := List Nat × List (Nat × Nat)
abbrev EI := List (Bool × List Nat)
def kH (P : Program) (ops : Array Oper) : List Oper → EI → List Hj → hC → World → (hC → World → Prop) → Prop
  | [], _, _, g, w, K => K g w
  | _ :: _, [], _, _, _, _ => False
  | o :: rest, (hv, ks) :: pl, hist, g, w, K =>
    rZ P ops g o w fun v w' =>
      match hv, ks with
      | true, [] => kH P ops rest pl (⟨true, o, g, w, v⟩ :: hist) (put g o.dst v) w' K
      | true, k :: ks => HS P ops o g w' v hist (k :: ks) ∧ kH P ops rest pl (⟨true, o, g, w, v⟩ :: hist) (put g o.dst v) w' K
      | false, [] => w' = w ∧ kH P ops rest pl (⟨false, o, g, w, v⟩ :: hist) (put g o.dst v) w K
      | false, k :: ks => w' = w ∧ HS P ops o g w v hist (k :: ks) ∧ kH P ops rest pl (⟨false, o, g, w, v⟩ :: hist) (put g o.dst v) w K
def iV {α : Type} (F : (α → World → Prop) → α → World → Prop) (g : α) (w : World) : Prop :=
  ∃ I : Nat → α → World → Prop, (∃ n, I n g w) ∧ ∀ n g w, I n g w → F (fun g' w' => ∃ m, m < n ∧ I m g' w') g w
def fK (K : hC → World → Prop) (Q : Exit → hC → World → Prop) : Exit → hC → World → Prop
  | .normal, g, w => K g w
  | e, g, w => Q e g w
def Cq (id : Nat) (Q : Exit → hC → World → Prop) : Exit → hC → World → Prop
  | .exit i, g, w => (match Nat.beq i id with | true => Q .normal g w | false => Q (.exit i) g w)
  | e, g, w => Q e g w
inductive HT where
  | leaf (an : FL) (pl : EI)
  | perm (π : List Nat) (es : List (Nat × Nat)) (an : FL) (pl : EI)
  | split (a b : Nat) (x y : HT)
structure FA where
  f : FuncId
  t : Nat → HT
def lT : List Nat → Nat → Nat
  | [], _ => 0
  | a :: r, i => match Nat.beq a i with | true => 0 | false => lT r i + 1
def rE (π : List Nat) (i : Nat) : List (Nat × Nat) → List Edge
  | [] => []
  | (a, b) :: r => match Nat.beq b i with | true => ⟨lT π a, .data⟩ :: rE π i r | false => rE π i r
def rP (π : List Nat) (es : List (Nat × Nat)) (i : Nat) (o : Oper) : Oper :=
  { dst := o.dst, op := o.op, type := o.type, pos := o.pos, after := (o.after.toList.map (fun e => (⟨lT π e.on, e.ground⟩ : Edge)) ++ rE π i es).toArray,
    guard := match o.guard with | none => none | some (j, b) => some (lT π j, b) }
def Av (π : List Nat) (es : List (Nat × Nat)) (l : List Oper) : List Nat → List Oper
  | [] => []
  | i :: r => match l[i]? with | some o => rP π es i o :: Av π es l r | none => Av π es l r
def jM (π : List Nat) (es : List (Nat × Nat)) (ops : Array Oper) : Array Oper := (Av π es ops.toList π).toArray
def Hw (f : FuncId) (id : Nat) (ops : Array Oper) (a b : Nat) (w : World) : Bool :=
  Nat.ble ((Region.schedule true ops (w.tape w.drawn (.order f id))).idxOf a) ((Region.schedule true ops (w.tape w.drawn (.order f id))).idxOf b)
def IQ (b : Bool) (A B : Prop) : Prop := match b with | true => A | false => B
def EU (P : Program) (f : FuncId) (id : Nat) (ops : Array Oper) : HT → hC → World → World → (hC → World → Prop) → Prop
  | .leaf _ pl, g, _, w, K => kH P ops ops.toList pl [] g w K
  | .perm π es _ pl, g, _, w, K => kH P (jM π es ops) (jM π es ops).toList pl [] g w K
  | .split a b x y, g, w0, w, K => IQ (Hw f id ops a b w0) (EU P f id ops x g w0 w K) (EU P f id ops y g w0 w K)
def eI (P : Program) (ann : FA) : Code → (Exit → hC → World → Prop) → hC → World → Prop
  | .skip, Q, g, w => Q .normal g w
  | .region id ops draw, Q, g, w => match draw with
    | false => Da P ops ops.toList g w (Q .normal)
    | true => EU P ann.f id ops (ann.t id) g w { w with drawn := w.drawn + 1 } (Q .normal)
  | .seq x y, Q, g, w => eI P ann x (fK (fun g w => eI P ann y Q g w) Q) g w
  | .cond c x y, Q, g, w => mG (ev g c) (eI P ann x Q g w) (eI P ann y Q g w)
  | .block id c, Q, g, w => eI P ann c (Cq id Q) g w
  | .loop c, Q, g, w => iV (fun X g w => eI P ann c (fK X Q) g w) g w
  | .scope c, Q, g, w => eI P ann c Q g w
  | .label _, Q, g, w => Q .normal g w
  | .exit id, Q, g, w => Q (.exit id) g w
  | .ret, Q, g, w => Q .ret g w
  | _, _, _, _ => False
def FG (N : Nat) (o : Oper) : Bool := match o.dst with | some d => Nat.blt d N | none => true
def Gu (b : Array Nat) (i j : Nat) : Bool := (b.getD j 0).testBit i
def Cc (ops : Array Oper) (o : Oper) : List Tmp :=
  (o.op.operands.toList.filterMap fun | .tmp t => some t | _ => none) ++ (match o.guard with | some (j, _) => (pD ops j).toList | none => [])
def Gz (ops : Array Oper) (x y : Oper) : Bool :=
  (match x.dst with | some d => (Cc ops y).contains d || y.dst == some d | none => false) ||
  (match y.dst with | some d => (Cc ops x).contains d | none => false)
def EA (o : Oper) : Bool := match o.op with | .select .. => true | _ => false
def GL (o : Oper) : Bool := match o.op with | .call { callee := .value (.func _), .. } => true | _ => false
def xM (P : Program) (o : Oper) : Bool :=
  match o.op with
  | .call c => (match c.callee with
    | .value (.func f) => (match P.funcs[f]? with | some fn => fn.body.isSome && !(fn.name == "runtime.NumGoroutine") | none => false)
    | .builtin b => (match b with | .print | .println => false | _ => true)
    | _ => true)
  | _ => true
def wD (o : Oper) : Bool := match o.op with | .move _ | .assign _ => true | _ => false
def xD (ops : Array Oper) (b : Array Nat) (an : FL) (i j : Nat) (x y : Oper) : Bool :=
  Gu b i j ||
  (!Gz ops x y &&
    match jU i an.1, jU j an.1 with
    | true, true => false
    | false, false => true
    | true, false => wD y || CQ i j an.2
    | false, true => wD x || CQ i j an.2)
def ES (ops : Array Oper) (b : Array Nat) (an : FL) : Bool :=
  (List.range ops.size).all fun j => (List.range j).all fun i =>
    match ops[i]?, ops[j]? with
    | some x, some y => xD ops b an i j x y
    | _, _ => false
def DF (ops : Array Oper) : Bool :=
  (List.range ops.size).all fun i => match ops[i]? with
    | some o => o.after.all fun e => !Region.binds .any e || Nat.blt e.on i
    | none => false
def DA (ops : Array Oper) (b : Array Nat) : Bool :=
  (List.range ops.size).all fun j => (List.range ops.size).all fun i =>
    !Gu b i j || (match ops[j]? with
      | some o => o.after.any fun e => Region.binds .any e && (Nat.beq e.on i || Gu b i e.on)
      | none => false)
def CU (ops : Array Oper) (an : FL) : Bool :=
  DF ops && DA ops (Region.before ops) && ES ops (Region.before ops) an && (ops.all fun o => !EA o) &&
    (List.range ops.size).all fun i => match ops[i]? with | some o => !GL o || jU i an.1 | none => false
def C2 (n : Nat) (an : FL) (pl : EI) : Bool :=
  (List.range n).all fun i => match pl[i]? with
    | some (h, ks) => h == jU i an.1 && an.2.all fun p => !Nat.beq p.2 i || (Nat.blt p.1 i && ks.contains (i - 1 - p.1))
    | none => false
def E9 (π : List Nat) (ops : Array Oper) : Bool :=
  Nat.beq π.length ops.size && ((List.range ops.size).all fun k => match π[k]? with | some i => Nat.beq (lT π i) k && Nat.blt i ops.size | none => false) &&
    ((List.range ops.size).all fun i => match π[lT π i]? with | some j => Nat.beq j i | none => false) &&
    ((List.range ops.size).all fun i => match ops[i]? with
      | some o => (o.after.all fun e => Nat.blt e.on ops.size) && (match o.guard with | some (j, _) => Nat.blt j ops.size | none => true)
      | none => false)
def zA (P : Program) (N : Nat) (ops : Array Oper) : List (Nat × Nat) → HT → Bool
  | _, .leaf an pl => CU ops an && C2 ops.size an pl
  | path, .perm π es an pl => (es.all fun p => CQ p.1 p.2 path && Nat.blt p.1 ops.size) && E9 π ops && (jM π es ops).all (FG N) && (jM π es ops).all (xM P) &&
      CU (jM π es ops) an && C2 (jM π es ops).size an pl
  | path, .split a b x y => !Nat.beq a b && zA P N ops ((a, b) :: path) x && zA P N ops ((b, a) :: path) y
def pJ (P : Program) (N : Nat) (ann : FA) : Code → Bool
  | .skip | .exit _ | .ret | .label _ => true
  | .scope c => pJ P N ann c
  | .region id ops draw => ops.all (FG N) && ops.all (xM P) && (!draw || zA P N ops [] (ann.t id))
  | .seq x y => pJ P N ann x && pJ P N ann y
  | .cond _ x y => pJ P N ann x && pJ P N ann y
  | .block _ c => pJ P N ann c
  | .loop c => pJ P N ann c
  | _ => false
end Go.En
namespace Go.En
open Go
theorem Dh (g : hC) (d i : Nat) (v : Value) : put g (some d) v i = if i = d then v else g i := by
  unfold put
  by_cases h : i = d
  · subst h; simp
  · have : Nat.beq i d = false := by
      cases hb : Nat.beq i d
      · rfl
      · exact absurd (Nat.eq_of_beq_eq_true hb) h
    simp [this, h]
def yC (N : Nat) (g : hC) (a : Act) : Prop := a.defers = [] ∧ a.tmps.size = N ∧ ∀ i, a.tmps.getD i undef = g i
theorem yC.ev {N : Nat} {g : hC} {a : Act} (h : yC N g a) (x : Operand) : a.eval x = ev g x := by
  cases x <;> simp [Act.eval, En.ev, ← h.2.2]
theorem yC.evs {N : Nat} {g : hC} {a : Act} (h : yC N g a) : a.eval = En.ev g := funext h.ev
theorem yC.put {N : Nat} {g : hC} {a : Act} (h : yC N g a) (d : Option Tmp) (v : Value) (hd : ∀ t, d = some t → t < N) :
    yC N (put g d v) (a.put d v) := by
  cases d with
  | none => exact h
  | some t =>
    obtain ⟨h1, h2, h3⟩ := h
    have ht := hd t rfl
    refine ⟨h1, by simp [Act.put, h2], fun i => ?_⟩
    rw [Dh, ← h3 i]
    by_cases hi : i = t
    · subst hi; simp [Act.put, h2, ht]
    · have hi' : t ≠ i := fun e => hi e.symm
      simp [Act.put, hi, Array.getElem?_setIfInBounds_ne hi']
theorem yC.wanted {N : Nat} {g : hC} {a : Act} (h : yC N g a) (ops : Array Oper) (o : Oper) :
    Region.wanted o (yielded ops a.tmps) = match o.guard with | none => true | some (j, want) => mP g (pD ops j) want := by
  unfold Region.wanted
  cases o.guard with
  | none => rfl
  | some p =>
    obtain ⟨j, want⟩ := p
    simp only [yielded, mP, pD]
    cases (ops[j]?).bind (·.dst) with
    | none => simp
    | some t =>
      have h3 := h.2.2 t
      simp only [Option.bind_some, kE, I2, ← h3]
      simp only [Array.getD_eq_getD_getElem?]
      cases ht : a.tmps[t]? with
      | none => simp [undef]
      | some v => cases v <;> simp
section
variable {P : Program} {ops : Array Oper}
def Ce (P : Program) (ops : Array Oper) (g : hC) (o : Oper) (w : World) (v : Value) (w' : World) : Prop :=
  ∀ K : Value → World → Prop, K v w' → rZ P ops g o w K
theorem FE {s : Sem Next} {w : World} {K : Value → World → Prop} (h : cJ P s w K) :
    ∃ v w', (∀ K' : Value → World → Prop, K' v w' → cJ P s w K') ∧ K v w' := by
  unfold cJ at *
  generalize s.run P w = r at *
  match r, h with
  | .ok (.value v) w1, h => exact ⟨v, w1, fun _ h' => h', h⟩
  | .ok .skip w1, h => exact ⟨undef, w1, fun _ h' => h', h⟩
  | .ok (.enter f args) w1, h =>
    obtain ⟨v, w', hr, hk⟩ := h
    exact ⟨v, w', fun _ h' => ⟨v, w', hr, h'⟩, hk⟩
theorem Dy {g : hC} {o : Oper} {w : World} {K : Value → World → Prop} (h : sW P g o w K) :
    ∃ v w', (∀ K' : Value → World → Prop, K' v w' → sW P g o w K') ∧ K v w' := by
  unfold sW at *
  split at h
  · exact ⟨_, _, fun _ h' => h', h⟩
  · exact ⟨_, _, fun _ h' => h', h⟩
  · split at h
    · obtain ⟨v, w', a, b⟩ := h
      exact ⟨v, w', fun _ h' => ⟨v, w', a, h'⟩, b⟩
    · exact FE h
  · exact FE h
theorem HH (op : BinOp) (t : TypeId) (ox oy : Operand) (x y : Value) : dY op t ox oy x y = V (do eqGuard op t ox oy x y; binOp op t x y) := by
  cases op <;> simp [dY, tJ, eqGuard]
theorem G1 {g : hC} {o : Oper} (ho : xM P o = true) : uX g o = execOp (ev g) o := by
  unfold uX
  split
  · rename_i op t x y yt hx
    simp only [execOp, hx, HH, V]
  · rename_i t ps hx
    have e : (List.map (fun p : Nat × Operand => (p.1, ev g p.2)) ps.toList).toArray = ps.map (fun p => (p.1, ev g p.2)) := by obtain ⟨l⟩ := ps; simp
    simp only [execOp, hx, gJ, V, e]
  · rename_i t n ps hx
    have e : (List.map (fun p : Nat × Operand => (p.1, ev g p.2)) ps.toList).toArray = ps.map (fun p => (p.1, ev g p.2)) := by obtain ⟨l⟩ := ps; simp
    simp only [execOp, hx, hZ, V, e]
  · rename_i c hx
    split
    · rename_i b hb
      simp only [execOp, hx, resolve, hb, pure_bind, invoke, mM]
      unfold xM at ho
      simp only [hx, hb] at ho
      have e : (List.map (ev g) c.args.toList).toArray = c.args.map (ev g) := by obtain ⟨l⟩ := c.args; simp
      rw [e]
      cases b <;> first | rfl | (cases ho)
    · rfl
  · rfl
theorem Eb {f : FuncId} {fn : Func} (hf : P.funcs[f]? = some fn) (hb : fn.body.isSome = true) (hn : (fn.name == "runtime.NumGoroutine") = false)
    (args : Array Value) (w : World) : (callFunc f args).run P w = .ok (.enter f args) w := by
  unfold callFunc
  have hb' : fn.body.isNone = false := by cases h : fn.body <;> simp_all
  show Sem.run P (Sem.program fun p => _) w = _
  simp only [Sem.run]
  simp only [bind, Sem.bind, hf, hn, hb', Bool.false_eq_true, if_false]
  rfl
theorem vO {g : hC} {o : Oper} {w : World} {K : Value → World → Prop} (h : rZ P ops g o w K) :
    ∃ v w', Ce P ops g o w v w' ∧ K v w' := by
  unfold Ce
  unfold rZ at *
  split at h
  · obtain ⟨v, w', h1, h2⟩ := Dy h
    exact ⟨v, w', h1, h2⟩
  · rename_i j want hg
    unfold Gd at *
    cases hb : mP g (pD ops j) want with
    | true =>
      simp only [hb] at h
      obtain ⟨v, w', h1, h2⟩ := Dy h
      exact ⟨v, w', fun K hk => h1 K hk, h2⟩
    | false =>
      simp only [hb] at h
      exact ⟨_, _, fun K hk => hk, h⟩
theorem Ch {N i : Nat} {g : hC} {a : Act} {o : Oper} {w w' : World} {v : Value} {Q : Exit → Act → World → Prop} {next : Act → World → Prop}
    (hi : ops[i]? = some o) (hc : xM P o = true) (hr : yC N g a) (hy : Ce P ops g o w v w') (hn : next (a.put o.dst v) w') : wpOp P ops Q i next a w := by
  have h := hy (fun v2 w2 => v2 = v ∧ w2 = w') ⟨rfl, rfl⟩
  unfold wpOp
  rw [hi]
  simp only [hr.wanted]
  have run : sW P g o w (fun v2 w2 => v2 = v ∧ w2 = w') → o.wp P a w next Q := by
    intro h
    have stp : cJ P (uX g o) w (fun v2 w2 => v2 = v ∧ w2 = w') → o.upon P a next Q ((execOp (ev g) o).run P w) := by
      intro h
      rw [G1 hc] at h
      unfold cJ at h
      generalize (execOp (ev g) o).run P w = r at *
      match r, h with
      | .ok (.value v) w1, h => obtain ⟨rfl, rfl⟩ := h; exact hn
      | .ok .skip w1, h => obtain ⟨rfl, rfl⟩ := h; exact hn
      | .ok (.enter f args) w1, h =>
        obtain ⟨v2, w2, hret, rfl, rfl⟩ := h
        simp only [Oper.upon_enter]
        refine Calls.mono hret ?_
        rintro e w'' ⟨rfl, rfl⟩
        exact hn
    unfold Oper.wp
    rw [hr.evs]
    unfold sW at h
    split at h
    · rename_i x hx
      obtain ⟨rfl, rfl⟩ := h
      simp only [execOp, hx]; exact hn
    · rename_i x hx
      obtain ⟨rfl, rfl⟩ := h
      simp only [execOp, hx]; exact hn
    · rename_i c hx
      split at h
      · rename_i f hcal
        obtain ⟨v2, w2, hret, rfl, rfl⟩ := h
        have e : (execOp (ev g) o).run P w = .ok (.enter f (List.map (ev g) c.args.toList).toArray) w := by
          unfold xM at hc
          simp only [hx, hcal] at hc
          cases hfn : P.funcs[f]? with
          | none => rw [hfn] at hc; cases hc
          | some fn =>
            rw [hfn] at hc
            simp only [Bool.and_eq_true, Bool.not_eq_true'] at hc
            have ea : (List.map (ev g) c.args.toList).toArray = c.args.map (ev g) := by obtain ⟨l⟩ := c.args; simp
            rw [ea]
            simp only [execOp, hx, resolve, hcal, ev, Deferred.ofValue, pure_bind, invoke]
            simp only [Array.empty_append, Array.append_empty]
            exact Eb hfn hc.1 hc.2 _ w
        rw [e]
        simp only [Oper.upon_enter]
        refine Calls.mono hret ?_
        rintro e w'' ⟨rfl, rfl⟩
        exact hn
      · exact stp h
    · exact stp h
  unfold rZ at h
  cases hg : o.guard with
  | none =>
    rw [hg] at h
    simp only [if_true]
    exact .inl (run h)
  | some p =>
    obtain ⟨j, want⟩ := p
    simp only [hg] at h
    simp only
    by_cases hb : mP g (pD ops j) want = true
    · rw [if_pos hb]
      simp only [hb, Gd] at h
      exact .inl (run h)
    · rw [if_neg hb]
      have hb' : mP g (pD ops j) want = false := by simpa using hb
      simp only [hb', Gd] at h
      obtain ⟨rfl, rfl⟩ := h
      exact hn
def CR (N : Nat) (ops : Array Oper) : Prop := ∀ (i : Nat) (o : Oper), ops[i]? = some o → ∀ t, o.dst = some t → t < N
def A8 (P : Program) (ops : Array Oper) : Prop := ∀ (i : Nat) (o : Oper), ops[i]? = some o → xM P o = true
theorem Gi {N : Nat} (hd : CR N ops) (hca : A8 P ops) {Q : Exit → Act → World → Prop} {K : hC → World → Prop}
    (hQ : ∀ g a w, yC N g a → K g w → Q .normal a w) :
    ∀ (l : List Oper) (k : Nat) (g : hC) (a : Act) (w : World), (∀ j, l[j]? = ops[k + j]?) → yC N g a → Da P ops l g w K →
      wpOps P ops Q (List.range' k l.length) a w := by
  intro l
  induction l with
  | nil => intro k g a w _ hr h; exact hQ _ _ _ hr h
  | cons o l ih =>
    intro k g a w hl hr h
    have h0 : ops[k]? = some o := by have := hl 0; simpa using this.symm
    obtain ⟨v, w', hy, hk⟩ := vO h
    rw [List.length_cons, List.range'_succ, wpOps_cons]
    refine Ch h0 (hca k o h0) hr hy ?_
    refine ih (k + 1) _ _ _ (fun j => ?_) (hr.put _ _ (hd k o h0)) hk
    have := hl (j + 1)
    simp only [List.getElem?_cons_succ] at this
    rw [this]; congr 1; omega
def B5 (an : FL) (O : Nat → Oper) (G : Nat → hC) (W : Nat → World) (V : Nat → Value) (i : Nat) : Hj :=
  ⟨jU i an.1, O i, G i, W i, V i⟩
def FC (P : Program) (ops : Array Oper) (an : FL) (O : Nat → Oper) (G : Nat → hC) (W : Nat → World) (V : Nat → Value) (i j : Nat) : Prop :=
  yW P ops (B5 an O G W V i) (O j) (G j) (W (j + 1)) (V j)
structure Gt (P : Program) (ops : Array Oper) (an : FL) (g0 : hC) (w0 : World) (n : Nat) (O : Nat → Oper) (G : Nat → hC) (W : Nat → World) (V : Nat → Value) : Prop where
  g0 : G 0 = g0
  w0 : W 0 = w0
  op : ∀ i, i < n → ops[i]? = some (O i)
  yld : ∀ i, i < n → Ce P ops (G i) (O i) (W i) (V i) (W (i + 1))
  light : ∀ i, i < n → jU i an.1 = false → W (i + 1) = W i
  env : ∀ i, i < n → G (i + 1) = put (G i) (O i).dst (V i)
  chk : ∀ i j, i < j → j < n → CQ i j an.2 = true → FC P ops an O G W V i j
theorem EM {o : Oper} {g : hC} {w' : World} {v : Value} {hist : List Hj} : ∀ {ks : List Nat}, HS P ops o g w' v hist ks → ∀ k ∈ ks, ∃ q, Ej hist k = some q ∧ yW P ops q o g w' v := by
  intro ks
  induction ks with
  | nil => intro _ k hk; cases hk
  | cons a ks ih =>
    rintro ⟨h1, h2⟩ k hk
    rcases List.mem_cons.1 hk with rfl | hk
    · cases hn : Ej hist k with
      | none => rw [hn] at h1; exact h1.elim
      | some q => rw [hn] at h1; exact ⟨q, rfl, h1⟩
    · exact ih h2 k hk
theorem F5 {n : Nat} {an : FL} {pl : EI} (h : C2 n an pl = true) {i : Nat} (hi : i < n) :
    ∃ ks, pl[i]? = some (jU i an.1, ks) ∧ ∀ j, CQ j i an.2 = true → j < i ∧ (i - 1 - j) ∈ ks := by
  have := List.all_eq_true.1 h i (List.mem_range.2 hi)
  cases hp : pl[i]? with
  | none => rw [hp] at this; cases this
  | some p =>
    obtain ⟨hv, ks⟩ := p
    rw [hp] at this
    simp only [Bool.and_eq_true] at this
    obtain ⟨h1, h2⟩ := this
    have h1 : hv = jU i an.1 := by simpa using h1
    refine ⟨ks, by rw [h1], fun j hj => ?_⟩
    have mm : ∀ (l : List (Nat × Nat)), CQ j i l = true → (j, i) ∈ l := by
      intro l
      induction l with
      | nil => intro h; cases h
      | cons q r ih =>
        obtain ⟨a, b⟩ := q
        intro h
        unfold CQ at h
        cases ha : Nat.beq a j with
        | true =>
          simp only [ha] at h
          cases hb : Nat.beq b i with
          | true =>
            obtain rfl := Nat.eq_of_beq_eq_true ha
            obtain rfl := Nat.eq_of_beq_eq_true hb
            exact List.mem_cons_self
          | false => simp only [hb] at h; exact List.mem_cons_of_mem _ (ih h)
        | false => simp only [ha] at h; exact List.mem_cons_of_mem _ (ih h)
    have := List.all_eq_true.1 h2 (j, i) (mm _ hj)
    simp only [Nat.beq_refl, Bool.not_true, Bool.false_or, Bool.and_eq_true] at this
    refine ⟨?_, by simpa using this.2⟩
    have hlt := this.1
    exact (Nat.blt_eq (x := j) (y := i)) ▸ hlt
theorem Ex {an : FL} {pl : EI} {g0 : hC} {w0 : World} {K : hC → World → Prop} (hpl : C2 ops.size an pl = true) :
    ∀ (l : List Oper) (m : Nat) (hist : List Hj) (O : Nat → Oper) (G : Nat → hC) (W : Nat → World) (V : Nat → Value),
      (∀ j, l[j]? = ops[m + j]?) → m + l.length = ops.size → Gt P ops an g0 w0 m O G W V → (∀ i, i < m → Ej hist (m - 1 - i) = some (B5 an O G W V i)) →
      kH P ops l (pl.drop m) hist (G m) (W m) K →
      ∃ (O : Nat → Oper) (G : Nat → hC) (W : Nat → World) (V : Nat → Value), Gt P ops an g0 w0 (m + l.length) O G W V ∧ K (G (m + l.length)) (W (m + l.length)) := by
  intro l
  induction l with
  | nil => intro m hist O G W V _ _ hr _ h; exact ⟨O, G, W, V, hr, by unfold kH at h; exact h⟩
  | cons o l ih =>
    intro m hist O G W V hl hlen hr hh h
    have h0 : ops[m]? = some o := by have := hl 0; simpa using this.symm
    have hmn : m < ops.size := by rw [List.length_cons] at hlen; omega
    obtain ⟨ks, hk1, hk2⟩ := F5 hpl hmn
    have hdrop : pl.drop m = (jU m an.1, ks) :: pl.drop (m + 1) := by
      have hlt : m < pl.length := by
        rcases Nat.lt_or_ge m pl.length with h | h
        · exact h
        · rw [List.getElem?_eq_none h] at hk1; cases hk1
      rw [List.drop_eq_getElem_cons hlt]
      rw [List.getElem?_eq_getElem hlt] at hk1
      rw [Option.some.inj hk1]
    rw [hdrop] at h
    obtain ⟨v, w', hy, hk⟩ := vO h
    have key : (jU m an.1 = false → w' = W m) ∧ (∀ k ∈ ks, ∃ q, Ej hist k = some q ∧ yW P ops q o (G m) w' v) ∧
        (kH P ops l (pl.drop (m + 1)) (⟨jU m an.1, o, G m, W m, v⟩ :: hist) (put (G m) o.dst v) w' K) := by
      have nil : ∀ w', ∀ k ∈ ([] : List Nat), ∃ q, Ej hist k = some q ∧ yW P ops q o (G m) w' v := fun _ k hk => (by cases hk)
      cases hm : jU m an.1 with
      | true =>
        rw [hm] at hk
        cases ks with
        | nil => exact ⟨fun e => (by cases e), nil _, hk⟩
        | cons k ks => exact ⟨fun e => (by cases e), EM hk.1, hk.2⟩
      | false =>
        rw [hm] at hk
        cases ks with
        | nil => obtain ⟨rfl, hk⟩ := hk; exact ⟨fun _ => rfl, nil _, hk⟩
        | cons k ks => obtain ⟨rfl, hc, hk⟩ := hk; exact ⟨fun _ => rfl, EM hc, hk⟩
    obtain ⟨kl, c1, c2⟩ := key
    let O' : Nat → Oper := fun i => if i = m then o else O i
    let V' : Nat → Value := fun i => if i = m then v else V i
    let G' : Nat → hC := fun i => if i = m + 1 then put (G m) o.dst v else G i
    let W' : Nat → World := fun i => if i = m + 1 then w' else W i
    have eO : ∀ i, i < m → O' i = O i := fun i hi => if_neg (by omega)
    have eV : ∀ i, i < m → V' i = V i := fun i hi => if_neg (by omega)
    have eG : ∀ i, i ≤ m → G' i = G i := fun i hi => if_neg (by omega)
    have eW : ∀ i, i ≤ m → W' i = W i := fun i hi => if_neg (by omega)
    have oO : O' m = o := if_pos rfl
    have oV : V' m = v := if_pos rfl
    have oG : G' (m + 1) = put (G m) o.dst v := if_pos rfl
    have oW : W' (m + 1) = w' := if_pos rfl
    have eR : ∀ i, i < m → B5 an O' G' W' V' i = B5 an O G W V i := fun i hi => by
      simp only [B5, eO i hi, eV i hi, eG i (by omega), eW i (by omega)]
    have hr' : Gt P ops an g0 w0 (m + 1) O' G' W' V' := by
      refine ⟨by rw [eG 0 (by omega)]; exact hr.g0, by rw [eW 0 (by omega)]; exact hr.w0, fun i hi => ?_, fun i hi => ?_, fun i hi hm => ?_, fun i hi => ?_, fun i j hij hj hm => ?_⟩
      · by_cases hi' : i = m
        · subst hi'; rw [oO]; exact h0
        · rw [eO i (by omega)]; exact hr.op i (by omega)
      · by_cases hi' : i = m
        · subst hi'; rw [oO, oV, oW, eG i (by omega), eW i (by omega)]; exact hy
        · rw [eO i (by omega), eV i (by omega), eG i (by omega), eW i (by omega), eW (i + 1) (by omega)]; exact hr.yld i (by omega)
      · by_cases hi' : i = m
        · subst hi'; rw [oW, eW i (by omega)]; exact kl hm
        · rw [eW i (by omega), eW (i + 1) (by omega)]; exact hr.light i (by omega) hm
      · by_cases hi' : i = m
        · subst hi'; rw [oO, oV, oG, eG i (by omega)]
        · rw [eO i (by omega), eV i (by omega), eG i (by omega), eG (i + 1) (by omega)]; exact hr.env i (by omega)
      · unfold FC
        by_cases hj' : j = m
        · subst hj'
          rw [eR i (by omega), oO, oV, oW, eG j (by omega)]
          obtain ⟨q, hq, hc⟩ := c1 _ (hk2 i hm).2
          rw [hh i hij] at hq
          obtain rfl := Option.some.inj hq
          exact hc
        · rw [eR i (by omega), eO j (by omega), eV j (by omega), eG j (by omega), eW (j + 1) (by omega)]
          exact hr.chk i j hij (by omega) hm
    have := ih (m + 1) (⟨jU m an.1, o, G m, W m, v⟩ :: hist) O' G' W' V' (fun j => by
        have := hl (j + 1)
        simp only [List.getElem?_cons_succ] at this
        rw [this]; congr 1; omega) (by rw [List.length_cons] at hlen; omega) hr' (fun i hi => by
        by_cases hi' : i = m
        · subst hi'
          rw [show i + 1 - 1 - i = 0 from by omega]
          simp only [Ej, B5, oO, oV, eG i (by omega), eW i (by omega)]
        · rw [eR i (by omega), show m + 1 - 1 - i = (m - 1 - i) + 1 from by omega]
          exact hh i (by omega)) (by rw [oG, oW]; exact c2)
    rw [List.length_cons, show m + (l.length + 1) = m + 1 + l.length from by omega]
    exact this
end
end Go.En
namespace Go.En
open Go
section
variable {P : Program} {ops : Array Oper} {an : FL} {g0 : hC} {w0 : World} {O : Nat → Oper} {G : Nat → hC} {W : Nat → World} {V : Nat → Value}
def wA (n : Nat) (O : Nat → Oper) (V : Nat → Value) (g0 : hC) (S : Nat → Prop) (g : hC) : Prop :=
  ∀ s, (∃ j, j < n ∧ S j ∧ (O j).dst = some s ∧ (∀ k, k < n → S k → (O k).dst = some s → k ≤ j) ∧ g s = V j) ∨
    ((∀ j, j < n → S j → (O j).dst ≠ some s) ∧ g s = g0 s)
theorem wA.agree {n : Nat} {S T : Nat → Prop} {g g' : hC} (h : wA n O V g0 S g) (h' : wA n O V g0 T g') (s : Nat)
    (hs : ∀ j, j < n → (O j).dst = some s → (S j ↔ T j)) : g s = g' s := by
  rcases h s with ⟨j, h1, h2, h3, h4, h5⟩ | ⟨h1, h2⟩ <;> rcases h' s with ⟨k, k1, k2, k3, k4, k5⟩ | ⟨k1, k2⟩
  · have a := h4 k k1 ((hs k k1 k3).2 k2) k3
    have b := k4 j h1 ((hs j h1 h3).1 h2) h3
    have : j = k := by omega
    subst this; rw [h5, k5]
  · exact absurd h3 (k1 j h1 ((hs j h1 h3).1 h2))
  · exact absurd k3 (h1 k k1 ((hs k k1 k3).2 k2))
  · rw [h2, k2]
theorem wA.step {n : Nat} {S : Nat → Prop} {g : hC} (h : wA n O V g0 S g) (i : Nat) (hi : i < n)
    (hw : ∀ s, (O i).dst = some s → ∀ j, j < n → j ≠ i → (O j).dst = some s → S j → j < i) :
    wA n O V g0 (fun j => S j ∨ j = i) (put g (O i).dst (V i)) := by
  intro s
  cases hd : (O i).dst with
  | none =>
    rcases h s with ⟨j, h1, h2, h3, h4, h5⟩ | ⟨h1, h2⟩
    · refine .inl ⟨j, h1, .inl h2, h3, fun k k1 k2 k3 => ?_, h5⟩
      rcases k2 with k2 | rfl
      · exact h4 k k1 k2 k3
      · rw [hd] at k3; cases k3
    · refine .inr ⟨fun j h3 h4 h5 => ?_, h2⟩
      rcases h4 with h4 | rfl
      · exact h1 j h3 h4 h5
      · rw [hd] at h5; cases h5
  | some t =>
    rw [Dh]
    by_cases hst : s = t
    · subst hst
      rw [if_pos rfl]
      refine .inl ⟨i, hi, .inr rfl, hd, fun k k1 k2 k3 => ?_, rfl⟩
      rcases k2 with k2 | rfl
      · by_cases hk : k = i
        · omega
        · have := hw s hd k k1 hk k3 k2; omega
      · omega
    · rw [if_neg hst]
      rcases h s with ⟨j, h1, h2, h3, h4, h5⟩ | ⟨h1, h2⟩
      · refine .inl ⟨j, h1, .inl h2, h3, fun k k1 k2 k3 => ?_, h5⟩
        rcases k2 with k2 | rfl
        · exact h4 k k1 k2 k3
        · rw [hd] at k3; exact absurd (Option.some.inj k3).symm hst
      · refine .inr ⟨fun j h3 h4 h5 => ?_, h2⟩
        rcases h4 with h4 | rfl
        · exact h1 j h3 h4 h5
        · rw [hd] at h5; exact absurd (Option.some.inj h5).symm hst
theorem Gt.envFor {n : Nat} (r : Gt P ops an g0 w0 n O G W V) : ∀ i, i ≤ n → wA n O V g0 (fun j => j < i) (G i) := by
  intro i
  induction i with
  | zero => intro _ s; exact .inr ⟨fun j _ h => absurd h (by omega), by rw [r.g0]⟩
  | succ i ih =>
    intro hi
    have h := ih (by omega)
    have := h.step (V := V) i (by omega) (fun s _ j _ _ _ hj => hj)
    rw [← r.env i (by omega)] at this
    intro s
    rcases this s with ⟨j, h1, h2, h3, h4, h5⟩ | ⟨h1, h2⟩
    · exact .inl ⟨j, h1, by omega, h3, fun k k1 k2 k3 => h4 k k1 (by omega) k3, h5⟩
    · exact .inr ⟨fun j a b => h1 j a (by omega), h2⟩
theorem Gt.still {n : Nat} (r : Gt P ops an g0 w0 n O G W V) (i : Nat) : ∀ d, i + d ≤ n → (∀ h, i ≤ h → h < i + d → jU h an.1 = false) → W (i + d) = W i := by
  intro d
  induction d with
  | zero => intro _ _; rfl
  | succ d ih =>
    intro h1 h2
    rw [← Nat.add_assoc, r.light (i + d) (by omega) (h2 _ (by omega) (by omega))]
    exact ih (by omega) (fun h a b => h2 h a (by omega))
theorem Gt.still' {n : Nat} (r : Gt P ops an g0 w0 n O G W V) {i k : Nat} (hik : i ≤ k) (hk : k ≤ n) (hh : ∀ h, i ≤ h → h < k → jU h an.1 = false) : W k = W i := by
  have := r.still i (k - i) (by omega) (fun h a b => hh h a (by omega))
  rwa [show i + (k - i) = k from by omega] at this
theorem Em {i k : Nat} : (∃ h, i ≤ h ∧ h < k ∧ jU h an.1 = true) → ∃ h, i ≤ h ∧ h < k ∧ jU h an.1 = true ∧ ∀ h', i ≤ h' → h' < h → jU h' an.1 = false := by
  rintro ⟨h, h1, h2, h3⟩
  induction h using Nat.strongRecOn with
  | _ h ih =>
    by_cases hx : ∃ h', i ≤ h' ∧ h' < h ∧ jU h' an.1 = true
    · obtain ⟨h', a, b, c⟩ := hx
      exact ih h' b a (by omega) c
    · refine ⟨h, h1, h2, h3, fun h' a b => ?_⟩
      cases hm : jU h' an.1
      · rfl
      · exact absurd ⟨h', a, b, hm⟩ hx
theorem Df {i k : Nat} : (∃ h, i ≤ h ∧ h < k ∧ jU h an.1 = true) → ∃ h, i ≤ h ∧ h < k ∧ jU h an.1 = true ∧ ∀ h', h < h' → h' < k → jU h' an.1 = false := by
  rintro ⟨h, h1, h2, h3⟩
  induction hd : k - h using Nat.strongRecOn generalizing h with
  | _ d ih =>
    by_cases hx : ∃ h', h < h' ∧ h' < k ∧ jU h' an.1 = true
    · obtain ⟨h', a, b, c⟩ := hx
      exact ih (k - h') (by omega) h' (by omega) b c rfl
    · refine ⟨h, h1, h2, h3, fun h' a b => ?_⟩
      cases hm : jU h' an.1
      · rfl
      · exact absurd ⟨h', a, b, hm⟩ hx
structure C3 (ops : Array Oper) (an : FL) (O : Nat → Oper) (b : Array Nat) : Prop where
  back : ∀ i, i < ops.size → ∀ e ∈ (O i).after, Region.binds .any e = true → e.on < i
  closed : ∀ i j, i < ops.size → j < ops.size → Gu b i j = true → ∃ e ∈ (O j).after, Region.binds .any e = true ∧ (e.on = i ∨ Gu b i e.on = true)
  pair : ∀ i j, i < j → j < ops.size → xD ops b an i j (O i) (O j) = true
  sel : ∀ i, i < ops.size → EA (O i) = false
  fn : ∀ i, i < ops.size → GL (O i) = true → jU i an.1 = true
theorem Gp (h : CU ops an = true) (ho : ∀ i, i < ops.size → ops[i]? = some (O i)) : C3 ops an O (Region.before ops) := by
  unfold CU at h
  simp only [Bool.and_eq_true] at h
  obtain ⟨⟨⟨⟨h1, h2⟩, h3⟩, h5⟩, h6⟩ := h
  refine ⟨fun i hi e he hb => ?_, fun i j hi hj hb => ?_, fun i j hij hj => ?_, fun i hi => ?_, fun i hi hf => ?_⟩
  · unfold DF at h1
    have := List.all_eq_true.1 h1 i (List.mem_range.2 hi)
    rw [ho i hi] at this
    have := Array.all_eq_true'.1 this e he
    simp only [hb, Bool.not_true, Bool.false_or] at this
    exact (Nat.blt_eq (x := e.on) (y := i)) ▸ this
  · unfold DA at h2
    have := List.all_eq_true.1 (List.all_eq_true.1 h2 j (List.mem_range.2 hj)) i (List.mem_range.2 hi)
    rw [ho j hj] at this
    simp only [hb, Bool.not_true, Bool.false_or] at this
    obtain ⟨e, he, h⟩ := Array.any_eq_true'.1 this
    simp only [Bool.and_eq_true, Bool.or_eq_true] at h
    refine ⟨e, he, h.1, h.2.imp (fun h => Nat.eq_of_beq_eq_true h) id⟩
  · unfold ES at h3
    have := List.all_eq_true.1 (List.all_eq_true.1 h3 j (List.mem_range.2 hj)) i (List.mem_range.2 hij)
    rw [ho i (by omega), ho j hj] at this
    exact this
  · have := Array.all_eq_true'.1 h5 (O i) (Array.mem_of_getElem? (ho i hi))
    simpa using this
  · have := List.all_eq_true.1 h6 i (List.mem_range.2 hi)
    rw [ho i hi] at this
    simpa [hf] using this
theorem G0 {i j : Nat} : ∀ {l : List (Nat × Nat)}, CQ i j l = true → (i, j) ∈ l := by
  intro l
  induction l with
  | nil => intro h; cases h
  | cons p r ih =>
    obtain ⟨a, b⟩ := p
    intro h
    unfold CQ at h
    cases ha : Nat.beq a i with
    | true =>
      simp only [ha] at h
      cases hb : Nat.beq b j with
      | true =>
        obtain rfl := Nat.eq_of_beq_eq_true ha
        obtain rfl := Nat.eq_of_beq_eq_true hb
        exact List.mem_cons_self
      | false => simp only [hb] at h; exact List.mem_cons_of_mem _ (ih h)
    | false => simp only [ha] at h; exact List.mem_cons_of_mem _ (ih h)
theorem C3.order {b : Array Nat} (st : C3 ops an O b) {S : Nat → Prop} {i : Nat} (hi : i < ops.size)
    (hdown : ∀ j k, j < ops.size → k < ops.size → S k → Gu b j k = true → S j) (hbi : ∀ j, j < ops.size → Gu b j i = true → S j) (hni : ¬ S i)
    {s : Nat} (hs : s ∈ Cc ops (O i) ∨ (O i).dst = some s) {j : Nat} (hj : j < ops.size) (hji : j ≠ i) (hd : (O j).dst = some s) : S j ↔ j < i := by
  rcases Nat.lt_or_ge j i with h | h
  · refine ⟨fun _ => h, fun _ => ?_⟩
    have p := st.pair j i h hi
    unfold xD at p
    simp only [Bool.or_eq_true, Bool.and_eq_true, Bool.not_eq_true'] at p
    rcases p with p | p
    · exact hbi j hj p
    · exfalso
      have p1 := p.1
      unfold Gz at p1
      simp only [hd, Bool.or_eq_false_iff] at p1
      rcases hs with hs | hs
      · have := p1.1.1; simp [hs] at this
      · have := p1.1.2; simp [hs] at this
  · have h' : i < j := by omega
    refine ⟨fun hS => ?_, fun hh => by omega⟩
    exfalso
    have p := st.pair i j h' hj
    unfold xD at p
    simp only [Bool.or_eq_true, Bool.and_eq_true, Bool.not_eq_true'] at p
    rcases p with p | p
    · exact hni (hdown i j hi hj hS p)
    · have p1 := p.1
      unfold Gz at p1
      simp only [hd, Bool.or_eq_false_iff] at p1
      rcases hs with hs | hs
      · have := p1.2; simp [hs] at this
      · have := p1.1; rw [hs] at this; simp at this
theorem uR {g g' : hC} {o : Oper} (h : ∀ s ∈ Cc ops o, g s = g' s) : ∀ x ∈ o.op.operands, ev g x = ev g' x := by
  intro x hx
  cases x with
  | tmp t => exact h t (List.mem_append_left _ (List.mem_filterMap.2 ⟨.tmp t, by simpa using hx, rfl⟩))
  | _ => rfl
theorem EQ {g g' : hC} {o : Oper} (hs : EA o = false) (h : ∀ s ∈ Cc ops o, g s = g' s) : uX g o = uX g' o := by
  have e := execOp_congr o (fun cs b he => by simp [EA, he] at hs) (uR h)
  have k := uR h
  unfold uX
  split
  · rename_i op t x y yt hx
    rw [k x (by simp [hx, Op.operands]), k y (by simp [hx, Op.operands])]
  · rename_i t ps hx
    congr 1
    refine List.map_congr_left fun p hp => ?_
    rw [k p.2 (by simp [hx, Op.operands]; exact ⟨p.1, by simpa using hp⟩)]
  · rename_i t n ps hx
    congr 1
    refine List.map_congr_left fun p hp => ?_
    rw [k p.2 (by simp [hx, Op.operands]; exact ⟨p.1, by simpa using hp⟩)]
  · rename_i c hx
    split
    · rename_i b hb
      congr 1
      refine List.map_congr_left fun p hp => ?_
      exact k p (by simp [hx, Op.operands, Call.operands, hb]; simpa using hp)
    · exact e
  · exact e
theorem Dl {g g' : hC} {o : Oper} {j : Nat} {want : Bool} (hg : o.guard = some (j, want)) (h : ∀ s ∈ Cc ops o, g s = g' s) :
    mP g (pD ops j) want = mP g' (pD ops j) want := by
  cases hs : pD ops j with
  | none => rfl
  | some t =>
    have := h t (List.mem_append_right _ (by simp [hg, hs]))
    simp [mP, this]
theorem Bf {g g' : hC} {o : Oper} {w : World} {K : Value → World → Prop} (hs : EA o = false) (h : ∀ s ∈ Cc ops o, g s = g' s)
    (hk : rZ P ops g o w K) : rZ P ops g' o w K := by
  have e := EQ (ops := ops) hs h
  have run : sW P g o w = sW P g' o w := by
    funext K
    unfold sW
    split
    · rename_i x hx
      have := uR (ops := ops) h x (by simp [hx, Op.operands])
      rw [this]
    · rename_i x hx
      have := uR (ops := ops) h x (by simp [hx, Op.operands])
      rw [this]
    · rename_i c hx
      have k := uR h
      have : List.map (ev g) c.args.toList = List.map (ev g') c.args.toList := List.map_congr_left fun p hp => k p (by simp [hx, Op.operands, Call.operands]; exact .inr (by simpa using hp))
      rw [this, e]
    · rw [e]
  unfold rZ at *
  cases hg : o.guard with
  | none => rw [hg] at hk; simp only at hk ⊢; rwa [← run]
  | some p =>
    obtain ⟨j, want⟩ := p
    simp only [hg] at hk ⊢
    rw [← run, ← Dl hg h]
    exact hk
theorem EO {n : Nat} (hn : n = ops.size) {b : Array Nat} (r : Gt P ops an g0 w0 n O G W V) (st : C3 ops an O b) {S : Nat → Prop} {i k : Nat} (hi : i < n) (hk : k ≤ n)
    (hdown : ∀ j k, j < ops.size → k < ops.size → S k → Gu b j k = true → S j) (hbi : ∀ j, j < ops.size → Gu b j i = true → S j) (hni : ¬ S i)
    (hS : ∀ h, h < n → jU h an.1 = true → (S h ↔ h < k)) (hl : jU i an.1 = false) :
    Ce P ops (G i) (O i) (W k) (V i) (W k) := by
  subst hn
  have same : Gs (IX ops (O i) (G i)) (hP P (uX (G i) (O i)) (V i) (W k)) → wD (O i) = false → Ce P ops (G i) (O i) (W k) (V i) (W k) := by
    intro hs hm K hK
    have run : hP P (uX (G i) (O i)) (V i) (W k) → sW P (G i) (O i) (W k) K := by
      intro hs
      unfold hP at hs
      have stp : cJ P (uX (G i) (O i)) (W k) K := by unfold cJ; rw [hs]; exact hK
      unfold sW
      split
      · rename_i x hx; simp [wD, hx] at hm
      · rename_i x hx; simp [wD, hx] at hm
      · rename_i c hx
        have hf : GL (O i) = false := by
          cases hh : GL (O i)
          · rfl
          · rw [st.fn i hi hh] at hl; cases hl
        obtain ⟨cal, cargs, cats⟩ := c
        cases cal with
        | value f =>
          cases f with
          | func f => simp [GL, hx] at hf
          | _ => exact stp
        | _ => exact stp
      · exact stp
    have hy := r.yld i hi (fun v _ => v = V i) rfl
    unfold rZ at hy ⊢
    unfold IX at hs
    cases hg : (O i).guard with
    | none => rw [hg] at hs; exact run hs
    | some p =>
      obtain ⟨j, want⟩ := p
      rw [hg] at hs
      simp only [hg] at hs hy ⊢
      cases hb : mP (G i) (pD ops j) want with
      | true => rw [hb] at hs; exact run hs
      | false =>
        rw [hb] at hy
        have : undef = V i := hy
        show K undef (W k)
        rw [this]; exact hK
  have moved : wD (O i) = true → Ce P ops (G i) (O i) (W k) (V i) (W k) := by
    intro hm K hK
    have hy := r.yld i hi (fun v _ => v = V i) rfl
    unfold rZ at hy ⊢
    have mv : ∀ (K' : Value → World → Prop) w, sW P (G i) (O i) w K' ↔ ∃ x, ((O i).op = .move x ∨ (O i).op = .assign x) ∧ K' (ev (G i) x) w := by
      intro K' w
      unfold sW
      unfold wD at hm
      split
      · rename_i x hx; constructor
        · intro h; exact ⟨x, .inl hx, h⟩
        · rintro ⟨y, h | h, h'⟩
          · rw [hx] at h; cases h; exact h'
          · rw [hx] at h; cases h
      · rename_i x hx; constructor
        · intro h; exact ⟨x, .inr hx, h⟩
        · rintro ⟨y, h | h, h'⟩
          · rw [hx] at h; cases h
          · rw [hx] at h; cases h; exact h'
      · rename_i c hx; simp [hx] at hm
      · rename_i h1 h2 _; split at hm
        · rename_i x hx; exact absurd hx (h1 x)
        · rename_i x hx; exact absurd hx (h2 x)
        · cases hm
    cases hg : (O i).guard with
    | none =>
      rw [hg] at hy
      simp only at hy ⊢
      rw [mv] at hy ⊢
      obtain ⟨x, hx, h⟩ := hy
      exact ⟨x, hx, h ▸ hK⟩
    | some p =>
      obtain ⟨j, want⟩ := p
      simp only [hg] at hy ⊢
      unfold Gd at *
      cases hb : mP (G i) (pD ops j) want with
      | true =>
        simp only [hb] at hy ⊢
        rw [mv] at hy ⊢
        obtain ⟨x, hx, h⟩ := hy
        exact ⟨x, hx, h ▸ hK⟩
      | false =>
        simp only [hb] at hy ⊢
        rwa [hy]
  rcases Nat.le_total k i with hki | hki
  · by_cases hx : ∃ h, k ≤ h ∧ h < i ∧ jU h an.1 = true
    · obtain ⟨h, h1, h2, h3, h4⟩ := Em hx
      have e : W h = W k := r.still' h1 (by omega) h4
      have p := st.pair h i h2 hi
      unfold xD at p
      simp only [Bool.or_eq_true, Bool.and_eq_true, Bool.not_eq_true'] at p
      rcases p with p | p
      · have := hbi h (by omega) p
        have := (hS h (by omega) h3).1 this
        omega
      · have p2 := p.2
        rw [h3, hl] at p2
        simp only [Bool.or_eq_true] at p2
        cases hmv : wD (O i) with
        | true => exact moved hmv
        | false =>
          rcases p2 with p2 | p2
          · rw [hmv] at p2; cases p2
          · refine same ?_ hmv
            have c := r.chk h i h2 hi p2
            unfold FC yW B5 at c
            simp only [h3] at c
            rw [← e]; exact c
    · have e : W i = W k := r.still' hki (by omega) (fun h a b => by
        cases hm : jU h an.1
        · rfl
        · exact absurd ⟨h, a, b, hm⟩ hx)
      have hy := r.yld i hi
      rw [r.light i hi hl, e] at hy
      exact hy
  · by_cases hx : ∃ h, i ≤ h ∧ h < k ∧ jU h an.1 = true
    · obtain ⟨h, h1, h2, h3, h4⟩ := Df hx
      have hne : h ≠ i := fun e => by rw [e, hl] at h3; cases h3
      have e : W k = W (h + 1) := r.still' (by omega) hk (fun h' a b => h4 h' (by omega) b)
      have p := st.pair i h (by omega) (by omega)
      unfold xD at p
      simp only [Bool.or_eq_true, Bool.and_eq_true, Bool.not_eq_true'] at p
      rcases p with p | p
      · exact absurd (hdown i h (by omega) (by omega) ((hS h (by omega) h3).2 h2) p) hni
      · have p2 := p.2
        rw [h3, hl] at p2
        simp only [Bool.or_eq_true] at p2
        cases hmv : wD (O i) with
        | true => exact moved hmv
        | false =>
          rcases p2 with p2 | p2
          · rw [hmv] at p2; cases p2
          · refine same ?_ hmv
            have c := r.chk i h (by omega) (by omega) p2
            unfold FC yW B5 at c
            simp only [hl] at c
            rw [e]; exact c
    · have e : W k = W i := r.still' hki hk (fun h a b => by
        cases hm : jU h an.1
        · rfl
        · exact absurd ⟨h, a, b, hm⟩ hx)
      have hy := r.yld i hi
      rw [r.light i hi hl, ← e] at hy
      exact hy
def iS (listed : Array Bool) (i : Nat) : Prop := listed.getD i false = true
theorem GE {N n : Nat} (hn : n = ops.size) (hd : CR N ops) (hca : A8 P ops) {b : Array Nat} (r : Gt P ops an g0 w0 n O G W V) (st : C3 ops an O b)
    {Q : Exit → Act → World → Prop} (hQ : ∀ a, yC N (G n) a → Q .normal a (W n)) :
    ∀ (fuel : Nat) (listed : Array Bool) (g : hC) (a : Act) (k : Nat), listed.size = n → yC N g a → k ≤ n →
      (∀ j, j < n → iS listed j → ∀ e ∈ (O j).after, Region.binds .any e = true → iS listed e.on) →
      wA n O V g0 (iS listed) g → (∀ h, h < n → jU h an.1 = true → (iS listed h ↔ h < k)) →
      ((List.range n).filter fun i => !listed.getD i false).length ≤ fuel →
      wpAny P .any ops Q fuel listed a (W k) := by
  subst hn
  have ready_iff : ∀ (listed : Array Bool), listed.size = ops.size → ∀ i, i ∈ Region.ready .any ops listed ↔ (i < ops.size ∧ ¬ iS listed i ∧ ∀ e ∈ (O i).after, Region.binds .any e = true → iS listed e.on) := by
    intro listed hsz i
    unfold Region.ready iS
    rw [List.mem_filter, List.mem_range]
    constructor
    · rintro ⟨h1, h2⟩
      rw [r.op i h1] at h2
      simp only [Bool.and_eq_true, Option.map_some, Option.getD_some] at h2
      refine ⟨h1, ?_, fun e he hb => ?_⟩
      · have := h2.1
        rw [Array.getD_eq_getD_getElem?] at this ⊢
        rw [Array.getElem?_eq_getElem (by omega)] at this ⊢
        simpa using this
      · have := Array.all_eq_true'.1 h2.2 e he
        simpa [hb] using this
    · rintro ⟨h1, h2, h3⟩
      refine ⟨h1, ?_⟩
      rw [r.op i h1]
      simp only [Bool.and_eq_true, Option.map_some, Option.getD_some]
      refine ⟨?_, Array.all_eq_true'.2 fun e he => ?_⟩
      · rw [Array.getD_eq_getD_getElem?] at h2 ⊢
        rw [Array.getElem?_eq_getElem (by omega)] at h2 ⊢
        simpa using h2
      · by_cases hb : Region.binds .any e = true
        · simp [hb, h3 e he hb]
        · simp [hb]
  have none_ready : ∀ (listed : Array Bool), listed.size = ops.size → Region.ready .any ops listed = [] → ∀ i, i < ops.size → iS listed i := by
    intro listed hsz hr i
    induction i using Nat.strongRecOn with
    | _ i ih =>
      intro hi
      refine Classical.byContradiction fun hl => ?_
      have : i ∈ Region.ready .any ops listed := (ready_iff listed hsz i).2 ⟨hi, hl, fun e he hb => by
        have := st.back i hi e he hb
        exact ih e.on this (by omega)⟩
      rw [hr] at this; cases this
  have all_done : ∀ (listed : Array Bool) (g : hC) (a : Act) (k : Nat), yC N g a → k ≤ ops.size → wA ops.size O V g0 (iS listed) g →
      (∀ h, h < ops.size → jU h an.1 = true → (iS listed h ↔ h < k)) → (∀ i, i < ops.size → iS listed i) → Q .normal a (W k) := by
    intro listed g a k hr hk he hh hall
    have e : W ops.size = W k := r.still' hk (Nat.le_refl _) (fun h h1 h2 => by
      cases hm : jU h an.1
      · rfl
      · have := (hh h h2 hm).1 (hall h h2); omega)
    have eg : g = G ops.size := funext fun s => he.agree (r.envFor ops.size (Nat.le_refl _)) s (fun j hj _ => ⟨fun _ => hj, fun _ => hall j hj⟩)
    rw [← e]; exact hQ a (eg ▸ hr)
  intro fuel
  induction fuel with
  | zero =>
    intro listed g a k hsz hr hk hdep henv hh hc
    have hall : ∀ i, i < ops.size → iS listed i := by
      intro i hi
      have hnil : ((List.range ops.size).filter fun i => !listed.getD i false) = [] := List.length_eq_zero_iff.1 (by omega)
      have := List.filter_eq_nil_iff.1 hnil i (List.mem_range.2 hi)
      unfold iS; simpa using this
    refine ⟨?_, all_done listed g a k hr hk henv hh hall⟩
    rw [List.eq_nil_iff_forall_not_mem]
    intro i hi
    have := (ready_iff listed hsz i).1 hi
    exact this.2.1 (hall i this.1)
  | succ fuel ih =>
    intro listed g a k hsz hr hk hdep henv hh hc
    refine ⟨fun hn => all_done listed g a k hr hk henv hh (none_ready listed hsz hn), fun i hi => ?_⟩
    obtain ⟨h1, h2, h3⟩ := (ready_iff listed hsz i).1 hi
    have hdown : ∀ k j, j < ops.size → k < ops.size → iS listed k → Gu b j k = true → iS listed j := by
      intro k
      induction k using Nat.strongRecOn with
      | _ k ihk =>
        intro j hj hk hl hb
        obtain ⟨e, he, hbi, h⟩ := st.closed j k hj hk hb
        have hle := hdep k hk hl e he hbi
        rcases h with h | h
        · exact h ▸ hle
        · have hlt := st.back k hk e he hbi
          exact ihk e.on hlt j hj (by omega) hle h
    have hbi : ∀ j, j < ops.size → Gu b j i = true → iS listed j := by
      intro j hj hb
      obtain ⟨e, he, hbi, h⟩ := st.closed j i hj h1 hb
      have hle := h3 e he hbi
      rcases h with h | h
      · exact h ▸ hle
      · have hlt := st.back i h1 e he hbi
        exact hdown e.on j hj (by omega) hle h
    have hdown' : ∀ j k, j < ops.size → k < ops.size → iS listed k → Gu b j k = true → iS listed j := fun j k => hdown k j
    have hlooks : ∀ s ∈ Cc ops (O i), (G i) s = g s := fun s hs =>
      (r.envFor i (by omega)).agree henv s (fun j hj hd => by
        by_cases hji : j = i
        · subst hji
          exact ⟨fun h => absurd h (by omega), fun h => absurd h h2⟩
        · exact (st.order h1 hdown' hbi h2 (.inl hs) hj hji hd).symm)
    have hl' : ∀ j, iS (listed.setIfInBounds i true) j ↔ (iS listed j ∨ j = i) := by
      intro j
      unfold iS
      rw [Array.getD_eq_getD_getElem?, Array.getD_eq_getD_getElem?]
      by_cases hji : j = i
      · subst hji
        rw [Array.getElem?_setIfInBounds_self_of_lt (by omega)]
        simp
      · rw [Array.getElem?_setIfInBounds_ne (fun e => hji e.symm)]
        simp [hji]
    have next : ∀ k', k' ≤ ops.size → (∀ h, h < ops.size → jU h an.1 = true → ((iS listed h ∨ h = i) ↔ h < k')) → Ce P ops g (O i) (W k) (V i) (W k') →
        wpOp P ops Q i (wpAny P .any ops Q fuel (listed.setIfInBounds i true)) a (W k) := by
      intro k' hk' hh' hy
      refine Ch (r.op i h1) (hca i _ (r.op i h1)) hr hy ?_
      refine ih _ (put g (O i).dst (V i)) _ k' (by simp [hsz]) (hr.put _ _ (hd i _ (r.op i h1))) hk' ?_ ?_ ?_ ?_
      · intro j hj hlj e he hb
        rw [hl'] at hlj ⊢
        rcases hlj with hlj | rfl
        · exact .inl (hdep j hj hlj e he hb)
        · exact .inl (h3 e he hb)
      · have := henv.step i h1 (fun s hs j hj hji hd hlj => (st.order h1 hdown' hbi h2 (.inr hs) hj hji hd).1 hlj)
        intro s
        rcases this s with ⟨j, j1, j2, j3, j4, j5⟩ | ⟨j1, j2⟩
        · exact .inl ⟨j, j1, (hl' j).2 j2, j3, fun k k1 k2 k3 => j4 k k1 ((hl' k).1 k2) k3, j5⟩
        · exact .inr ⟨fun j a b => j1 j a ((hl' j).1 b), j2⟩
      · intro h a b; rw [hl']; exact hh' h a b
      · have hin : i ∈ (List.range ops.size).filter fun i => !listed.getD i false :=
          List.mem_filter.2 ⟨List.mem_range.2 h1, by unfold iS at h2; simpa using h2⟩
        have e1 : ((List.range ops.size).filter fun j => !(listed.setIfInBounds i true).getD j false) = ((List.range ops.size).filter fun j => !listed.getD j false).filter fun j => j != i := by
          rw [List.filter_filter]
          refine List.filter_congr fun j _ => ?_
          have := hl' j
          unfold iS at this
          by_cases hji : j = i
          · have hh : (listed.setIfInBounds i true).getD j false = true := this.2 (.inr hji)
            rw [hh, hji]; simp
          · have hne : (j != i) = true := by simpa using hji
            rw [hne, Bool.true_and]
            cases ha : listed.getD j false with
            | true => rw [this.2 (.inl ha)]
            | false =>
              cases hb : (listed.setIfInBounds i true).getD j false with
              | false => rfl
              | true => rcases this.1 hb with h | h
                        · rw [ha] at h; cases h
                        · exact absurd h hji
        have hnd : ((List.range ops.size).filter fun j => !listed.getD j false).Nodup := List.nodup_range.filter _
        rw [e1, ← List.Nodup.erase_eq_filter hnd, List.length_erase_of_mem hin]
        omega
    cases hm : jU i an.1 with
    | true =>
      have hS : ∀ h, h < ops.size → jU h an.1 = true → (iS listed h ↔ h < i) := by
        intro h hh1 hhm
        rcases Nat.lt_trichotomy h i with hlt | heq | hgt
        · refine ⟨fun _ => hlt, fun _ => ?_⟩
          have p := st.pair h i hlt h1
          unfold xD at p
          rw [hhm, hm] at p
          simp only [Bool.or_eq_true, Bool.and_eq_true, Bool.false_eq_true, and_false, or_false] at p
          exact hbi h hh1 p
        · subst heq; exact ⟨fun hh => absurd hh h2, fun hh => absurd hh (by omega)⟩
        · refine ⟨fun hl => ?_, fun hh => absurd hh (by omega)⟩
          have p := st.pair i h hgt hh1
          unfold xD at p
          rw [hhm, hm] at p
          simp only [Bool.or_eq_true, Bool.and_eq_true, Bool.false_eq_true, and_false, or_false] at p
          exact absurd (hdown h i h1 hh1 hl p) h2
      have eW : W k = W i := by
        rcases Nat.le_total k i with hki | hki
        · exact (r.still' hki (by omega) (fun h a b => by
            cases hx : jU h an.1
            · rfl
            · have := (hh h (by omega) hx).1 ((hS h (by omega) hx).2 b); omega)).symm
        · exact r.still' hki hk (fun h a b => by
            cases hx : jU h an.1
            · rfl
            · have := (hS h (by omega) hx).1 ((hh h (by omega) hx).2 b); omega)
      refine next (i + 1) (by omega) (fun h a b => ?_) ?_
      · rw [hS h a b]; omega
      · rw [eW]
        intro K hK
        exact Bf (ops := ops) (st.sel i h1) hlooks (r.yld i h1 K hK)
    | false =>
      refine next k hk (fun h a b => ?_) ?_
      · rw [← hh h a b]
        constructor
        · rintro (h' | rfl)
          · exact h'
          · rw [hm] at b; cases b
        · exact .inl
      · intro K hK
        exact Bf (ops := ops) (st.sel i h1) hlooks (EO rfl r st h1 hk hdown' hbi h2 hh hm K hK)
end
end Go.En
namespace Go.En
open Go
def Fu (P : Program) (f : FuncId) (c : Code) (Q : Exit → Act → World → Prop) (a : Act) (w : World) : Prop :=
  ∀ (b : Frame) (k : List Item) (cs : List Frame), b.fn = f → ∃ e a' w', Q e a' w' ∧ Arrives P (lone (b.at a (.code c :: k)) cs w) b k cs e a' w'
section
variable {P : Program} {f : FuncId} {Q : Exit → Act → World → Prop} {a : Act} {w : World}
theorem C0 {c : Code} (h : c.wp P Q a w) : Fu P f c Q a w := fun b k cs _ => h b k cs
theorem HE {x y : Code} (h : Fu P f x (Exit.then (Fu P f y Q) Q) a w) : Fu P f (.seq x y) Q a w := by
  intro b k cs hb
  obtain ⟨e, a1, w1, hq, har⟩ := h b (.code y :: k) cs hb
  cases e with
  | normal =>
    obtain ⟨e2, a2, w2, hq2, har2⟩ := hq b k cs hb
    exact ⟨e2, a2, w2, hq2, .of_steps (.head step_seq har) har2⟩
  | _ => exact ⟨_, a1, w1, hq, .of_steps (.one step_seq) (.pass (x := .code y) rfl (fun _ _ => .inl (by simp)) har)⟩
theorem GT {c : Operand} {x y : Code} {t : Bool} (hc : a.eval c = .bool t) (h : Fu P f (if t then x else y) Q a w) : Fu P f (.cond c x y) Q a w :=
  fun b k cs hb => let ⟨e, a1, w1, q, r⟩ := h b k cs hb; ⟨e, a1, w1, q, .of_steps (.one (step_cond hc)) r⟩
theorem Gg {id : Nat} {c : Code} (h : Fu P f c (Exit.inBlock id Q) a w) : Fu P f (.block id c) Q a w := by
  intro b k cs hb
  obtain ⟨e, a1, w1, hq, har⟩ := h b (.inBlock id :: k) cs hb
  cases e with
  | normal => exact ⟨.normal, a1, w1, hq, .head step_block (Steps.trans har (.one step_inBlock))⟩
  | exit i =>
    by_cases hid : i = id
    · simp only [Exit.inBlock, hid, if_true] at hq
      exact ⟨.normal, a1, w1, hq, .head step_block (har k (by simp [exitTo, hid]))⟩
    · simp only [Exit.inBlock, hid, if_false] at hq
      refine ⟨.exit i, a1, w1, hq, fun k' hk => .head step_block (har k' ?_)⟩
      have : (id == i) = false := by simp; exact fun h => hid h.symm
      simp [exitTo, this, hk]
  | goto l => exact ⟨_, a1, w1, hq, fun k' hk => .head step_block (har k' (by simp [gotoIn, hk]))⟩
  | outgrown => exact ⟨_, a1, w1, hq, .of_steps (b := b) (k := k) (cs := cs) (e := .outgrown) (.one step_block) har⟩
  | _ => exact ⟨_, a1, w1, hq, .of_steps (.one step_block) har⟩
theorem Gj {c : Code} (h : Fu P f c (Exit.noGoto Q) a w) : Fu P f (.scope c) Q a w := by
  intro b k cs hb
  obtain ⟨e, a1, w1, hq, har⟩ := h b (.inScope c :: k) cs hb
  cases e with
  | normal => exact ⟨.normal, a1, w1, hq, .head step_scope (Steps.trans har (.one step_inScope))⟩
  | exit id => exact ⟨.exit id, a1, w1, hq, fun k' hk => .head step_scope (har k' (by simp [exitTo, hk]))⟩
  | goto l => exact hq.elim
  | _ => exact ⟨_, a1, w1, hq, .of_steps (.one step_scope) har⟩
theorem GR {c : Code} (I : Act → World → Prop) (μ : Act → World → Nat) (h0 : I a w)
    (round : ∀ a w, I a w → Fu P f c (Exit.then (fun a' w' => I a' w' ∧ μ a' w' < μ a w) Q) a w) : Fu P f (.loop c) Q a w := by
  intro b k cs hb
  have key : ∀ n a w, μ a w = n → I a w →
      ∃ e a' w', Q e a' w' ∧ Arrives P (lone (b.at a (.code c :: .inLoop c :: k)) cs w) b k cs e a' w' := by
    intro n
    induction n using Nat.strongRecOn with
    | _ n ih =>
      intro a w hn hI
      obtain ⟨e, a1, w1, hq, har⟩ := round a w hI b (.inLoop c :: k) cs hb
      cases e with
      | normal =>
        obtain ⟨hI1, hlt⟩ := hq
        obtain ⟨e2, a2, w2, hq2, har2⟩ := ih (μ a1 w1) (hn ▸ hlt) a1 w1 rfl hI1
        exact ⟨e2, a2, w2, hq2, .of_steps (Steps.trans har (.one step_inLoop)) har2⟩
      | _ => exact ⟨_, a1, w1, hq, .pass (x := .inLoop c) rfl (fun _ _ => .inl (by simp)) har⟩
  obtain ⟨e, a', w', hq, har⟩ := key _ a w rfl h0
  exact ⟨e, a', w', hq, .of_steps (.one step_loop) har⟩
theorem CF (hm : P.follows .mixedOrders = true) {id : Nat} {ops : Array Oper}
    (h : wpOps P ops Q (Region.schedule true ops (w.tape w.drawn (.order f id))) a { w with drawn := w.drawn + 1 }) : Fu P f (.region id ops true) Q a w := by
  intro b k cs hb
  obtain ⟨e, a1, w1, q, r⟩ := wp_ops _ a _ h b k cs
  refine ⟨e, a1, w1, q, .of_steps (.one ?_) r⟩
  have := @step_region_draw P b a k cs w ops id
  rw [hm, hb] at this
  exact this
theorem DW {fn : Func} {c : Code} {args : Array Value} {w : World} {R : Ending → World → Prop}
    (hf : P.funcs[f]? = some fn) (hb : fn.body = some c)
    (h : Fu P f c (bodyPost P fn R) { tmps := args ++ Array.replicate (fn.ntmps - args.size) undef, defers := [] } w) : Calls P f args w R := by
  intro cs
  let b : Frame := { (default : Frame) with fn := f, kind := .normal }
  have henter : Frame.enter P f args .normal = b.at { tmps := args ++ Array.replicate (fn.ntmps - args.size) undef, defers := [] } [.code c] := by
    simp [Frame.enter, Frame.at, hf, hb, b]
  obtain ⟨e, a', w', hq, har⟩ := h b [] cs rfl
  rw [← henter] at har
  cases e with
  | normal =>
    obtain ⟨hd, v, hr, hR⟩ := hq
    exact ⟨.returned v, w', _, hR, Steps.trans har (.one step_end), rfl, rfl, hd, rfl, fn, hf, hr⟩
  | ret =>
    obtain ⟨hd, v, hr, hR⟩ := hq
    obtain ⟨todo, hs⟩ := har
    exact ⟨.returned v, w', _, hR, hs, rfl, rfl, hd, rfl, fn, hf, hr⟩
  | panic chain =>
    obtain ⟨hd, hR⟩ := hq
    obtain ⟨todo, hs⟩ := har
    exact ⟨.panicked chain, w', _, hR, hs, rfl, rfl, hd, fn, hf⟩
  | exit id => exact hq.elim
  | goto l => exact hq.elim
  | outgrown => exact ⟨.outgrown, w', b, hq, har.resolve_left (by simp [b]), rfl, trivial⟩
end
def DQ (ops : Array Oper) : Nat → Array Bool → List Nat → Prop
  | 0, _, L => L = []
  | _ + 1, listed, [] => Region.ready .any ops listed = []
  | n + 1, listed, i :: L => i ∈ Region.ready .any ops listed ∧ DQ ops n (listed.setIfInBounds i true) L
section
variable {P : Program} {ops : Array Oper} {Q : Exit → Act → World → Prop}
theorem HI : ∀ (fuel t : Nat) (listed : Array Bool), DQ ops fuel listed (Region.linearise.go .any ops fuel t listed []) := by
  intro fuel
  induction fuel with
  | zero => intro t listed; simp [Region.linearise.go, DQ]
  | succ fuel ih =>
    intro t listed
    simp only [Region.linearise.go]
    change DQ ops (fuel + 1) listed (match (Region.ready .any ops listed)[t % (Region.ready .any ops listed).length]? with
      | some i => Region.linearise.go .any ops fuel (t / (Region.ready .any ops listed).length) (listed.setIfInBounds i true) [i]
      | none => [].reverse)
    cases hi : (Region.ready .any ops listed)[t % (Region.ready .any ops listed).length]? with
    | none =>
      have : Region.ready .any ops listed = [] := by
        cases hr : Region.ready .any ops listed with
        | nil => rfl
        | cons x xs =>
          rw [hr] at hi
          have hlt : t % (x :: xs).length < (x :: xs).length := Nat.mod_lt _ (by simp)
          rw [List.getElem?_eq_getElem hlt] at hi
          cases hi
      simpa [DQ] using this
    | some i =>
      simp only []
      rw [linearise_go_acc]
      exact ⟨List.mem_of_getElem? hi, ih _ _⟩
theorem Ae : ∀ (fuel : Nat) (listed : Array Bool) (L : List Nat) (a : Act) (w : World), wpAny P .any ops Q fuel listed a w → DQ ops fuel listed L → wpOps P ops Q L a w := by
  intro fuel
  induction fuel with
  | zero => intro listed L a w h hL; obtain rfl : L = [] := hL; exact h.2
  | succ fuel ih =>
    intro listed L a w h hL
    cases L with
    | nil => exact h.1 hL
    | cons i L =>
      rw [wpOps_cons]
      exact wpOp_mono (fun a w hh => ih _ _ a w hh hL.2) (h.2 i hL.1)
end
structure Perm (π : List Nat) (ops : Array Oper) : Prop where
  len : π.length = ops.size
  to : ∀ i, i < ops.size → lT π i < ops.size ∧ π[lT π i]? = some i
  back : ∀ k, k < ops.size → ∃ i, π[k]? = some i ∧ lT π i = k ∧ i < ops.size
  after : ∀ (i : Nat) (o : Oper), ops[i]? = some o → ∀ e ∈ o.after, e.on < ops.size
  guard : ∀ (i : Nat) (o : Oper) (j : Nat) (b : Bool), ops[i]? = some o → o.guard = some (j, b) → j < ops.size
theorem HQ {π : List Nat} {ops : Array Oper} (h : E9 π ops = true) : Perm π ops := by
  unfold E9 at h
  simp only [Bool.and_eq_true] at h
  obtain ⟨⟨⟨h1, h2⟩, h3⟩, h4⟩ := h
  have h1 := Nat.eq_of_beq_eq_true h1
  have at4 : ∀ (i : Nat) (o : Oper), ops[i]? = some o → (o.after.all fun e => Nat.blt e.on ops.size) = true ∧ (match o.guard with | some (j, _) => Nat.blt j ops.size | none => true) = true := by
    intro i o ho
    have hi : i < ops.size := by
      rcases Nat.lt_or_ge i ops.size with h | h
      · exact h
      · rw [Array.getElem?_eq_none h] at ho; cases ho
    have := List.all_eq_true.1 h4 i (List.mem_range.2 hi)
    rw [ho] at this
    simp only [Bool.and_eq_true] at this
    refine ⟨this.1, ?_⟩
    have h := this.2
    revert h
    cases o.guard <;> exact id
  refine ⟨h1, fun i hi => ?_, fun k hk => ?_, fun i o ho e he => ?_, fun i o j b ho hg => ?_⟩
  · have := List.all_eq_true.1 h3 i (List.mem_range.2 hi)
    cases hp : π[lT π i]? with
    | none => rw [hp] at this; cases this
    | some j =>
      rw [hp] at this
      obtain rfl := Nat.eq_of_beq_eq_true this
      refine ⟨?_, rfl⟩
      rcases Nat.lt_or_ge (lT π j) π.length with h | h
      · omega
      · rw [List.getElem?_eq_none h] at hp; cases hp
  · have := List.all_eq_true.1 h2 k (List.mem_range.2 hk)
    cases hp : π[k]? with
    | none => rw [hp] at this; cases this
    | some i =>
      rw [hp] at this
      simp only [Bool.and_eq_true] at this
      exact ⟨i, rfl, Nat.eq_of_beq_eq_true this.1, (Nat.blt_eq (x := i) (y := ops.size)) ▸ this.2⟩
  · have := Array.all_eq_true'.1 (at4 i o ho).1 e he
    exact (Nat.blt_eq (x := e.on) (y := ops.size)) ▸ this
  · have := (at4 i o ho).2
    rw [hg] at this
    exact (Nat.blt_eq (x := j) (y := ops.size)) ▸ this
theorem DG {π : List Nat} {es : List (Nat × Nat)} {l : List Oper} : ∀ (r : List Nat), (∀ i ∈ r, i < l.length) → (Av π es l r).length = r.length ∧ ∀ k i : Nat, r[k]? = some i → (Av π es l r)[k]? = (l[i]?).map (rP π es i) := by
  intro r
  induction r with
  | nil => intro _; exact ⟨rfl, fun k i h => by simp at h⟩
  | cons j r ih =>
    intro h
    obtain ⟨h1, h2⟩ := ih fun i hi => h i (List.mem_cons_of_mem _ hi)
    have hj : j < l.length := h j (by simp)
    simp only [Av, List.getElem?_eq_getElem hj]
    refine ⟨by simp [h1], fun k i hk => ?_⟩
    cases k with
    | zero => simp at hk; subst hk; simp [List.getElem?_eq_getElem hj]
    | succ k => simp at hk ⊢; exact h2 k i hk
section
variable {P : Program} {ops : Array Oper} {Q : Exit → Act → World → Prop} {π : List Nat} {es : List (Nat × Nat)}
theorem Perm.mem (p : Perm π ops) : ∀ i ∈ π, i < ops.toList.length := by
  intro i hi
  obtain ⟨k, hk, e⟩ := List.getElem_of_mem hi
  obtain ⟨j, h1, _, h2⟩ := p.back k (by rw [← p.len]; exact hk)
  rw [List.getElem?_eq_getElem hk] at h1
  cases h1
  rw [← e]; simpa using h2
theorem Perm.size (p : Perm π ops) : (jM π es ops).size = ops.size := by
  unfold jM
  rw [List.size_toArray, (DG (es := es) (π := π) π p.mem).1, p.len]
theorem Perm.get (p : Perm π ops) {i : Nat} (hi : i < ops.size) : (jM π es ops)[lT π i]? = (ops[i]?).map (rP π es i) := by
  unfold jM
  have := (DG (es := es) (π := π) π p.mem).2 (lT π i) i (p.to i hi).2
  rw [Array.getElem?_toList] at this
  simpa using this
theorem FY {i : Nat} {o : Oper} {a : Act} {w : World} {K : Act → World → Prop} : (rP π es i o).wp P a w K Q = o.wp P a w K Q := by
  unfold Oper.wp
  have : execOp a.eval (rP π es i o) = execOp a.eval o := by
    obtain ⟨d, op, ty, ps, af, g⟩ := o
    cases op <;> rfl
  rw [this]
  generalize (execOp a.eval o).run P w = r
  cases r with
  | ok n w => cases n <;> rfl
  | halt x w => cases x <;> rfl
theorem EH {i : Nat} {o : Oper} {a : Act} {w : World} : (rP π es i o).asks P a w = o.asks P a w := by
  unfold Oper.asks
  have : execOp a.eval (rP π es i o) = execOp a.eval o := by
    obtain ⟨d, op, ty, ps, af, g⟩ := o
    cases op <;> rfl
  rw [this]
theorem Ev (p : Perm π ops) {i : Nat} {o : Oper} (ho : ops[i]? = some o) (tmps : Array Value) :
    Region.wanted (rP π es i o) (yielded (jM π es ops) tmps) = Region.wanted o (yielded ops tmps) := by
  unfold Region.wanted rP
  simp only
  cases hg : o.guard with
  | none => rfl
  | some q =>
    obtain ⟨j, b⟩ := q
    simp only
    have hj := p.guard i o j b ho hg
    have : (jM π es ops)[lT π j]?.bind (·.dst) = (ops[j]?).bind (·.dst) := by
      rw [p.get hj]
      cases ops[j]? <;> rfl
    unfold yielded
    rw [this]
theorem Fb (p : Perm π ops) : ∀ (L : List Nat), (∀ i ∈ L, i < ops.size) → ∀ (a : Act) (w : World), wpOps P (jM π es ops) Q (L.map (lT π)) a w → wpOps P ops Q L a w := by
  intro L
  induction L with
  | nil => intro _ a w h; exact h
  | cons i L ih =>
    intro hL a w h
    rw [List.map_cons, wpOps_cons] at h
    rw [wpOps_cons]
    have hi := hL i (by simp)
    have ih := ih fun i hi => hL i (List.mem_cons_of_mem _ hi)
    unfold wpOp at h ⊢
    rw [p.get hi] at h
    rw [Array.getElem?_eq_getElem hi] at h ⊢
    simp only [Option.map_some] at h
    rw [Ev p (Array.getElem?_eq_getElem hi)] at h
    simp only
    split
    · rename_i hw
      rw [if_pos hw, FY, EH] at h
      exact h.imp (Oper.wp_mono fun a w => ih a w) id
    · rename_i hw
      rw [if_neg hw] at h
      exact ih _ _ h
theorem yE {ops : Array Oper} {listed : Array Bool} (hsz : listed.size = ops.size) (i : Nat) :
    i ∈ Region.ready .any ops listed ↔ (i < ops.size ∧ listed.getD i false = false ∧ ∀ o, ops[i]? = some o → ∀ e ∈ o.after, Region.binds .any e = true → listed.getD e.on false = true) := by
  unfold Region.ready
  rw [List.mem_filter, List.mem_range]
  constructor
  · rintro ⟨h1, h2⟩
    rw [Array.getElem?_eq_getElem h1] at h2
    simp only [Bool.and_eq_true, Option.map_some, Option.getD_some] at h2
    refine ⟨h1, ?_, fun o ho e he hb => ?_⟩
    · have := h2.1
      rw [Array.getD_eq_getD_getElem?] at this ⊢
      rw [Array.getElem?_eq_getElem (by omega)] at this ⊢
      simpa using this
    · rw [Array.getElem?_eq_getElem h1] at ho
      cases ho
      have := Array.all_eq_true'.1 h2.2 e he
      simpa [hb] using this
  · rintro ⟨h1, h2, h3⟩
    refine ⟨h1, ?_⟩
    rw [Array.getElem?_eq_getElem h1]
    simp only [Bool.and_eq_true, Option.map_some, Option.getD_some]
    refine ⟨?_, Array.all_eq_true'.2 fun e he => ?_⟩
    · rw [Array.getD_eq_getD_getElem?] at h2 ⊢
      rw [Array.getElem?_eq_getElem (by omega)] at h2 ⊢
      simpa using h2
    · by_cases hb : Region.binds .any e = true
      · simp [hb, h3 _ (Array.getElem?_eq_getElem h1) e he hb]
      · simp [hb]
theorem GK {π : List Nat} {i : Nat} : ∀ {es : List (Nat × Nat)} {e : Edge}, e ∈ rE π i es → ∃ a, (a, i) ∈ es ∧ e.on = lT π a := by
  intro es
  induction es with
  | nil => intro e h; simp [rE] at h
  | cons q r ih =>
    obtain ⟨a, b⟩ := q
    intro e h
    simp only [rE] at h
    cases hb : Nat.beq b i with
    | true =>
      rw [hb] at h
      obtain rfl := Nat.eq_of_beq_eq_true hb
      rcases List.mem_cons.1 h with rfl | h
      · exact ⟨a, by simp, rfl⟩
      · obtain ⟨a, h1, h2⟩ := ih h; exact ⟨a, List.mem_cons_of_mem _ h1, h2⟩
    | false => rw [hb] at h; obtain ⟨a, h1, h2⟩ := ih h; exact ⟨a, List.mem_cons_of_mem _ h1, h2⟩
theorem F2 (p : Perm π ops) {L0 : List Nat} (hes : ∀ q ∈ es, L0.idxOf q.1 ≤ L0.idxOf q.2 ∧ q.1 ≠ q.2 ∧ q.1 < ops.size) :
    ∀ (fuel : Nat) (listed listed' : Array Bool) (pre L : List Nat), L0 = pre ++ L → listed.size = ops.size → listed'.size = ops.size →
      (∀ j, j < ops.size → listed'.getD (lT π j) false = listed.getD j false) → (∀ j ∈ pre, listed.getD j false = true) → (∀ j, listed.getD j false = true → j ∈ pre) →
      DQ ops fuel listed L → DQ (jM π es ops) fuel listed' (L.map (lT π)) ∧ ∀ i ∈ L, i < ops.size := by
  intro fuel
  induction fuel with
  | zero => intro listed listed' pre L _ _ _ _ _ _ h; obtain rfl : L = [] := h; exact ⟨rfl, by simp⟩
  | succ fuel ih =>
    intro listed listed' pre L hL0 hs hs' hrel hpre hpre' h
    have hsz : (jM π es ops).size = ops.size := p.size
    cases L with
    | nil =>
      refine ⟨?_, by simp⟩
      show Region.ready .any (jM π es ops) listed' = []
      rw [List.eq_nil_iff_forall_not_mem]
      intro k hk
      obtain ⟨h1, h2, h3⟩ := (yE (by omega) k).1 hk
      obtain ⟨i, hi1, hi2, hi3⟩ := p.back k (by omega)
      have : i ∈ Region.ready .any ops listed := by
        refine (yE hs i).2 ⟨hi3, ?_, fun o ho e he hb => ?_⟩
        · rw [← hrel i hi3, hi2]; exact h2
        · have g := p.get (es := es) hi3
          rw [hi2, ho] at g
          have hon := p.after i o ho e he
          have := h3 _ g ⟨lT π e.on, e.ground⟩ (by
            simp only [rP, List.mem_toArray, List.mem_append, List.mem_map]
            exact .inl ⟨e, by simpa using he, rfl⟩) (by unfold Region.binds at hb ⊢; exact hb)
          rw [← hrel e.on hon]; exact this
      rw [show Region.ready .any ops listed = [] from h] at this
      cases this
    | cons i L =>
      obtain ⟨h1, h2⟩ := h
      obtain ⟨r1, r2, r3⟩ := (yE hs i).1 h1
      have hnot : i ∉ pre := fun hm => by rw [hpre i hm] at r2; cases r2
      have hidx : L0.idxOf i = pre.length := by
        rw [hL0, List.idxOf_append, if_neg hnot]; simp
      have ready' : lT π i ∈ Region.ready .any (jM π es ops) listed' := by
        refine (yE (by omega) _).2 ⟨by rw [hsz]; exact (p.to i r1).1, by rw [hrel i r1]; exact r2, fun o' ho' e' he' hb => ?_⟩
        rw [p.get r1, Array.getElem?_eq_getElem r1] at ho'
        simp only [Option.map_some, Option.some.injEq] at ho'
        subst ho'
        simp only [rP, List.mem_toArray, List.mem_append, List.mem_map] at he'
        rcases he' with ⟨e, he, rfl⟩ | he'
        · have ho := Array.getElem?_eq_getElem r1
          have he2 : e ∈ ops[i].after := by simpa using he
          rw [hrel e.on (p.after i _ ho e he2)]
          exact r3 _ ho e he2 (by unfold Region.binds at hb ⊢; exact hb)
        · obtain ⟨a, ha, hon⟩ := GK he'
          obtain ⟨q1, q2, q3⟩ := hes _ ha
          simp only at q1 q2 q3
          rw [hon, hrel a q3]
          refine hpre a ?_
          rw [hidx] at q1
          rw [hL0, List.idxOf_append] at q1
          by_cases hm : a ∈ pre
          · exact hm
          · rw [if_neg hm] at q1
            exfalso
            have hz : (i :: L).idxOf a = 0 := by omega
            rw [List.idxOf_cons] at hz
            cases hb : (i == a) with
            | true => exact q2 (by simpa using (beq_iff_eq.1 hb).symm)
            | false => rw [hb] at hz; simp at hz
      have hlen' : listed'.size = ops.size := hs'
      obtain ⟨k1, k2⟩ := ih (listed.setIfInBounds i true) (listed'.setIfInBounds (lT π i) true) (pre ++ [i]) L (by rw [hL0]; simp) (by simp [hs]) (by simp [hs'])
        (fun j hj => by
          by_cases hji : j = i
          · subst hji
            rw [Array.getD_eq_getD_getElem?, Array.getD_eq_getD_getElem?, Array.getElem?_setIfInBounds_self_of_lt (by rw [hs']; exact (p.to j hj).1), Array.getElem?_setIfInBounds_self_of_lt (by omega)]
          · have hne : lT π i ≠ lT π j := fun e => by
              have a1 := (p.to i r1).2
              have a2 := (p.to j hj).2
              rw [e] at a1
              rw [a1] at a2
              exact hji (Option.some.inj a2).symm
            have := hrel j hj
            rw [Array.getD_eq_getD_getElem?, Array.getD_eq_getD_getElem?] at this ⊢
            rw [Array.getElem?_setIfInBounds_ne hne, Array.getElem?_setIfInBounds_ne (fun e => hji e.symm)]
            exact this)
        (fun j hj => by
          rw [Array.getD_eq_getD_getElem?]
          rcases List.mem_append.1 hj with hj | hj
          · by_cases hji : j = i
            · subst hji; rw [Array.getElem?_setIfInBounds_self_of_lt (by omega)] <;> rfl
            · rw [Array.getElem?_setIfInBounds_ne (fun e => hji e.symm), ← Array.getD_eq_getD_getElem?]; exact hpre j hj
          · have : j = i := by simpa using hj
            subst this
            rw [Array.getElem?_setIfInBounds_self_of_lt (by omega)] <;> rfl)
        (fun j hj => by
          by_cases hji : j = i
          · subst hji; simp
          · rw [Array.getD_eq_getD_getElem?, Array.getElem?_setIfInBounds_ne (fun e => hji e.symm), ← Array.getD_eq_getD_getElem?] at hj
            exact List.mem_append_left _ (hpre' j hj))
        h2
      exact ⟨⟨ready', k1⟩, fun j hj => (List.mem_cons.1 hj).elim (fun e => e ▸ r1) (k2 j)⟩
end
section
variable {P : Program} {ops : Array Oper}
theorem Cg {N : Nat} {an : FL} {pl : EI} (hok : CU ops an = true) (hpl : C2 ops.size an pl = true) (hd : CR N ops) (hca : A8 P ops)
    {K : hC → World → Prop} {Q : Exit → Act → World → Prop} (hQ : ∀ g a w, yC N g a → K g w → Q .normal a w) {g : hC} {a : Act} {w : World} (hr : yC N g a)
    (h : kH P ops ops.toList pl [] g w K) : wpAny P .any ops Q ops.size (Array.replicate ops.size false) a w := by
  have r0 : Gt P ops an g w 0 (fun _ => default) (fun _ => g) (fun _ => w) (fun _ => undef) :=
    ⟨rfl, rfl, fun i hi => by omega, fun i hi => by omega, fun i hi => by omega, fun i hi => by omega, fun i j _ hj => by omega⟩
  obtain ⟨O, G, W, V, r, hk⟩ := Ex hpl ops.toList 0 [] _ _ _ _ (fun j => by simp) (by simp) r0 (fun i hi => by omega) h
  simp only [Nat.zero_add, Array.length_toList] at r hk
  have st := Gp hok r.op
  have := GE (Q := Q) (n := ops.size) rfl hd hca r st (fun a hra => hQ _ a _ hra hk) ops.size (Array.replicate ops.size false) g a 0 (by simp) hr (by omega)
    (fun j hj hl => by unfold iS at hl; simp [Array.getD_eq_getD_getElem?, hj] at hl)
    (fun s => .inr ⟨fun j hj hl => by unfold iS at hl; simp [Array.getD_eq_getD_getElem?, hj] at hl, rfl⟩)
    (fun h hh _ => ⟨fun hl => by unfold iS at hl; simp [Array.getD_eq_getD_getElem?, hh] at hl, fun hl => by omega⟩)
    (Nat.le_trans (List.length_filter_le _ _) (by simp))
  rw [r.w0] at this
  exact this
theorem DE {N : Nat} {ops : Array Oper} (h : ops.all (FG N) = true) : CR N ops := by
  intro i o ho t ht
  have := Array.all_eq_true'.1 h o (Array.mem_of_getElem? ho)
  unfold FG at this
  rw [ht] at this
  exact (Nat.blt_eq (x := t) (y := N)) ▸ this
theorem C7 {ops : Array Oper} (h : ops.all (xM P) = true) : A8 P ops :=
  fun _ o ho => Array.all_eq_true'.1 h o (Array.mem_of_getElem? ho)
theorem Fd {N : Nat} {f : FuncId} {id : Nat} (hd : CR N ops) (hca : A8 P ops)
    {K : hC → World → Prop} {Q : Exit → Act → World → Prop} (hQ : ∀ g a w, yC N g a → K g w → Q .normal a w) {g : hC} {a : Act} {w0 w : World} (hr : yC N g a) :
    ∀ (T : HT) (path : List (Nat × Nat)), zA P N ops path T = true →
      (∀ q ∈ path, (Region.schedule true ops (w0.tape w0.drawn (.order f id))).idxOf q.1 ≤ (Region.schedule true ops (w0.tape w0.drawn (.order f id))).idxOf q.2 ∧ q.1 ≠ q.2) →
      EU P f id ops T g w0 w K → wpOps P ops Q (Region.schedule true ops (w0.tape w0.drawn (.order f id))) a w := by
  have lin : DQ ops ops.size (Array.replicate ops.size false) (Region.schedule true ops (w0.tape w0.drawn (.order f id))) := by
    unfold Region.schedule
    simp only [Bool.true_or, if_true]
    exact HI _ _ _
  generalize hL : Region.schedule true ops (w0.tape w0.drawn (.order f id)) = L at lin ⊢
  intro T
  induction T with
  | leaf an pl =>
    intro path hok _ h
    simp only [zA, Bool.and_eq_true] at hok
    exact Ae _ _ _ _ _ (Cg hok.1 hok.2 hd hca hQ hr h) lin
  | perm π es an pl =>
    intro path hok hpath h
    simp only [zA, Bool.and_eq_true] at hok
    obtain ⟨⟨⟨⟨⟨h1, h2⟩, h3⟩, h4⟩, h5⟩, h6⟩ := hok
    have p := HQ h2
    have hes : ∀ q ∈ es, L.idxOf q.1 ≤ L.idxOf q.2 ∧ q.1 ≠ q.2 ∧ q.1 < ops.size := fun q hq => by
      have := List.all_eq_true.1 h1 q hq
      simp only [Bool.and_eq_true] at this
      have hp := hpath q (G0 this.1)
      exact ⟨hp.1, hp.2, (Nat.blt_eq (x := q.1) (y := ops.size)) ▸ this.2⟩
    obtain ⟨k1, k2⟩ := F2 (es := es) p hes ops.size (Array.replicate ops.size false) (Array.replicate ops.size false) [] L rfl (by simp) (by simp)
      (fun j hj => by simp [Array.getD_eq_getD_getElem?, hj, (p.to j hj).1]) (by simp)
      (fun j hj => by rw [Array.getD_eq_getD_getElem?] at hj; by_cases hh : j < ops.size <;> simp [hh] at hj) lin
    have hw := Cg h5 h6 (DE h3) (C7 h4) hQ hr h
    rw [p.size] at hw
    exact Fb (es := es) p L k2 a w (Ae _ _ _ _ _ hw k1)
  | split x y A B ihA ihB =>
    intro path hok hpath h
    simp only [zA, Bool.and_eq_true] at hok
    have hne : x ≠ y := by
      intro e
      have := hok.1.1
      rw [e] at this
      simp at this
    simp only [EU] at h
    unfold IQ Hw at h
    rw [hL] at h
    cases hb : Nat.ble (L.idxOf x) (L.idxOf y) with
    | true =>
      rw [hb] at h
      refine ihA _ hok.1.2 (fun q hq => ?_) h
      rcases List.mem_cons.1 hq with rfl | hq
      · exact ⟨Nat.le_of_ble_eq_true hb, hne⟩
      · exact hpath q hq
    | false =>
      rw [hb] at h
      refine ihB _ hok.2 (fun q hq => ?_) h
      rcases List.mem_cons.1 hq with rfl | hq
      · refine ⟨?_, hne.symm⟩
        simp only
        rcases Nat.lt_or_ge (L.idxOf y) (L.idxOf x) with hh | hh
        · omega
        · have := Nat.ble_eq_true_of_le hh; rw [this] at hb; cases hb
      · exact hpath q hq
end
end Go.En
namespace Go.En
open Go
section
variable {P : Program} {ann : FA}
def iZ : List Oper → List Nat
  | [] => []
  | o :: r => match o.dst with | some d => d :: iZ r | none => iZ r
def BF : Code → List Nat
  | .region _ ops _ => iZ ops.toList
  | .seq x y => BF x ++ BF y
  | .cond _ x y => BF x ++ BF y
  | .block _ c => BF c
  | .scope c => BF c
  | .loop c => BF c
  | _ => []
def iY (l : List Nat) (g g' : hC) : Prop := ∀ s, s ∉ l → g' s = g s
theorem iY.refl (l : List Nat) (g : hC) : iY l g g := fun _ _ => rfl
theorem iY.trans {l l1 l2 : List Nat} {a b c : hC} (h : iY l1 a b) (k : iY l2 b c) (h1 : ∀ s, s ∈ l1 → s ∈ l) (h2 : ∀ s, s ∈ l2 → s ∈ l) : iY l a c :=
  fun s hs => (k s fun h => hs (h2 s h)).trans (h s fun h => hs (h1 s h))
theorem iY.mono {l l1 : List Nat} {a b : hC} (h : iY l1 a b) (h1 : ∀ s, s ∈ l1 → s ∈ l) : iY l a b := fun s hs => h s fun hh => hs (h1 s hh)
theorem iY.put {l : List Nat} {a : hC} (d : Option Tmp) (v : Value) (h : ∀ t, d = some t → t ∈ l) : iY l a (put a d v) := by
  intro s hs
  cases d with
  | none => rfl
  | some t =>
    rw [Dh, if_neg (fun e => hs (by rw [e]; exact h t rfl))]
theorem Ft {ops : Array Oper} {K : hC → World → Prop} : ∀ (l : List Oper) (g : hC) (w : World), Da P ops l g w K →
    ∃ g' w', K g' w' ∧ iY (iZ l) g g' ∧ ∀ K' : hC → World → Prop, K' g' w' → Da P ops l g w K' := by
  intro l
  induction l with
  | nil => intro g w h; exact ⟨g, w, h, iY.refl _ _, fun _ h => h⟩
  | cons o l ih =>
    intro g w h
    obtain ⟨v, w1, hy, h1⟩ := vO h
    obtain ⟨g', w', hk, ha, hall⟩ := ih _ _ h1
    refine ⟨g', w', hk, ?_, fun K' hk' => hy _ (hall K' hk')⟩
    refine iY.trans (iY.put o.dst v (l := iZ (o :: l)) fun t ht => by simp [iZ, ht]) ha (fun _ h => h) (fun s hs => ?_)
    unfold iZ
    split
    · exact List.mem_cons_of_mem _ hs
    · exact hs
theorem Cf {ops : Array Oper} {K : hC → World → Prop} : ∀ (l : List Oper) (pl : EI) (hist : List Hj) (g : hC) (w : World), kH P ops l pl hist g w K →
    ∃ g' w', K g' w' ∧ iY (iZ l) g g' ∧ ∀ K' : hC → World → Prop, K' g' w' → kH P ops l pl hist g w K' := by
  intro l
  induction l with
  | nil => intro pl hist g w h; unfold kH at h; exact ⟨g, w, h, iY.refl _ _, fun _ h => (by unfold kH; exact h)⟩
  | cons o l ih =>
    intro pl hist g w h
    cases pl with
    | nil => exact h.elim
    | cons p pl =>
      obtain ⟨hv, ks⟩ := p
      obtain ⟨v, w1, hy, h1⟩ := vO h
      have tail : ∀ (w2 : World) (hist' : List Hj), kH P ops l pl hist' (put g o.dst v) w2 K →
          ∃ g' w', K g' w' ∧ iY (iZ (o :: l)) g g' ∧ ∀ K' : hC → World → Prop, K' g' w' → kH P ops l pl hist' (put g o.dst v) w2 K' := by
        intro w2 hist' c2
        obtain ⟨g', w', hk, ha, hall⟩ := ih _ _ _ _ c2
        refine ⟨g', w', hk, ?_, hall⟩
        refine iY.trans (iY.put o.dst v (l := iZ (o :: l)) fun t ht => by simp [iZ, ht]) ha (fun _ h => h) (fun s hs => ?_)
        unfold iZ
        split
        · exact List.mem_cons_of_mem _ hs
        · exact hs
      cases hv with
      | true =>
        cases ks with
        | nil =>
          obtain ⟨g', w', hk, ha, hall⟩ := tail w1 _ h1
          exact ⟨g', w', hk, ha, fun K' hk' => hy _ (hall K' hk')⟩
        | cons k ks =>
          obtain ⟨hc, h1⟩ := h1
          obtain ⟨g', w', hk, ha, hall⟩ := tail w1 _ h1
          exact ⟨g', w', hk, ha, fun K' hk' => hy _ ⟨hc, hall K' hk'⟩⟩
      | false =>
        cases ks with
        | nil =>
          obtain ⟨rfl, h1⟩ := h1
          obtain ⟨g', w', hk, ha, hall⟩ := tail w1 _ h1
          exact ⟨g', w', hk, ha, fun K' hk' => hy _ ⟨rfl, hall K' hk'⟩⟩
        | cons k ks =>
          obtain ⟨rfl, hc, h1⟩ := h1
          obtain ⟨g', w', hk, ha, hall⟩ := tail w1 _ h1
          exact ⟨g', w', hk, ha, fun K' hk' => hy _ ⟨rfl, hc, hall K' hk'⟩⟩
theorem xH {l : List Oper} {s : Nat} : s ∈ iZ l ↔ ∃ o ∈ l, o.dst = some s := by
  induction l with
  | nil => simp [iZ]
  | cons o l ih =>
    unfold iZ
    cases hd : o.dst with
    | none => simp [ih, hd]
    | some d => simp [ih, hd, eq_comm]
theorem Fh {π : List Nat} {es : List (Nat × Nat)} {l : List Oper} {s : Nat} : ∀ (r : List Nat), s ∈ iZ (Av π es l r) → s ∈ iZ l := by
  intro r
  induction r with
  | nil => intro h; simp [Av, iZ] at h
  | cons i r ih =>
    intro h
    simp only [Av] at h
    cases ho : l[i]? with
    | none => rw [ho] at h; exact ih h
    | some o =>
      rw [ho] at h
      obtain ⟨o', h1, h2⟩ := xH.1 h
      rcases List.mem_cons.1 h1 with rfl | h1
      · exact xH.2 ⟨o, List.mem_of_getElem? ho, h2⟩
      · exact ih (xH.2 ⟨o', h1, h2⟩)
theorem GC {f : FuncId} {id : Nat} {ops : Array Oper} {K : hC → World → Prop} {g : hC} {w0 : World} : ∀ (T : HT) (w : World), EU P f id ops T g w0 w K →
    ∃ g' w', K g' w' ∧ iY (iZ ops.toList) g g' ∧ ∀ K' : hC → World → Prop, K' g' w' → EU P f id ops T g w0 w K' := by
  intro T
  induction T with
  | leaf an pl => intro w h; exact Cf _ _ _ _ _ h
  | perm π es an pl =>
    intro w h
    obtain ⟨g', w', a, b, c⟩ := Cf _ _ _ _ _ h
    exact ⟨g', w', a, b.mono (fun s hs => Fh π (by simpa [jM] using hs)), c⟩
  | split x y A B ihA ihB =>
    intro w h
    simp only [EU, IQ] at h ⊢
    cases hb : Hw f id ops x y w0 with
    | true => rw [hb] at h; exact ihA w h
    | false => rw [hb] at h; exact ihB w h
theorem iV.head {α : Type} {F : (α → World → Prop) → α → World → Prop} (hmono : ∀ X Y g w, (∀ g w, X g w → Y g w) → F X g w → F Y g w)
    {g : α} {w : World} (h : F (fun g' w' => iV F g' w') g w) (hdet : ∃ g' w', iV F g' w' ∧ ∀ X : α → World → Prop, X g' w' → F X g w) : iV F g w := by
  obtain ⟨g1, w1, ⟨I, ⟨n1, h1⟩, hI⟩, hF⟩ := hdet
  refine ⟨fun n g' w' => I n g' w' ∨ (n = n1 + 1 ∧ g' = g ∧ w' = w), ⟨n1 + 1, .inr ⟨rfl, rfl, rfl⟩⟩, ?_⟩
  rintro n g' w' (h | ⟨rfl, rfl, rfl⟩)
  · exact hmono _ _ _ _ (fun _ _ ⟨m, hm, hh⟩ => ⟨m, hm, .inl hh⟩) (hI _ _ _ h)
  · exact hF _ ⟨n1, by omega, .inl h1⟩
theorem Fy : ∀ (c : Code) (Q : Exit → hC → World → Prop) (g : hC) (w : World), eI P ann c Q g w →
    ∃ e g' w', Q e g' w' ∧ iY (BF c) g g' ∧ ∀ Q' : Exit → hC → World → Prop, Q' e g' w' → eI P ann c Q' g w := by
  intro c
  induction c with
  | skip => intro Q g w h; exact ⟨_, _, _, h, iY.refl _ _, fun _ h => h⟩
  | region id ops draw =>
    intro Q g w h
    cases draw with
    | false =>
      obtain ⟨g', w', a, b, c⟩ := Ft _ _ _ h
      exact ⟨.normal, g', w', a, b, fun Q' h => c _ h⟩
    | true =>
      obtain ⟨g', w', a, b, c⟩ := GC _ _ h
      exact ⟨.normal, g', w', a, b, fun Q' h => c _ h⟩
  | seq x y ihx ihy =>
    intro Q g w h
    obtain ⟨e, g1, w1, a, b, c⟩ := ihx _ _ _ h
    cases e with
    | normal =>
      obtain ⟨e2, g2, w2, a2, b2, c2⟩ := ihy _ _ _ a
      exact ⟨e2, g2, w2, a2, b.trans b2 (fun s h => List.mem_append_left _ h) (fun s h => List.mem_append_right _ h), fun Q' h => c _ (c2 _ h)⟩
    | _ => exact ⟨_, g1, w1, a, b.mono (fun s h => List.mem_append_left _ h), fun Q' h => c _ h⟩
  | cond c x y ihx ihy =>
    intro Q g w h
    simp only [eI] at h ⊢
    unfold mG at h ⊢
    cases hc : ev g c with
    | bool b =>
      rw [hc] at h
      cases b with
      | true =>
        obtain ⟨e, g', w', a, b, c⟩ := ihx _ _ _ h
        exact ⟨e, g', w', a, b.mono (fun s h => List.mem_append_left _ h), c⟩
      | false =>
        obtain ⟨e, g', w', a, b, c⟩ := ihy _ _ _ h
        exact ⟨e, g', w', a, b.mono (fun s h => List.mem_append_right _ h), c⟩
    | _ => rw [hc] at h; exact h.elim
  | block id c ih =>
    intro Q g w h
    obtain ⟨e, g', w', a, b, c⟩ := ih _ _ _ h
    cases e with
    | exit i =>
      simp only [Cq] at a
      cases hb : Nat.beq i id with
      | true =>
        simp only [hb] at a
        refine ⟨.normal, g', w', a, b, fun Q' h => c _ ?_⟩
        simp only [Cq, hb]; exact h
      | false =>
        simp only [hb] at a
        refine ⟨.exit i, g', w', a, b, fun Q' h => c _ ?_⟩
        simp only [Cq, hb]; exact h
    | _ => exact ⟨_, g', w', a, b, fun Q' h => c _ h⟩
  | loop c ih =>
    intro Q g w h
    have hmono : ∀ (Q : Exit → hC → World → Prop) (X Y : hC → World → Prop) g w, (∀ g w, X g w → Y g w) → eI P ann c (fK X Q) g w → eI P ann c (fK Y Q) g w := by
      intro Q X Y g w hxy h
      obtain ⟨e, g', w', a, _, k⟩ := ih _ _ _ h
      refine k _ ?_
      cases e with
      | normal => exact hxy _ _ a
      | _ => exact a
    obtain ⟨I, ⟨n, h0⟩, hI⟩ := h
    have key : ∀ n g w, I n g w → ∃ e g' w', Q e g' w' ∧ iY (BF c) g g' ∧ ∀ Q' : Exit → hC → World → Prop, Q' e g' w' → iV (fun X g w => eI P ann c (fK X Q') g w) g w := by
      intro n
      induction n using Nat.strongRecOn with
      | _ n ih2 =>
        intro g w hg
        obtain ⟨e, g1, w1, a, b, k⟩ := ih _ _ _ (hI n g w hg)
        have once : ∀ (Q' : Exit → hC → World → Prop), (∀ X : hC → World → Prop, eI P ann c (fK X Q') g w) → iV (fun X g w => eI P ann c (fK X Q') g w) g w := by
          intro Q' h
          refine ⟨fun n g' w' => g' = g ∧ w' = w, ⟨0, rfl, rfl⟩, ?_⟩
          rintro _ g' w' ⟨rfl, rfl⟩
          exact h _
        cases e with
        | normal =>
          obtain ⟨m, hm, hIm⟩ := a
          obtain ⟨e2, g2, w2, a2, b2, k2⟩ := ih2 m hm g1 w1 hIm
          refine ⟨e2, g2, w2, a2, b.trans b2 (fun _ h => h) (fun _ h => h), fun Q' h => ?_⟩
          have hl := k2 Q' h
          exact iV.head (hmono Q') (k _ hl) ⟨g1, w1, hl, fun X hx => k _ hx⟩
        | _ => exact ⟨_, g1, w1, a, b, fun Q' h => once Q' fun X => k _ h⟩
    exact key n g w h0
  | exit id => intro Q g w h; exact ⟨_, _, _, h, iY.refl _ _, fun _ h => h⟩
  | label l => intro Q g w h; exact ⟨_, _, _, h, iY.refl _ _, fun _ h => h⟩
  | scope c ih => intro Q g w h; exact ih Q g w h
  | ret => intro Q g w h; exact ⟨_, _, _, h, iY.refl _ _, fun _ h => h⟩
  | _ => intro Q g w h; exact h.elim
theorem rH {c : Code} {Q Q' : Exit → hC → World → Prop} {g : hC} {w : World} (h : eI P ann c Q g w)
    (hq : ∀ e g' w', iY (BF c) g g' → Q e g' w' → Q' e g' w') : eI P ann c Q' g w :=
  let ⟨_, _, _, a, b, k⟩ := Fy c Q g w h
  k _ (hq _ _ _ b a)
def Iv (Q : Exit → hC → World → Prop) : Exit → hC → World → Prop
  | .goto _, _, _ => False
  | e, g, w => Q e g w
theorem E7 : ∀ (c : Code) (Q : Exit → hC → World → Prop) (g : hC) (w : World), eI P ann c Q g w → eI P ann c (Iv Q) g w := by
  intro c
  induction c with
  | skip => intro Q g w h; exact h
  | region id ops draw => intro Q g w h; cases draw <;> exact h
  | seq x y ihx ihy =>
    intro Q g w h
    show eI P ann x (fK (fun g w => eI P ann y (Iv Q) g w) (Iv Q)) g w
    refine rH (ihx _ _ _ h) (fun e g' w' _ hq => ?_)
    cases e with
    | normal => exact ihy _ _ _ hq
    | goto l => exact hq.elim
    | _ => exact hq
  | cond c x y ihx ihy =>
    intro Q g w h
    simp only [eI] at h ⊢
    unfold mG at h ⊢
    cases hc : ev g c with
    | bool b =>
      rw [hc] at h
      cases b with
      | true => exact ihx _ _ _ h
      | false => exact ihy _ _ _ h
    | _ => rw [hc] at h; exact h.elim
  | block id c ih =>
    intro Q g w h
    show eI P ann c (Cq id (Iv Q)) g w
    refine rH (ih _ _ _ h) (fun e g' w' _ hq => ?_)
    cases e with
    | exit i =>
      simp only [Iv, Cq] at hq ⊢
      cases hb : Nat.beq i id with
      | true => rw [hb] at hq; exact hq
      | false => rw [hb] at hq; exact hq
    | goto l => exact hq.elim
    | _ => exact hq
  | loop c ih =>
    intro Q g w h
    obtain ⟨I, h0, hI⟩ := h
    refine ⟨I, h0, fun n g w hi => ?_⟩
    refine rH (ih _ _ _ (hI n g w hi)) (fun e g' w' _ hq => ?_)
    cases e with
    | normal => exact hq
    | goto l => exact hq.elim
    | _ => exact hq
  | exit id => intro Q g w h; exact h
  | label l => intro Q g w h; exact h
  | scope c ih => intro Q g w h; exact ih Q g w h
  | ret => intro Q g w h; exact h
  | _ => intro Q g w h; exact h.elim
theorem Ga {N : Nat} (hm : P.follows .mixedOrders = true) : ∀ (c : Code), pJ P N ann c = true →
    ∀ (Q : Exit → hC → World → Prop) (QA : Exit → Act → World → Prop) (g : hC) (a : Act) (w : World), yC N g a →
      (∀ e g a w, yC N g a → Q e g w → QA e a w) → eI P ann c Q g w → Fu P ann.f c QA a w := by
  intro c
  induction c with
  | skip => intro _ Q QA g a w hr hq h; exact C0 (wp_skip (hq _ _ _ _ hr h))
  | region id ops draw =>
    intro hok Q QA g a w hr hq h
    simp only [pJ, Bool.and_eq_true, Bool.or_eq_true, Bool.not_eq_true'] at hok
    have hd := DE hok.1.1
    have hca := C7 hok.1.2
    cases draw with
    | false =>
      refine C0 (wp_region ?_)
      have := Gi hd hca (P := P) (Q := QA) (K := Q .normal) (fun g a w => hq .normal g a w) ops.toList 0 g a w (fun j => by simp) hr h
      rw [List.range_eq_range']
      simpa using this
    | true =>
      rcases hok.2 with h1 | h1
      · cases h1
      · exact CF hm (Fd hd hca (fun g a w => hq .normal g a w) hr _ [] h1 (by simp) h)
  | seq x y ihx ihy =>
    intro hok Q QA g a w hr hq h
    simp only [pJ, Bool.and_eq_true] at hok
    refine HE (ihx hok.1 _ _ g a w hr (fun e g a w hr h => ?_) h)
    cases e with
    | normal => exact ihy hok.2 _ _ g a w hr hq h
    | _ => exact hq _ _ _ _ hr h
  | cond c x y ihx ihy =>
    intro hok Q QA g a w hr hq h
    simp only [pJ, Bool.and_eq_true] at hok
    simp only [eI] at h
    unfold mG at h
    have he := hr.ev c
    cases hc : ev g c with
    | bool b =>
      rw [hc] at h he
      refine GT he ?_
      cases b with
      | true => exact ihx hok.1 _ _ g a w hr hq h
      | false => exact ihy hok.2 _ _ g a w hr hq h
    | _ => rw [hc] at h; exact h.elim
  | block id c ih =>
    intro hok Q QA g a w hr hq h
    refine Gg (ih hok _ _ g a w hr (fun e g a w hr h => ?_) h)
    cases e with
    | exit i =>
      unfold Exit.inBlock
      simp only [Cq] at h
      by_cases hi : i = id
      · subst hi
        simp only [if_true]
        simp only [Nat.beq_refl] at h
        exact hq _ _ _ _ hr h
      · simp only [hi, if_false]
        have : Nat.beq i id = false := by
          cases hb : Nat.beq i id
          · rfl
          · exact absurd (Nat.eq_of_beq_eq_true hb) hi
        simp only [this] at h
        exact hq _ _ _ _ hr h
    | _ => exact hq _ _ _ _ hr h
  | loop c ih =>
    intro hok Q QA g a w hr hq h
    obtain ⟨I, h0, hround⟩ := h
    have hex : ∀ a w, (∃ n g, yC N g a ∧ I n g w) → ∃ n, (∃ g, yC N g a ∧ I n g w) ∧ ∀ m, (∃ g, yC N g a ∧ I m g w) → n ≤ m := by
      rintro a w ⟨n, hn⟩
      induction n using Nat.strongRecOn with
      | _ n ih2 =>
        by_cases hx : ∃ m, m < n ∧ ∃ g, yC N g a ∧ I m g w
        · obtain ⟨m, hm, h⟩ := hx; exact ih2 m hm h
        · exact ⟨n, hn, fun m hm => Nat.le_of_not_lt fun hlt => hx ⟨m, hlt, hm⟩⟩
    have hdec : ∀ a w, Decidable (∃ n g, yC N g a ∧ I n g w) := fun a w => Classical.propDecidable _
    let μ : Act → World → Nat := fun a w => if hh : ∃ n g, yC N g a ∧ I n g w then Classical.choose (hex a w hh) else 0
    have hμ : ∀ a w n g, yC N g a → I n g w → μ a w ≤ n ∧ ∃ g, yC N g a ∧ I (μ a w) g w := by
      intro a w n g hr hI
      have hh : ∃ n g, yC N g a ∧ I n g w := ⟨n, g, hr, hI⟩
      have e : μ a w = Classical.choose (hex a w hh) := dif_pos hh
      have s := Classical.choose_spec (hex a w hh)
      rw [e]
      exact ⟨s.2 n ⟨g, hr, hI⟩, s.1⟩
    obtain ⟨n0, h0⟩ := h0
    refine GR (fun a w => ∃ n g, yC N g a ∧ I n g w) μ ⟨n0, g, hr, h0⟩ ?_
    rintro a w ⟨n, g, hr, hI⟩
    obtain ⟨_, g', hr', hI'⟩ := hμ a w n g hr hI
    refine ih hok _ _ g' a w hr' (fun e g1 a1 w1 hr1 h => ?_) (hround _ _ _ hI')
    cases e with
    | normal =>
      obtain ⟨m, hm, hIm⟩ := h
      have := hμ a1 w1 m g1 hr1 hIm
      exact ⟨⟨m, g1, hr1, hIm⟩, by omega⟩
    | _ => exact hq _ _ _ _ hr1 h
  | label l => intro _ Q QA g a w hr hq h; exact C0 (wp_label (hq _ _ _ _ hr h))
  | scope c ih =>
    intro hok Q QA g a w hr hq h
    refine Gj (ih hok (Iv Q) _ g a w hr (fun e g a w hr h => ?_) (E7 c _ g w h))
    cases e with
    | goto l => exact h.elim
    | _ => exact hq _ _ _ _ hr h
  | exit id => intro _ Q QA g a w hr hq h; exact C0 (wp_exit (hq _ _ _ _ hr h))
  | ret => intro _ Q QA g a w hr hq h; exact C0 (wp_ret (hq _ _ _ _ hr h))
  | _ => intro hok; simp [pJ] at hok
def mQ (P : Program) : List ResultVar → hC → World → (List Value → Prop) → Prop
  | [], _, _, K => K []
  | .tmp t :: r, g, w, K => mQ P r g w fun vs => K (g t :: vs)
  | .cell a t :: r, g, w, K => ∃ v, (do loadVar t (← asAddr (g a)) : Sem Value).run P w = .ok v w ∧ mQ P r g w fun vs => K (v :: vs)
def Hi : List Value → Value
  | [v] => v
  | vs => .tuple vs.toArray
def qD (P : Program) (rs : List ResultVar) (R : Value → World → Prop) : Exit → hC → World → Prop
  | .normal, g, w => mQ P rs g w fun vs => R (Hi vs) w
  | .ret, g, w => mQ P rs g w fun vs => R (Hi vs) w
  | _, _, _ => False
theorem ER {N : Nat} {g : hC} {a : Act} {w : World} (hr : yC N g a) : ∀ (rs : List ResultVar) (K : List Value → Prop), mQ P rs g w K →
    ∃ vs, K vs ∧ (rs.mapM fun | .tmp t => pure (a.tmps.getD t undef) | .cell b t => do loadVar t (← asAddr (a.tmps.getD b undef)) : Sem (List Value)).run P w = .ok vs w := by
  intro rs
  induction rs with
  | nil => intro K h; exact ⟨[], h, by simp⟩
  | cons r rs ih =>
    intro K h
    cases r with
    | tmp t =>
      obtain ⟨vs, h1, h2⟩ := ih _ h
      refine ⟨_, h1, ?_⟩
      rw [List.mapM_cons]
      rw [pure_bind, Sem.run_bind]
      simp only [h2, Result.andThen, Sem.run_pure, hr.2.2 t]
    | cell b t =>
      obtain ⟨v, hv, h⟩ := h
      obtain ⟨vs, h1, h2⟩ := ih _ h
      refine ⟨_, h1, ?_⟩
      rw [List.mapM_cons]
      rw [← hr.2.2 b] at hv
      rw [Sem.run_bind]
      simp only [hv, Result.andThen]
      rw [Sem.run_bind]
      simp only [h2, Result.andThen]
      rfl
theorem H3 (vs : Array Value) : (if h : vs.size = 1 then vs[0] else Value.tuple vs) = Hi vs.toList := by
  obtain ⟨l⟩ := vs
  match l with
  | [] => rfl
  | [v] => rfl
  | a :: b :: r => simp [Hi]
theorem EL {N : Nat} {g : hC} {a : Act} {w : World} (fn : Func) {rs : List ResultVar} (hrs : fn.results = rs.toArray) (hr : yC N g a) {R : Value → World → Prop}
    (h : mQ P rs g w fun vs => R (Hi vs) w) : ∃ v, (results fn a.tmps).run P w = .ok v w ∧ R v w := by
  obtain ⟨vs, h1, h2⟩ := ER hr rs _ h
  refine ⟨Hi vs, ?_, h1⟩
  unfold results
  rw [hrs, Array.mapM_eq_mapM_toList, List.toList_toArray]
  simp only [bind_assoc, map_eq_pure_bind]
  rw [Sem.run_bind]
  refine Eq.trans (congrArg (fun r => Result.andThen r _) h2) ?_
  simp only [Result.andThen]
  simp only [pure_bind, Sem.run_pure, H3]
def kJ (args : List Value) : hC := fun i => args.getD i undef
theorem fQ {f : FuncId} {fn : Func} {c : Code} {args : List Value} {w : World} {rs : List ResultVar} {R : Value → World → Prop} (hm : P.follows .mixedOrders = true) (hAf : ann.f = f)
    (hf : P.funcs[f]? = some fn) (hb : fn.body = some c) (hrs : fn.results = rs.toArray) {N : Nat} (hN : fn.ntmps = N) (hle : args.length ≤ N)
    (hok : pJ P N ann c = true) (h : eI P ann c (qD P rs R) (kJ args) w) : gH P f args.toArray w R := by
  obtain ⟨e, g', w', hq, _, hall⟩ := Fy _ _ _ _ h
  have hrv : mQ P rs g' w' fun vs => R (Hi vs) w' := by cases e <;> first | exact hq | exact hq.elim
  have hex : ∃ v, R v w' ∧ ∀ R' : Value → World → Prop, R' v w' → mQ P rs g' w' fun vs => R' (Hi vs) w' := by
    have gen : ∀ (rs : List ResultVar) (K : List Value → Prop), mQ P rs g' w' K → ∃ vs, K vs ∧ ∀ K' : List Value → Prop, K' vs → mQ P rs g' w' K' := by
      intro rs
      induction rs with
      | nil => intro K h; exact ⟨_, h, fun _ h => h⟩
      | cons r rs ih =>
        intro K h
        cases r with
        | tmp t =>
          obtain ⟨vs, a, b⟩ := ih _ h
          exact ⟨_, a, fun K' h => b _ h⟩
        | cell b t =>
          obtain ⟨v, hv, h⟩ := h
          obtain ⟨vs, a, b⟩ := ih _ h
          exact ⟨_, a, fun K' h => ⟨v, hv, b _ h⟩⟩
    obtain ⟨vs, a, b⟩ := gen _ _ hrv
    exact ⟨_, a, fun R' h => b _ h⟩
  obtain ⟨v, hv, hrest⟩ := hex
  refine ⟨v, w', ?_, hv⟩
  have hrel : yC N (kJ args) { tmps := args.toArray ++ Array.replicate (fn.ntmps - args.toArray.size) undef, defers := [] } := by
    refine ⟨rfl, by simp [hN]; omega, fun i => ?_⟩
    simp only [kJ, Array.getD_eq_getD_getElem?, List.getD_eq_getElem?_getD]
    by_cases hi : i < args.length
    · simp [Array.getElem?_append, hi]
    · simp only [Array.getElem?_append, List.size_toArray, hi, if_false, Array.getElem?_replicate]
      rw [List.getElem?_eq_none (by omega)]
      split <;> rfl
  refine DW (f := f) hf hb ?_
  refine hAf ▸ Ga hm c hok (qD P rs fun v2 w2 => v2 = v ∧ w2 = w') _ _ _ _ hrel ?_ (hall _ ?_)
  · intro e g a w hr h
    have hx : ∀ {w}, (mQ P rs g w fun vs => Hi vs = v ∧ w = w') → a.defers = [] ∧ ∃ v2, (results fn a.tmps).run P w = .ok v2 w ∧ (Ending.returned v2 = .returned v ∧ w = w') := by
      intro w h
      obtain ⟨v2, h1, rfl, h3⟩ := EL fn hrs hr (R := fun v2 w2 => v2 = v ∧ w2 = w') h
      exact ⟨hr.1, v2, h1, rfl, h3⟩
    cases e with
    | normal => exact hx h
    | ret => exact hx h
    | _ => exact h.elim
  · have := hrest (fun v2 w2 => v2 = v ∧ w2 = w') ⟨rfl, rfl⟩
    cases e <;> first | exact this | exact hq.elim
theorem Dr {f : FuncId} {args : Array Value} {w : World} {R : Value → World → Prop} (h : gH P f args w R) :
    Calls P f args w fun e w' => ∃ v, e = .returned v ∧ R v w' := by
  obtain ⟨v, w', hr, hR⟩ := h
  refine Calls.mono hr ?_
  rintro e w'' ⟨rfl, rfl⟩
  exact ⟨v, rfl, hR⟩
end
end Go.En
namespace Go.En
open Go
def sA : Code → Code | .seq a _ => a | c => c
def bI : Code → Code | .block _ c => c | .loop c => c | .scope c => c | c => c
def jB (f : Func) : Code := match f.body with | some c => c | none => .skip
def cP : Nat → Code → Code
  | 0, c => c
  | 1, c => sA c
  | n + 1, .seq a b => .seq a (cP n b)
  | _, c => c
def aA : Nat → Code → Code
  | 0, c => c
  | n + 1, .seq _ b => aA n b
  | _, c => c
def Fp : Nat → Code → Bool
  | 1, .seq _ _ => true
  | n + 1, .seq _ b => Fp n b
  | _, _ => false
def dr (w : World) : World := { w with drawn := w.drawn + 1 }
def zN (P : Program) (t : TypeId) (a : Value) (w : World) (K : Value → Prop) : Prop := ∃ v, (do loadVar t (← asAddr a) : Sem Value).run P w = .ok v w ∧ K v
def IV : List (Nat × (hC → World → Prop)) → Nat → hC → World → Prop
  | [], _, _, _ => False
  | (j, k) :: r, i, g, w => match Nat.beq i j with | true => k g w | false => IV r i g w
def I7 (kn kr : hC → World → Prop) (l : List (Nat × (hC → World → Prop))) : Exit → hC → World → Prop
  | .normal, g, w => kn g w
  | .ret, g, w => kr g w
  | .exit i, g, w => IV l i g w
  | _, _, _ => False
def GS (Q : Exit → hC → World → Prop) : List (Nat × (hC → World → Prop)) → Prop
  | [] => True
  | (i, k) :: r => (∀ g w, k g w → Q (.exit i) g w) ∧ GS Q r
def kO (c a b : Value) : Sem Next := do pure (.value (if ← asBool c then a else b))
def iF (t : TypeId) : Sem Next := V (Instr.alloc t true (.tuple #[]))
def D1 (t : TypeId) (x : Value) : Sem Next := V (Instr.box t x)
def eF (t : TypeId) (a : Value) : Sem Next := V (Instr.loadAt t a)
def fC (t : TypeId) (a x : Value) : Sem Next := U (Instr.storeAt t a x)
def BI (x : Value) : Sem Next := execOp (fun _ => x) ⟨none, .nilCheck (.tmp 0), 0, default, #[], none⟩
def Hn (op : UnOp) (x : Value) : Sem Next := V (Op.unary op x)
def nB (s d : TypeId) (x : Value) : Sem Next := V (convert s d x)
def mN (t : TypeId) (l c : Value) : Sem Next := V (Instr.makeSlice t l c)
def kA (t : TypeId) (x : Value) (lo hi mx : Option Value) : Sem Next := V (Instr.sliceAt t x lo hi mx)
def eH (t : TypeId) (x : Value) (f : Nat) : Sem Next := V (Instr.fieldAt t x f)
def iC (t : TypeId) (x i : Value) : Sem Next := V (Instr.indexAt t x i)
def GG (t : TypeId) (x i : Value) : Sem Next := V (Instr.index t x i)
def iB (t : Value) (i : Nat) : Sem Next := V (Instr.extract t i)
section
variable {P : Program} {ann : FA}
theorem Im {Q : Exit → hC → World → Prop} : ∀ {l : List (Nat × (hC → World → Prop))}, GS Q l → ∀ {i : Nat} {g : hC} {w : World}, IV l i g w → Q (.exit i) g w := by
  intro l
  induction l with
  | nil => intro _ i g w h; exact h.elim
  | cons p r ih =>
    obtain ⟨j, k⟩ := p
    rintro ⟨h1, h2⟩ i g w h
    simp only [IV] at h
    cases hb : Nat.beq i j with
    | true =>
      simp only [hb] at h
      obtain rfl := Nat.eq_of_beq_eq_true hb
      exact h1 _ _ h
    | false => simp only [hb] at h; exact ih h2 h
theorem dX {c : Code} {kn kr : hC → World → Prop} {l : List (Nat × (hC → World → Prop))} {Q : Exit → hC → World → Prop} {g : hC} {w : World} {A : Prop}
    (e : A = eI P ann c (I7 kn kr l) g w) (h : A) (hn : ∀ g w, kn g w → Q .normal g w) (hr : ∀ g w, kr g w → Q .ret g w) (hl : GS Q l) : eI P ann c Q g w := by
  rw [e] at h
  refine rH h (fun e g' w' _ hq => ?_)
  cases e with
  | normal => exact hn _ _ hq
  | ret => exact hr _ _ hq
  | exit i => exact Im hl hq
  | _ => exact hq.elim
theorem FV {x y z : Code} {Q : Exit → hC → World → Prop} {g : hC} {w : World} (h : eI P ann (.seq (.seq x y) z) Q g w) : eI P ann (.seq x (.seq y z)) Q g w := by
  show eI P ann x (fK (fun g w => eI P ann y (fK (fun g w => eI P ann z Q g w) Q) g w) Q) g w
  have h : eI P ann x (fK (fun g w => eI P ann y (fK (fun g w => eI P ann z Q g w) Q) g w) (fK (fun g w => eI P ann z Q g w) Q)) g w := h
  refine rH h (fun e g' w' _ hq => ?_)
  cases e <;> exact hq
theorem fF {K : hC → World → Prop} {Q : Exit → hC → World → Prop} {g : hC} {w : World} (h : K g w) : fK K Q .normal g w := h
theorem FQ {Q : Exit → hC → World → Prop} : ∀ (n : Nat) (c : Code) (g : hC) (w : World), Fp n c = true → eI P ann (.seq (cP n c) (aA n c)) Q g w → eI P ann c Q g w := by
  intro n
  induction n with
  | zero => intro c g w h; simp [Fp] at h
  | succ n ih =>
    intro c g w h hd
    cases c with
    | seq a b =>
      cases n with
      | zero => exact hd
      | succ n =>
        have hb : Fp (n + 1) b = true := by simpa [Fp] using h
        have hd' : eI P ann (.seq (.seq a (cP (n + 1) b)) (aA (n + 1) b)) Q g w := hd
        have := FV hd'
        show eI P ann a (fK (fun g w => eI P ann b Q g w) Q) g w
        have h2 : eI P ann a (fK (fun g w => eI P ann (.seq (cP (n + 1) b) (aA (n + 1) b)) Q g w) Q) g w := this
        refine rH h2 (fun e g' w' _ hq => ?_)
        cases e with
        | normal => exact ih b g' w' hb hq
        | _ => exact hq
    | _ => cases n <;> simp [Fp] at h
theorem eJ {Q : Exit → hC → World → Prop} (n : Nat) (c : Code) (g : hC) (w : World) (h : Fp n c = true)
    (hd : eI P ann (cP n c) (fK (fun g w => eI P ann (aA n c) Q g w) Q) g w) : eI P ann c Q g w := FQ n c g w h hd
def IL (id : Nat) : Code → Bool | .block i _ => Nat.beq i id | _ => false
def Ik : Code → Bool | .loop _ => true | _ => false
theorem jX {Q : Exit → hC → World → Prop} (id : Nat) (c : Code) (g : hC) (w : World) (h : IL id c = true) (hd : eI P ann (bI c) (Cq id Q) g w) : eI P ann c Q g w := by
  cases c with
  | block i c =>
    obtain rfl := Nat.eq_of_beq_eq_true (show Nat.beq i id = true from h)
    exact hd
  | _ => cases h
def IM : Code → Bool | .scope _ => true | _ => false
theorem FH {Q : Exit → hC → World → Prop} (c : Code) (g : hC) (w : World) (h : IM c = true) (hd : eI P ann (bI c) Q g w) : eI P ann c Q g w := by
  cases c with
  | scope c => exact hd
  | _ => cases h
theorem GA {T : Type} (proj : hC → T) (F : (T → World → Prop) → T → World → Prop) {c : Code} {Q : Exit → hC → World → Prop} {g : hC} {w : World}
    (hF : ∀ (X : T → World → Prop) g' w', iY (BF c) g g' → F X (proj g') w' → eI P ann c (fK (fun g'' w'' => X (proj g'') w'') Q) g' w')
    (h : iV F (proj g) w) : eI P ann (.loop c) Q g w := by
  obtain ⟨I, ⟨n, h0⟩, hI⟩ := h
  refine ⟨fun n g' w' => iY (BF c) g g' ∧ I n (proj g') w', ⟨n, iY.refl _ _, h0⟩, ?_⟩
  rintro n g' w' ⟨ha, hi⟩
  have := hF _ g' w' ha (hI n _ _ hi)
  refine rH this (fun e g2 w2 ha2 hq => ?_)
  cases e with
  | normal =>
    obtain ⟨m, hm, hh⟩ := hq
    exact ⟨m, hm, ha.trans ha2 (fun _ h => h) (fun _ h => h), hh⟩
  | _ => exact hq
theorem jR {T : Type} (proj : hC → T) (F : (T → World → Prop) → T → World → Prop) (c : Code) {Q : Exit → hC → World → Prop} {g : hC} {w : World} (hl : Ik c = true)
    (h : iV F (proj g) w)
    (hF : ∀ (X : T → World → Prop) g' w', iY (BF (bI c)) g g' → F X (proj g') w' → eI P ann (bI c) (fK (fun g'' w'' => X (proj g'') w'') Q) g' w') : eI P ann c Q g w := by
  cases c with
  | loop c => exact GA proj F hF h
  | _ => cases hl
theorem E5 {l : List Nat} {s : Nat} (hs : jU s l = false) : s ∉ l := by
  induction l with
  | nil => simp
  | cons a r ih =>
    unfold jU at hs
    cases hb : Nat.beq a s with
    | true => simp only [hb] at hs; cases hs
    | false =>
      simp only [hb] at hs
      intro hm
      rcases List.mem_cons.1 hm with e | hm
      · subst e; simp at hb
      · exact ih hs hm
theorem dZ {l : List Nat} {g g' : hC} (h : iY l g g') {s : Nat} (hs : jU s l = false) : g' s = g s := h s (E5 hs)
def yP (id : Nat) : Code → Array Oper
  | .region i ops _ => match Nat.beq i id with | true => ops | false => #[]
  | .seq a b => match (yP id a).size with | 0 => yP id b | _ + 1 => yP id a
  | .cond _ a b => match (yP id a).size with | 0 => yP id b | _ + 1 => yP id a
  | .block _ c => yP id c
  | .loop c => yP id c
  | .scope c => yP id c
  | _ => #[]
theorem Ha {b : Bool} {A B : Prop} (ha : A) (hb : B) : IQ b A B := by cases b <;> assumption
theorem iV.rule {α : Type} {F : (α → World → Prop) → α → World → Prop} (I : Nat → α → World → Prop) {g : α} {w : World} (n : Nat) (h0 : I n g w)
    (hr : ∀ n g w, I n g w → F (fun g' w' => ∃ m, m < n ∧ I m g' w') g w) : iV F g w := ⟨I, ⟨n, h0⟩, hr⟩
theorem cY (A B : Prop) : mG (.bool true) A B = A := Eq.trans rfl rfl
theorem cQ (A B : Prop) : mG (.bool false) A B = B := Eq.trans rfl rfl
theorem eD (s : (Value → World → Prop) → Prop) (w : World) (K : Value → World → Prop) : Gd true s w K = s K := Eq.trans rfl rfl
theorem dW (s : (Value → World → Prop) → Prop) (w : World) (K : Value → World → Prop) : Gd false s w K = K undef w := Eq.trans rfl rfl
theorem eU (p : Prop) : Gs true p = p := Eq.trans rfl rfl
theorem eB (p : Prop) : Gs false p = True := Eq.trans rfl rfl
theorem fO : kE (.bool true) true = true := Eq.trans rfl rfl
theorem fG : kE (.bool true) false = false := Eq.trans rfl rfl
theorem fN : kE (.bool false) true = false := Eq.trans rfl rfl
theorem eZ : kE (.bool false) false = true := Eq.trans rfl rfl
end
end Go.En
namespace Go.Proofs.YtoepfjgekpdddaaDoor
open Go Go.En
noncomputable abbrev pg : Program := Tryd.prog
theorem TrydM.mixed : pg.follows .mixedOrders = true := Tryd.checked.mixed
abbrev K0 := World → Prop
abbrev K1 := Value → K0
abbrev K2 := Value → K1
abbrev K3 := Value → K2
abbrev K4 := Value → K3
abbrev K5 := Value → K4
abbrev K6 := Value → K5
abbrev K7 := Value → K6
abbrev K8 := Value → K7
abbrev K9 := Value → K8
abbrev CK := Value → K9
abbrev HR (rs : List ResultVar) (R : K1) (Q : Exit → hC → World → Prop) : Prop := ∀ g w, (mQ pg rs g w fun vs => R (Hi vs) w) → Q .ret g w
abbrev no : hC → World → Prop := fun _ _ => False
theorem mH {Q : hC → World → Prop} : ∀ g w, no g w → Q g w := fun _ _ h => h.elim
abbrev mF : FuncId := 3
abbrev pY : FuncId := 6
abbrev iT : FuncId := 7
abbrev kR : FuncId := 8
abbrev kV : FuncId := 14
abbrev lX : FuncId := 15
abbrev oC : FuncId := 16
abbrev qT : FuncId := 17
abbrev yJ : FuncId := 18
abbrev pZ : FuncId := 19
abbrev oH : FuncId := 27
abbrev oL : FuncId := 28
abbrev kP : FuncId := 29
abbrev tE : FuncId := 30
abbrev lD : FuncId := 31
abbrev iH : FuncId := 32
abbrev nC : FuncId := 33
abbrev kL : FuncId := 34
abbrev mD : FuncId := 35
abbrev kG : FuncId := 36
abbrev rC : FuncId := 37
abbrev Af : FuncId := 48
abbrev lF : FuncId := 49
abbrev kI : FuncId := 50
abbrev sY : FuncId := 51
end Go.Proofs.YtoepfjgekpdddaaDoor
namespace Go.Proofs.YtoepfjgekpdddaaDoor
open Go Go.En
set_option linter.unusedVariables false
set_option maxRecDepth 20000
attribute [local irreducible] Go.En.eI
variable (Q : Exit → hC → World → Prop) (g : hC) (w : World)
def eY : FA := ⟨pZ, fun i => match Nat.beq i 25 with | true => .leaf ([2, 3], [(0, 2)]) [(false, []), (false, []), (true, [1]), (true, []), (false, []), (false, [])] | false => .leaf ([], []) []⟩
def hH : List ResultVar := [.cell 6 51, .tmp 7, .tmp 8]
noncomputable def eP : Code := jB Tryd.f19
def nV (R : K1) (t6 vW jA : Value) (w : World) : Prop :=
  cJ pg (eF 51 jA) (dr w) fun t101 w_ => w_ = (dr w) ∧
  (dr w) = (dr w) ∧
  gH pg kG #[vW] (dr w) fun t103 H2 =>
  (hP pg (eF 51 jA) t101 H2 ∧ True) ∧
  cJ pg (fC 51 t6 t101) H2 fun _u3 DM =>
  DM = DM ∧
  DM = DM ∧
  zN pg 51 t6 DM fun r0 => R (.tuple #[r0, t103, (.int .i64 0)]) DM
theorem An (R : K1) (hr : HR hH R Q) (h : nV R (g 6) (g 9) (g 12) w) : eI pg eY (aA 1 (aA 7 eP)) Q g w :=
  dX (kn := no) (l := []) (by kernel_rfl) h mH hr trivial
def lP (kn : K5) (R : K1) (fJ t6 vW jA fV : Value) (w : World) : Prop :=
  cJ pg (eH 51 jA 1) w fun t91 w =>
  cJ pg (eF 30 t91) w fun t92 w =>
  cJ pg (mM .len #[30] 3 [t92]) w fun t93 w =>
  cJ pg (dY .gtr 3 (.tmp 93) (.tmp 94) t93 fJ) w fun t95 w =>
  Gd (kE t95 false) (fun K => K fV w) w fun t97 w =>
  Gd (kE t95 false) (fun K => cJ pg (dY .lss 3 (.tmp 97) (.const (.int .i64 0)) t97 (.int .i64 0)) w K) w fun t98 w =>
  cJ pg (kO t95 (.bool true) t98) w fun t99 w =>
  mG t99
    (cJ pg (gJ 51 []) w fun t100 w =>
    cJ pg (fC 51 t6 t100) w fun _u w =>
    zN pg 51 t6 w fun r0 => R (.tuple #[r0, (.int .i64 0), (.int .i64 11)]) w)
    (kn fJ t6 vW jA fV w)
theorem AD (kn : K5) (R : K1) (hn : ∀ g w, kn (g 2) (g 6) (g 9) (g 12) (g 13) w → Q .normal g w) (hr : HR hH R Q) (h : lP kn R (g 2) (g 6) (g 9) (g 12) (g 13) w) : eI pg eY (aA 6 (bI (aA 1 (bI (bI (cP 1 (aA 7 eP))))))) Q g w :=
  dX (l := []) (by kernel_rfl) h hn hr trivial
def sO (kn : K5) (R : K1) (fJ t6 vW jA fV : Value) (w : World) : Prop :=
  gH pg nC #[vW, fV] w fun t52 w =>
  cJ pg (iB t52 0) w fun t53 w =>
  cJ pg (iB t52 1) w fun t54 w =>
  cJ pg (dY .neq 27 (.tmp 55) (.const (.int .i64 0)) t54 (.int .i64 0)) w fun t56 w =>
  mG t56
    (cJ pg (gJ 51 []) w fun t57 w =>
    cJ pg (fC 51 t6 t57) w fun _u w =>
    zN pg 51 t6 w fun r0 => R (.tuple #[r0, (.int .i64 0), t54]) w)
    (cJ pg (dY .sub 3 (.tmp 59) (.const (.int .i64 1)) t53 (.int .i64 1)) w fun t60 w =>
    gH pg kL #[t60] w fun t63 w =>
    cJ pg (dY .sub 3 (.tmp 61) (.tmp 63) fV t63) w fun t64 w =>
    cJ pg (eH 51 jA 1) w fun t65 w =>
    cJ pg (eF 30 t65) w fun t66 w =>
    cJ pg (hZ 30 1 [(0, t60)]) w fun t68 w =>
    cJ pg (mM .append #[30, 30] 30 [t66, t68]) w fun t69 w =>
    cJ pg (eH 51 jA 1) w fun t70 w =>
    cJ pg (fC 30 t70 t69) w fun _u w =>
    cJ pg (dY .eql 3 (.tmp 71) (.const (.int .i64 0)) t60 (.int .i64 0)) w fun t72 w =>
    mG t72
      (gH pg mD #[vW] w fun t75 w =>
      cJ pg (iB t75 0) w fun t76 w =>
      cJ pg (iB t75 1) w fun t77 w =>
      cJ pg (dY .neq 27 (.tmp 78) (.const (.int .i64 0)) t77 (.int .i64 0)) w fun t79 w =>
      mG t79
        (cJ pg (gJ 51 []) w fun t80 w =>
        cJ pg (fC 51 t6 t80) w fun _u w =>
        zN pg 51 t6 w fun r0 => R (.tuple #[r0, (.int .i64 0), t77]) w)
        (cJ pg (dY .gtr 3 (.tmp 82) (.tmp 83) t76 fJ) w fun t84 w =>
        mG t84
          (cJ pg (gJ 51 []) w fun t85 w =>
          cJ pg (fC 51 t6 t85) w fun _u w =>
          zN pg 51 t6 w fun r0 => R (.tuple #[r0, (.int .i64 0), (.int .i64 11)]) w)
          (cJ pg (eH 51 jA 1) w fun t86 w =>
          cJ pg (eF 30 t86) w fun t87 w =>
          cJ pg (mM .append #[30, 3] 30 [t87, t76]) w fun t89 w =>
          cJ pg (eH 51 jA 1) w fun t90 w =>
          cJ pg (fC 30 t90 t89) w fun _u w =>
          kn fJ t6 vW jA t64 w)))
      (kn fJ t6 vW jA t64 w))
theorem zQ (kn : K5) (R : K1) (hn : ∀ g w, kn (g 2) (g 6) (g 9) (g 12) (g 13) w → Q .normal g w) (hr : HR hH R Q) (h : sO kn R (g 2) (g 6) (g 9) (g 12) (g 13) w) : eI pg eY (cP 6 (bI (aA 1 (bI (bI (cP 1 (aA 7 eP))))))) Q g w :=
  dX (l := []) (by kernel_rfl) h hn hr trivial
def rW (kn : K5) (R : K1) (fJ t6 vW jA fV : Value) (w : World) : Prop :=
  sO (fun fJ t6 vW jA fV w => lP kn R fJ t6 vW jA fV w) R fJ t6 vW jA fV w
theorem Be (kn : K5) (R : K1) (hn : ∀ g w, kn (g 2) (g 6) (g 9) (g 12) (g 13) w → Q .normal g w) (hr : HR hH R Q) (h : rW kn R (g 2) (g 6) (g 9) (g 12) (g 13) w) : eI pg eY (bI (aA 1 (bI (bI (cP 1 (aA 7 eP)))))) Q g w :=
  eJ 6 _ g w (by kernel_rfl) (zQ (fK (fun g w => eI pg eY (aA 6 (bI (aA 1 (bI (bI (cP 1 (aA 7 eP))))))) Q g w) Q) g w (fun fJ t6 vW jA fV w => lP kn R fJ t6 vW jA fV w) R (fun g w h => fF (K := fun g w => eI pg eY (aA 6 (bI (aA 1 (bI (bI (cP 1 (aA 7 eP))))))) Q g w) (AD Q g w kn R hn hr h)) hr h)
def oD (kn : K5) (R : K1) (fJ t6 vW jA fV : Value) (w : World) : Prop :=
  rW kn R fJ t6 vW jA fV w
theorem Ac (kn : K5) (R : K1) (hn : ∀ g w, kn (g 2) (g 6) (g 9) (g 12) (g 13) w → Q .normal g w) (hr : HR hH R Q) (h : oD kn R (g 2) (g 6) (g 9) (g 12) (g 13) w) : eI pg eY (aA 1 (bI (bI (cP 1 (aA 7 eP))))) Q g w :=
  jX 1 _ g w (by kernel_rfl) (Be (Cq 1 Q) g w kn R hn hr h)
def sS (kn : K5) (k0 : K3) (fJ t6 vW jA fV : Value) (w : World) : Prop :=
  cJ pg (dY .gtr 3 (.tmp 47) (.const (.int .i64 0)) fV (.int .i64 0)) w fun t48 w =>
  mG t48
    (kn fJ t6 vW jA fV w)
    (k0 t6 vW jA w)
theorem Ak (kn : K5) (k0 : K3) (hn : ∀ g w, kn (g 2) (g 6) (g 9) (g 12) (g 13) w → Q .normal g w) (h0 : ∀ g w, k0 (g 6) (g 9) (g 12) w → Q (.exit 0) g w) (h : sS kn k0 (g 2) (g 6) (g 9) (g 12) (g 13) w) : eI pg eY (cP 1 (bI (bI (cP 1 (aA 7 eP))))) Q g w :=
  dX (kr := no) (l := [(0, fun g w => k0 (g 6) (g 9) (g 12) w)]) (by kernel_rfl) h hn mH ⟨h0, trivial⟩
def nU (kn : K5) (k0 : K3) (R : K1) (fJ t6 vW jA fV : Value) (w : World) : Prop :=
  sS (fun fJ t6 vW jA fV w => oD kn R fJ t6 vW jA fV w) k0 fJ t6 vW jA fV w
theorem zR (kn : K5) (k0 : K3) (R : K1) (hn : ∀ g w, kn (g 2) (g 6) (g 9) (g 12) (g 13) w → Q .normal g w) (h0 : ∀ g w, k0 (g 6) (g 9) (g 12) w → Q (.exit 0) g w) (hr : HR hH R Q) (h : nU kn k0 R (g 2) (g 6) (g 9) (g 12) (g 13) w) : eI pg eY (bI (bI (cP 1 (aA 7 eP)))) Q g w :=
  eJ 1 _ g w (by kernel_rfl) (Ak (fK (fun g w => eI pg eY (aA 1 (bI (bI (cP 1 (aA 7 eP))))) Q g w) Q) g w (fun fJ t6 vW jA fV w => oD kn R fJ t6 vW jA fV w) k0 (fun g w h => fF (K := fun g w => eI pg eY (aA 1 (bI (bI (cP 1 (aA 7 eP))))) Q g w) (Ac Q g w kn R hn hr h)) h0 h)
def sR (k0 : K3) (R : K1) (fJ t6 vW jA fV : Value) (w : World) : Prop :=
  iV (fun (X : Value → K0) (t : Value) (w : World) => nU (fun _ _ _ _ fV w => X fV w) k0 R fJ t6 vW jA t w) fV w
theorem Bd (k0 : K3) (R : K1) (h0 : ∀ g w, k0 (g 6) (g 9) (g 12) w → Q (.exit 0) g w) (hr : HR hH R Q) (h : sR k0 R (g 2) (g 6) (g 9) (g 12) (g 13) w) : eI pg eY (bI (cP 1 (aA 7 eP))) Q g w := by
  refine jR (T := Value) (fun g : hC => g 13) (fun X t w => nU (fun _ _ _ _ fV w => X fV w) k0 R (g 2) (g 6) (g 9) (g 12) t w) _ (by kernel_rfl) h (fun X g1 w1 ha hL => ?_)
  rw [← dZ (s := 2) ha (by kernel_rfl)] at hL
  rw [← dZ (s := 6) ha (by kernel_rfl)] at hL
  rw [← dZ (s := 9) ha (by kernel_rfl)] at hL
  rw [← dZ (s := 12) ha (by kernel_rfl)] at hL
  exact (zR (fK (fun g2 w2 => X ((fun g : hC => g 13) g2) w2) Q) g1 w1 (fun _ _ _ _ fV w => X fV w) k0 R (fun _ _ h => h) h0 hr hL)
def sN (kn : K3) (R : K1) (fJ t6 vW jA fV : Value) (w : World) : Prop :=
  sR kn R fJ t6 vW jA fV w
theorem AA (kn : K3) (R : K1) (hn : ∀ g w, kn (g 6) (g 9) (g 12) w → Q .normal g w) (hr : HR hH R Q) (h : sN kn R (g 2) (g 6) (g 9) (g 12) (g 13) w) : eI pg eY (cP 1 (aA 7 eP)) Q g w :=
  jX 0 _ g w (by kernel_rfl) (Bd (Cq 0 Q) g w kn R hn hr h)
def kQ (R : K1) (fJ t6 vW jA fV : Value) (w : World) : Prop :=
  sN (fun t6 vW jA w => nV R t6 vW jA w) R fJ t6 vW jA fV w
theorem zJ (R : K1) (hr : HR hH R Q) (h : kQ R (g 2) (g 6) (g 9) (g 12) (g 13) w) : eI pg eY (aA 7 eP) Q g w :=
  eJ 1 _ g w (by kernel_rfl) (AA (fK (fun g w => eI pg eY (aA 1 (aA 7 eP)) Q g w) Q) g w (fun t6 vW jA w => nV R t6 vW jA w) R (fun g w h => fF (K := fun g w => eI pg eY (aA 1 (aA 7 eP)) Q g w) (An Q g w R hr h)) hr h)
def qE (kn : K5) (R : K1) (zM CL fJ : Value) (w : World) : Prop :=
  cJ pg (iF 51) w fun t6 w =>
  gH pg lD #[zM] w fun t20 w =>
  gH pg iH #[t20, (.int .i64 4)] w fun t23 w =>
  cJ pg (iB t23 0) w fun t24 w =>
  cJ pg (iB t23 1) w fun t25 w =>
  cJ pg (dY .neq 27 (.tmp 26) (.const (.int .i64 0)) t25 (.int .i64 0)) w fun t27 w =>
  mG t27
    (cJ pg (gJ 51 []) w fun t28 w =>
    cJ pg (fC 51 t6 t28) w fun _u w =>
    zN pg 51 t6 w fun r0 => R (.tuple #[r0, (.int .i64 0), t25]) w)
    (cJ pg (nB 83 3 t24) w fun t31 w =>
    cJ pg (dY .add 3 (.tmp 31) (.const (.int .i64 5)) t31 (.int .i64 5)) w fun t32 w =>
    cJ pg (gJ 51 [(0, t32)]) w fun t33 w =>
    cJ pg (iF 51) w fun jA w =>
    cJ pg (fC 51 jA t33) w fun _u w =>
    cJ pg (eH 51 jA 0) w fun t34 w =>
    cJ pg (eF 3 t34) w fun t35 w =>
    cJ pg (dY .gtr 3 (.tmp 35) (.tmp 36) t35 CL) w fun t37 w =>
    Gd (kE t37 false) (fun K => cJ pg (eH 51 jA 0) w K) w fun t39 w =>
    Gd (kE t37 false) (fun K => cJ pg (eF 3 t39) w K) w fun t40 w =>
    Gd (kE t37 false) (fun K => cJ pg (dY .gtr 3 (.tmp 40) (.const (.int .i64 15)) t40 (.int .i64 15)) w K) w fun t41 w =>
    cJ pg (kO t37 (.bool true) t41) w fun t42 w =>
    mG t42
      (cJ pg (gJ 51 []) w fun t43 w =>
      cJ pg (fC 51 t6 t43) w fun _u w =>
      zN pg 51 t6 w fun r0 => R (.tuple #[r0, (.int .i64 0), (.int .i64 12)]) w)
      (cJ pg (eH 51 jA 0) w fun t44 w =>
      cJ pg (eF 3 t44) w fun t45 w =>
      cJ pg (dY .shl 3 (.const (.int .i64 1)) (.tmp 45) (.int .i64 1) t45) w fun t46 w =>
      kn fJ t6 t20 jA t46 w))
theorem zL (kn : K5) (R : K1) (hn : ∀ g w, kn (g 2) (g 6) (g 9) (g 12) (g 13) w → Q .normal g w) (hr : HR hH R Q) (h : qE kn R (g 0) (g 1) (g 2) w) : eI pg eY (cP 7 eP) Q g w :=
  dX (l := []) (by kernel_rfl) h hn hr trivial
def qG (R : K1) (zM CL fJ : Value) (w : World) : Prop :=
  qE (fun fJ t6 vW jA fV w => kQ R fJ t6 vW jA fV w) R zM CL fJ w
theorem zE (R : K1) (hr : HR hH R Q) (h : qG R (g 0) (g 1) (g 2) w) : eI pg eY eP Q g w :=
  eJ 7 _ g w (by kernel_rfl) (zL (fK (fun g w => eI pg eY (aA 7 eP) Q g w) Q) g w (fun fJ t6 vW jA fV w => kQ R fJ t6 vW jA fV w) R (fun g w h => fF (K := fun g w => eI pg eY (aA 7 eP) Q g w) (zJ Q g w R hr h)) hr h)
def B9 (a0 a1 a2 : Value) (w : World) (R : K1) : Prop :=
  qG R a0 a1 a2 w
theorem BB {a0 a1 a2 : Value} {w : World} {R : K1} (h : B9 a0 a1 a2 w R) : gH pg pZ #[a0, a1, a2] w R := by
  refine fQ (ann := eY) (fn := Tryd.f19) (c := eP) (args := [a0, a1, a2]) (rs := hH) (N := 104) TrydM.mixed (by kernel_rfl) Tryd.func19 (by kernel_rfl) (by kernel_rfl) (by kernel_rfl) (of_decide_eq_true (by kernel_rfl)) (by kernel_rfl) ?_
  exact (zE (qD pg hH R) (kJ [a0, a1, a2]) w R (fun _ _ h => h) h)
end Go.Proofs.YtoepfjgekpdddaaDoor
namespace Go.Proofs.YtoepfjgekpdddaaDoor
open Go Go.En
set_option linter.unusedVariables false
set_option maxRecDepth 20000
attribute [local irreducible] Go.En.eI
variable (Q : Exit → hC → World → Prop) (g : hC) (w : World)
def qP : FA := ⟨lD, fun i => .leaf ([], []) []⟩
def mW : List ResultVar := [.tmp 2]
noncomputable def qC : Code := jB Tryd.f31
def mY (R : K1) (zM : Value) (w : World) : Prop :=
  gH pg kI #[zM] w fun t4 w =>
  cJ pg (gJ 113 [(0, t4)]) w fun t5 w =>
  cJ pg (D1 113 t5) w fun t6 w =>
  R t6 w
theorem wO (R : K1) (hr : HR mW R Q) (h : mY R (g 0) w) : eI pg qP qC Q g w :=
  dX (kn := no) (l := []) (by kernel_rfl) h mH hr trivial
def wJ (a0 : Value) (w : World) (R : K1) : Prop :=
  mY R a0 w
theorem wZ {a0 : Value} {w : World} {R : K1} (h : wJ a0 w R) : gH pg lD #[a0] w R := by
  refine fQ (ann := qP) (fn := Tryd.f31) (c := qC) (args := [a0]) (rs := mW) (N := 7) TrydM.mixed (by kernel_rfl) Tryd.func31 (by kernel_rfl) (by kernel_rfl) (by kernel_rfl) (of_decide_eq_true (by kernel_rfl)) (by kernel_rfl) ?_
  exact (wO (qD pg mW R) (kJ [a0]) w R (fun _ _ h => h) h)
def pC : FA := ⟨iH, fun i => match Nat.beq i 3 with | true => .leaf ([], []) [(false, []), (false, []), (false, []), (false, []), (false, []), (false, []), (false, []), (false, []), (false, []), (false, []), (false, []), (false, []), (false, []), (false, [])] | false => match Nat.beq i 5 with | true => .leaf ([9], []) [(false, []), (false, []), (false, []), (false, []), (false, []), (false, []), (false, []), (false, []), (false, []), (true, []), (false, [])] | false => .leaf ([], []) []⟩
def lO : List ResultVar := [.tmp 4, .tmp 5]
noncomputable def oE : Code := jB Tryd.f32
def lL (R : K1) (vK IP : Value) (w : World) : Prop :=
  cJ pg (dY .eql 81 (.tmp 8) (.const (.pointer none)) vK (.pointer none)) w fun t9 w =>
  Gd (kE t9 false) (fun K => K IP w) w fun t11 w =>
  Gd (kE t9 false) (fun K => cJ pg (dY .lss 3 (.tmp 11) (.const (.int .i64 0)) t11 (.int .i64 0)) w K) w fun t12 w =>
  cJ pg (kO t9 (.bool true) t12) w fun t13 w =>
  Gd (kE t13 false) (fun K => K IP w) w fun t15 w =>
  Gd (kE t13 false) (fun K => cJ pg (dY .gtr 3 (.tmp 15) (.const (.int .i64 32)) t15 (.int .i64 32)) w K) w fun t16 w =>
  cJ pg (kO t13 (.bool true) t16) w fun t17 w =>
  mG t17
    (R (.tuple #[(.int .u64 0), (.int .i64 1)]) w)
    ((dr w) = (dr w) ∧
    cJ pg (BI vK) (dr w) fun t20 w_ => w_ = (dr w) ∧
    cJ pg (eH 113 t20 0) (dr w) fun t21 w_ => w_ = (dr w) ∧
    cJ pg (eF 22 t21) (dr w) fun t22 w_ => w_ = (dr w) ∧
    cJ pg (mM .len #[22] 3 [t22]) (dr w) fun t23 w_ => w_ = (dr w) ∧
    cJ pg (dY .mul 3 (.const (.int .i64 8)) (.tmp 23) (.int .i64 8) t23) (dr w) fun t24 w_ => w_ = (dr w) ∧
    (dr w) = (dr w) ∧
    cJ pg (BI vK) (dr w) fun t26 w_ => w_ = (dr w) ∧
    cJ pg (eH 113 t26 1) (dr w) fun t27 w_ => w_ = (dr w) ∧
    cJ pg (eF 3 t27) (dr w) fun t28 w_ => w_ = (dr w) ∧
    cJ pg (dY .sub 3 (.tmp 24) (.tmp 28) t24 t28) (dr w) fun t29 w_ => w_ = (dr w) ∧
    (dr w) = (dr w) ∧
    cJ pg (dY .lss 3 (.tmp 29) (.tmp 30) t29 IP) (dr w) fun t31 w_ => w_ = (dr w) ∧
    (dr w) = (dr w) ∧
    mG t31
      (R (.tuple #[(.int .u64 0), (.int .i64 10)]) (dr w))
      ((dr (dr w)) = (dr (dr w)) ∧
      cJ pg (BI vK) (dr (dr w)) fun t33 w_ => w_ = (dr (dr w)) ∧
      cJ pg (eH 113 t33 0) (dr (dr w)) fun t34 w_ => w_ = (dr (dr w)) ∧
      cJ pg (eF 22 t34) (dr (dr w)) fun t35 w_ => w_ = (dr (dr w)) ∧
      (dr (dr w)) = (dr (dr w)) ∧
      cJ pg (BI vK) (dr (dr w)) fun t37 w_ => w_ = (dr (dr w)) ∧
      cJ pg (eH 113 t37 1) (dr (dr w)) fun t38 w_ => w_ = (dr (dr w)) ∧
      cJ pg (eF 3 t38) (dr (dr w)) fun t39 w_ => w_ = (dr (dr w)) ∧
      (dr (dr w)) = (dr (dr w)) ∧
      gH pg sY #[t35, t39, IP] (dr (dr w)) fun t41 Ip =>
      Ip = Ip ∧
      cJ pg (BI vK) Ip fun t43 w =>
      cJ pg (eH 113 t43 1) w fun t44 w =>
      cJ pg (eF 3 t44) w fun t45 w =>
      cJ pg (dY .add 3 (.tmp 45) (.tmp 46) t45 IP) w fun t47 w =>
      cJ pg (BI vK) w fun t48 w =>
      cJ pg (eH 113 t48 1) w fun t49 w =>
      cJ pg (fC 3 t49 t47) w fun _u w =>
      R (.tuple #[t41, (.int .i64 0)]) w))
theorem uU (R : K1) (hr : HR lO R Q) (h : lL R (g 0) (g 1) w) : eI pg pC oE Q g w :=
  dX (kn := no) (l := []) (by kernel_rfl) h mH hr trivial
def sX (a0 a1 : Value) (w : World) (R : K1) : Prop :=
  lL R a0 a1 w
theorem vT {a0 a1 : Value} {w : World} {R : K1} (h : sX a0 a1 w R) : gH pg iH #[a0, a1] w R := by
  refine fQ (ann := pC) (fn := Tryd.f32) (c := oE) (args := [a0, a1]) (rs := lO) (N := 51) TrydM.mixed (by kernel_rfl) Tryd.func32 (by kernel_rfl) (by kernel_rfl) (by kernel_rfl) (of_decide_eq_true (by kernel_rfl)) (by kernel_rfl) ?_
  exact (uU (qD pg lO R) (kJ [a0, a1]) w R (fun _ _ h => h) h)
def uQ : FA := ⟨nC, fun i => .leaf ([], []) []⟩
def qH : List ResultVar := [.tmp 4, .tmp 5]
noncomputable def tD : Code := jB Tryd.f33
def qL (R : K1) (vK Hf : Value) (w : World) : Prop :=
  cJ pg (dY .add 3 (.tmp 11) (.const (.int .i64 1)) Hf (.int .i64 1)) w fun t12 w =>
  cJ pg (nB 3 75 t12) w fun t13 w =>
  gH pg kP #[t13] w fun t14 w =>
  cJ pg (dY .sub 3 (.tmp 17) (.const (.int .i64 1)) t14 (.int .i64 1)) w fun t18 w =>
  gH pg iH #[vK, t18] w fun t19 w =>
  cJ pg (iB t19 0) w fun t20 w =>
  cJ pg (iB t19 1) w fun t21 w =>
  cJ pg (dY .neq 27 (.tmp 22) (.const (.int .i64 0)) t21 (.int .i64 0)) w fun t23 w =>
  mG t23
    (R (.tuple #[(.int .i64 0), t21]) w)
    (cJ pg (dY .shl 3 (.const (.int .i64 1)) (.tmp 25) (.int .i64 1) t14) w fun t26 w =>
    cJ pg (dY .sub 3 (.tmp 26) (.const (.int .i64 2)) t26 (.int .i64 2)) w fun t27 w =>
    cJ pg (dY .sub 3 (.tmp 27) (.tmp 28) t27 Hf) w fun t29 w =>
    cJ pg (nB 83 3 t20) w fun t31 w =>
    cJ pg (dY .lss 3 (.tmp 31) (.tmp 32) t31 t29) w fun t33 w =>
    mG t33
      (cJ pg (nB 83 3 t20) w fun t35 w =>
      R (.tuple #[t35, (.int .i64 0)]) w)
      (gH pg iH #[vK, (.int .i64 1)] w fun t38 w =>
      cJ pg (iB t38 0) w fun t39 w =>
      cJ pg (iB t38 1) w fun t40 w =>
      cJ pg (dY .neq 27 (.tmp 42) (.const (.int .i64 0)) t40 (.int .i64 0)) w fun t43 w =>
      mG t43
        (R (.tuple #[(.int .i64 0), t40]) w)
        (cJ pg (dY .eql 83 (.tmp 46) (.const (.int .u64 0)) t39 (.int .u64 0)) w fun t47 w =>
        mG t47
          (cJ pg (nB 83 3 t20) w fun t49 w =>
          R (.tuple #[t49, (.int .i64 0)]) w)
          (cJ pg (nB 83 3 t20) w fun t51 w =>
          cJ pg (dY .sub 3 (.tmp 52) (.const (.int .i64 1)) t14 (.int .i64 1)) w fun t53 w =>
          cJ pg (dY .shl 3 (.const (.int .i64 1)) (.tmp 53) (.int .i64 1) t53) w fun t54 w =>
          cJ pg (dY .add 3 (.tmp 51) (.tmp 54) t51 t54) w fun t55 w =>
          cJ pg (dY .sub 3 (.tmp 55) (.tmp 56) t55 t29) w fun t57 w =>
          R (.tuple #[t57, (.int .i64 0)]) w))))
theorem zI (R : K1) (hr : HR qH R Q) (h : qL R (g 0) (g 1) w) : eI pg uQ tD Q g w :=
  dX (kn := no) (l := []) (by kernel_rfl) h mH hr trivial
def zV (a0 a1 : Value) (w : World) (R : K1) : Prop :=
  qL R a0 a1 w
theorem zZ {a0 a1 : Value} {w : World} {R : K1} (h : zV a0 a1 w R) : gH pg nC #[a0, a1] w R := by
  refine fQ (ann := uQ) (fn := Tryd.f33) (c := tD) (args := [a0, a1]) (rs := qH) (N := 58) TrydM.mixed (by kernel_rfl) Tryd.func33 (by kernel_rfl) (by kernel_rfl) (by kernel_rfl) (of_decide_eq_true (by kernel_rfl)) (by kernel_rfl) ?_
  exact (zI (qD pg qH R) (kJ [a0, a1]) w R (fun _ _ h => h) h)
def eX : FA := ⟨mD, fun i => .leaf ([], []) []⟩
def hJ : List ResultVar := [.tmp 2, .tmp 3]
noncomputable def eQ : Code := jB Tryd.f35
def lK (R : K1) (CW : Value) (w : World) : Prop :=
  R (.tuple #[CW, (.int .i64 0)]) w
theorem xB (R : K1) (hr : HR hJ R Q) (h : lK R (g 4) w) : eI pg eX (aA 1 (aA 2 (bI (aA 1 eQ)))) Q g w :=
  dX (kn := no) (l := []) (by kernel_rfl) h mH hr trivial
def lJ (kn : K2) (k0 : K1) (R : K1) (vK CW : Value) (w : World) : Prop :=
  gH pg iH #[vK, (.int .i64 2)] w fun t9 w =>
  cJ pg (iB t9 0) w fun t10 w =>
  cJ pg (iB t9 1) w fun t11 w =>
  cJ pg (dY .neq 27 (.tmp 12) (.const (.int .i64 0)) t11 (.int .i64 0)) w fun t13 w =>
  mG t13
    (R (.tuple #[(.int .i64 0), t11]) w)
    (cJ pg (nB 83 3 t10) w fun t17 w =>
    cJ pg (dY .add 3 (.tmp 15) (.tmp 17) CW t17) w fun t18 w =>
    cJ pg (dY .lss 83 (.tmp 19) (.const (.int .u64 3)) t10 (.int .u64 3)) w fun t20 w =>
    mG t20
      (k0 t18 w)
      (kn vK t18 w))
theorem wX (kn : K2) (k0 : K1) (R : K1) (hn : ∀ g w, kn (g 0) (g 4) w → Q .normal g w) (h0 : ∀ g w, k0 (g 4) w → Q (.exit 0) g w) (hr : HR hJ R Q) (h : lJ kn k0 R (g 0) (g 4) w) : eI pg eX (bI (bI (cP 1 (aA 2 (bI (aA 1 eQ)))))) Q g w :=
  dX (l := [(0, fun g w => k0 (g 4) w)]) (by kernel_rfl) h hn hr ⟨h0, trivial⟩
def oQ (k0 : K1) (R : K1) (vK CW : Value) (w : World) : Prop :=
  iV (fun (X : Value → K0) (t : Value) (w : World) => lJ (fun _ CW w => X CW w) k0 R vK t w) CW w
theorem xN (k0 : K1) (R : K1) (h0 : ∀ g w, k0 (g 4) w → Q (.exit 0) g w) (hr : HR hJ R Q) (h : oQ k0 R (g 0) (g 4) w) : eI pg eX (bI (cP 1 (aA 2 (bI (aA 1 eQ))))) Q g w := by
  refine jR (T := Value) (fun g : hC => g 4) (fun X t w => lJ (fun _ CW w => X CW w) k0 R (g 0) t w) _ (by kernel_rfl) h (fun X g1 w1 ha hL => ?_)
  rw [← dZ (s := 0) ha (by kernel_rfl)] at hL
  exact (wX (fK (fun g2 w2 => X ((fun g : hC => g 4) g2) w2) Q) g1 w1 (fun _ CW w => X CW w) k0 R (fun _ _ h => h) h0 hr hL)
def nJ (kn : K1) (R : K1) (vK CW : Value) (w : World) : Prop :=
  oQ kn R vK CW w
theorem xT (kn : K1) (R : K1) (hn : ∀ g w, kn (g 4) w → Q .normal g w) (hr : HR hJ R Q) (h : nJ kn R (g 0) (g 4) w) : eI pg eX (cP 1 (aA 2 (bI (aA 1 eQ)))) Q g w :=
  jX 0 _ g w (by kernel_rfl) (xN (Cq 0 Q) g w kn R hn hr h)
def lE (R : K1) (vK CW : Value) (w : World) : Prop :=
  nJ (fun CW w => lK R CW w) R vK CW w
theorem xP (R : K1) (hr : HR hJ R Q) (h : lE R (g 0) (g 4) w) : eI pg eX (aA 2 (bI (aA 1 eQ))) Q g w :=
  eJ 1 _ g w (by kernel_rfl) (xT (fK (fun g w => eI pg eX (aA 1 (aA 2 (bI (aA 1 eQ)))) Q g w) Q) g w (fun CW w => lK R CW w) R (fun g w h => fF (K := fun g w => eI pg eX (aA 1 (aA 2 (bI (aA 1 eQ)))) Q g w) (xB Q g w R hr h)) hr h)
def oB (kn : K2) (vK : Value) (w : World) : Prop :=
  kn vK (.int .i64 0) w
theorem xY (kn : K2) (hn : ∀ g w, kn (g 0) (g 4) w → Q .normal g w) (h : oB kn (g 0) w) : eI pg eX (cP 2 (bI (aA 1 eQ))) Q g w :=
  dX (kr := no) (l := []) (by kernel_rfl) h hn mH trivial
def nD (R : K1) (vK : Value) (w : World) : Prop :=
  oB (fun vK CW w => lE R vK CW w) vK w
theorem xG (R : K1) (hr : HR hJ R Q) (h : nD R (g 0) w) : eI pg eX (bI (aA 1 eQ)) Q g w :=
  eJ 2 _ g w (by kernel_rfl) (xY (fK (fun g w => eI pg eX (aA 2 (bI (aA 1 eQ))) Q g w) Q) g w (fun vK CW w => lE R vK CW w) (fun g w h => fF (K := fun g w => eI pg eX (aA 2 (bI (aA 1 eQ))) Q g w) (xP Q g w R hr h)) h)
def lI (R : K1) (vK : Value) (w : World) : Prop :=
  nD R vK w
theorem xL (R : K1) (hr : HR hJ R Q) (h : lI R (g 0) w) : eI pg eX (aA 1 eQ) Q g w :=
  FH _ g w (by kernel_rfl) (xG Q g w R hr h)
def nH (kn : K1) (vK : Value) (w : World) : Prop :=
  kn vK w
theorem xO (kn : K1) (hn : ∀ g w, kn (g 0) w → Q .normal g w) (h : nH kn (g 0) w) : eI pg eX (cP 1 eQ) Q g w :=
  dX (kr := no) (l := []) (by kernel_rfl) h hn mH trivial
def mX (R : K1) (vK : Value) (w : World) : Prop :=
  nH (fun vK w => lI R vK w) vK w
theorem wT (R : K1) (hr : HR hJ R Q) (h : mX R (g 0) w) : eI pg eX eQ Q g w :=
  eJ 1 _ g w (by kernel_rfl) (xO (fK (fun g w => eI pg eX (aA 1 eQ) Q g w) Q) g w (fun vK w => lI R vK w) (fun g w h => fF (K := fun g w => eI pg eX (aA 1 eQ) Q g w) (xL Q g w R hr h)) h)
def xE (a0 : Value) (w : World) (R : K1) : Prop :=
  mX R a0 w
theorem yN {a0 : Value} {w : World} {R : K1} (h : xE a0 w R) : gH pg mD #[a0] w R := by
  refine fQ (ann := eX) (fn := Tryd.f35) (c := eQ) (args := [a0]) (rs := hJ) (N := 22) TrydM.mixed (by kernel_rfl) Tryd.func35 (by kernel_rfl) (by kernel_rfl) (by kernel_rfl) (of_decide_eq_true (by kernel_rfl)) (by kernel_rfl) ?_
  exact (wT (qD pg hJ R) (kJ [a0]) w R (fun _ _ h => h) h)
def pB : FA := ⟨kG, fun i => .leaf ([], []) []⟩
def lW : List ResultVar := [.tmp 2]
noncomputable def nS : Code := jB Tryd.f36
def lR (R : K1) (vK : Value) (w : World) : Prop :=
  cJ pg (dY .eql 81 (.tmp 3) (.const (.pointer none)) vK (.pointer none)) w fun t4 w =>
  mG t4
    (R (.int .i64 0) w)
    (cJ pg (BI vK) w fun t6 w =>
    cJ pg (eH 113 t6 1) w fun t7 w =>
    cJ pg (eF 3 t7) w fun t8 w =>
    cJ pg (dY .add 3 (.tmp 8) (.const (.int .i64 7)) t8 (.int .i64 7)) w fun t9 w =>
    cJ pg (dY .quo 3 (.tmp 9) (.const (.int .i64 8)) t9 (.int .i64 8)) w fun t10 w =>
    R t10 w)
theorem vC (R : K1) (hr : HR lW R Q) (h : lR R (g 0) w) : eI pg pB nS Q g w :=
  dX (kn := no) (l := []) (by kernel_rfl) h mH hr trivial
def sZ (a0 : Value) (w : World) (R : K1) : Prop :=
  lR R a0 w
theorem vV {a0 : Value} {w : World} {R : K1} (h : sZ a0 w R) : gH pg kG #[a0] w R := by
  refine fQ (ann := pB) (fn := Tryd.f36) (c := nS) (args := [a0]) (rs := lW) (N := 11) TrydM.mixed (by kernel_rfl) Tryd.func36 (by kernel_rfl) (by kernel_rfl) (by kernel_rfl) (of_decide_eq_true (by kernel_rfl)) (by kernel_rfl) ?_
  exact (vC (qD pg lW R) (kJ [a0]) w R (fun _ _ h => h) h)
def gL : FA := ⟨sY, fun i => .leaf ([], []) []⟩
def nX : List ResultVar := [.tmp 6]
noncomputable def fW : Code := jB Tryd.f51
def qU (R : K1) (yR : Value) (w : World) : Prop :=
  R yR w
theorem Cj (R : K1) (hr : HR nX R Q) (h : qU R (g 7) w) : eI pg gL (aA 1 (aA 2 fW)) Q g w :=
  dX (kn := no) (l := []) (by kernel_rfl) h mH hr trivial
def qV (kn : K5) (k0 : K1) (zM rD yR t10 t11 : Value) (w : World) : Prop :=
  cJ pg (dY .lss 3 (.tmp 11) (.tmp 10) t11 t10) w fun t12 w =>
  mG t12
    (cJ pg (dY .add 3 (.tmp 14) (.tmp 15) rD t11) w fun t16 w =>
    cJ pg (dY .quo 3 (.tmp 19) (.const (.int .i64 8)) t16 (.int .i64 8)) w fun t20 w =>
    cJ pg (iC 22 zM t20) w fun t21 w =>
    cJ pg (eF 5 t21) w fun t22 w =>
    cJ pg (dY .rem 3 (.tmp 23) (.const (.int .i64 8)) t16 (.int .i64 8)) w fun t24 w =>
    cJ pg (dY .shr 5 (.tmp 22) (.tmp 24) t22 t24) w fun t25 w =>
    cJ pg (dY .and 5 (.tmp 25) (.const (.int .u8 1)) t25 (.int .u8 1)) w fun t26 w =>
    cJ pg (nB 5 83 t26) w fun t27 w =>
    cJ pg (nB 3 75 t11) w fun t29 w =>
    cJ pg (dY .shl 83 (.tmp 27) (.tmp 29) t27 t29) w fun t30 w =>
    cJ pg (dY .or 83 (.tmp 17) (.tmp 30) yR t30) w fun t31 w =>
    cJ pg (dY .add 3 (.tmp 11) (.const (.int .i64 1)) t11 (.int .i64 1)) w fun t32 w =>
    kn zM rD t31 t10 t32 w)
    (k0 yR w)
theorem Cn (kn : K5) (k0 : K1) (hn : ∀ g w, kn (g 0) (g 1) (g 7) (g 10) (g 11) w → Q .normal g w) (h0 : ∀ g w, k0 (g 7) w → Q (.exit 0) g w) (h : qV kn k0 (g 0) (g 1) (g 7) (g 10) (g 11) w) : eI pg gL (bI (bI (aA 1 (cP 1 (aA 2 fW))))) Q g w :=
  dX (kr := no) (l := [(0, fun g w => k0 (g 7) w)]) (by kernel_rfl) h hn mH ⟨h0, trivial⟩
def wB (k0 : K1) (zM rD yR t10 t11 : Value) (w : World) : Prop :=
  iV (fun (X : (Value × Value) → K0) (t : Value × Value) (w : World) => qV (fun _ _ yR _ t11 w => X (yR, t11) w) k0 zM rD t.1 t10 t.2 w) (yR, t11) w
theorem Ck (k0 : K1) (h0 : ∀ g w, k0 (g 7) w → Q (.exit 0) g w) (h : wB k0 (g 0) (g 1) (g 7) (g 10) (g 11) w) : eI pg gL (bI (aA 1 (cP 1 (aA 2 fW)))) Q g w := by
  refine jR (T := Value × Value) (fun g : hC => (g 7, g 11)) (fun X t w => qV (fun _ _ yR _ t11 w => X (yR, t11) w) k0 (g 0) (g 1) t.1 (g 10) t.2 w) _ (by kernel_rfl) h (fun X g1 w1 ha hL => ?_)
  rw [← dZ (s := 0) ha (by kernel_rfl)] at hL
  rw [← dZ (s := 1) ha (by kernel_rfl)] at hL
  rw [← dZ (s := 10) ha (by kernel_rfl)] at hL
  exact (Cn (fK (fun g2 w2 => X ((fun g : hC => (g 7, g 11)) g2) w2) Q) g1 w1 (fun _ _ yR _ t11 w => X (yR, t11) w) k0 (fun _ _ h => h) h0 hL)
def rB (kn : K1) (zM rD yR t10 t11 : Value) (w : World) : Prop :=
  wB kn zM rD yR t10 t11 w
theorem Cy (kn : K1) (hn : ∀ g w, kn (g 7) w → Q .normal g w) (h : rB kn (g 0) (g 1) (g 7) (g 10) (g 11) w) : eI pg gL (aA 1 (cP 1 (aA 2 fW))) Q g w :=
  jX 0 _ g w (by kernel_rfl) (Ck (Cq 0 Q) g w kn hn h)
def vP (kn : K5) (zM rD sU yR : Value) (w : World) : Prop :=
  kn zM rD yR sU (.int .i64 0) w
theorem Cp (kn : K5) (hn : ∀ g w, kn (g 0) (g 1) (g 7) (g 10) (g 11) w → Q .normal g w) (h : vP kn (g 0) (g 1) (g 2) (g 7) w) : eI pg gL (cP 1 (cP 1 (aA 2 fW))) Q g w :=
  dX (kr := no) (l := []) (by kernel_rfl) h hn mH trivial
def vQ (kn : K1) (zM rD sU yR : Value) (w : World) : Prop :=
  vP (fun zM rD yR t10 t11 w => rB kn zM rD yR t10 t11 w) zM rD sU yR w
theorem CG (kn : K1) (hn : ∀ g w, kn (g 7) w → Q .normal g w) (h : vQ kn (g 0) (g 1) (g 2) (g 7) w) : eI pg gL (cP 1 (aA 2 fW)) Q g w :=
  eJ 1 _ g w (by kernel_rfl) (Cp (fK (fun g w => eI pg gL (aA 1 (cP 1 (aA 2 fW))) Q g w) Q) g w (fun zM rD yR t10 t11 w => rB kn zM rD yR t10 t11 w) (fun g w h => fF (K := fun g w => eI pg gL (aA 1 (cP 1 (aA 2 fW))) Q g w) (Cy Q g w kn hn h)) h)
def qX (R : K1) (zM rD sU yR : Value) (w : World) : Prop :=
  vQ (fun yR w => qU R yR w) zM rD sU yR w
theorem CI (R : K1) (hr : HR nX R Q) (h : qX R (g 0) (g 1) (g 2) (g 7) w) : eI pg gL (aA 2 fW) Q g w :=
  eJ 1 _ g w (by kernel_rfl) (CG (fK (fun g w => eI pg gL (aA 1 (aA 2 fW)) Q g w) Q) g w (fun yR w => qU R yR w) (fun g w h => fF (K := fun g w => eI pg gL (aA 1 (aA 2 fW)) Q g w) (Cj Q g w R hr h)) h)
def vN (kn : K4) (zM rD sU : Value) (w : World) : Prop :=
  kn zM rD sU (.int .u64 0) w
theorem Cx (kn : K4) (hn : ∀ g w, kn (g 0) (g 1) (g 2) (g 7) w → Q .normal g w) (h : vN kn (g 0) (g 1) (g 2) w) : eI pg gL (cP 2 fW) Q g w :=
  dX (kr := no) (l := []) (by kernel_rfl) h hn mH trivial
def vY (R : K1) (zM rD sU : Value) (w : World) : Prop :=
  vN (fun zM rD sU yR w => qX R zM rD sU yR w) zM rD sU w
theorem Cr (R : K1) (hr : HR nX R Q) (h : vY R (g 0) (g 1) (g 2) w) : eI pg gL fW Q g w :=
  eJ 2 _ g w (by kernel_rfl) (Cx (fK (fun g w => eI pg gL (aA 2 fW) Q g w) Q) g w (fun zM rD sU yR w => qX R zM rD sU yR w) (fun g w h => fF (K := fun g w => eI pg gL (aA 2 fW) Q g w) (CI Q g w R hr h)) h)
def DK (a0 a1 a2 : Value) (w : World) (R : K1) : Prop :=
  vY R a0 a1 a2 w
theorem CO {a0 a1 a2 : Value} {w : World} {R : K1} (h : DK a0 a1 a2 w R) : gH pg sY #[a0, a1, a2] w R := by
  refine fQ (ann := gL) (fn := Tryd.f51) (c := fW) (args := [a0, a1, a2]) (rs := nX) (N := 34) TrydM.mixed (by kernel_rfl) Tryd.func51 (by kernel_rfl) (by kernel_rfl) (by kernel_rfl) (of_decide_eq_true (by kernel_rfl)) (by kernel_rfl) ?_
  exact (Cr (qD pg nX R) (kJ [a0, a1, a2]) w R (fun _ _ h => h) h)
end Go.Proofs.YtoepfjgekpdddaaDoor
namespace Go.Proofs.YtoepfjgekpdddaaDoor
open Go Go.En
set_option linter.unusedVariables false
set_option maxRecDepth 20000
attribute [local irreducible] Go.En.eI
variable (Q : Exit → hC → World → Prop) (g : hC) (w : World)
def cT : FA := ⟨mF, fun i => match Nat.beq i 19 with | true => .leaf ([], []) [(false, []), (false, []), (false, []), (false, []), (false, []), (false, []), (false, []), (false, []), (false, []), (false, []), (false, [])] | false => .leaf ([], []) []⟩
def fD : List ResultVar := [.tmp 6]
noncomputable def cO : Code := jB Tryd.f3
def jT (R : K1) (dS iN eK eN : Value) (w : World) : Prop :=
  cJ pg (dY .eql 27 (.tmp 107) (.const (.int .i64 0)) iN (.int .i64 0)) w fun t108 w =>
  Gd (kE t108 true) (fun K => K eN w) w fun t110 w =>
  Gd (kE t108 true) (fun K => K dS w) w fun t111 w =>
  Gd (kE t108 true) (fun K => cJ pg (nB 5 3 t111) w K) w fun t112 w =>
  Gd (kE t108 true) (fun K => K eK w) w fun t113 w =>
  Gd (kE t108 true) (fun K => cJ pg (dY .leq 3 (.tmp 112) (.tmp 113) t112 t113) w K) w fun t114 w =>
  Gd (kE t108 true) (fun K => cJ pg (dY .eql 4 (.tmp 110) (.tmp 114) t110 t114) w K) w fun t115 w =>
  cJ pg (kO t108 t115 (.bool false)) w fun t116 w =>
  R t116 w
theorem vB (R : K1) (hr : HR fD R Q) (h : jT R (g 1) (g 10) (g 11) (g 12) w) : eI pg cT (aA 1 (aA 1 (aA 2 (aA 1 (aA 7 cO))))) Q g w :=
  dX (kn := no) (l := []) (by kernel_rfl) h mH hr trivial
def jW (kn : K7) (k2 : K4) (R : K1) (dS t9 iN eK eN mL wM : Value) (w : World) : Prop :=
  cJ pg (eH 26 t9 1) w fun t90 w =>
  cJ pg (eF 24 t90) w fun t91 w =>
  cJ pg (mM .len #[24] 3 [t91]) w fun t92 w =>
  cJ pg (dY .lss 3 (.tmp 89) (.tmp 92) wM t92) w fun t93 w =>
  mG t93
    (cJ pg (eH 26 mL 1) (dr w) fun t96 w_ => w_ = (dr w) ∧
    cJ pg (eF 24 t96) (dr w) fun t97 w_ => w_ = (dr w) ∧
    (dr w) = (dr w) ∧
    cJ pg (iC 24 t97 wM) (dr w) fun t99 w_ => w_ = (dr w) ∧
    cJ pg (eF 32 t99) (dr w) fun t100 w_ => w_ = (dr w) ∧
    cJ pg (eH 26 t9 1) (dr w) fun t101 w_ => w_ = (dr w) ∧
    cJ pg (eF 24 t101) (dr w) fun t102 w_ => w_ = (dr w) ∧
    (dr w) = (dr w) ∧
    cJ pg (iC 24 t102 wM) (dr w) fun t104 w_ => w_ = (dr w) ∧
    cJ pg (eF 32 t104) (dr w) fun t105 w_ => w_ = (dr w) ∧
    cJ pg (dY .neq 32 (.tmp 100) (.tmp 105) t100 t105) (dr w) fun t106 w_ => w_ = (dr w) ∧
    mG t106
      (R (.bool false) (dr w))
      (cJ pg (dY .add 3 (.tmp 94) (.const (.int .i64 1)) wM (.int .i64 1)) (dr w) fun t95 w =>
      kn dS t9 iN eK eN mL t95 w))
    (k2 dS iN eK eN w)
theorem uZ (kn : K7) (k2 : K4) (R : K1) (hn : ∀ g w, kn (g 1) (g 9) (g 10) (g 11) (g 12) (g 14) (g 20) w → Q .normal g w) (h2 : ∀ g w, k2 (g 1) (g 10) (g 11) (g 12) w → Q (.exit 2) g w) (hr : HR fD R Q) (h : jW kn k2 R (g 1) (g 9) (g 10) (g 11) (g 12) (g 14) (g 20) w) : eI pg cT (bI (bI (aA 1 (cP 1 (aA 1 (aA 2 (aA 1 (aA 7 cO)))))))) Q g w :=
  dX (l := [(2, fun g w => k2 (g 1) (g 10) (g 11) (g 12) w)]) (by kernel_rfl) h hn hr ⟨h2, trivial⟩
def mA (k2 : K4) (R : K1) (dS t9 iN eK eN mL wM : Value) (w : World) : Prop :=
  iV (fun (X : Value → K0) (t : Value) (w : World) => jW (fun _ _ _ _ _ _ wM w => X wM w) k2 R dS t9 iN eK eN mL t w) wM w
theorem vF (k2 : K4) (R : K1) (h2 : ∀ g w, k2 (g 1) (g 10) (g 11) (g 12) w → Q (.exit 2) g w) (hr : HR fD R Q) (h : mA k2 R (g 1) (g 9) (g 10) (g 11) (g 12) (g 14) (g 20) w) : eI pg cT (bI (aA 1 (cP 1 (aA 1 (aA 2 (aA 1 (aA 7 cO))))))) Q g w := by
  refine jR (T := Value) (fun g : hC => g 20) (fun X t w => jW (fun _ _ _ _ _ _ wM w => X wM w) k2 R (g 1) (g 9) (g 10) (g 11) (g 12) (g 14) t w) _ (by kernel_rfl) h (fun X g1 w1 ha hL => ?_)
  rw [← dZ (s := 1) ha (by kernel_rfl)] at hL
  rw [← dZ (s := 9) ha (by kernel_rfl)] at hL
  rw [← dZ (s := 10) ha (by kernel_rfl)] at hL
  rw [← dZ (s := 11) ha (by kernel_rfl)] at hL
  rw [← dZ (s := 12) ha (by kernel_rfl)] at hL
  rw [← dZ (s := 14) ha (by kernel_rfl)] at hL
  exact (uZ (fK (fun g2 w2 => X ((fun g : hC => g 20) g2) w2) Q) g1 w1 (fun _ _ _ _ _ _ wM w => X wM w) k2 R (fun _ _ h => h) h2 hr hL)
def jV (kn : K4) (R : K1) (dS t9 iN eK eN mL wM : Value) (w : World) : Prop :=
  mA kn R dS t9 iN eK eN mL wM w
theorem uY (kn : K4) (R : K1) (hn : ∀ g w, kn (g 1) (g 10) (g 11) (g 12) w → Q .normal g w) (hr : HR fD R Q) (h : jV kn R (g 1) (g 9) (g 10) (g 11) (g 12) (g 14) (g 20) w) : eI pg cT (aA 1 (cP 1 (aA 1 (aA 2 (aA 1 (aA 7 cO)))))) Q g w :=
  jX 2 _ g w (by kernel_rfl) (vF (Cq 2 Q) g w kn R hn hr h)
def lM (kn : K7) (dS t9 iN eK eN mL : Value) (w : World) : Prop :=
  kn dS t9 iN eK eN mL (.int .i64 0) w
theorem uW (kn : K7) (hn : ∀ g w, kn (g 1) (g 9) (g 10) (g 11) (g 12) (g 14) (g 20) w → Q .normal g w) (h : lM kn (g 1) (g 9) (g 10) (g 11) (g 12) (g 14) w) : eI pg cT (cP 1 (cP 1 (aA 1 (aA 2 (aA 1 (aA 7 cO)))))) Q g w :=
  dX (kr := no) (l := []) (by kernel_rfl) h hn mH trivial
def mB (kn : K4) (R : K1) (dS t9 iN eK eN mL : Value) (w : World) : Prop :=
  lM (fun dS t9 iN eK eN mL wM w => jV kn R dS t9 iN eK eN mL wM w) dS t9 iN eK eN mL w
theorem vA (kn : K4) (R : K1) (hn : ∀ g w, kn (g 1) (g 10) (g 11) (g 12) w → Q .normal g w) (hr : HR fD R Q) (h : mB kn R (g 1) (g 9) (g 10) (g 11) (g 12) (g 14) w) : eI pg cT (cP 1 (aA 1 (aA 2 (aA 1 (aA 7 cO))))) Q g w :=
  eJ 1 _ g w (by kernel_rfl) (uW (fK (fun g w => eI pg cT (aA 1 (cP 1 (aA 1 (aA 2 (aA 1 (aA 7 cO)))))) Q g w) Q) g w (fun dS t9 iN eK eN mL wM w => jV kn R dS t9 iN eK eN mL wM w) (fun g w h => fF (K := fun g w => eI pg cT (aA 1 (cP 1 (aA 1 (aA 2 (aA 1 (aA 7 cO)))))) Q g w) (uY Q g w kn R hn hr h)) h)
def jZ (R : K1) (dS t9 iN eK eN mL : Value) (w : World) : Prop :=
  mB (fun dS iN eK eN w => jT R dS iN eK eN w) R dS t9 iN eK eN mL w
theorem uO (R : K1) (hr : HR fD R Q) (h : jZ R (g 1) (g 9) (g 10) (g 11) (g 12) (g 14) w) : eI pg cT (aA 1 (aA 2 (aA 1 (aA 7 cO)))) Q g w :=
  eJ 1 _ g w (by kernel_rfl) (vA (fK (fun g w => eI pg cT (aA 1 (aA 1 (aA 2 (aA 1 (aA 7 cO))))) Q g w) Q) g w (fun dS iN eK eN w => jT R dS iN eK eN w) R (fun g w h => fF (K := fun g w => eI pg cT (aA 1 (aA 1 (aA 2 (aA 1 (aA 7 cO))))) Q g w) (vB Q g w R hr h)) hr h)
def lY (kn : K6) (R : K1) (dS t9 iN eK eN mL Fl Ff Fk : Value) (w : World) : Prop :=
  cJ pg (eH 26 mL 1) w fun t70 w =>
  cJ pg (eF 24 t70) w fun t71 w =>
  cJ pg (mM .len #[24] 3 [t71]) w fun t72 w =>
  cJ pg (eH 26 t9 1) w fun t73 w =>
  cJ pg (eF 24 t73) w fun t74 w =>
  cJ pg (mM .len #[24] 3 [t74]) w fun t75 w =>
  cJ pg (dY .neq 3 (.tmp 72) (.tmp 75) t72 t75) w fun t76 w =>
  Gd (kE t76 false) (fun K => K Fl w) w fun t78 w =>
  Gd (kE t76 false) (fun K => cJ pg (dY .neq 3 (.tmp 78) (.const (.int .i64 0)) t78 (.int .i64 0)) w K) w fun t79 w =>
  cJ pg (kO t76 (.bool true) t79) w fun t80 w =>
  Gd (kE t80 false) (fun K => K Ff w) w fun t82 w =>
  Gd (kE t80 false) (fun K => cJ pg (dY .neq 27 (.tmp 82) (.const (.int .i64 0)) t82 (.int .i64 0)) w K) w fun t83 w =>
  cJ pg (kO t80 (.bool true) t83) w fun t84 w =>
  Gd (kE t84 false) (fun K => K Fk w) w fun t86 w =>
  Gd (kE t84 false) (fun K => cJ pg (dY .neq 27 (.tmp 86) (.const (.int .i64 11)) t86 (.int .i64 11)) w K) w fun t87 w =>
  cJ pg (kO t84 (.bool true) t87) w fun t88 w =>
  mG t88
    (R (.bool false) w)
    (kn dS t9 iN eK eN mL w)
theorem vE (kn : K6) (R : K1) (hn : ∀ g w, kn (g 1) (g 9) (g 10) (g 11) (g 12) (g 14) w → Q .normal g w) (hr : HR fD R Q) (h : lY kn R (g 1) (g 9) (g 10) (g 11) (g 12) (g 14) (g 15) (g 16) (g 19) w) : eI pg cT (cP 1 (aA 2 (aA 1 (aA 7 cO)))) Q g w :=
  dX (l := []) (by kernel_rfl) h hn hr trivial
def jS (R : K1) (dS t9 iN eK eN mL Fl Ff Fk : Value) (w : World) : Prop :=
  lY (fun dS t9 iN eK eN mL w => jZ R dS t9 iN eK eN mL w) R dS t9 iN eK eN mL Fl Ff Fk w
theorem vD (R : K1) (hr : HR fD R Q) (h : jS R (g 1) (g 9) (g 10) (g 11) (g 12) (g 14) (g 15) (g 16) (g 19) w) : eI pg cT (aA 2 (aA 1 (aA 7 cO))) Q g w :=
  eJ 1 _ g w (by kernel_rfl) (vE (fK (fun g w => eI pg cT (aA 1 (aA 2 (aA 1 (aA 7 cO)))) Q g w) Q) g w (fun dS t9 iN eK eN mL w => jZ R dS t9 iN eK eN mL w) R (fun g w h => fF (K := fun g w => eI pg cT (aA 1 (aA 2 (aA 1 (aA 7 cO)))) Q g w) (uO Q g w R hr h)) hr h)
def lA (kn : K9) (dS wI AY t9 iN eK eN : Value) (w : World) : Prop :=
  cJ pg (eF 26 t9) w fun t57 w =>
  gH pg kR #[AY, (.int .i64 3), wI, t57] w fun t58 w =>
  cJ pg (iB t58 0) w fun t59 w =>
  cJ pg (iB t58 1) w fun t60 w =>
  cJ pg (iB t58 2) w fun t61 w =>
  cJ pg (iF 26) w fun mL w =>
  cJ pg (fC 26 mL t59) w fun _u w =>
  cJ pg (gJ 26 []) w fun t65 w =>
  gH pg kR #[AY, (.int .i64 3), wI, t65] w fun t66 w =>
  cJ pg (iB t66 0) w fun t67 w =>
  cJ pg (iB t66 1) w fun t68 w =>
  cJ pg (iB t66 2) w fun t69 w =>
  cJ pg (iF 26) w fun t17 w =>
  cJ pg (fC 26 t17 t67) w fun _u w =>
  kn dS t9 iN eK eN mL t60 t61 t69 w
theorem uA (kn : K9) (hn : ∀ g w, kn (g 1) (g 9) (g 10) (g 11) (g 12) (g 14) (g 15) (g 16) (g 19) w → Q .normal g w) (h : lA kn (g 1) (g 2) (g 8) (g 9) (g 10) (g 11) (g 12) w) : eI pg cT (cP 2 (aA 1 (aA 7 cO))) Q g w :=
  dX (kr := no) (l := []) (by kernel_rfl) h hn mH trivial
def jK (R : K1) (dS wI AY t9 iN eK eN : Value) (w : World) : Prop :=
  lA (fun dS t9 iN eK eN mL Fl Ff Fk w => jS R dS t9 iN eK eN mL Fl Ff Fk w) dS wI AY t9 iN eK eN w
theorem tY (R : K1) (hr : HR fD R Q) (h : jK R (g 1) (g 2) (g 8) (g 9) (g 10) (g 11) (g 12) w) : eI pg cT (aA 1 (aA 7 cO)) Q g w :=
  eJ 2 _ g w (by kernel_rfl) (uA (fK (fun g w => eI pg cT (aA 2 (aA 1 (aA 7 cO))) Q g w) Q) g w (fun dS t9 iN eK eN mL Fl Ff Fk w => jS R dS t9 iN eK eN mL Fl Ff Fk w) (fun g w h => fF (K := fun g w => eI pg cT (aA 2 (aA 1 (aA 7 cO))) Q g w) (vD Q g w R hr h)) h)
def jO (kn : K8) (k0 : K7) (dS wI AY t9 iN eK eN xF : Value) (w : World) : Prop :=
  cJ pg (eH 26 t9 1) w fun t37 w =>
  cJ pg (eF 24 t37) w fun t38 w =>
  cJ pg (mM .len #[24] 3 [t38]) w fun t39 w =>
  cJ pg (dY .lss 3 (.tmp 36) (.tmp 39) xF t39) w fun t40 w =>
  mG t40
    (Gd (kE eN false) (fun K => cJ pg (eH 26 t9 1) w K) w fun t45 w =>
    Gd (kE eN false) (fun K => cJ pg (eF 24 t45) w K) w fun t46 w =>
    Gd (kE eN false) (fun K => K xF w) w fun t47 w =>
    Gd (kE eN false) (fun K => cJ pg (iC 24 t46 t47) w K) w fun t48 w =>
    Gd (kE eN false) (fun K => cJ pg (eH 32 t48 0) w K) w fun t49 w =>
    Gd (kE eN false) (fun K => cJ pg (eF 5 t49) w K) w fun t50 w =>
    Gd (kE eN false) (fun K => K dS w) w fun t51 w =>
    Gd (kE eN false) (fun K => cJ pg (dY .eql 5 (.tmp 50) (.tmp 51) t50 t51) w K) w fun t52 w =>
    cJ pg (kO eN (.bool true) t52) w fun t53 w =>
    cJ pg (dY .add 3 (.tmp 41) (.const (.int .i64 1)) xF (.int .i64 1)) w fun t42 w =>
    kn dS wI AY t9 iN eK t53 t42 w)
    (k0 dS wI AY t9 iN eK eN w)
theorem tL (kn : K8) (k0 : K7) (hn : ∀ g w, kn (g 1) (g 2) (g 8) (g 9) (g 10) (g 11) (g 12) (g 13) w → Q .normal g w) (h0 : ∀ g w, k0 (g 1) (g 2) (g 8) (g 9) (g 10) (g 11) (g 12) w → Q (.exit 0) g w) (h : jO kn k0 (g 1) (g 2) (g 8) (g 9) (g 10) (g 11) (g 12) (g 13) w) : eI pg cT (bI (bI (aA 1 (cP 1 (aA 7 cO))))) Q g w :=
  dX (kr := no) (l := [(0, fun g w => k0 (g 1) (g 2) (g 8) (g 9) (g 10) (g 11) (g 12) w)]) (by kernel_rfl) h hn mH ⟨h0, trivial⟩
def lB (k0 : K7) (dS wI AY t9 iN eK eN xF : Value) (w : World) : Prop :=
  iV (fun (X : (Value × Value) → K0) (t : Value × Value) (w : World) => jO (fun _ _ _ _ _ _ eN xF w => X (eN, xF) w) k0 dS wI AY t9 iN eK t.1 t.2 w) (eN, xF) w
theorem tR (k0 : K7) (h0 : ∀ g w, k0 (g 1) (g 2) (g 8) (g 9) (g 10) (g 11) (g 12) w → Q (.exit 0) g w) (h : lB k0 (g 1) (g 2) (g 8) (g 9) (g 10) (g 11) (g 12) (g 13) w) : eI pg cT (bI (aA 1 (cP 1 (aA 7 cO)))) Q g w := by
  refine jR (T := Value × Value) (fun g : hC => (g 12, g 13)) (fun X t w => jO (fun _ _ _ _ _ _ eN xF w => X (eN, xF) w) k0 (g 1) (g 2) (g 8) (g 9) (g 10) (g 11) t.1 t.2 w) _ (by kernel_rfl) h (fun X g1 w1 ha hL => ?_)
  rw [← dZ (s := 1) ha (by kernel_rfl)] at hL
  rw [← dZ (s := 2) ha (by kernel_rfl)] at hL
  rw [← dZ (s := 8) ha (by kernel_rfl)] at hL
  rw [← dZ (s := 9) ha (by kernel_rfl)] at hL
  rw [← dZ (s := 10) ha (by kernel_rfl)] at hL
  rw [← dZ (s := 11) ha (by kernel_rfl)] at hL
  exact (tL (fK (fun g2 w2 => X ((fun g : hC => (g 12, g 13)) g2) w2) Q) g1 w1 (fun _ _ _ _ _ _ eN xF w => X (eN, xF) w) k0 (fun _ _ h => h) h0 hL)
def jL (kn : K7) (dS wI AY t9 iN eK eN xF : Value) (w : World) : Prop :=
  lB kn dS wI AY t9 iN eK eN xF w
theorem tT (kn : K7) (hn : ∀ g w, kn (g 1) (g 2) (g 8) (g 9) (g 10) (g 11) (g 12) w → Q .normal g w) (h : jL kn (g 1) (g 2) (g 8) (g 9) (g 10) (g 11) (g 12) (g 13) w) : eI pg cT (aA 1 (cP 1 (aA 7 cO))) Q g w :=
  jX 0 _ g w (by kernel_rfl) (tR (Cq 0 Q) g w kn hn h)
def kY (kn : K8) (dS wI AY t9 iN eK eN : Value) (w : World) : Prop :=
  kn dS wI AY t9 iN eK eN (.int .i64 0) w
theorem tQ (kn : K8) (hn : ∀ g w, kn (g 1) (g 2) (g 8) (g 9) (g 10) (g 11) (g 12) (g 13) w → Q .normal g w) (h : kY kn (g 1) (g 2) (g 8) (g 9) (g 10) (g 11) (g 12) w) : eI pg cT (cP 1 (cP 1 (aA 7 cO))) Q g w :=
  dX (kr := no) (l := []) (by kernel_rfl) h hn mH trivial
def jN (kn : K7) (dS wI AY t9 iN eK eN : Value) (w : World) : Prop :=
  kY (fun dS wI AY t9 iN eK eN xF w => jL kn dS wI AY t9 iN eK eN xF w) dS wI AY t9 iN eK eN w
theorem uF (kn : K7) (hn : ∀ g w, kn (g 1) (g 2) (g 8) (g 9) (g 10) (g 11) (g 12) w → Q .normal g w) (h : jN kn (g 1) (g 2) (g 8) (g 9) (g 10) (g 11) (g 12) w) : eI pg cT (cP 1 (aA 7 cO)) Q g w :=
  eJ 1 _ g w (by kernel_rfl) (tQ (fK (fun g w => eI pg cT (aA 1 (cP 1 (aA 7 cO))) Q g w) Q) g w (fun dS wI AY t9 iN eK eN xF w => jL kn dS wI AY t9 iN eK eN xF w) (fun g w h => fF (K := fun g w => eI pg cT (aA 1 (cP 1 (aA 7 cO))) Q g w) (tT Q g w kn hn h)) h)
def jP (R : K1) (dS wI AY t9 iN eK eN : Value) (w : World) : Prop :=
  jN (fun dS wI AY t9 iN eK eN w => jK R dS wI AY t9 iN eK eN w) dS wI AY t9 iN eK eN w
theorem tM (R : K1) (hr : HR fD R Q) (h : jP R (g 1) (g 2) (g 8) (g 9) (g 10) (g 11) (g 12) w) : eI pg cT (aA 7 cO) Q g w :=
  eJ 1 _ g w (by kernel_rfl) (uF (fK (fun g w => eI pg cT (aA 1 (aA 7 cO)) Q g w) Q) g w (fun dS wI AY t9 iN eK eN w => jK R dS wI AY t9 iN eK eN w) (fun g w h => fF (K := fun g w => eI pg cT (aA 1 (aA 7 cO)) Q g w) (tY Q g w R hr h)) h)
def kX (kn : K7) (R : K1) (iI dS wI : Value) (w : World) : Prop :=
  gH pg pY #[] w fun t21 w =>
  cJ pg (Hn .not t21) w fun t23 w =>
  mG t23
    (R (.bool false) w)
    (cJ pg (dY .rem 5 (.tmp 24) (.const (.int .u8 3)) iI (.int .u8 3)) w fun t25 w =>
    cJ pg (nB 5 3 t25) w fun t26 w =>
    gH pg iT #[t26] w fun t29 w =>
    cJ pg (iB t29 0) w fun t30 w =>
    cJ pg (iB t29 1) w fun t31 w =>
    cJ pg (iF 26) w fun t9 w =>
    cJ pg (fC 26 t9 t30) w fun _u w =>
    cJ pg (hZ 30 3 [(0, (.int .i64 35)), (1, (.int .i64 28)), (2, (.int .i64 52))]) w fun t32 w =>
    cJ pg (iC 30 t32 t26) w fun t34 w =>
    cJ pg (eF 3 t34) w fun t35 w =>
    kn dS wI t26 t9 t31 t35 (.bool false) w)
theorem tZ (kn : K7) (R : K1) (hn : ∀ g w, kn (g 1) (g 2) (g 8) (g 9) (g 10) (g 11) (g 12) w → Q .normal g w) (hr : HR fD R Q) (h : kX kn R (g 0) (g 1) (g 2) w) : eI pg cT (cP 7 cO) Q g w :=
  dX (l := []) (by kernel_rfl) h hn hr trivial
def kZ (R : K1) (iI dS wI : Value) (w : World) : Prop :=
  kX (fun dS wI AY t9 iN eK eN w => jP R dS wI AY t9 iN eK eN w) R iI dS wI w
theorem uD (R : K1) (hr : HR fD R Q) (h : kZ R (g 0) (g 1) (g 2) w) : eI pg cT cO Q g w :=
  eJ 7 _ g w (by kernel_rfl) (tZ (fK (fun g w => eI pg cT (aA 7 cO) Q g w) Q) g w (fun dS wI AY t9 iN eK eN w => jP R dS wI AY t9 iN eK eN w) R (fun g w h => fF (K := fun g w => eI pg cT (aA 7 cO) Q g w) (tM Q g w R hr h)) hr h)
def tA (a0 a1 a2 : Value) (w : World) (R : K1) : Prop :=
  kZ R a0 a1 a2 w
theorem vX {a0 a1 a2 : Value} {w : World} {R : K1} (h : tA a0 a1 a2 w R) : gH pg mF #[a0, a1, a2] w R := by
  refine fQ (ann := cT) (fn := Tryd.f3) (c := cO) (args := [a0, a1, a2]) (rs := fD) (N := 117) TrydM.mixed (by kernel_rfl) Tryd.func3 (by kernel_rfl) (by kernel_rfl) (by kernel_rfl) (of_decide_eq_true (by kernel_rfl)) (by kernel_rfl) ?_
  exact (uD (qD pg fD R) (kJ [a0, a1, a2]) w R (fun _ _ h => h) h)
end Go.Proofs.YtoepfjgekpdddaaDoor
namespace Go.Proofs.YtoepfjgekpdddaaDoor
open Go Go.En
set_option linter.unusedVariables false
set_option maxRecDepth 20000
attribute [local irreducible] Go.En.eI
variable (Q : Exit → hC → World → Prop) (g : hC) (w : World)
def iD : FA := ⟨pY, fun i => .leaf ([], []) []⟩
def lS : List ResultVar := [.tmp 0]
noncomputable def hY : Code := jB Tryd.f6
def nM (R : K1) (t0 : Value) (w : World) : Prop :=
  R t0 w
theorem Bg (R : K1) (hr : HR lS R Q) (h : nM R (g 0) w) : eI pg iD (aA 1 (aA 4 hY)) Q g w :=
  dX (kn := no) (l := []) (by kernel_rfl) h mH hr trivial
def rY (kn : K1) (t1 sU Ih Hl H5 Ib : Value) (w : World) : Prop :=
  cJ pg (eH 26 t1 1) w fun t23 w =>
  cJ pg (eF 24 t23) w fun t24 w =>
  cJ pg (mM .len #[24] 3 [t24]) w fun t25 w =>
  cJ pg (dY .eql 3 (.tmp 25) (.const (.int .i64 1)) t25 (.int .i64 1)) w fun t26 w =>
  Gd (kE t26 true) (fun K => cJ pg (eH 26 t1 1) w K) w fun t28 w =>
  Gd (kE t26 true) (fun K => cJ pg (eF 24 t28) w K) w fun t29 w =>
  Gd (kE t26 true) (fun K => cJ pg (iC 24 t29 (.int .i64 0)) w K) w fun t30 w =>
  Gd (kE t26 true) (fun K => cJ pg (eH 32 t30 0) w K) w fun t31 w =>
  Gd (kE t26 true) (fun K => cJ pg (eF 5 t31) w K) w fun t32 w =>
  Gd (kE t26 true) (fun K => cJ pg (dY .eql 5 (.tmp 32) (.const (.int .u8 7)) t32 (.int .u8 7)) w K) w fun t33 w =>
  cJ pg (kO t26 t33 (.bool false)) w fun t34 w =>
  Gd (kE t34 true) (fun K => K sU w) w fun t36 w =>
  Gd (kE t34 true) (fun K => cJ pg (dY .eql 3 (.tmp 36) (.const (.int .i64 1)) t36 (.int .i64 1)) w K) w fun t37 w =>
  cJ pg (kO t34 t37 (.bool false)) w fun t38 w =>
  Gd (kE t38 true) (fun K => K Ih w) w fun t40 w =>
  Gd (kE t38 true) (fun K => cJ pg (dY .eql 27 (.tmp 40) (.const (.int .i64 0)) t40 (.int .i64 0)) w K) w fun t41 w =>
  cJ pg (kO t38 t41 (.bool false)) w fun t42 w =>
  Gd (kE t42 true) (fun K => cJ pg (eH 26 Hl 1) w K) w fun t44 w =>
  Gd (kE t42 true) (fun K => cJ pg (eF 24 t44) w K) w fun t45 w =>
  Gd (kE t42 true) (fun K => cJ pg (mM .len #[24] 3 [t45]) w K) w fun t46 w =>
  Gd (kE t42 true) (fun K => cJ pg (dY .eql 3 (.tmp 46) (.const (.int .i64 64)) t46 (.int .i64 64)) w K) w fun t47 w =>
  cJ pg (kO t42 t47 (.bool false)) w fun t48 w =>
  Gd (kE t48 true) (fun K => K H5 w) w fun t50 w =>
  Gd (kE t48 true) (fun K => cJ pg (dY .eql 27 (.tmp 50) (.const (.int .i64 0)) t50 (.int .i64 0)) w K) w fun t51 w =>
  cJ pg (kO t48 t51 (.bool false)) w fun t52 w =>
  Gd (kE t52 true) (fun K => K Ib w) w fun t54 w =>
  Gd (kE t52 true) (fun K => cJ pg (dY .eql 27 (.tmp 54) (.const (.int .i64 1)) t54 (.int .i64 1)) w K) w fun t55 w =>
  cJ pg (kO t52 t55 (.bool false)) w fun t56 w =>
  Gd (kE t56 true) (fun K => gH pg kV #[(.int .i64 1)] w K) w fun t58 w =>
  Gd (kE t56 true) (fun K => cJ pg (dY .eql 3 (.tmp 58) (.const (.int .i64 8)) t58 (.int .i64 8)) w K) w fun t59 w =>
  cJ pg (kO t56 t59 (.bool false)) w fun t60 w =>
  Gd (kE t60 true) (fun K => gH pg kV #[(.int .i64 7)] w K) w fun t62 w =>
  Gd (kE t60 true) (fun K => cJ pg (dY .eql 3 (.tmp 62) (.const (.int .i64 0)) t62 (.int .i64 0)) w K) w fun t63 w =>
  cJ pg (kO t60 t63 (.bool false)) w fun t64 w =>
  kn t64 w
theorem A5 (kn : K1) (hn : ∀ g w, kn (g 0) w → Q .normal g w) (h : rY kn (g 1) (g 2) (g 3) (g 4) (g 5) (g 7) w) : eI pg iD (cP 1 (aA 4 hY)) Q g w :=
  dX (kr := no) (l := []) (by kernel_rfl) h hn mH trivial
def nP (R : K1) (t1 sU Ih Hl H5 Ib : Value) (w : World) : Prop :=
  rY (fun t0 w => nM R t0 w) t1 sU Ih Hl H5 Ib w
theorem AN (R : K1) (hr : HR lS R Q) (h : nP R (g 1) (g 2) (g 3) (g 4) (g 5) (g 7) w) : eI pg iD (aA 4 hY) Q g w :=
  eJ 1 _ g w (by kernel_rfl) (A5 (fK (fun g w => eI pg iD (aA 1 (aA 4 hY)) Q g w) Q) g w (fun t0 w => nM R t0 w) (fun g w h => fF (K := fun g w => eI pg iD (aA 1 (aA 4 hY)) Q g w) (Bg Q g w R hr h)) h)
def sT (kn : K6)  (w : World) : Prop :=
  cJ pg (hZ 22 1 [(0, (.int .u8 7))]) w fun t9 w =>
  cJ pg (gJ 26 []) w fun t10 w =>
  gH pg kR #[(.int .i64 0), (.int .i64 1), t9, t10] w fun t11 w =>
  cJ pg (iB t11 0) w fun t12 w =>
  cJ pg (iB t11 1) w fun t13 w =>
  cJ pg (iB t11 2) w fun t14 w =>
  cJ pg (iF 26) w fun t1 w =>
  cJ pg (fC 26 t1 t12) w fun _u w =>
  gH pg iT #[(.int .i64 2)] w fun t16 w =>
  cJ pg (iB t16 0) w fun t17 w =>
  cJ pg (iB t16 1) w fun t18 w =>
  cJ pg (iF 26) w fun Hl w =>
  cJ pg (fC 26 Hl t17) w fun _u w =>
  gH pg iT #[(.int .i64 3)] w fun t20 w =>
  cJ pg (iB t20 0) w fun t21 w =>
  cJ pg (iB t20 1) w fun t22 w =>
  cJ pg (iF 26) w fun t6 w =>
  cJ pg (fC 26 t6 t21) w fun _u w =>
  kn t1 t13 t14 Hl t18 t22 w
theorem Aw (kn : K6) (hn : ∀ g w, kn (g 1) (g 2) (g 3) (g 4) (g 5) (g 7) w → Q .normal g w) (h : sT kn w) : eI pg iD (cP 4 hY) Q g w :=
  dX (kr := no) (l := []) (by kernel_rfl) h hn mH trivial
def rV (R : K1)  (w : World) : Prop :=
  sT (fun t1 sU Ih Hl H5 Ib w => nP R t1 sU Ih Hl H5 Ib w) w
theorem Ax (R : K1) (hr : HR lS R Q) (h : rV R w) : eI pg iD hY Q g w :=
  eJ 4 _ g w (by kernel_rfl) (Aw (fK (fun g w => eI pg iD (aA 4 hY) Q g w) Q) g w (fun t1 sU Ih Hl H5 Ib w => nP R t1 sU Ih Hl H5 Ib w) (fun g w h => fF (K := fun g w => eI pg iD (aA 4 hY) Q g w) (AN Q g w R hr h)) h)
def Cb (w : World) (R : K1) : Prop :=
  rV R w
theorem Bt {w : World} {R : K1} (h : Cb w R) : gH pg pY #[] w R := by
  refine fQ (ann := iD) (fn := Tryd.f6) (c := hY) (args := []) (rs := lS) (N := 65) TrydM.mixed (by kernel_rfl) Tryd.func6 (by kernel_rfl) (by kernel_rfl) (by kernel_rfl) (of_decide_eq_true (by kernel_rfl)) (by kernel_rfl) ?_
  exact (Ax (qD pg lS R) (kJ []) w R (fun _ _ h => h) h)
def sM : FA := ⟨iT, fun i => .leaf ([], []) []⟩
def nW : List ResultVar := [.cell 2 26, .tmp 3]
noncomputable def qQ : Code := jB Tryd.f7
def oP (R : K1) (iI : Value) (w : World) : Prop :=
  cJ pg (iF 26) w fun t2 w =>
  gH pg oC #[iI] w fun t5 w =>
  gH pg lX #[t5] w fun t6 w =>
  cJ pg (iB t6 0) w fun t7 w =>
  cJ pg (iB t6 1) w fun t8 w =>
  cJ pg (fC 26 t2 t7) w fun _u w =>
  zN pg 26 t2 w fun r0 => R (.tuple #[r0, t8]) w
theorem wY (R : K1) (hr : HR nW R Q) (h : oP R (g 0) w) : eI pg sM qQ Q g w :=
  dX (kn := no) (l := []) (by kernel_rfl) h mH hr trivial
def xI (a0 : Value) (w : World) (R : K1) : Prop :=
  oP R a0 w
theorem yO {a0 : Value} {w : World} {R : K1} (h : xI a0 w R) : gH pg iT #[a0] w R := by
  refine fQ (ann := sM) (fn := Tryd.f7) (c := qQ) (args := [a0]) (rs := nW) (N := 9) TrydM.mixed (by kernel_rfl) Tryd.func7 (by kernel_rfl) (by kernel_rfl) (by kernel_rfl) (of_decide_eq_true (by kernel_rfl)) (by kernel_rfl) ?_
  exact (wY (qD pg nW R) (kJ [a0]) w R (fun _ _ h => h) h)
def wH : FA := ⟨kR, fun i => .leaf ([], []) []⟩
def sL : List ResultVar := [.cell 8 26, .tmp 9, .tmp 10]
noncomputable def uP : Code := jB Tryd.f8
def rM (R : K1) (iI CY wI IF : Value) (w : World) : Prop :=
  cJ pg (D1 26 IF) w fun HX w =>
  cJ pg (iF 26) w fun t8 w =>
  gH pg qT #[iI] w fun t19 w =>
  cJ pg (dY .lss 3 (.tmp 20) (.const (.int .i64 0)) t19 (.int .i64 0)) w fun t21 w =>
  Gd (kE t21 false) (fun K => K CY w) w fun t23 w =>
  Gd (kE t21 false) (fun K => cJ pg (dY .lss 3 (.tmp 23) (.const (.int .i64 0)) t23 (.int .i64 0)) w K) w fun t24 w =>
  cJ pg (kO t21 (.bool true) t24) w fun t25 w =>
  Gd (kE t25 false) (fun K => K CY w) w fun t27 w =>
  Gd (kE t25 false) (fun K => cJ pg (dY .gtr 3 (.tmp 27) (.const (.int .i64 3)) t27 (.int .i64 3)) w K) w fun t28 w =>
  cJ pg (kO t25 (.bool true) t28) w fun t29 w =>
  mG t29
    (cJ pg (gJ 26 []) w fun t30 w =>
    cJ pg (fC 26 t8 t30) w fun _u w =>
    zN pg 26 t8 w fun r0 => R (.tuple #[r0, (.int .i64 0), (.int .i64 1)]) w)
    (cJ pg (dY .eql 3 (.tmp 31) (.const (.int .i64 0)) CY (.int .i64 0)) w fun t33 w =>
    mG t33
      (gH pg iT #[iI] w fun t36 w =>
      cJ pg (iB t36 0) w fun t37 w =>
      cJ pg (iB t36 1) w fun t38 w =>
      cJ pg (iF 26) w fun t12 w =>
      cJ pg (fC 26 t12 t37) w fun _u w =>
      cJ pg (eF 26 t12) w fun t39 w =>
      cJ pg (fC 26 t8 t39) w fun _u w =>
      zN pg 26 t8 w fun r0 => R (.tuple #[r0, (.int .i64 0), t38]) w)
      (cJ pg (dY .eql 3 (.tmp 31) (.const (.int .i64 1)) CY (.int .i64 1)) w fun t42 w =>
      mG t42
        (cJ pg (mM .len #[22] 3 [wI]) w fun t45 w =>
        cJ pg (dY .eql 3 (.tmp 45) (.const (.int .i64 0)) t45 (.int .i64 0)) w fun t46 w =>
        mG t46
          (cJ pg (gJ 26 []) w fun t47 w =>
          cJ pg (fC 26 t8 t47) w fun _u w =>
          zN pg 26 t8 w fun r0 => R (.tuple #[r0, (.int .i64 0), (.int .i64 10)]) w)
          (cJ pg (iC 22 wI (.int .i64 0)) w fun t50 w =>
          cJ pg (eF 5 t50) w fun t51 w =>
          cJ pg (nB 5 3 t51) w fun t52 w =>
          cJ pg (dY .gtr 3 (.tmp 52) (.tmp 53) t52 t19) w fun t54 w =>
          mG t54
            (cJ pg (gJ 26 []) w fun t55 w =>
            cJ pg (fC 26 t8 t55) w fun _u w =>
            zN pg 26 t8 w fun r0 => R (.tuple #[r0, (.int .i64 0), (.int .i64 11)]) w)
            (cJ pg (iC 22 wI (.int .i64 0)) w fun t57 w =>
            cJ pg (eF 5 t57) w fun t58 w =>
            gH pg yJ #[t58] w fun t59 w =>
            cJ pg (fC 26 t8 t59) w fun _u w =>
            zN pg 26 t8 w fun r0 => R (.tuple #[r0, (.int .i64 1), (.int .i64 0)]) w)))
        (cJ pg (dY .eql 3 (.tmp 31) (.const (.int .i64 3)) CY (.int .i64 3)) w fun t61 w =>
        mG t61
          (cJ pg (eH 26 HX 1) w fun t62 w =>
          cJ pg (eF 24 t62) w fun t63 w =>
          cJ pg (mM .len #[24] 3 [t63]) w fun t64 w =>
          cJ pg (dY .eql 3 (.tmp 64) (.const (.int .i64 0)) t64 (.int .i64 0)) w fun t65 w =>
          mG t65
            (cJ pg (gJ 26 []) w fun t66 w =>
            cJ pg (fC 26 t8 t66) w fun _u w =>
            zN pg 26 t8 w fun r0 => R (.tuple #[r0, (.int .i64 0), (.int .i64 11)]) w)
            (cJ pg (eF 26 HX) w fun t67 w =>
            cJ pg (fC 26 t8 t67) w fun _u w =>
            zN pg 26 t8 w fun r0 => R (.tuple #[r0, (.int .i64 0), (.int .i64 0)]) w))
          (gH pg kV #[iI] w fun t71 w =>
          cJ pg (dY .add 3 (.tmp 72) (.const (.int .i64 1)) t19 (.int .i64 1)) w fun t73 w =>
          gH pg pZ #[wI, t71, t73] w fun t74 w =>
          cJ pg (iB t74 0) w fun t75 w =>
          cJ pg (iB t74 1) w fun t76 w =>
          cJ pg (iB t74 2) w fun t77 w =>
          cJ pg (iF 51) w fun IE w =>
          cJ pg (fC 51 IE t75) w fun _u w =>
          cJ pg (dY .neq 27 (.tmp 78) (.const (.int .i64 0)) t77 (.int .i64 0)) w fun t79 w =>
          mG t79
            (cJ pg (gJ 26 []) w fun t80 w =>
            cJ pg (fC 26 t8 t80) w fun _u w =>
            zN pg 26 t8 w fun r0 => R (.tuple #[r0, (.int .i64 0), t77]) w)
            (cJ pg (eF 51 IE) w fun t83 w =>
            gH pg lX #[t83] w fun t84 w =>
            cJ pg (iB t84 0) w fun t85 w =>
            cJ pg (iB t84 1) w fun t86 w =>
            cJ pg (iF 26) w fun t17 w =>
            cJ pg (fC 26 t17 t85) w fun _u w =>
            cJ pg (dY .neq 27 (.tmp 87) (.const (.int .i64 0)) t86 (.int .i64 0)) w fun t88 w =>
            mG t88
              (cJ pg (gJ 26 []) w fun t89 w =>
              cJ pg (fC 26 t8 t89) w fun _u w =>
              zN pg 26 t8 w fun r0 => R (.tuple #[r0, (.int .i64 0), t86]) w)
              (cJ pg (eF 26 t17) w fun t91 w =>
              cJ pg (fC 26 t8 t91) w fun _u w =>
              zN pg 26 t8 w fun r0 => R (.tuple #[r0, t76, (.int .i64 0)]) w))))))
theorem AR (R : K1) (hr : HR sL R Q) (h : rM R (g 0) (g 1) (g 2) (g 3) w) : eI pg wH uP Q g w :=
  dX (kn := no) (l := []) (by kernel_rfl) h mH hr trivial
def Ca (a0 a1 a2 a3 : Value) (w : World) (R : K1) : Prop :=
  rM R a0 a1 a2 a3 w
theorem BE {a0 a1 a2 a3 : Value} {w : World} {R : K1} (h : Ca a0 a1 a2 a3 w R) : gH pg kR #[a0, a1, a2, a3] w R := by
  refine fQ (ann := wH) (fn := Tryd.f8) (c := uP) (args := [a0, a1, a2, a3]) (rs := sL) (N := 93) TrydM.mixed (by kernel_rfl) Tryd.func8 (by kernel_rfl) (by kernel_rfl) (by kernel_rfl) (of_decide_eq_true (by kernel_rfl)) (by kernel_rfl) ?_
  exact (AR (qD pg sL R) (kJ [a0, a1, a2, a3]) w R (fun _ _ h => h) h)
def fI : FA := ⟨kV, fun i => .leaf ([], []) []⟩
def iQ : List ResultVar := [.tmp 2]
noncomputable def fA : Code := jB Tryd.f14
def nF (R : K1)  (w : World) : Prop :=
  R (.int .i64 0) w
theorem AF (R : K1) (hr : HR iQ R Q) (h : nF R w) : eI pg fI (aA 1 (aA 1 fA)) Q g w :=
  dX (kn := no) (l := []) (by kernel_rfl) h mH hr trivial
def jE (kn : K0) (R : K1) (t3 t4 : Value) (w : World) : Prop :=
  mG t4
    (R (.int .i64 9) w)
    (cJ pg (dY .eql 3 (.tmp 3) (.const (.int .i64 1)) t3 (.int .i64 1)) w fun t8 w =>
    mG t8
      (R (.int .i64 8) w)
      (kn w))
theorem zX (kn : K0) (R : K1) (hn : ∀ g w, kn w → Q .normal g w) (hr : HR iQ R Q) (h : jE kn R (g 3) (g 4) w) : eI pg fI (aA 1 (bI (aA 1 (cP 1 (aA 1 fA))))) Q g w :=
  dX (l := []) (by kernel_rfl) h hn hr trivial
def sP (kn : K2) (t3 : Value) (w : World) : Prop :=
  cJ pg (dY .eql 3 (.tmp 3) (.const (.int .i64 0)) t3 (.int .i64 0)) w fun t5 w =>
  mG t5
    (kn t3 t5 w)
    (cJ pg (dY .eql 3 (.tmp 3) (.const (.int .i64 2)) t3 (.int .i64 2)) w fun t6 w =>
    kn t3 t6 w)
theorem AJ (kn : K2) (hn : ∀ g w, kn (g 3) (g 4) w → Q .normal g w) (h : sP kn (g 3) w) : eI pg fI (cP 1 (bI (aA 1 (cP 1 (aA 1 fA))))) Q g w :=
  dX (kr := no) (l := []) (by kernel_rfl) h hn mH trivial
def sB (kn : K0) (R : K1) (t3 : Value) (w : World) : Prop :=
  sP (fun t3 t4 w => jE kn R t3 t4 w) t3 w
theorem AL (kn : K0) (R : K1) (hn : ∀ g w, kn w → Q .normal g w) (hr : HR iQ R Q) (h : sB kn R (g 3) w) : eI pg fI (bI (aA 1 (cP 1 (aA 1 fA)))) Q g w :=
  eJ 1 _ g w (by kernel_rfl) (AJ (fK (fun g w => eI pg fI (aA 1 (bI (aA 1 (cP 1 (aA 1 fA))))) Q g w) Q) g w (fun t3 t4 w => jE kn R t3 t4 w) (fun g w h => fF (K := fun g w => eI pg fI (aA 1 (bI (aA 1 (cP 1 (aA 1 fA))))) Q g w) (zX Q g w kn R hn hr h)) h)
def nL (kn : K0) (R : K1) (t3 : Value) (w : World) : Prop :=
  sB kn R t3 w
theorem Al (kn : K0) (R : K1) (hn : ∀ g w, kn w → Q .normal g w) (hr : HR iQ R Q) (h : nL kn R (g 3) w) : eI pg fI (aA 1 (cP 1 (aA 1 fA))) Q g w :=
  jX 0 _ g w (by kernel_rfl) (AL (Cq 0 Q) g w kn R hn hr h)
def rN (kn : K1) (iI : Value) (w : World) : Prop :=
  kn iI w
theorem Am (kn : K1) (hn : ∀ g w, kn (g 3) w → Q .normal g w) (h : rN kn (g 0) w) : eI pg fI (cP 1 (cP 1 (aA 1 fA))) Q g w :=
  dX (kr := no) (l := []) (by kernel_rfl) h hn mH trivial
def sF (kn : K0) (R : K1) (iI : Value) (w : World) : Prop :=
  rN (fun t3 w => nL kn R t3 w) iI w
theorem A7 (kn : K0) (R : K1) (hn : ∀ g w, kn w → Q .normal g w) (hr : HR iQ R Q) (h : sF kn R (g 0) w) : eI pg fI (cP 1 (aA 1 fA)) Q g w :=
  eJ 1 _ g w (by kernel_rfl) (Am (fK (fun g w => eI pg fI (aA 1 (cP 1 (aA 1 fA))) Q g w) Q) g w (fun t3 w => nL kn R t3 w) (fun g w h => fF (K := fun g w => eI pg fI (aA 1 (cP 1 (aA 1 fA))) Q g w) (Al Q g w kn R hn hr h)) h)
def nR (R : K1) (iI : Value) (w : World) : Prop :=
  sF (fun  w => nF R w) R iI w
theorem Ah (R : K1) (hr : HR iQ R Q) (h : nR R (g 0) w) : eI pg fI (aA 1 fA) Q g w :=
  eJ 1 _ g w (by kernel_rfl) (A7 (fK (fun g w => eI pg fI (aA 1 (aA 1 fA)) Q g w) Q) g w (fun  w => nF R w) R (fun g w h => fF (K := fun g w => eI pg fI (aA 1 (aA 1 fA)) Q g w) (AF Q g w R hr h)) hr h)
def rU (kn : K1) (iI : Value) (w : World) : Prop :=
  kn iI w
theorem zP (kn : K1) (hn : ∀ g w, kn (g 0) w → Q .normal g w) (h : rU kn (g 0) w) : eI pg fI (cP 1 fA) Q g w :=
  dX (kr := no) (l := []) (by kernel_rfl) h hn mH trivial
def qI (R : K1) (iI : Value) (w : World) : Prop :=
  rU (fun iI w => nR R iI w) iI w
theorem zF (R : K1) (hr : HR iQ R Q) (h : qI R (g 0) w) : eI pg fI fA Q g w :=
  eJ 1 _ g w (by kernel_rfl) (zP (fK (fun g w => eI pg fI (aA 1 fA) Q g w) Q) g w (fun iI w => nR R iI w) (fun g w h => fF (K := fun g w => eI pg fI (aA 1 fA) Q g w) (Ah Q g w R hr h)) h)
def B6 (a0 : Value) (w : World) (R : K1) : Prop :=
  qI R a0 w
theorem Bp {a0 : Value} {w : World} {R : K1} (h : B6 a0 w R) : gH pg kV #[a0] w R := by
  refine fQ (ann := fI) (fn := Tryd.f14) (c := fA) (args := [a0]) (rs := iQ) (N := 9) TrydM.mixed (by kernel_rfl) Tryd.func14 (by kernel_rfl) (by kernel_rfl) (by kernel_rfl) (of_decide_eq_true (by kernel_rfl)) (by kernel_rfl) ?_
  exact (zF (qD pg iQ R) (kJ [a0]) w R (fun _ _ h => h) h)
def dI : FA := ⟨lX, fun i => match Nat.beq i 3 with | true => .split 3 5 (.perm [0, 1, 2, 3, 4, 5, 6] [(3, 5)] ([3, 5, 6], [(0, 3), (0, 5), (1, 3), (1, 5), (4, 5)]) [(false, []), (false, []), (false, []), (true, [1, 2]), (false, []), (true, [0, 3, 4]), (true, [])]) (.perm [0, 1, 2, 5, 3, 4, 6] [(5, 3)] ([3, 4, 6], [(0, 3), (0, 4), (1, 3), (1, 4), (2, 3)]) [(false, []), (false, []), (false, []), (true, [0, 1, 2]), (true, [2, 3]), (false, []), (true, [])]) | false => match Nat.beq i 16 with | true => .leaf ([5, 10], [(1, 5), (2, 5)]) [(false, []), (false, []), (false, []), (false, []), (false, []), (true, [2, 3]), (false, []), (false, []), (false, []), (false, []), (true, [])] | false => match Nat.beq i 17 with | true => .leaf ([13], []) [(false, []), (false, []), (false, []), (false, []), (false, []), (false, []), (false, []), (false, []), (false, []), (false, []), (false, []), (false, []), (false, []), (true, [])] | false => .leaf ([], []) []⟩
def jY : List ResultVar := [.cell 2 26, .tmp 3]
noncomputable def dC : Code := jB Tryd.f15
def qR (R : K1) (t2 t4 : Value) (w : World) : Prop :=
  cJ pg (eF 26 t4) w fun t90 w =>
  cJ pg (fC 26 t2 t90) w fun _u w =>
  zN pg 26 t2 w fun r0 => R (.tuple #[r0, (.int .i64 0)]) w
theorem Cw (R : K1) (hr : HR jY R Q) (h : qR R (g 2) (g 4) w) : eI pg dI (aA 1 (aA 1 (aA 1 (aA 3 dC)))) Q g w :=
  dX (kn := no) (l := []) (by kernel_rfl) h mH hr trivial
def qZ (kn : K6) (hB t2 t4 eL t42 t43 : Value) (w : World) : Prop :=
  cJ pg (dY .add 3 (.tmp 43) (.const (.int .i64 1)) t43 (.int .i64 1)) w fun t89 w =>
  kn hB t2 t4 eL t42 t89 w
theorem CH (kn : K6) (hn : ∀ g w, kn (g 1) (g 2) (g 4) (g 5) (g 42) (g 43) w → Q .normal g w) (h : qZ kn (g 1) (g 2) (g 4) (g 5) (g 42) (g 43) w) : eI pg dI (aA 1 (aA 2 (bI (bI (aA 1 (cP 1 (aA 1 (aA 1 (aA 3 dC))))))))) Q g w :=
  dX (kr := no) (l := []) (by kernel_rfl) h hn mH trivial
def qS (kn : K6) (hB t2 t4 eL Fg A6 t42 t43 : Value) (w : World) : Prop :=
  (dr w) = (dr w) ∧
  (dr w) = (dr w) ∧
  (dr w) = (dr w) ∧
  cJ pg (BI Fg) (dr w) fun t79 w_ => w_ = (dr w) ∧
  cJ pg (eH 32 t79 1) (dr w) fun t80 w_ => w_ = (dr w) ∧
  cJ pg (eF 3 t80) (dr w) fun t81 w_ => w_ = (dr w) ∧
  cJ pg (dY .shl 3 (.tmp 77) (.tmp 81) A6 t81) (dr w) fun t82 w_ => w_ = (dr w) ∧
  cJ pg (eH 26 t4 1) (dr w) fun t83 w_ => w_ = (dr w) ∧
  cJ pg (eF 24 t83) (dr w) fun t84 w_ => w_ = (dr w) ∧
  cJ pg (mM .len #[24] 3 [t84]) (dr w) fun t85 w_ => w_ = (dr w) ∧
  cJ pg (dY .sub 3 (.tmp 82) (.tmp 85) t82 t85) (dr w) fun t86 w_ => w_ = (dr w) ∧
  cJ pg (BI Fg) (dr w) fun t87 w_ => w_ = (dr w) ∧
  cJ pg (eH 32 t87 2) (dr w) fun t88 w_ => w_ = (dr w) ∧
  cJ pg (fC 3 t88 t86) (dr w) fun _u13 Iu =>
  kn hB t2 t4 eL t42 t43 Iu
theorem CB (kn : K6) (hn : ∀ g w, kn (g 1) (g 2) (g 4) (g 5) (g 42) (g 43) w → Q .normal g w) (h : qS kn (g 1) (g 2) (g 4) (g 5) (g 9) (g 10) (g 42) (g 43) w) : eI pg dI (aA 1 (aA 4 (bI (cP 1 (aA 2 (bI (bI (aA 1 (cP 1 (aA 1 (aA 1 (aA 3 dC)))))))))))) Q g w :=
  dX (kr := no) (l := []) (by kernel_rfl) h hn mH trivial
def vR (kn : K8) (hB t2 t4 eL Fg A6 t42 t43 : Value) (w : World) : Prop :=
  (dr w) = (dr w) ∧
  cJ pg (eH 51 hB 0) (dr w) fun t67 w_ => w_ = (dr w) ∧
  cJ pg (eF 3 t67) (dr w) fun t68 w_ => w_ = (dr w) ∧
  (dr w) = (dr w) ∧
  cJ pg (nB 3 75 A6) (dr w) fun t70 w_ => w_ = (dr w) ∧
  gH pg kP #[t70] (dr w) fun t71 xS =>
  (hP pg (eF 3 t67) t68 xS ∧ hP pg (eH 51 hB 0) t67 xS ∧ True) ∧
  cJ pg (dY .sub 3 (.tmp 68) (.tmp 71) t68 t71) xS fun t72 w_ => w_ = xS ∧
  cJ pg (dY .add 3 (.tmp 72) (.const (.int .i64 1)) t72 (.int .i64 1)) xS fun t73 w_ => w_ = xS ∧
  cJ pg (BI Fg) xS fun t74 w_ => w_ = xS ∧
  cJ pg (eH 32 t74 1) xS fun t75 w_ => w_ = xS ∧
  cJ pg (fC 3 t75 t73) xS fun _u10 Ir =>
  kn hB t2 t4 eL Fg A6 t42 t43 Ir
theorem Cz (kn : K8) (hn : ∀ g w, kn (g 1) (g 2) (g 4) (g 5) (g 9) (g 10) (g 42) (g 43) w → Q .normal g w) (h : vR kn (g 1) (g 2) (g 4) (g 5) (g 9) (g 10) (g 42) (g 43) w) : eI pg dI (cP 1 (aA 4 (bI (cP 1 (aA 2 (bI (bI (aA 1 (cP 1 (aA 1 (aA 1 (aA 3 dC)))))))))))) Q g w :=
  dX (kr := no) (l := []) (by kernel_rfl) h hn mH trivial
def qW (kn : K6) (hB t2 t4 eL Fg A6 t42 t43 : Value) (w : World) : Prop :=
  vR (fun hB t2 t4 eL Fg A6 t42 t43 w => qS kn hB t2 t4 eL Fg A6 t42 t43 w) hB t2 t4 eL Fg A6 t42 t43 w
theorem Cu (kn : K6) (hn : ∀ g w, kn (g 1) (g 2) (g 4) (g 5) (g 42) (g 43) w → Q .normal g w) (h : qW kn (g 1) (g 2) (g 4) (g 5) (g 9) (g 10) (g 42) (g 43) w) : eI pg dI (aA 4 (bI (cP 1 (aA 2 (bI (bI (aA 1 (cP 1 (aA 1 (aA 1 (aA 3 dC))))))))))) Q g w :=
  eJ 1 _ g w (by kernel_rfl) (Cz (fK (fun g w => eI pg dI (aA 1 (aA 4 (bI (cP 1 (aA 2 (bI (bI (aA 1 (cP 1 (aA 1 (aA 1 (aA 3 dC)))))))))))) Q g w) Q) g w (fun hB t2 t4 eL Fg A6 t42 t43 w => qS kn hB t2 t4 eL Fg A6 t42 t43 w) (fun g w h => fF (K := fun g w => eI pg dI (aA 1 (aA 4 (bI (cP 1 (aA 2 (bI (bI (aA 1 (cP 1 (aA 1 (aA 1 (aA 3 dC)))))))))))) Q g w) (CB Q g w kn hn h)) h)
def vS (kn : K8) (hB t2 t4 eL t42 t43 : Value) (w : World) : Prop :=
  cJ pg (eH 26 t4 1) w fun t46 w =>
  cJ pg (eF 24 t46) w fun t47 w =>
  cJ pg (iC 24 t47 t43) w fun t49 w =>
  cJ pg (BI t49) w fun t52 w =>
  cJ pg (eH 32 t52 0) w fun t53 w =>
  cJ pg (eF 5 t53) w fun t54 w =>
  cJ pg (iC 30 eL t54) w fun t55 w =>
  cJ pg (eF 3 t55) w fun t56 w =>
  cJ pg (BI t49) w fun t59 w =>
  cJ pg (eH 32 t59 0) w fun t60 w =>
  cJ pg (eF 5 t60) w fun t61 w =>
  cJ pg (iC 30 eL t61) w fun t62 w =>
  cJ pg (eF 3 t62) w fun t63 w =>
  cJ pg (dY .add 3 (.tmp 63) (.const (.int .i64 1)) t63 (.int .i64 1)) w fun t64 w =>
  cJ pg (iC 30 eL t61) w fun t65 w =>
  cJ pg (fC 3 t65 t64) w fun _u w =>
  kn hB t2 t4 eL t49 t56 t42 t43 w
theorem Co (kn : K8) (hn : ∀ g w, kn (g 1) (g 2) (g 4) (g 5) (g 9) (g 10) (g 42) (g 43) w → Q .normal g w) (h : vS kn (g 1) (g 2) (g 4) (g 5) (g 42) (g 43) w) : eI pg dI (cP 4 (bI (cP 1 (aA 2 (bI (bI (aA 1 (cP 1 (aA 1 (aA 1 (aA 3 dC))))))))))) Q g w :=
  dX (kr := no) (l := []) (by kernel_rfl) h hn mH trivial
def vL (kn : K6) (hB t2 t4 eL t42 t43 : Value) (w : World) : Prop :=
  vS (fun hB t2 t4 eL Fg A6 t42 t43 w => qW kn hB t2 t4 eL Fg A6 t42 t43 w) hB t2 t4 eL t42 t43 w
theorem CE (kn : K6) (hn : ∀ g w, kn (g 1) (g 2) (g 4) (g 5) (g 42) (g 43) w → Q .normal g w) (h : vL kn (g 1) (g 2) (g 4) (g 5) (g 42) (g 43) w) : eI pg dI (bI (cP 1 (aA 2 (bI (bI (aA 1 (cP 1 (aA 1 (aA 1 (aA 3 dC)))))))))) Q g w :=
  eJ 4 _ g w (by kernel_rfl) (Co (fK (fun g w => eI pg dI (aA 4 (bI (cP 1 (aA 2 (bI (bI (aA 1 (cP 1 (aA 1 (aA 1 (aA 3 dC))))))))))) Q g w) Q) g w (fun hB t2 t4 eL Fg A6 t42 t43 w => qW kn hB t2 t4 eL Fg A6 t42 t43 w) (fun g w h => fF (K := fun g w => eI pg dI (aA 4 (bI (cP 1 (aA 2 (bI (bI (aA 1 (cP 1 (aA 1 (aA 1 (aA 3 dC))))))))))) Q g w) (Cu Q g w kn hn h)) h)
def wE (kn : K6) (hB t2 t4 eL t42 t43 : Value) (w : World) : Prop :=
  vL kn hB t2 t4 eL t42 t43 w
theorem Cv (kn : K6) (hn : ∀ g w, kn (g 1) (g 2) (g 4) (g 5) (g 42) (g 43) w → Q .normal g w) (h : wE kn (g 1) (g 2) (g 4) (g 5) (g 42) (g 43) w) : eI pg dI (cP 1 (aA 2 (bI (bI (aA 1 (cP 1 (aA 1 (aA 1 (aA 3 dC))))))))) Q g w :=
  jX 3 _ g w (by kernel_rfl) (CE (Cq 3 Q) g w kn hn h)
def nG (kn : K6) (hB t2 t4 eL t42 t43 : Value) (w : World) : Prop :=
  wE (fun hB t2 t4 eL t42 t43 w => qZ kn hB t2 t4 eL t42 t43 w) hB t2 t4 eL t42 t43 w
theorem CC (kn : K6) (hn : ∀ g w, kn (g 1) (g 2) (g 4) (g 5) (g 42) (g 43) w → Q .normal g w) (h : nG kn (g 1) (g 2) (g 4) (g 5) (g 42) (g 43) w) : eI pg dI (aA 2 (bI (bI (aA 1 (cP 1 (aA 1 (aA 1 (aA 3 dC)))))))) Q g w :=
  eJ 1 _ g w (by kernel_rfl) (Cv (fK (fun g w => eI pg dI (aA 1 (aA 2 (bI (bI (aA 1 (cP 1 (aA 1 (aA 1 (aA 3 dC))))))))) Q g w) Q) g w (fun hB t2 t4 eL t42 t43 w => qZ kn hB t2 t4 eL t42 t43 w) (fun g w h => fF (K := fun g w => eI pg dI (aA 1 (aA 2 (bI (bI (aA 1 (cP 1 (aA 1 (aA 1 (aA 3 dC))))))))) Q g w) (CH Q g w kn hn h)) h)
def tN (kn : K6) (k2 : K2) (hB t2 t4 eL t42 t43 : Value) (w : World) : Prop :=
  cJ pg (dY .lss 3 (.tmp 43) (.tmp 42) t43 t42) w fun t44 w =>
  mG t44
    (kn hB t2 t4 eL t42 t43 w)
    (k2 t2 t4 w)
theorem BA (kn : K6) (k2 : K2) (hn : ∀ g w, kn (g 1) (g 2) (g 4) (g 5) (g 42) (g 43) w → Q .normal g w) (h2 : ∀ g w, k2 (g 2) (g 4) w → Q (.exit 2) g w) (h : tN kn k2 (g 1) (g 2) (g 4) (g 5) (g 42) (g 43) w) : eI pg dI (cP 2 (bI (bI (aA 1 (cP 1 (aA 1 (aA 1 (aA 3 dC)))))))) Q g w :=
  dX (kr := no) (l := [(2, fun g w => k2 (g 2) (g 4) w)]) (by kernel_rfl) h hn mH ⟨h2, trivial⟩
def pW (kn : K6) (k2 : K2) (hB t2 t4 eL t42 t43 : Value) (w : World) : Prop :=
  tN (fun hB t2 t4 eL t42 t43 w => nG kn hB t2 t4 eL t42 t43 w) k2 hB t2 t4 eL t42 t43 w
theorem By (kn : K6) (k2 : K2) (hn : ∀ g w, kn (g 1) (g 2) (g 4) (g 5) (g 42) (g 43) w → Q .normal g w) (h2 : ∀ g w, k2 (g 2) (g 4) w → Q (.exit 2) g w) (h : pW kn k2 (g 1) (g 2) (g 4) (g 5) (g 42) (g 43) w) : eI pg dI (bI (bI (aA 1 (cP 1 (aA 1 (aA 1 (aA 3 dC))))))) Q g w :=
  eJ 2 _ g w (by kernel_rfl) (BA (fK (fun g w => eI pg dI (aA 2 (bI (bI (aA 1 (cP 1 (aA 1 (aA 1 (aA 3 dC)))))))) Q g w) Q) g w (fun hB t2 t4 eL t42 t43 w => nG kn hB t2 t4 eL t42 t43 w) k2 (fun g w h => fF (K := fun g w => eI pg dI (aA 2 (bI (bI (aA 1 (cP 1 (aA 1 (aA 1 (aA 3 dC)))))))) Q g w) (CC Q g w kn hn h)) h2 h)
def tI (k2 : K2) (hB t2 t4 eL t42 t43 : Value) (w : World) : Prop :=
  iV (fun (X : Value → K0) (t : Value) (w : World) => pW (fun _ _ _ _ _ t43 w => X t43 w) k2 hB t2 t4 eL t42 t w) t43 w
theorem Bo (k2 : K2) (h2 : ∀ g w, k2 (g 2) (g 4) w → Q (.exit 2) g w) (h : tI k2 (g 1) (g 2) (g 4) (g 5) (g 42) (g 43) w) : eI pg dI (bI (aA 1 (cP 1 (aA 1 (aA 1 (aA 3 dC)))))) Q g w := by
  refine jR (T := Value) (fun g : hC => g 43) (fun X t w => pW (fun _ _ _ _ _ t43 w => X t43 w) k2 (g 1) (g 2) (g 4) (g 5) (g 42) t w) _ (by kernel_rfl) h (fun X g1 w1 ha hL => ?_)
  rw [← dZ (s := 1) ha (by kernel_rfl)] at hL
  rw [← dZ (s := 2) ha (by kernel_rfl)] at hL
  rw [← dZ (s := 4) ha (by kernel_rfl)] at hL
  rw [← dZ (s := 5) ha (by kernel_rfl)] at hL
  rw [← dZ (s := 42) ha (by kernel_rfl)] at hL
  exact (By (fK (fun g2 w2 => X ((fun g : hC => g 43) g2) w2) Q) g1 w1 (fun _ _ _ _ _ t43 w => X t43 w) k2 (fun _ _ h => h) h2 hL)
def qB (kn : K2) (hB t2 t4 eL t42 t43 : Value) (w : World) : Prop :=
  tI kn hB t2 t4 eL t42 t43 w
theorem BL (kn : K2) (hn : ∀ g w, kn (g 2) (g 4) w → Q .normal g w) (h : qB kn (g 1) (g 2) (g 4) (g 5) (g 42) (g 43) w) : eI pg dI (aA 1 (cP 1 (aA 1 (aA 1 (aA 3 dC))))) Q g w :=
  jX 2 _ g w (by kernel_rfl) (Bo (Cq 2 Q) g w kn hn h)
def uI (kn : K6) (hB t2 t4 eL : Value) (w : World) : Prop :=
  cJ pg (eH 26 t4 1) w fun t40 w =>
  cJ pg (eF 24 t40) w fun t41 w =>
  cJ pg (mM .len #[24] 3 [t41]) w fun t42 w =>
  kn hB t2 t4 eL t42 (.int .i64 0) w
theorem BN (kn : K6) (hn : ∀ g w, kn (g 1) (g 2) (g 4) (g 5) (g 42) (g 43) w → Q .normal g w) (h : uI kn (g 1) (g 2) (g 4) (g 5) w) : eI pg dI (cP 1 (cP 1 (aA 1 (aA 1 (aA 3 dC))))) Q g w :=
  dX (kr := no) (l := []) (by kernel_rfl) h hn mH trivial
def uM (kn : K2) (hB t2 t4 eL : Value) (w : World) : Prop :=
  uI (fun hB t2 t4 eL t42 t43 w => qB kn hB t2 t4 eL t42 t43 w) hB t2 t4 eL w
theorem Bu (kn : K2) (hn : ∀ g w, kn (g 2) (g 4) w → Q .normal g w) (h : uM kn (g 1) (g 2) (g 4) (g 5) w) : eI pg dI (cP 1 (aA 1 (aA 1 (aA 3 dC)))) Q g w :=
  eJ 1 _ g w (by kernel_rfl) (BN (fK (fun g w => eI pg dI (aA 1 (cP 1 (aA 1 (aA 1 (aA 3 dC))))) Q g w) Q) g w (fun hB t2 t4 eL t42 t43 w => qB kn hB t2 t4 eL t42 t43 w) (fun g w h => fF (K := fun g w => eI pg dI (aA 1 (cP 1 (aA 1 (aA 1 (aA 3 dC))))) Q g w) (BL Q g w kn hn h)) h)
def mO (R : K1) (hB t2 t4 eL : Value) (w : World) : Prop :=
  uM (fun t2 t4 w => qR R t2 t4 w) hB t2 t4 eL w
theorem BV (R : K1) (hr : HR jY R Q) (h : mO R (g 1) (g 2) (g 4) (g 5) w) : eI pg dI (aA 1 (aA 1 (aA 3 dC))) Q g w :=
  eJ 1 _ g w (by kernel_rfl) (Bu (fK (fun g w => eI pg dI (aA 1 (aA 1 (aA 1 (aA 3 dC)))) Q g w) Q) g w (fun t2 t4 w => qR R t2 t4 w) (fun g w h => fF (K := fun g w => eI pg dI (aA 1 (aA 1 (aA 1 (aA 3 dC)))) Q g w) (Cw Q g w R hr h)) h)
def mJ (kn : K7) (k0 : K4) (hB t2 t4 eL t25 t26 t27 : Value) (w : World) : Prop :=
  cJ pg (dY .lss 3 (.tmp 27) (.tmp 26) t27 t26) w fun t28 w =>
  mG t28
    (cJ pg (iC 30 t25 t27) w fun t30 w =>
    cJ pg (eF 3 t30) w fun t31 w =>
    cJ pg (Hn .neg t31) w fun t36 w =>
    cJ pg (mM .max #[3, 3] 3 [t31, t36]) w fun t37 w =>
    cJ pg (iC 30 eL t27) w fun t38 w =>
    cJ pg (fC 3 t38 t37) w fun _u w =>
    cJ pg (dY .add 3 (.tmp 27) (.const (.int .i64 1)) t27 (.int .i64 1)) w fun t39 w =>
    kn hB t2 t4 eL t25 t26 t39 w)
    (k0 hB t2 t4 eL w)
theorem BX (kn : K7) (k0 : K4) (hn : ∀ g w, kn (g 1) (g 2) (g 4) (g 5) (g 25) (g 26) (g 27) w → Q .normal g w) (h0 : ∀ g w, k0 (g 1) (g 2) (g 4) (g 5) w → Q (.exit 0) g w) (h : mJ kn k0 (g 1) (g 2) (g 4) (g 5) (g 25) (g 26) (g 27) w) : eI pg dI (bI (bI (aA 1 (cP 1 (aA 1 (aA 3 dC)))))) Q g w :=
  dX (kr := no) (l := [(0, fun g w => k0 (g 1) (g 2) (g 4) (g 5) w)]) (by kernel_rfl) h hn mH ⟨h0, trivial⟩
def uJ (k0 : K4) (hB t2 t4 eL t25 t26 t27 : Value) (w : World) : Prop :=
  iV (fun (X : Value → K0) (t : Value) (w : World) => mJ (fun _ _ _ _ _ _ t27 w => X t27 w) k0 hB t2 t4 eL t25 t26 t w) t27 w
theorem BJ (k0 : K4) (h0 : ∀ g w, k0 (g 1) (g 2) (g 4) (g 5) w → Q (.exit 0) g w) (h : uJ k0 (g 1) (g 2) (g 4) (g 5) (g 25) (g 26) (g 27) w) : eI pg dI (bI (aA 1 (cP 1 (aA 1 (aA 3 dC))))) Q g w := by
  refine jR (T := Value) (fun g : hC => g 27) (fun X t w => mJ (fun _ _ _ _ _ _ t27 w => X t27 w) k0 (g 1) (g 2) (g 4) (g 5) (g 25) (g 26) t w) _ (by kernel_rfl) h (fun X g1 w1 ha hL => ?_)
  rw [← dZ (s := 1) ha (by kernel_rfl)] at hL
  rw [← dZ (s := 2) ha (by kernel_rfl)] at hL
  rw [← dZ (s := 4) ha (by kernel_rfl)] at hL
  rw [← dZ (s := 5) ha (by kernel_rfl)] at hL
  rw [← dZ (s := 25) ha (by kernel_rfl)] at hL
  rw [← dZ (s := 26) ha (by kernel_rfl)] at hL
  exact (BX (fK (fun g2 w2 => X ((fun g : hC => g 27) g2) w2) Q) g1 w1 (fun _ _ _ _ _ _ t27 w => X t27 w) k0 (fun _ _ h => h) h0 hL)
def pR (kn : K4) (hB t2 t4 eL t25 t26 t27 : Value) (w : World) : Prop :=
  uJ kn hB t2 t4 eL t25 t26 t27 w
theorem Bn (kn : K4) (hn : ∀ g w, kn (g 1) (g 2) (g 4) (g 5) w → Q .normal g w) (h : pR kn (g 1) (g 2) (g 4) (g 5) (g 25) (g 26) (g 27) w) : eI pg dI (aA 1 (cP 1 (aA 1 (aA 3 dC)))) Q g w :=
  jX 0 _ g w (by kernel_rfl) (BJ (Cq 0 Q) g w kn hn h)
def uB (kn : K7) (hB t2 t4 eL : Value) (w : World) : Prop :=
  cJ pg (eH 51 hB 1) w fun t24 w =>
  cJ pg (eF 30 t24) w fun t25 w =>
  cJ pg (mM .len #[30] 3 [t25]) w fun t26 w =>
  kn hB t2 t4 eL t25 t26 (.int .i64 0) w
theorem B4 (kn : K7) (hn : ∀ g w, kn (g 1) (g 2) (g 4) (g 5) (g 25) (g 26) (g 27) w → Q .normal g w) (h : uB kn (g 1) (g 2) (g 4) (g 5) w) : eI pg dI (cP 1 (cP 1 (aA 1 (aA 3 dC)))) Q g w :=
  dX (kr := no) (l := []) (by kernel_rfl) h hn mH trivial
def uL (kn : K4) (hB t2 t4 eL : Value) (w : World) : Prop :=
  uB (fun hB t2 t4 eL t25 t26 t27 w => pR kn hB t2 t4 eL t25 t26 t27 w) hB t2 t4 eL w
theorem Bm (kn : K4) (hn : ∀ g w, kn (g 1) (g 2) (g 4) (g 5) w → Q .normal g w) (h : uL kn (g 1) (g 2) (g 4) (g 5) w) : eI pg dI (cP 1 (aA 1 (aA 3 dC))) Q g w :=
  eJ 1 _ g w (by kernel_rfl) (B4 (fK (fun g w => eI pg dI (aA 1 (cP 1 (aA 1 (aA 3 dC)))) Q g w) Q) g w (fun hB t2 t4 eL t25 t26 t27 w => pR kn hB t2 t4 eL t25 t26 t27 w) (fun g w h => fF (K := fun g w => eI pg dI (aA 1 (cP 1 (aA 1 (aA 3 dC)))) Q g w) (Bn Q g w kn hn h)) h)
def pN (R : K1) (hB t2 t4 eL : Value) (w : World) : Prop :=
  uL (fun hB t2 t4 eL w => mO R hB t2 t4 eL w) hB t2 t4 eL w
theorem Bv (R : K1) (hr : HR jY R Q) (h : pN R (g 1) (g 2) (g 4) (g 5) w) : eI pg dI (aA 1 (aA 3 dC)) Q g w :=
  eJ 1 _ g w (by kernel_rfl) (Bm (fK (fun g w => eI pg dI (aA 1 (aA 1 (aA 3 dC))) Q g w) Q) g w (fun hB t2 t4 eL w => mO R hB t2 t4 eL w) (fun g w h => fF (K := fun g w => eI pg dI (aA 1 (aA 1 (aA 3 dC))) Q g w) (BV Q g w R hr h)) h)
def tW (kn : K4) (hB t2 t4 : Value) (w : World) : Prop :=
  cJ pg (eH 51 hB 1) w fun t20 w =>
  cJ pg (eF 30 t20) w fun t21 w =>
  cJ pg (mM .len #[30] 3 [t21]) w fun t22 w =>
  cJ pg (mN 30 t22 t22) w fun t23 w =>
  kn hB t2 t4 t23 w
theorem Bi (kn : K4) (hn : ∀ g w, kn (g 1) (g 2) (g 4) (g 5) w → Q .normal g w) (h : tW kn (g 1) (g 2) (g 4) w) : eI pg dI (cP 1 (aA 3 dC)) Q g w :=
  dX (kr := no) (l := []) (by kernel_rfl) h hn mH trivial
def kU (R : K1) (hB t2 t4 : Value) (w : World) : Prop :=
  tW (fun hB t2 t4 eL w => pN R hB t2 t4 eL w) hB t2 t4 w
theorem Bj (R : K1) (hr : HR jY R Q) (h : kU R (g 1) (g 2) (g 4) w) : eI pg dI (aA 3 dC) Q g w :=
  eJ 1 _ g w (by kernel_rfl) (Bi (fK (fun g w => eI pg dI (aA 1 (aA 3 dC)) Q g w) Q) g w (fun hB t2 t4 eL w => pN R hB t2 t4 eL w) (fun g w h => fF (K := fun g w => eI pg dI (aA 1 (aA 3 dC)) Q g w) (Bv Q g w R hr h)) h)
def pO (kn : K3) (R : K1) (FX : Value) (w : World) : Prop :=
  cJ pg (D1 51 FX) w fun hB w =>
  cJ pg (iF 26) w fun t2 w =>
  cJ pg (eF 51 hB) w fun t11 w =>
  gH pg oH #[t11, (.int .i64 15)] w fun t12 w =>
  cJ pg (dY .neq 27 (.tmp 12) (.const (.int .i64 0)) t12 (.int .i64 0)) w fun t13 w =>
  mG t13
    (cJ pg (gJ 26 []) w fun t14 w =>
    cJ pg (fC 26 t2 t14) w fun _u w =>
    zN pg 26 t2 w fun r0 => R (.tuple #[r0, (.int .i64 1)]) w)
    (IQ (Hw lX 3 (yP 3 dC) 3 5 w)
      (cJ pg (eH 51 hB 0) (dr w) fun t15 w_ => w_ = (dr w) ∧
      cJ pg (eF 3 t15) (dr w) fun t16 w_ => w_ = (dr w) ∧
      cJ pg (eF 51 hB) (dr w) fun t17 w_ => w_ = (dr w) ∧
      gH pg oL #[t17] (dr w) fun t18 Dj =>
      (hP pg (eF 3 t15) t16 Dj ∧ hP pg (eH 51 hB 0) t15 Dj ∧ True) ∧
      cJ pg (gJ 26 [(0, t16), (1, t18)]) Dj fun t19 w_ => w_ = Dj ∧
      cJ pg (iF 26) Dj fun t4 HL =>
      (hP pg (gJ 26 [(0, t16), (1, t18)]) t19 HL ∧ hP pg (eF 3 t15) t16 HL ∧ hP pg (eH 51 hB 0) t15 HL ∧ True) ∧
      cJ pg (fC 26 t4 t19) HL fun _u6 Ia =>
      kn hB t2 t4 Ia)
      (cJ pg (eH 51 hB 0) (dr w) fun t15 w_ => w_ = (dr w) ∧
      cJ pg (eF 3 t15) (dr w) fun t16 w_ => w_ = (dr w) ∧
      cJ pg (eF 51 hB) (dr w) fun t17 w_ => w_ = (dr w) ∧
      cJ pg (iF 26) (dr w) fun t4 Dj =>
      (hP pg (eF 51 hB) t17 Dj ∧ hP pg (eF 3 t15) t16 Dj ∧ hP pg (eH 51 hB 0) t15 Dj ∧ True) ∧
      gH pg oL #[t17] Dj fun t18 G9 =>
      (hP pg (eF 3 t15) t16 G9 ∧ hP pg (eH 51 hB 0) t15 G9 ∧ True) ∧
      cJ pg (gJ 26 [(0, t16), (1, t18)]) G9 fun t19 w_ => w_ = G9 ∧
      cJ pg (fC 26 t4 t19) G9 fun _u6 Ia =>
      kn hB t2 t4 Ia))
theorem B2 (kn : K3) (R : K1) (hn : ∀ g w, kn (g 1) (g 2) (g 4) w → Q .normal g w) (hr : HR jY R Q) (h : pO kn R (g 0) w) : eI pg dI (cP 3 dC) Q g w :=
  dX (l := []) (by kernel_rfl) h hn hr trivial
def pQ (R : K1) (FX : Value) (w : World) : Prop :=
  pO (fun hB t2 t4 w => kU R hB t2 t4 w) R FX w
theorem BD (R : K1) (hr : HR jY R Q) (h : pQ R (g 0) w) : eI pg dI dC Q g w :=
  eJ 3 _ g w (by kernel_rfl) (B2 (fK (fun g w => eI pg dI (aA 3 dC) Q g w) Q) g w (fun hB t2 t4 w => kU R hB t2 t4 w) R (fun g w h => fF (K := fun g w => eI pg dI (aA 3 dC) Q g w) (Bj Q g w R hr h)) hr h)
def Bk (a0 : Value) (w : World) (R : K1) : Prop :=
  pQ R a0 w
theorem wW {a0 : Value} {w : World} {R : K1} (h : Bk a0 w R) : gH pg lX #[a0] w R := by
  refine fQ (ann := dI) (fn := Tryd.f15) (c := dC) (args := [a0]) (rs := jY) (N := 91) TrydM.mixed (by kernel_rfl) Tryd.func15 (by kernel_rfl) (by kernel_rfl) (by kernel_rfl) (of_decide_eq_true (by kernel_rfl)) (by kernel_rfl) ?_
  exact (BD (qD pg jY R) (kJ [a0]) w R (fun _ _ h => h) h)
def vJ : FA := ⟨oC, fun i => .leaf ([], []) []⟩
def qK : List ResultVar := [.cell 2 51]
noncomputable def tG : Code := jB Tryd.f16
def qF (R : K1) (iI : Value) (w : World) : Prop :=
  cJ pg (iF 51) w fun t2 w =>
  cJ pg (dY .eql 3 (.tmp 6) (.const (.int .i64 0)) iI (.int .i64 0)) w fun t8 w =>
  mG t8
    (cJ pg (eF 76 (.pointer (some ⟨0, 0, none⟩))) w fun t9 w =>
    cJ pg (iF 76) w fun I1 w =>
    cJ pg (fC 76 I1 t9) w fun _u w =>
    cJ pg (kA 76 I1 none none none) w fun t10 w =>
    cJ pg (gJ 51 [(0, (.int .i64 6)), (1, t10)]) w fun t11 w =>
    cJ pg (fC 51 t2 t11) w fun _u w =>
    zN pg 51 t2 w fun r0 => R r0 w)
    (cJ pg (dY .eql 3 (.tmp 6) (.const (.int .i64 1)) iI (.int .i64 1)) w fun t13 w =>
    mG t13
      (cJ pg (eF 77 (.pointer (some ⟨1, 0, none⟩))) w fun t14 w =>
      cJ pg (iF 77) w fun I5 w =>
      cJ pg (fC 77 I5 t14) w fun _u w =>
      cJ pg (kA 77 I5 none none none) w fun t15 w =>
      cJ pg (gJ 51 [(0, (.int .i64 5)), (1, t15)]) w fun t16 w =>
      cJ pg (fC 51 t2 t16) w fun _u w =>
      zN pg 51 t2 w fun r0 => R r0 w)
      (cJ pg (dY .eql 3 (.tmp 6) (.const (.int .i64 2)) iI (.int .i64 2)) w fun t18 w =>
      mG t18
        (cJ pg (eF 78 (.pointer (some ⟨2, 0, none⟩))) w fun t19 w =>
        cJ pg (iF 78) w fun IR w =>
        cJ pg (fC 78 IR t19) w fun _u w =>
        cJ pg (kA 78 IR none none none) w fun t20 w =>
        cJ pg (gJ 51 [(0, (.int .i64 6)), (1, t20)]) w fun t21 w =>
        cJ pg (fC 51 t2 t21) w fun _u w =>
        zN pg 51 t2 w fun r0 => R r0 w)
        (cJ pg (gJ 51 []) w fun t22 w =>
        cJ pg (fC 51 t2 t22) w fun _u w =>
        zN pg 51 t2 w fun r0 => R r0 w)))
theorem zD (R : K1) (hr : HR qK R Q) (h : qF R (g 0) w) : eI pg vJ tG Q g w :=
  dX (kn := no) (l := []) (by kernel_rfl) h mH hr trivial
def zT (a0 : Value) (w : World) (R : K1) : Prop :=
  qF R a0 w
theorem AW {a0 : Value} {w : World} {R : K1} (h : zT a0 w R) : gH pg oC #[a0] w R := by
  refine fQ (ann := vJ) (fn := Tryd.f16) (c := tG) (args := [a0]) (rs := qK) (N := 23) TrydM.mixed (by kernel_rfl) Tryd.func16 (by kernel_rfl) (by kernel_rfl) (by kernel_rfl) (of_decide_eq_true (by kernel_rfl)) (by kernel_rfl) ?_
  exact (zD (qD pg qK R) (kJ [a0]) w R (fun _ _ h => h) h)
def xJ : FA := ⟨qT, fun i => .leaf ([], []) []⟩
def tS : List ResultVar := [.tmp 2]
noncomputable def wL : Code := jB Tryd.f17
def tO (R : K1) (iI : Value) (w : World) : Prop :=
  cJ pg (dY .eql 3 (.tmp 6) (.const (.int .i64 1)) iI (.int .i64 1)) w fun t7 w =>
  mG t7
    (R (.int .i64 31) w)
    (gH pg tE #[iI] w fun t10 w =>
    cJ pg (iB t10 0) w fun t11 w =>
    cJ pg (iB t10 1) w fun t12 w =>
    cJ pg (iB t10 2) w fun t13 w =>
    cJ pg (mM .len #[30] 3 [t13]) w fun t16 w =>
    cJ pg (dY .add 3 (.tmp 14) (.tmp 16) t11 t16) w fun t17 w =>
    cJ pg (dY .sub 3 (.tmp 17) (.const (.int .i64 1)) t17 (.int .i64 1)) w fun t18 w =>
    R t18 w)
theorem BR (R : K1) (hr : HR tS R Q) (h : tO R (g 0) w) : eI pg xJ wL Q g w :=
  dX (kn := no) (l := []) (by kernel_rfl) h mH hr trivial
def Dd (a0 : Value) (w : World) (R : K1) : Prop :=
  tO R a0 w
theorem Ct {a0 : Value} {w : World} {R : K1} (h : Dd a0 w R) : gH pg qT #[a0] w R := by
  refine fQ (ann := xJ) (fn := Tryd.f17) (c := wL) (args := [a0]) (rs := tS) (N := 19) TrydM.mixed (by kernel_rfl) Tryd.func17 (by kernel_rfl) (by kernel_rfl) (by kernel_rfl) (of_decide_eq_true (by kernel_rfl)) (by kernel_rfl) ?_
  exact (BR (qD pg tS R) (kJ [a0]) w R (fun _ _ h => h) h)
def Cd : FA := ⟨yJ, fun i => .leaf ([], []) []⟩
def zH : List ResultVar := [.cell 2 26]
noncomputable def zY : Code := jB Tryd.f18
def zC (R : K1) (GU : Value) (w : World) : Prop :=
  cJ pg (iF 26) w fun t2 w =>
  cJ pg (gJ 32 [(0, GU)]) w fun t4 w =>
  cJ pg (hZ 24 1 [(0, t4)]) w fun t5 w =>
  cJ pg (gJ 26 [(1, t5)]) w fun t6 w =>
  cJ pg (fC 26 t2 t6) w fun _u w =>
  zN pg 26 t2 w fun r0 => R r0 w
theorem Dt (R : K1) (hr : HR zH R Q) (h : zC R (g 0) w) : eI pg Cd zY Q g w :=
  dX (kn := no) (l := []) (by kernel_rfl) h mH hr trivial
def FO (a0 : Value) (w : World) (R : K1) : Prop :=
  zC R a0 w
theorem DU {a0 : Value} {w : World} {R : K1} (h : FO a0 w R) : gH pg yJ #[a0] w R := by
  refine fQ (ann := Cd) (fn := Tryd.f18) (c := zY) (args := [a0]) (rs := zH) (N := 7) TrydM.mixed (by kernel_rfl) Tryd.func18 (by kernel_rfl) (by kernel_rfl) (by kernel_rfl) (of_decide_eq_true (by kernel_rfl)) (by kernel_rfl) ?_
  exact (Dt (qD pg zH R) (kJ [a0]) w R (fun _ _ h => h) h)
def vI : FA := ⟨oH, fun i => .leaf ([], []) []⟩
def qJ : List ResultVar := [.tmp 4]
noncomputable def tH : Code := jB Tryd.f27
def qM (R : K1) (FX CL : Value) (w : World) : Prop :=
  cJ pg (D1 51 FX) w fun IZ w =>
  cJ pg (eF 51 IZ) w fun t6 w =>
  gH pg rC #[t6] w fun t7 w =>
  cJ pg (Hn .not t7) w fun t8 w =>
  mG t8
    (R (.int .i64 1) w)
    (cJ pg (eH 51 IZ 0) w fun t10 w =>
    cJ pg (eF 3 t10) w fun t11 w =>
    cJ pg (dY .gtr 3 (.tmp 11) (.tmp 12) t11 CL) w fun t13 w =>
    mG t13
      (R (.int .i64 12) w)
      (R (.int .i64 0) w))
theorem zB (R : K1) (hr : HR qJ R Q) (h : qM R (g 0) (g 1) w) : eI pg vI tH Q g w :=
  dX (kn := no) (l := []) (by kernel_rfl) h mH hr trivial
def Ai (a0 a1 : Value) (w : World) (R : K1) : Prop :=
  qM R a0 a1 w
theorem AU {a0 a1 : Value} {w : World} {R : K1} (h : Ai a0 a1 w R) : gH pg oH #[a0, a1] w R := by
  refine fQ (ann := vI) (fn := Tryd.f27) (c := tH) (args := [a0, a1]) (rs := qJ) (N := 14) TrydM.mixed (by kernel_rfl) Tryd.func27 (by kernel_rfl) (by kernel_rfl) (by kernel_rfl) (of_decide_eq_true (by kernel_rfl)) (by kernel_rfl) ?_
  exact (zB (qD pg qJ R) (kJ [a0, a1]) w R (fun _ _ h => h) h)
def bP : FA := ⟨oL, fun i => .leaf ([], []) []⟩
def kC : List ResultVar := [.tmp 2]
noncomputable def bL : Code := jB Tryd.f28
def pV (R : K1) (dR : Value) (w : World) : Prop :=
  R dR w
theorem BO (R : K1) (hr : HR kC R Q) (h : pV R (g 4) w) : eI pg bP (aA 1 (aA 1 (aA 1 (aA 4 bL)))) Q g w :=
  dX (kn := no) (l := []) (by kernel_rfl) h mH hr trivial
def pM (kn : K7) (iK dR dG fT t37 t38 t39 : Value) (w : World) : Prop :=
  cJ pg (dY .add 3 (.tmp 39) (.const (.int .i64 1)) t39 (.int .i64 1)) w fun t68 w =>
  kn iK dR dG fT t37 t38 t68 w
theorem BY (kn : K7) (hn : ∀ g w, kn (g 3) (g 4) (g 5) (g 8) (g 37) (g 38) (g 39) w → Q .normal g w) (h : pM kn (g 3) (g 4) (g 5) (g 8) (g 37) (g 38) (g 39) w) : eI pg bP (aA 1 (aA 2 (bI (bI (aA 1 (cP 1 (aA 1 (aA 1 (aA 4 bL))))))))) Q g w :=
  dX (kr := no) (l := []) (by kernel_rfl) h hn mH trivial
def pT (kn : CK) (iK dR dG fT qO t37 t38 t39 t45 t46 : Value) (w : World) : Prop :=
  cJ pg (dY .add 3 (.tmp 46) (.const (.int .i64 1)) t46 (.int .i64 1)) w fun t67 w =>
  kn iK dR dG fT qO t37 t38 t39 t45 t67 w
theorem BT (kn : CK) (hn : ∀ g w, kn (g 3) (g 4) (g 5) (g 8) (g 9) (g 37) (g 38) (g 39) (g 45) (g 46) w → Q .normal g w) (h : pT kn (g 3) (g 4) (g 5) (g 8) (g 9) (g 37) (g 38) (g 39) (g 45) (g 46) w) : eI pg bP (aA 1 (aA 2 (bI (bI (aA 2 (bI (aA 1 (bI (cP 1 (aA 2 (bI (bI (aA 1 (cP 1 (aA 1 (aA 1 (aA 4 bL))))))))))))))))) Q g w :=
  dX (kr := no) (l := []) (by kernel_rfl) h hn mH trivial
def qA (kn : CK) (k5 : CK) (iK dR dG fT qO t37 t38 t39 t45 t46 : Value) (w : World) : Prop :=
  cJ pg (dY .shr 3 (.tmp 55) (.const (.int .u64 1)) iK (.int .u64 1)) w fun t56 w =>
  cJ pg (dY .add 3 (.tmp 54) (.tmp 56) fT t56) w fun t57 w =>
  cJ pg (dY .shr 3 (.tmp 58) (.const (.int .u64 3)) iK (.int .u64 3)) w fun t59 w =>
  cJ pg (dY .add 3 (.tmp 57) (.tmp 59) t57 t59) w fun t60 w =>
  cJ pg (dY .add 3 (.tmp 60) (.const (.int .i64 3)) t60 (.int .i64 3)) w fun t61 w =>
  cJ pg (dY .rem 3 (.tmp 61) (.tmp 62) t61 iK) w fun t63 w =>
  cJ pg (dY .lss 3 (.tmp 64) (.tmp 65) t63 dG) w fun t66 w =>
  mG t66
    (k5 iK dR dG t63 qO t37 t38 t39 t45 t46 w)
    (kn iK dR dG t63 qO t37 t38 t39 t45 t46 w)
theorem BK (kn : CK) (k5 : CK) (hn : ∀ g w, kn (g 3) (g 4) (g 5) (g 8) (g 9) (g 37) (g 38) (g 39) (g 45) (g 46) w → Q .normal g w) (h5 : ∀ g w, k5 (g 3) (g 4) (g 5) (g 8) (g 9) (g 37) (g 38) (g 39) (g 45) (g 46) w → Q (.exit 5) g w) (h : qA kn k5 (g 3) (g 4) (g 5) (g 8) (g 9) (g 37) (g 38) (g 39) (g 45) (g 46) w) : eI pg bP (bI (bI (aA 1 (bI (cP 1 (aA 2 (bI (bI (aA 2 (bI (aA 1 (bI (cP 1 (aA 2 (bI (bI (aA 1 (cP 1 (aA 1 (aA 1 (aA 4 bL))))))))))))))))))))) Q g w :=
  dX (kr := no) (l := [(5, fun g w => k5 (g 3) (g 4) (g 5) (g 8) (g 9) (g 37) (g 38) (g 39) (g 45) (g 46) w)]) (by kernel_rfl) h hn mH ⟨h5, trivial⟩
def pU (k5 : CK) (iK dR dG fT qO t37 t38 t39 t45 t46 : Value) (w : World) : Prop :=
  iV (fun (X : Value → K0) (t : Value) (w : World) => qA (fun _ _ _ fT _ _ _ _ _ _ w => X fT w) k5 iK dR dG t qO t37 t38 t39 t45 t46 w) fT w
theorem BM (k5 : CK) (h5 : ∀ g w, k5 (g 3) (g 4) (g 5) (g 8) (g 9) (g 37) (g 38) (g 39) (g 45) (g 46) w → Q (.exit 5) g w) (h : pU k5 (g 3) (g 4) (g 5) (g 8) (g 9) (g 37) (g 38) (g 39) (g 45) (g 46) w) : eI pg bP (bI (aA 1 (bI (cP 1 (aA 2 (bI (bI (aA 2 (bI (aA 1 (bI (cP 1 (aA 2 (bI (bI (aA 1 (cP 1 (aA 1 (aA 1 (aA 4 bL)))))))))))))))))))) Q g w := by
  refine jR (T := Value) (fun g : hC => g 8) (fun X t w => qA (fun _ _ _ fT _ _ _ _ _ _ w => X fT w) k5 (g 3) (g 4) (g 5) t (g 9) (g 37) (g 38) (g 39) (g 45) (g 46) w) _ (by kernel_rfl) h (fun X g1 w1 ha hL => ?_)
  rw [← dZ (s := 3) ha (by kernel_rfl)] at hL
  rw [← dZ (s := 4) ha (by kernel_rfl)] at hL
  rw [← dZ (s := 5) ha (by kernel_rfl)] at hL
  rw [← dZ (s := 9) ha (by kernel_rfl)] at hL
  rw [← dZ (s := 37) ha (by kernel_rfl)] at hL
  rw [← dZ (s := 38) ha (by kernel_rfl)] at hL
  rw [← dZ (s := 39) ha (by kernel_rfl)] at hL
  rw [← dZ (s := 45) ha (by kernel_rfl)] at hL
  rw [← dZ (s := 46) ha (by kernel_rfl)] at hL
  exact (BK (fK (fun g2 w2 => X ((fun g : hC => g 8) g2) w2) Q) g1 w1 (fun _ _ _ fT _ _ _ _ _ _ w => X fT w) k5 (fun _ _ h => h) h5 hL)
def pX (k5 : CK) (iK dR dG fT qO t37 t38 t39 t45 t46 : Value) (w : World) : Prop :=
  pU k5 iK dR dG fT qO t37 t38 t39 t45 t46 w
theorem BP (k5 : CK) (h5 : ∀ g w, k5 (g 3) (g 4) (g 5) (g 8) (g 9) (g 37) (g 38) (g 39) (g 45) (g 46) w → Q (.exit 5) g w) (h : pX k5 (g 3) (g 4) (g 5) (g 8) (g 9) (g 37) (g 38) (g 39) (g 45) (g 46) w) : eI pg bP (aA 1 (bI (cP 1 (aA 2 (bI (bI (aA 2 (bI (aA 1 (bI (cP 1 (aA 2 (bI (bI (aA 1 (cP 1 (aA 1 (aA 1 (aA 4 bL))))))))))))))))))) Q g w :=
  jX 6 _ g w (by kernel_rfl) (BM (Cq 6 Q) g w k5 h5 h)
def tU (kn : CK) (iK dR dG fT qO t37 t38 t39 t45 t46 : Value) (w : World) : Prop :=
  cJ pg (nB 3 5 qO) w fun t51 w =>
  cJ pg (iC 24 dR fT) w fun t52 w =>
  cJ pg (eH 32 t52 0) w fun t53 w =>
  cJ pg (fC 5 t53 t51) w fun _u w =>
  kn iK dR dG fT qO t37 t38 t39 t45 t46 w
theorem BC (kn : CK) (hn : ∀ g w, kn (g 3) (g 4) (g 5) (g 8) (g 9) (g 37) (g 38) (g 39) (g 45) (g 46) w → Q .normal g w) (h : tU kn (g 3) (g 4) (g 5) (g 8) (g 9) (g 37) (g 38) (g 39) (g 45) (g 46) w) : eI pg bP (cP 1 (bI (cP 1 (aA 2 (bI (bI (aA 2 (bI (aA 1 (bI (cP 1 (aA 2 (bI (bI (aA 1 (cP 1 (aA 1 (aA 1 (aA 4 bL))))))))))))))))))) Q g w :=
  dX (kr := no) (l := []) (by kernel_rfl) h hn mH trivial
def uE (k5 : CK) (iK dR dG fT qO t37 t38 t39 t45 t46 : Value) (w : World) : Prop :=
  tU (fun iK dR dG fT qO t37 t38 t39 t45 t46 w => pX k5 iK dR dG fT qO t37 t38 t39 t45 t46 w) iK dR dG fT qO t37 t38 t39 t45 t46 w
theorem B3 (k5 : CK) (h5 : ∀ g w, k5 (g 3) (g 4) (g 5) (g 8) (g 9) (g 37) (g 38) (g 39) (g 45) (g 46) w → Q (.exit 5) g w) (h : uE k5 (g 3) (g 4) (g 5) (g 8) (g 9) (g 37) (g 38) (g 39) (g 45) (g 46) w) : eI pg bP (bI (cP 1 (aA 2 (bI (bI (aA 2 (bI (aA 1 (bI (cP 1 (aA 2 (bI (bI (aA 1 (cP 1 (aA 1 (aA 1 (aA 4 bL)))))))))))))))))) Q g w :=
  eJ 1 _ g w (by kernel_rfl) (BC (fK (fun g w => eI pg bP (aA 1 (bI (cP 1 (aA 2 (bI (bI (aA 2 (bI (aA 1 (bI (cP 1 (aA 2 (bI (bI (aA 1 (cP 1 (aA 1 (aA 1 (aA 4 bL))))))))))))))))))) Q g w) Q) g w (fun iK dR dG fT qO t37 t38 t39 t45 t46 w => pX k5 iK dR dG fT qO t37 t38 t39 t45 t46 w) (fun g w h => fF (K := fun g w => eI pg bP (aA 1 (bI (cP 1 (aA 2 (bI (bI (aA 2 (bI (aA 1 (bI (cP 1 (aA 2 (bI (bI (aA 1 (cP 1 (aA 1 (aA 1 (aA 4 bL))))))))))))))))))) Q g w) (BP Q g w k5 h5 h)) h)
def uK (kn : CK) (iK dR dG fT qO t37 t38 t39 t45 t46 : Value) (w : World) : Prop :=
  uE kn iK dR dG fT qO t37 t38 t39 t45 t46 w
theorem B0 (kn : CK) (hn : ∀ g w, kn (g 3) (g 4) (g 5) (g 8) (g 9) (g 37) (g 38) (g 39) (g 45) (g 46) w → Q .normal g w) (h : uK kn (g 3) (g 4) (g 5) (g 8) (g 9) (g 37) (g 38) (g 39) (g 45) (g 46) w) : eI pg bP (cP 1 (aA 2 (bI (bI (aA 2 (bI (aA 1 (bI (cP 1 (aA 2 (bI (bI (aA 1 (cP 1 (aA 1 (aA 1 (aA 4 bL))))))))))))))))) Q g w :=
  jX 5 _ g w (by kernel_rfl) (B3 (Cq 5 Q) g w kn hn h)
def oK (kn : CK) (iK dR dG fT qO t37 t38 t39 t45 t46 : Value) (w : World) : Prop :=
  uK (fun iK dR dG fT qO t37 t38 t39 t45 t46 w => pT kn iK dR dG fT qO t37 t38 t39 t45 t46 w) iK dR dG fT qO t37 t38 t39 t45 t46 w
theorem Aq (kn : CK) (hn : ∀ g w, kn (g 3) (g 4) (g 5) (g 8) (g 9) (g 37) (g 38) (g 39) (g 45) (g 46) w → Q .normal g w) (h : oK kn (g 3) (g 4) (g 5) (g 8) (g 9) (g 37) (g 38) (g 39) (g 45) (g 46) w) : eI pg bP (aA 2 (bI (bI (aA 2 (bI (aA 1 (bI (cP 1 (aA 2 (bI (bI (aA 1 (cP 1 (aA 1 (aA 1 (aA 4 bL)))))))))))))))) Q g w :=
  eJ 1 _ g w (by kernel_rfl) (B0 (fK (fun g w => eI pg bP (aA 1 (aA 2 (bI (bI (aA 2 (bI (aA 1 (bI (cP 1 (aA 2 (bI (bI (aA 1 (cP 1 (aA 1 (aA 1 (aA 4 bL))))))))))))))))) Q g w) Q) g w (fun iK dR dG fT qO t37 t38 t39 t45 t46 w => pT kn iK dR dG fT qO t37 t38 t39 t45 t46 w) (fun g w h => fF (K := fun g w => eI pg bP (aA 1 (aA 2 (bI (bI (aA 2 (bI (aA 1 (bI (cP 1 (aA 2 (bI (bI (aA 1 (cP 1 (aA 1 (aA 1 (aA 4 bL))))))))))))))))) Q g w) (BT Q g w kn hn h)) h)
def oN (kn : CK) (k4 : K7) (iK dR dG fT qO t37 t38 t39 t45 t46 : Value) (w : World) : Prop :=
  cJ pg (dY .lss 3 (.tmp 46) (.tmp 45) t46 t45) w fun t47 w =>
  mG t47
    (kn iK dR dG fT qO t37 t38 t39 t45 t46 w)
    (k4 iK dR dG fT t37 t38 t39 w)
theorem zS (kn : CK) (k4 : K7) (hn : ∀ g w, kn (g 3) (g 4) (g 5) (g 8) (g 9) (g 37) (g 38) (g 39) (g 45) (g 46) w → Q .normal g w) (h4 : ∀ g w, k4 (g 3) (g 4) (g 5) (g 8) (g 37) (g 38) (g 39) w → Q (.exit 4) g w) (h : oN kn k4 (g 3) (g 4) (g 5) (g 8) (g 9) (g 37) (g 38) (g 39) (g 45) (g 46) w) : eI pg bP (cP 2 (bI (bI (aA 2 (bI (aA 1 (bI (cP 1 (aA 2 (bI (bI (aA 1 (cP 1 (aA 1 (aA 1 (aA 4 bL)))))))))))))))) Q g w :=
  dX (kr := no) (l := [(4, fun g w => k4 (g 3) (g 4) (g 5) (g 8) (g 37) (g 38) (g 39) w)]) (by kernel_rfl) h hn mH ⟨h4, trivial⟩
def lN (kn : CK) (k4 : K7) (iK dR dG fT qO t37 t38 t39 t45 t46 : Value) (w : World) : Prop :=
  oN (fun iK dR dG fT qO t37 t38 t39 t45 t46 w => oK kn iK dR dG fT qO t37 t38 t39 t45 t46 w) k4 iK dR dG fT qO t37 t38 t39 t45 t46 w
theorem AS (kn : CK) (k4 : K7) (hn : ∀ g w, kn (g 3) (g 4) (g 5) (g 8) (g 9) (g 37) (g 38) (g 39) (g 45) (g 46) w → Q .normal g w) (h4 : ∀ g w, k4 (g 3) (g 4) (g 5) (g 8) (g 37) (g 38) (g 39) w → Q (.exit 4) g w) (h : lN kn k4 (g 3) (g 4) (g 5) (g 8) (g 9) (g 37) (g 38) (g 39) (g 45) (g 46) w) : eI pg bP (bI (bI (aA 2 (bI (aA 1 (bI (cP 1 (aA 2 (bI (bI (aA 1 (cP 1 (aA 1 (aA 1 (aA 4 bL))))))))))))))) Q g w :=
  eJ 2 _ g w (by kernel_rfl) (zS (fK (fun g w => eI pg bP (aA 2 (bI (bI (aA 2 (bI (aA 1 (bI (cP 1 (aA 2 (bI (bI (aA 1 (cP 1 (aA 1 (aA 1 (aA 4 bL)))))))))))))))) Q g w) Q) g w (fun iK dR dG fT qO t37 t38 t39 t45 t46 w => oK kn iK dR dG fT qO t37 t38 t39 t45 t46 w) k4 (fun g w h => fF (K := fun g w => eI pg bP (aA 2 (bI (bI (aA 2 (bI (aA 1 (bI (cP 1 (aA 2 (bI (bI (aA 1 (cP 1 (aA 1 (aA 1 (aA 4 bL)))))))))))))))) Q g w) (Aq Q g w kn hn h)) h4 h)
def rL (k4 : K7) (iK dR dG fT qO t37 t38 t39 t45 t46 : Value) (w : World) : Prop :=
  iV (fun (X : (Value × Value) → K0) (t : Value × Value) (w : World) => lN (fun _ _ _ fT _ _ _ _ _ t46 w => X (fT, t46) w) k4 iK dR dG t.1 qO t37 t38 t39 t45 t.2 w) (fT, t46) w
theorem A0 (k4 : K7) (h4 : ∀ g w, k4 (g 3) (g 4) (g 5) (g 8) (g 37) (g 38) (g 39) w → Q (.exit 4) g w) (h : rL k4 (g 3) (g 4) (g 5) (g 8) (g 9) (g 37) (g 38) (g 39) (g 45) (g 46) w) : eI pg bP (bI (aA 2 (bI (aA 1 (bI (cP 1 (aA 2 (bI (bI (aA 1 (cP 1 (aA 1 (aA 1 (aA 4 bL)))))))))))))) Q g w := by
  refine jR (T := Value × Value) (fun g : hC => (g 8, g 46)) (fun X t w => lN (fun _ _ _ fT _ _ _ _ _ t46 w => X (fT, t46) w) k4 (g 3) (g 4) (g 5) t.1 (g 9) (g 37) (g 38) (g 39) (g 45) t.2 w) _ (by kernel_rfl) h (fun X g1 w1 ha hL => ?_)
  rw [← dZ (s := 3) ha (by kernel_rfl)] at hL
  rw [← dZ (s := 4) ha (by kernel_rfl)] at hL
  rw [← dZ (s := 5) ha (by kernel_rfl)] at hL
  rw [← dZ (s := 9) ha (by kernel_rfl)] at hL
  rw [← dZ (s := 37) ha (by kernel_rfl)] at hL
  rw [← dZ (s := 38) ha (by kernel_rfl)] at hL
  rw [← dZ (s := 39) ha (by kernel_rfl)] at hL
  rw [← dZ (s := 45) ha (by kernel_rfl)] at hL
  exact (AS (fK (fun g2 w2 => X ((fun g : hC => (g 8, g 46)) g2) w2) Q) g1 w1 (fun _ _ _ fT _ _ _ _ _ t46 w => X (fT, t46) w) k4 (fun _ _ h => h) h4 hL)
def oM (kn : K7) (iK dR dG fT qO t37 t38 t39 t45 t46 : Value) (w : World) : Prop :=
  rL kn iK dR dG fT qO t37 t38 t39 t45 t46 w
theorem Ay (kn : K7) (hn : ∀ g w, kn (g 3) (g 4) (g 5) (g 8) (g 37) (g 38) (g 39) w → Q .normal g w) (h : oM kn (g 3) (g 4) (g 5) (g 8) (g 9) (g 37) (g 38) (g 39) (g 45) (g 46) w) : eI pg bP (aA 2 (bI (aA 1 (bI (cP 1 (aA 2 (bI (bI (aA 1 (cP 1 (aA 1 (aA 1 (aA 4 bL))))))))))))) Q g w :=
  jX 4 _ g w (by kernel_rfl) (A0 (Cq 4 Q) g w kn hn h)
def rI (kn : CK) (iK dR dG fT qO D2 t37 t38 t39 : Value) (w : World) : Prop :=
  cJ pg (mM .max #[3, 3] 3 [D2, (.int .i64 0)]) w fun t45 w =>
  kn iK dR dG fT qO t37 t38 t39 t45 (.int .i64 0) w
theorem Ar (kn : CK) (hn : ∀ g w, kn (g 3) (g 4) (g 5) (g 8) (g 9) (g 37) (g 38) (g 39) (g 45) (g 46) w → Q .normal g w) (h : rI kn (g 3) (g 4) (g 5) (g 8) (g 9) (g 10) (g 37) (g 38) (g 39) w) : eI pg bP (cP 2 (bI (aA 1 (bI (cP 1 (aA 2 (bI (bI (aA 1 (cP 1 (aA 1 (aA 1 (aA 4 bL))))))))))))) Q g w :=
  dX (kr := no) (l := []) (by kernel_rfl) h hn mH trivial
def sE (kn : K7) (iK dR dG fT qO D2 t37 t38 t39 : Value) (w : World) : Prop :=
  rI (fun iK dR dG fT qO t37 t38 t39 t45 t46 w => oM kn iK dR dG fT qO t37 t38 t39 t45 t46 w) iK dR dG fT qO D2 t37 t38 t39 w
theorem AQ (kn : K7) (hn : ∀ g w, kn (g 3) (g 4) (g 5) (g 8) (g 37) (g 38) (g 39) w → Q .normal g w) (h : sE kn (g 3) (g 4) (g 5) (g 8) (g 9) (g 10) (g 37) (g 38) (g 39) w) : eI pg bP (bI (aA 1 (bI (cP 1 (aA 2 (bI (bI (aA 1 (cP 1 (aA 1 (aA 1 (aA 4 bL)))))))))))) Q g w :=
  eJ 2 _ g w (by kernel_rfl) (Ar (fK (fun g w => eI pg bP (aA 2 (bI (aA 1 (bI (cP 1 (aA 2 (bI (bI (aA 1 (cP 1 (aA 1 (aA 1 (aA 4 bL))))))))))))) Q g w) Q) g w (fun iK dR dG fT qO t37 t38 t39 t45 t46 w => oM kn iK dR dG fT qO t37 t38 t39 t45 t46 w) (fun g w h => fF (K := fun g w => eI pg bP (aA 2 (bI (aA 1 (bI (cP 1 (aA 2 (bI (bI (aA 1 (cP 1 (aA 1 (aA 1 (aA 4 bL))))))))))))) Q g w) (Ay Q g w kn hn h)) h)
def oI (kn : K7) (iK dR dG fT qO D2 t37 t38 t39 : Value) (w : World) : Prop :=
  sE kn iK dR dG fT qO D2 t37 t38 t39 w
theorem AI (kn : K7) (hn : ∀ g w, kn (g 3) (g 4) (g 5) (g 8) (g 37) (g 38) (g 39) w → Q .normal g w) (h : oI kn (g 3) (g 4) (g 5) (g 8) (g 9) (g 10) (g 37) (g 38) (g 39) w) : eI pg bP (aA 1 (bI (cP 1 (aA 2 (bI (bI (aA 1 (cP 1 (aA 1 (aA 1 (aA 4 bL))))))))))) Q g w :=
  FH _ g w (by kernel_rfl) (AQ Q g w kn hn h)
def rX (kn : K9) (iK dR dG fT t37 t38 t39 : Value) (w : World) : Prop :=
  cJ pg (iC 30 t37 t39) w fun t42 w =>
  cJ pg (eF 3 t42) w fun t43 w =>
  kn iK dR dG fT t39 t43 t37 t38 t39 w
theorem Ao (kn : K9) (hn : ∀ g w, kn (g 3) (g 4) (g 5) (g 8) (g 9) (g 10) (g 37) (g 38) (g 39) w → Q .normal g w) (h : rX kn (g 3) (g 4) (g 5) (g 8) (g 37) (g 38) (g 39) w) : eI pg bP (cP 1 (bI (cP 1 (aA 2 (bI (bI (aA 1 (cP 1 (aA 1 (aA 1 (aA 4 bL))))))))))) Q g w :=
  dX (kr := no) (l := []) (by kernel_rfl) h hn mH trivial
def rG (kn : K7) (iK dR dG fT t37 t38 t39 : Value) (w : World) : Prop :=
  rX (fun iK dR dG fT qO D2 t37 t38 t39 w => oI kn iK dR dG fT qO D2 t37 t38 t39 w) iK dR dG fT t37 t38 t39 w
theorem A4 (kn : K7) (hn : ∀ g w, kn (g 3) (g 4) (g 5) (g 8) (g 37) (g 38) (g 39) w → Q .normal g w) (h : rG kn (g 3) (g 4) (g 5) (g 8) (g 37) (g 38) (g 39) w) : eI pg bP (bI (cP 1 (aA 2 (bI (bI (aA 1 (cP 1 (aA 1 (aA 1 (aA 4 bL)))))))))) Q g w :=
  eJ 1 _ g w (by kernel_rfl) (Ao (fK (fun g w => eI pg bP (aA 1 (bI (cP 1 (aA 2 (bI (bI (aA 1 (cP 1 (aA 1 (aA 1 (aA 4 bL))))))))))) Q g w) Q) g w (fun iK dR dG fT qO D2 t37 t38 t39 w => oI kn iK dR dG fT qO D2 t37 t38 t39 w) (fun g w h => fF (K := fun g w => eI pg bP (aA 1 (bI (cP 1 (aA 2 (bI (bI (aA 1 (cP 1 (aA 1 (aA 1 (aA 4 bL))))))))))) Q g w) (AI Q g w kn hn h)) h)
def sD (kn : K7) (iK dR dG fT t37 t38 t39 : Value) (w : World) : Prop :=
  rG kn iK dR dG fT t37 t38 t39 w
theorem AP (kn : K7) (hn : ∀ g w, kn (g 3) (g 4) (g 5) (g 8) (g 37) (g 38) (g 39) w → Q .normal g w) (h : sD kn (g 3) (g 4) (g 5) (g 8) (g 37) (g 38) (g 39) w) : eI pg bP (cP 1 (aA 2 (bI (bI (aA 1 (cP 1 (aA 1 (aA 1 (aA 4 bL))))))))) Q g w :=
  jX 3 _ g w (by kernel_rfl) (A4 (Cq 3 Q) g w kn hn h)
def oJ (kn : K7) (iK dR dG fT t37 t38 t39 : Value) (w : World) : Prop :=
  sD (fun iK dR dG fT t37 t38 t39 w => pM kn iK dR dG fT t37 t38 t39 w) iK dR dG fT t37 t38 t39 w
theorem A2 (kn : K7) (hn : ∀ g w, kn (g 3) (g 4) (g 5) (g 8) (g 37) (g 38) (g 39) w → Q .normal g w) (h : oJ kn (g 3) (g 4) (g 5) (g 8) (g 37) (g 38) (g 39) w) : eI pg bP (aA 2 (bI (bI (aA 1 (cP 1 (aA 1 (aA 1 (aA 4 bL)))))))) Q g w :=
  eJ 1 _ g w (by kernel_rfl) (AP (fK (fun g w => eI pg bP (aA 1 (aA 2 (bI (bI (aA 1 (cP 1 (aA 1 (aA 1 (aA 4 bL))))))))) Q g w) Q) g w (fun iK dR dG fT t37 t38 t39 w => pM kn iK dR dG fT t37 t38 t39 w) (fun g w h => fF (K := fun g w => eI pg bP (aA 1 (aA 2 (bI (bI (aA 1 (cP 1 (aA 1 (aA 1 (aA 4 bL))))))))) Q g w) (BY Q g w kn hn h)) h)
def nE (kn : K7) (k2 : K1) (iK dR dG fT t37 t38 t39 : Value) (w : World) : Prop :=
  cJ pg (dY .lss 3 (.tmp 39) (.tmp 38) t39 t38) w fun t40 w =>
  mG t40
    (kn iK dR dG fT t37 t38 t39 w)
    (k2 dR w)
theorem zU (kn : K7) (k2 : K1) (hn : ∀ g w, kn (g 3) (g 4) (g 5) (g 8) (g 37) (g 38) (g 39) w → Q .normal g w) (h2 : ∀ g w, k2 (g 4) w → Q (.exit 2) g w) (h : nE kn k2 (g 3) (g 4) (g 5) (g 8) (g 37) (g 38) (g 39) w) : eI pg bP (cP 2 (bI (bI (aA 1 (cP 1 (aA 1 (aA 1 (aA 4 bL)))))))) Q g w :=
  dX (kr := no) (l := [(2, fun g w => k2 (g 4) w)]) (by kernel_rfl) h hn mH ⟨h2, trivial⟩
def lQ (kn : K7) (k2 : K1) (iK dR dG fT t37 t38 t39 : Value) (w : World) : Prop :=
  nE (fun iK dR dG fT t37 t38 t39 w => oJ kn iK dR dG fT t37 t38 t39 w) k2 iK dR dG fT t37 t38 t39 w
theorem AZ (kn : K7) (k2 : K1) (hn : ∀ g w, kn (g 3) (g 4) (g 5) (g 8) (g 37) (g 38) (g 39) w → Q .normal g w) (h2 : ∀ g w, k2 (g 4) w → Q (.exit 2) g w) (h : lQ kn k2 (g 3) (g 4) (g 5) (g 8) (g 37) (g 38) (g 39) w) : eI pg bP (bI (bI (aA 1 (cP 1 (aA 1 (aA 1 (aA 4 bL))))))) Q g w :=
  eJ 2 _ g w (by kernel_rfl) (zU (fK (fun g w => eI pg bP (aA 2 (bI (bI (aA 1 (cP 1 (aA 1 (aA 1 (aA 4 bL)))))))) Q g w) Q) g w (fun iK dR dG fT t37 t38 t39 w => oJ kn iK dR dG fT t37 t38 t39 w) k2 (fun g w h => fF (K := fun g w => eI pg bP (aA 2 (bI (bI (aA 1 (cP 1 (aA 1 (aA 1 (aA 4 bL)))))))) Q g w) (A2 Q g w kn hn h)) h2 h)
def rO (k2 : K1) (iK dR dG fT t37 t38 t39 : Value) (w : World) : Prop :=
  iV (fun (X : (Value × Value) → K0) (t : Value × Value) (w : World) => lQ (fun _ _ _ fT _ _ t39 w => X (fT, t39) w) k2 iK dR dG t.1 t37 t38 t.2 w) (fT, t39) w
theorem AH (k2 : K1) (h2 : ∀ g w, k2 (g 4) w → Q (.exit 2) g w) (h : rO k2 (g 3) (g 4) (g 5) (g 8) (g 37) (g 38) (g 39) w) : eI pg bP (bI (aA 1 (cP 1 (aA 1 (aA 1 (aA 4 bL)))))) Q g w := by
  refine jR (T := Value × Value) (fun g : hC => (g 8, g 39)) (fun X t w => lQ (fun _ _ _ fT _ _ t39 w => X (fT, t39) w) k2 (g 3) (g 4) (g 5) t.1 (g 37) (g 38) t.2 w) _ (by kernel_rfl) h (fun X g1 w1 ha hL => ?_)
  rw [← dZ (s := 3) ha (by kernel_rfl)] at hL
  rw [← dZ (s := 4) ha (by kernel_rfl)] at hL
  rw [← dZ (s := 5) ha (by kernel_rfl)] at hL
  rw [← dZ (s := 37) ha (by kernel_rfl)] at hL
  rw [← dZ (s := 38) ha (by kernel_rfl)] at hL
  exact (AZ (fK (fun g2 w2 => X ((fun g : hC => (g 8, g 39)) g2) w2) Q) g1 w1 (fun _ _ _ fT _ _ t39 w => X (fT, t39) w) k2 (fun _ _ h => h) h2 hL)
def oA (kn : K1) (iK dR dG fT t37 t38 t39 : Value) (w : World) : Prop :=
  rO kn iK dR dG fT t37 t38 t39 w
theorem AT (kn : K1) (hn : ∀ g w, kn (g 4) w → Q .normal g w) (h : oA kn (g 3) (g 4) (g 5) (g 8) (g 37) (g 38) (g 39) w) : eI pg bP (aA 1 (cP 1 (aA 1 (aA 1 (aA 4 bL))))) Q g w :=
  jX 2 _ g w (by kernel_rfl) (AH (Cq 2 Q) g w kn hn h)
def sK (kn : K7) (hB iK dR dG fT : Value) (w : World) : Prop :=
  cJ pg (eH 51 hB 1) w fun t36 w =>
  cJ pg (eF 30 t36) w fun t37 w =>
  cJ pg (mM .len #[30] 3 [t37]) w fun t38 w =>
  kn iK dR dG fT t37 t38 (.int .i64 0) w
theorem Ag (kn : K7) (hn : ∀ g w, kn (g 3) (g 4) (g 5) (g 8) (g 37) (g 38) (g 39) w → Q .normal g w) (h : sK kn (g 1) (g 3) (g 4) (g 5) (g 8) w) : eI pg bP (cP 1 (cP 1 (aA 1 (aA 1 (aA 4 bL))))) Q g w :=
  dX (kr := no) (l := []) (by kernel_rfl) h hn mH trivial
def sH (kn : K1) (hB iK dR dG fT : Value) (w : World) : Prop :=
  sK (fun iK dR dG fT t37 t38 t39 w => oA kn iK dR dG fT t37 t38 t39 w) hB iK dR dG fT w
theorem Bc (kn : K1) (hn : ∀ g w, kn (g 4) w → Q .normal g w) (h : sH kn (g 1) (g 3) (g 4) (g 5) (g 8) w) : eI pg bP (cP 1 (aA 1 (aA 1 (aA 4 bL)))) Q g w :=
  eJ 1 _ g w (by kernel_rfl) (Ag (fK (fun g w => eI pg bP (aA 1 (cP 1 (aA 1 (aA 1 (aA 4 bL))))) Q g w) Q) g w (fun iK dR dG fT t37 t38 t39 w => oA kn iK dR dG fT t37 t38 t39 w) (fun g w h => fF (K := fun g w => eI pg bP (aA 1 (cP 1 (aA 1 (aA 1 (aA 4 bL))))) Q g w) (AT Q g w kn hn h)) h)
def nO (R : K1) (hB iK dR dG fT : Value) (w : World) : Prop :=
  sH (fun dR w => pV R dR w) hB iK dR dG fT w
theorem A9 (R : K1) (hr : HR kC R Q) (h : nO R (g 1) (g 3) (g 4) (g 5) (g 8) w) : eI pg bP (aA 1 (aA 1 (aA 4 bL))) Q g w :=
  eJ 1 _ g w (by kernel_rfl) (Bc (fK (fun g w => eI pg bP (aA 1 (aA 1 (aA 1 (aA 4 bL)))) Q g w) Q) g w (fun dR w => pV R dR w) (fun g w h => fF (K := fun g w => eI pg bP (aA 1 (aA 1 (aA 1 (aA 4 bL)))) Q g w) (BO Q g w R hr h)) h)
def rT (kn : K5) (hB iK dR dG : Value) (w : World) : Prop :=
  kn hB iK dR dG (.int .i64 0) w
theorem Bb (kn : K5) (hn : ∀ g w, kn (g 1) (g 3) (g 4) (g 5) (g 8) w → Q .normal g w) (h : rT kn (g 1) (g 3) (g 4) (g 5) w) : eI pg bP (cP 1 (aA 1 (aA 4 bL))) Q g w :=
  dX (kr := no) (l := []) (by kernel_rfl) h hn mH trivial
def nK (R : K1) (hB iK dR dG : Value) (w : World) : Prop :=
  rT (fun hB iK dR dG fT w => nO R hB iK dR dG fT w) hB iK dR dG w
theorem As (R : K1) (hr : HR kC R Q) (h : nK R (g 1) (g 3) (g 4) (g 5) w) : eI pg bP (aA 1 (aA 4 bL)) Q g w :=
  eJ 1 _ g w (by kernel_rfl) (Bb (fK (fun g w => eI pg bP (aA 1 (aA 1 (aA 4 bL))) Q g w) Q) g w (fun hB iK dR dG fT w => nO R hB iK dR dG fT w) (fun g w h => fF (K := fun g w => eI pg bP (aA 1 (aA 1 (aA 4 bL))) Q g w) (A9 Q g w R hr h)) h)
def nY (kn : K7) (hB iK dR dG t18 t19 t20 : Value) (w : World) : Prop :=
  cJ pg (dY .add 3 (.tmp 20) (.const (.int .i64 1)) t20 (.int .i64 1)) w fun t35 w =>
  kn hB iK dR dG t18 t19 t35 w
theorem Ba (kn : K7) (hn : ∀ g w, kn (g 1) (g 3) (g 4) (g 5) (g 18) (g 19) (g 20) w → Q .normal g w) (h : nY kn (g 1) (g 3) (g 4) (g 5) (g 18) (g 19) (g 20) w) : eI pg bP (aA 3 (bI (bI (aA 1 (cP 1 (aA 4 bL)))))) Q g w :=
  dX (kr := no) (l := []) (by kernel_rfl) h hn mH trivial
def oF (kn : K7) (k0 : K4) (hB iK dR dG t18 t19 t20 : Value) (w : World) : Prop :=
  cJ pg (dY .lss 3 (.tmp 20) (.tmp 19) t20 t19) w fun t21 w =>
  mG t21
    (cJ pg (iC 30 t18 t20) w fun t23 w =>
    cJ pg (eF 3 t23) w fun t24 w =>
    cJ pg (dY .eql 3 (.tmp 25) (.const (.int .i64 (-1))) t24 (.int .i64 (-1))) w fun t26 w =>
    mG t26
      (cJ pg (dY .sub 3 (.tmp 27) (.const (.int .i64 1)) dG (.int .i64 1)) w fun t28 w =>
      cJ pg (nB 3 5 t20) w fun t32 w =>
      cJ pg (iC 24 dR t28) w fun t33 w =>
      cJ pg (eH 32 t33 0) w fun t34 w =>
      cJ pg (fC 5 t34 t32) w fun _u w =>
      kn hB iK dR t28 t18 t19 t20 w)
      (kn hB iK dR dG t18 t19 t20 w))
    (k0 hB iK dR dG w)
theorem Ab (kn : K7) (k0 : K4) (hn : ∀ g w, kn (g 1) (g 3) (g 4) (g 5) (g 18) (g 19) (g 20) w → Q .normal g w) (h0 : ∀ g w, k0 (g 1) (g 3) (g 4) (g 5) w → Q (.exit 0) g w) (h : oF kn k0 (g 1) (g 3) (g 4) (g 5) (g 18) (g 19) (g 20) w) : eI pg bP (cP 3 (bI (bI (aA 1 (cP 1 (aA 4 bL)))))) Q g w :=
  dX (kr := no) (l := [(0, fun g w => k0 (g 1) (g 3) (g 4) (g 5) w)]) (by kernel_rfl) h hn mH ⟨h0, trivial⟩
def lU (kn : K7) (k0 : K4) (hB iK dR dG t18 t19 t20 : Value) (w : World) : Prop :=
  oF (fun hB iK dR dG t18 t19 t20 w => nY kn hB iK dR dG t18 t19 t20 w) k0 hB iK dR dG t18 t19 t20 w
theorem Ap (kn : K7) (k0 : K4) (hn : ∀ g w, kn (g 1) (g 3) (g 4) (g 5) (g 18) (g 19) (g 20) w → Q .normal g w) (h0 : ∀ g w, k0 (g 1) (g 3) (g 4) (g 5) w → Q (.exit 0) g w) (h : lU kn k0 (g 1) (g 3) (g 4) (g 5) (g 18) (g 19) (g 20) w) : eI pg bP (bI (bI (aA 1 (cP 1 (aA 4 bL))))) Q g w :=
  eJ 3 _ g w (by kernel_rfl) (Ab (fK (fun g w => eI pg bP (aA 3 (bI (bI (aA 1 (cP 1 (aA 4 bL)))))) Q g w) Q) g w (fun hB iK dR dG t18 t19 t20 w => nY kn hB iK dR dG t18 t19 t20 w) k0 (fun g w h => fF (K := fun g w => eI pg bP (aA 3 (bI (bI (aA 1 (cP 1 (aA 4 bL)))))) Q g w) (Ba Q g w kn hn h)) h0 h)
def sC (k0 : K4) (hB iK dR dG t18 t19 t20 : Value) (w : World) : Prop :=
  iV (fun (X : (Value × Value) → K0) (t : Value × Value) (w : World) => lU (fun _ _ _ dG _ _ t20 w => X (dG, t20) w) k0 hB iK dR t.1 t18 t19 t.2 w) (dG, t20) w
theorem AK (k0 : K4) (h0 : ∀ g w, k0 (g 1) (g 3) (g 4) (g 5) w → Q (.exit 0) g w) (h : sC k0 (g 1) (g 3) (g 4) (g 5) (g 18) (g 19) (g 20) w) : eI pg bP (bI (aA 1 (cP 1 (aA 4 bL)))) Q g w := by
  refine jR (T := Value × Value) (fun g : hC => (g 5, g 20)) (fun X t w => lU (fun _ _ _ dG _ _ t20 w => X (dG, t20) w) k0 (g 1) (g 3) (g 4) t.1 (g 18) (g 19) t.2 w) _ (by kernel_rfl) h (fun X g1 w1 ha hL => ?_)
  rw [← dZ (s := 1) ha (by kernel_rfl)] at hL
  rw [← dZ (s := 3) ha (by kernel_rfl)] at hL
  rw [← dZ (s := 4) ha (by kernel_rfl)] at hL
  rw [← dZ (s := 18) ha (by kernel_rfl)] at hL
  rw [← dZ (s := 19) ha (by kernel_rfl)] at hL
  exact (Ap (fK (fun g2 w2 => X ((fun g : hC => (g 5, g 20)) g2) w2) Q) g1 w1 (fun _ _ _ dG _ _ t20 w => X (dG, t20) w) k0 (fun _ _ h => h) h0 hL)
def nZ (kn : K4) (hB iK dR dG t18 t19 t20 : Value) (w : World) : Prop :=
  sC kn hB iK dR dG t18 t19 t20 w
theorem zW (kn : K4) (hn : ∀ g w, kn (g 1) (g 3) (g 4) (g 5) w → Q .normal g w) (h : nZ kn (g 1) (g 3) (g 4) (g 5) (g 18) (g 19) (g 20) w) : eI pg bP (aA 1 (cP 1 (aA 4 bL))) Q g w :=
  jX 0 _ g w (by kernel_rfl) (AK (Cq 0 Q) g w kn hn h)
def sG (kn : K7) (hB iK dR dG : Value) (w : World) : Prop :=
  cJ pg (eH 51 hB 1) w fun t17 w =>
  cJ pg (eF 30 t17) w fun t18 w =>
  cJ pg (mM .len #[30] 3 [t18]) w fun t19 w =>
  kn hB iK dR dG t18 t19 (.int .i64 0) w
theorem AC (kn : K7) (hn : ∀ g w, kn (g 1) (g 3) (g 4) (g 5) (g 18) (g 19) (g 20) w → Q .normal g w) (h : sG kn (g 1) (g 3) (g 4) (g 5) w) : eI pg bP (cP 1 (cP 1 (aA 4 bL))) Q g w :=
  dX (kr := no) (l := []) (by kernel_rfl) h hn mH trivial
def rF (kn : K4) (hB iK dR dG : Value) (w : World) : Prop :=
  sG (fun hB iK dR dG t18 t19 t20 w => nZ kn hB iK dR dG t18 t19 t20 w) hB iK dR dG w
theorem AV (kn : K4) (hn : ∀ g w, kn (g 1) (g 3) (g 4) (g 5) w → Q .normal g w) (h : rF kn (g 1) (g 3) (g 4) (g 5) w) : eI pg bP (cP 1 (aA 4 bL)) Q g w :=
  eJ 1 _ g w (by kernel_rfl) (AC (fK (fun g w => eI pg bP (aA 1 (cP 1 (aA 4 bL))) Q g w) Q) g w (fun hB iK dR dG t18 t19 t20 w => nZ kn hB iK dR dG t18 t19 t20 w) (fun g w h => fF (K := fun g w => eI pg bP (aA 1 (cP 1 (aA 4 bL))) Q g w) (zW Q g w kn hn h)) h)
def nQ (R : K1) (hB iK dR dG : Value) (w : World) : Prop :=
  rF (fun hB iK dR dG w => nK R hB iK dR dG w) hB iK dR dG w
theorem AE (R : K1) (hr : HR kC R Q) (h : nQ R (g 1) (g 3) (g 4) (g 5) w) : eI pg bP (aA 4 bL) Q g w :=
  eJ 1 _ g w (by kernel_rfl) (AV (fK (fun g w => eI pg bP (aA 1 (aA 4 bL)) Q g w) Q) g w (fun hB iK dR dG w => nK R hB iK dR dG w) (fun g w h => fF (K := fun g w => eI pg bP (aA 1 (aA 4 bL)) Q g w) (As Q g w R hr h)) h)
def rR (kn : K4) (FX : Value) (w : World) : Prop :=
  cJ pg (D1 51 FX) w fun hB w =>
  cJ pg (eH 51 hB 0) w fun t11 w =>
  cJ pg (eF 3 t11) w fun t12 w =>
  cJ pg (dY .shl 3 (.const (.int .i64 1)) (.tmp 12) (.int .i64 1) t12) w fun t13 w =>
  cJ pg (mN 24 t13 t13) w fun t15 w =>
  kn hB t13 t15 t13 w
theorem Az (kn : K4) (hn : ∀ g w, kn (g 1) (g 3) (g 4) (g 5) w → Q .normal g w) (h : rR kn (g 0) w) : eI pg bP (cP 4 bL) Q g w :=
  dX (kr := no) (l := []) (by kernel_rfl) h hn mH trivial
def sJ (R : K1) (FX : Value) (w : World) : Prop :=
  rR (fun hB iK dR dG w => nQ R hB iK dR dG w) FX w
theorem zO (R : K1) (hr : HR kC R Q) (h : sJ R (g 0) w) : eI pg bP bL Q g w :=
  eJ 4 _ g w (by kernel_rfl) (Az (fK (fun g w => eI pg bP (aA 4 bL) Q g w) Q) g w (fun hB iK dR dG w => nQ R hB iK dR dG w) (fun g w h => fF (K := fun g w => eI pg bP (aA 4 bL) Q g w) (AE Q g w R hr h)) h)
def Db (a0 : Value) (w : World) (R : K1) : Prop :=
  sJ R a0 w
theorem CA {a0 : Value} {w : World} {R : K1} (h : Db a0 w R) : gH pg oL #[a0] w R := by
  refine fQ (ann := bP) (fn := Tryd.f28) (c := bL) (args := [a0]) (rs := kC) (N := 70) TrydM.mixed (by kernel_rfl) Tryd.func28 (by kernel_rfl) (by kernel_rfl) (by kernel_rfl) (of_decide_eq_true (by kernel_rfl)) (by kernel_rfl) ?_
  exact (zO (qD pg kC R) (kJ [a0]) w R (fun _ _ h => h) h)
def tC : FA := ⟨kP, fun i => .leaf ([], []) []⟩
def pI : List ResultVar := [.tmp 2]
noncomputable def rQ : Code := jB Tryd.f29
def pE (R : K1) (yH : Value) (w : World) : Prop :=
  mG (.bool false)
    (cJ pg (nB 75 56 yH) w fun t4 w =>
    gH pg Af #[t4] w fun t5 w =>
    R t5 w)
    (gH pg lF #[yH] w fun t7 w =>
    R t7 w)
theorem yM (R : K1) (hr : HR pI R Q) (h : pE R (g 0) w) : eI pg tC rQ Q g w :=
  dX (kn := no) (l := []) (by kernel_rfl) h mH hr trivial
def yT (a0 : Value) (w : World) (R : K1) : Prop :=
  pE R a0 w
theorem yX {a0 : Value} {w : World} {R : K1} (h : yT a0 w R) : gH pg kP #[a0] w R := by
  refine fQ (ann := tC) (fn := Tryd.f29) (c := rQ) (args := [a0]) (rs := pI) (N := 8) TrydM.mixed (by kernel_rfl) Tryd.func29 (by kernel_rfl) (by kernel_rfl) (by kernel_rfl) (of_decide_eq_true (by kernel_rfl)) (by kernel_rfl) ?_
  exact (yM (qD pg pI R) (kJ [a0]) w R (fun _ _ h => h) h)
def yQ : FA := ⟨tE, fun i => match Nat.beq i 4 with | true => .leaf ([], []) [(false, []), (false, []), (false, []), (false, [])] | false => match Nat.beq i 7 with | true => .leaf ([], []) [(false, []), (false, []), (false, []), (false, [])] | false => .leaf ([], []) []⟩
def wG : List ResultVar := [.tmp 2, .tmp 3, .tmp 4]
noncomputable def xQ : Code := jB Tryd.f30
def wF (R : K1) (iI : Value) (w : World) : Prop :=
  cJ pg (dY .eql 3 (.tmp 7) (.const (.int .i64 0)) iI (.int .i64 0)) w fun t9 w =>
  mG t9
    (cJ pg (eF 109 (.pointer (some ⟨3, 0, none⟩))) w fun t10 w =>
    cJ pg (iF 109) w fun IR w =>
    cJ pg (fC 109 IR t10) w fun _u w =>
    cJ pg (kA 109 IR none none none) (dr w) fun t11 w_ => w_ = (dr w) ∧
    (dr w) = (dr w) ∧
    (dr w) = (dr w) ∧
    (dr w) = (dr w) ∧
    R (.tuple #[(.int .i64 16), (.int .u32 0), t11]) (dr w))
    (cJ pg (dY .eql 3 (.tmp 7) (.const (.int .i64 2)) iI (.int .i64 2)) w fun t13 w =>
    mG t13
      (cJ pg (eF 110 (.pointer (some ⟨4, 0, none⟩))) w fun t14 w =>
      cJ pg (iF 110) w fun I3 w =>
      cJ pg (fC 110 I3 t14) w fun _u w =>
      cJ pg (kA 110 I3 none none none) (dr w) fun t15 w_ => w_ = (dr w) ∧
      (dr w) = (dr w) ∧
      (dr w) = (dr w) ∧
      (dr w) = (dr w) ∧
      R (.tuple #[(.int .i64 32), (.int .u32 3), t15]) (dr w))
      (R (.tuple #[(.int .i64 0), (.int .u32 0), (.slice none 0 0)]) w))
theorem Cm (R : K1) (hr : HR wG R Q) (h : wF R (g 0) w) : eI pg yQ xQ Q g w :=
  dX (kn := no) (l := []) (by kernel_rfl) h mH hr trivial
def Dw (a0 : Value) (w : World) (R : K1) : Prop :=
  wF R a0 w
theorem Dg {a0 : Value} {w : World} {R : K1} (h : Dw a0 w R) : gH pg tE #[a0] w R := by
  refine fQ (ann := yQ) (fn := Tryd.f30) (c := xQ) (args := [a0]) (rs := wG) (N := 16) TrydM.mixed (by kernel_rfl) Tryd.func30 (by kernel_rfl) (by kernel_rfl) (by kernel_rfl) (of_decide_eq_true (by kernel_rfl)) (by kernel_rfl) ?_
  exact (Cm (qD pg wG R) (kJ [a0]) w R (fun _ _ h => h) h)
def uV : FA := ⟨kL, fun i => .leaf ([], []) []⟩
def qN : List ResultVar := [.tmp 2]
noncomputable def tF : Code := jB Tryd.f34
def mR (R : K1) (I4 : Value) (w : World) : Prop :=
  cJ pg (dY .lss 3 (.tmp 3) (.const (.int .i64 0)) I4 (.int .i64 0)) w fun t4 w =>
  mG t4
    (R (.int .i64 1) w)
    (R I4 w)
theorem yZ (R : K1) (hr : HR qN R Q) (h : mR R (g 0) w) : eI pg uV tF Q g w :=
  dX (kn := no) (l := []) (by kernel_rfl) h mH hr trivial
def vZ (a0 : Value) (w : World) (R : K1) : Prop :=
  mR R a0 w
theorem Aa {a0 : Value} {w : World} {R : K1} (h : vZ a0 w R) : gH pg kL #[a0] w R := by
  refine fQ (ann := uV) (fn := Tryd.f34) (c := tF) (args := [a0]) (rs := qN) (N := 6) TrydM.mixed (by kernel_rfl) Tryd.func34 (by kernel_rfl) (by kernel_rfl) (by kernel_rfl) (of_decide_eq_true (by kernel_rfl)) (by kernel_rfl) ?_
  exact (yZ (qD pg qN R) (kJ [a0]) w R (fun _ _ h => h) h)
def fX : FA := ⟨rC, fun i => .leaf ([], []) []⟩
def iP : List ResultVar := [.tmp 2]
noncomputable def fS : Code := jB Tryd.f37
def pL (R : K1) (iG : Value) (w : World) : Prop :=
  cJ pg (dY .eql 3 (.tmp 60) (.const (.int .i64 0)) iG (.int .i64 0)) w fun t61 w =>
  R t61 w
theorem Br (R : K1) (hr : HR iP R Q) (h : pL R (g 3) w) : eI pg fX (aA 1 (aA 3 fS)) Q g w :=
  dX (kn := no) (l := []) (by kernel_rfl) h mH hr trivial
def kW (kn : K4) (k0 : K1) (R : K1) (iG t41 t42 t43 : Value) (w : World) : Prop :=
  cJ pg (dY .lss 3 (.tmp 43) (.tmp 42) t43 t42) w fun t44 w =>
  mG t44
    (cJ pg (iC 30 t41 t43) w fun t45 w =>
    cJ pg (eF 3 t45) w fun t46 w =>
    cJ pg (dY .lss 3 (.tmp 47) (.const (.int .i64 (-1))) t46 (.int .i64 (-1))) w fun t48 w =>
    Gd (kE t48 false) (fun K => K t46 w) w fun t50 w =>
    Gd (kE t48 false) (fun K => gH pg kL #[t50] w K) w fun t51 w =>
    Gd (kE t48 false) (fun K => K iG w) w fun t52 w =>
    Gd (kE t48 false) (fun K => cJ pg (dY .gtr 3 (.tmp 51) (.tmp 52) t51 t52) w K) w fun t53 w =>
    cJ pg (kO t48 (.bool true) t53) w fun t54 w =>
    mG t54
      (R (.bool false) w)
      (gH pg kL #[t46] w fun t57 w =>
      cJ pg (dY .sub 3 (.tmp 55) (.tmp 57) iG t57) w fun t58 w =>
      cJ pg (dY .add 3 (.tmp 43) (.const (.int .i64 1)) t43 (.int .i64 1)) w fun t59 w =>
      kn t58 t41 t42 t59 w))
    (k0 iG w)
theorem Bw (kn : K4) (k0 : K1) (R : K1) (hn : ∀ g w, kn (g 3) (g 41) (g 42) (g 43) w → Q .normal g w) (h0 : ∀ g w, k0 (g 3) w → Q (.exit 0) g w) (hr : HR iP R Q) (h : kW kn k0 R (g 3) (g 41) (g 42) (g 43) w) : eI pg fX (bI (bI (aA 1 (cP 1 (aA 3 fS))))) Q g w :=
  dX (l := [(0, fun g w => k0 (g 3) w)]) (by kernel_rfl) h hn hr ⟨h0, trivial⟩
def uC (k0 : K1) (R : K1) (iG t41 t42 t43 : Value) (w : World) : Prop :=
  iV (fun (X : (Value × Value) → K0) (t : Value × Value) (w : World) => kW (fun iG _ _ t43 w => X (iG, t43) w) k0 R t.1 t41 t42 t.2 w) (iG, t43) w
theorem Bq (k0 : K1) (R : K1) (h0 : ∀ g w, k0 (g 3) w → Q (.exit 0) g w) (hr : HR iP R Q) (h : uC k0 R (g 3) (g 41) (g 42) (g 43) w) : eI pg fX (bI (aA 1 (cP 1 (aA 3 fS)))) Q g w := by
  refine jR (T := Value × Value) (fun g : hC => (g 3, g 43)) (fun X t w => kW (fun iG _ _ t43 w => X (iG, t43) w) k0 R t.1 (g 41) (g 42) t.2 w) _ (by kernel_rfl) h (fun X g1 w1 ha hL => ?_)
  rw [← dZ (s := 41) ha (by kernel_rfl)] at hL
  rw [← dZ (s := 42) ha (by kernel_rfl)] at hL
  exact (Bw (fK (fun g2 w2 => X ((fun g : hC => (g 3, g 43)) g2) w2) Q) g1 w1 (fun iG _ _ t43 w => X (iG, t43) w) k0 R (fun _ _ h => h) h0 hr hL)
def pP (kn : K1) (R : K1) (iG t41 t42 t43 : Value) (w : World) : Prop :=
  uC kn R iG t41 t42 t43 w
theorem BZ (kn : K1) (R : K1) (hn : ∀ g w, kn (g 3) w → Q .normal g w) (hr : HR iP R Q) (h : pP kn R (g 3) (g 41) (g 42) (g 43) w) : eI pg fX (aA 1 (cP 1 (aA 3 fS))) Q g w :=
  jX 0 _ g w (by kernel_rfl) (Bq (Cq 0 Q) g w kn R hn hr h)
def uN (kn : K4) (hB iG : Value) (w : World) : Prop :=
  cJ pg (eH 51 hB 1) w fun t40 w =>
  cJ pg (eF 30 t40) w fun t41 w =>
  cJ pg (mM .len #[30] 3 [t41]) w fun t42 w =>
  kn iG t41 t42 (.int .i64 0) w
theorem Bl (kn : K4) (hn : ∀ g w, kn (g 3) (g 41) (g 42) (g 43) w → Q .normal g w) (h : uN kn (g 1) (g 3) w) : eI pg fX (cP 1 (cP 1 (aA 3 fS))) Q g w :=
  dX (kr := no) (l := []) (by kernel_rfl) h hn mH trivial
def tX (kn : K1) (R : K1) (hB iG : Value) (w : World) : Prop :=
  uN (fun iG t41 t42 t43 w => pP kn R iG t41 t42 t43 w) hB iG w
theorem BG (kn : K1) (R : K1) (hn : ∀ g w, kn (g 3) w → Q .normal g w) (hr : HR iP R Q) (h : tX kn R (g 1) (g 3) w) : eI pg fX (cP 1 (aA 3 fS)) Q g w :=
  eJ 1 _ g w (by kernel_rfl) (Bl (fK (fun g w => eI pg fX (aA 1 (cP 1 (aA 3 fS))) Q g w) Q) g w (fun iG t41 t42 t43 w => pP kn R iG t41 t42 t43 w) (fun g w h => fF (K := fun g w => eI pg fX (aA 1 (cP 1 (aA 3 fS))) Q g w) (BZ Q g w kn R hn hr h)) h)
def pS (R : K1) (hB iG : Value) (w : World) : Prop :=
  tX (fun iG w => pL R iG w) R hB iG w
theorem Bh (R : K1) (hr : HR iP R Q) (h : pS R (g 1) (g 3) w) : eI pg fX (aA 3 fS) Q g w :=
  eJ 1 _ g w (by kernel_rfl) (BG (fK (fun g w => eI pg fX (aA 1 (aA 3 fS)) Q g w) Q) g w (fun iG w => pL R iG w) R (fun g w h => fF (K := fun g w => eI pg fX (aA 1 (aA 3 fS)) Q g w) (Br Q g w R hr h)) hr h)
def uG (kn : K2) (R : K1) (FX : Value) (w : World) : Prop :=
  cJ pg (D1 51 FX) w fun hB w =>
  cJ pg (eH 51 hB 0) w fun t6 w =>
  cJ pg (eF 3 t6) w fun t7 w =>
  cJ pg (dY .lss 3 (.tmp 7) (.const (.int .i64 5)) t7 (.int .i64 5)) w fun t8 w =>
  Gd (kE t8 false) (fun K => cJ pg (eH 51 hB 0) w K) w fun t10 w =>
  Gd (kE t8 false) (fun K => cJ pg (eF 3 t10) w K) w fun t11 w =>
  Gd (kE t8 false) (fun K => cJ pg (dY .gtr 3 (.tmp 11) (.const (.int .i64 15)) t11 (.int .i64 15)) w K) w fun t12 w =>
  cJ pg (kO t8 (.bool true) t12) w fun t13 w =>
  Gd (kE t13 false) (fun K => cJ pg (eH 51 hB 1) w K) w fun t15 w =>
  Gd (kE t13 false) (fun K => cJ pg (eF 30 t15) w K) w fun t16 w =>
  Gd (kE t13 false) (fun K => cJ pg (mM .len #[30] 3 [t16]) w K) w fun t17 w =>
  Gd (kE t13 false) (fun K => cJ pg (dY .lss 3 (.tmp 17) (.const (.int .i64 1)) t17 (.int .i64 1)) w K) w fun t18 w =>
  cJ pg (kO t13 (.bool true) t18) w fun t19 w =>
  Gd (kE t19 false) (fun K => cJ pg (eH 51 hB 1) w K) w fun t21 w =>
  Gd (kE t19 false) (fun K => cJ pg (eF 30 t21) w K) w fun t22 w =>
  Gd (kE t19 false) (fun K => cJ pg (mM .len #[30] 3 [t22]) w K) w fun t23 w =>
  Gd (kE t19 false) (fun K => cJ pg (dY .gtr 3 (.tmp 23) (.const (.int .i64 256)) t23 (.int .i64 256)) w K) w fun t24 w =>
  cJ pg (kO t19 (.bool true) t24) w fun t25 w =>
  Gd (kE t25 false) (fun K => cJ pg (eH 51 hB 1) w K) w fun t27 w =>
  Gd (kE t25 false) (fun K => cJ pg (eF 30 t27) w K) w fun t28 w =>
  Gd (kE t25 false) (fun K => cJ pg (eH 51 hB 1) w K) w fun t29 w =>
  Gd (kE t25 false) (fun K => cJ pg (eF 30 t29) w K) w fun t30 w =>
  Gd (kE t25 false) (fun K => cJ pg (mM .len #[30] 3 [t30]) w K) w fun t31 w =>
  Gd (kE t25 false) (fun K => cJ pg (dY .sub 3 (.tmp 31) (.const (.int .i64 1)) t31 (.int .i64 1)) w K) w fun t32 w =>
  Gd (kE t25 false) (fun K => cJ pg (iC 30 t28 t32) w K) w fun t33 w =>
  Gd (kE t25 false) (fun K => cJ pg (eF 3 t33) w K) w fun t34 w =>
  Gd (kE t25 false) (fun K => cJ pg (dY .eql 3 (.tmp 34) (.const (.int .i64 0)) t34 (.int .i64 0)) w K) w fun t35 w =>
  cJ pg (kO t25 (.bool true) t35) w fun t36 w =>
  mG t36
    (R (.bool false) w)
    (cJ pg (eH 51 hB 0) w fun t37 w =>
    cJ pg (eF 3 t37) w fun t38 w =>
    cJ pg (dY .shl 3 (.const (.int .i64 1)) (.tmp 38) (.int .i64 1) t38) w fun t39 w =>
    kn hB t39 w)
theorem BH (kn : K2) (R : K1) (hn : ∀ g w, kn (g 1) (g 3) w → Q .normal g w) (hr : HR iP R Q) (h : uG kn R (g 0) w) : eI pg fX (cP 3 fS) Q g w :=
  dX (l := []) (by kernel_rfl) h hn hr trivial
def uH (R : K1) (FX : Value) (w : World) : Prop :=
  uG (fun hB iG w => pS R hB iG w) R FX w
theorem BU (R : K1) (hr : HR iP R Q) (h : uH R (g 0) w) : eI pg fX fS Q g w :=
  eJ 3 _ g w (by kernel_rfl) (BH (fK (fun g w => eI pg fX (aA 3 fS) Q g w) Q) g w (fun hB iG w => pS R hB iG w) R (fun g w h => fF (K := fun g w => eI pg fX (aA 3 fS) Q g w) (Bh Q g w R hr h)) hr h)
def C1 (a0 : Value) (w : World) (R : K1) : Prop :=
  uH R a0 w
theorem Cs {a0 : Value} {w : World} {R : K1} (h : C1 a0 w R) : gH pg rC #[a0] w R := by
  refine fQ (ann := fX) (fn := Tryd.f37) (c := fS) (args := [a0]) (rs := iP) (N := 62) TrydM.mixed (by kernel_rfl) Tryd.func37 (by kernel_rfl) (by kernel_rfl) (by kernel_rfl) (of_decide_eq_true (by kernel_rfl)) (by kernel_rfl) ?_
  exact (BU (qD pg iP R) (kJ [a0]) w R (fun _ _ h => h) h)
def fL : FA := ⟨lF, fun i => .leaf ([], []) []⟩
def iU : List ResultVar := [.tmp 2]
noncomputable def fE : Code := jB Tryd.f49
def jF (R : K1) (yH sU : Value) (w : World) : Prop :=
  cJ pg (nB 83 5 yH) w fun t21 w =>
  cJ pg (GG 9 (.string ⟨#[0, 1, 2, 2, 3, 3, 3, 3, 4, 4, 4, 4, 4, 4, 4, 4, 5, 5, 5, 5, 5, 5, 5, 5, 5, 5, 5, 5, 5, 5, 5, 5, 6, 6, 6, 6, 6, 6, 6, 6, 6, 6, 6, 6, 6, 6, 6, 6, 6, 6, 6, 6, 6, 6, 6, 6, 6, 6, 6, 6, 6, 6, 6, 6, 7, 7, 7, 7, 7, 7, 7, 7, 7, 7, 7, 7, 7, 7, 7, 7, 7, 7, 7, 7, 7, 7, 7, 7, 7, 7, 7, 7, 7, 7, 7, 7, 7, 7, 7, 7, 7, 7, 7, 7, 7, 7, 7, 7, 7, 7, 7, 7, 7, 7, 7, 7, 7, 7, 7, 7, 7, 7, 7, 7, 7, 7, 7, 7, 8, 8, 8, 8, 8, 8, 8, 8, 8, 8, 8, 8, 8, 8, 8, 8, 8, 8, 8, 8, 8, 8, 8, 8, 8, 8, 8, 8, 8, 8, 8, 8, 8, 8, 8, 8, 8, 8, 8, 8, 8, 8, 8, 8, 8, 8, 8, 8, 8, 8, 8, 8, 8, 8, 8, 8, 8, 8, 8, 8, 8, 8, 8, 8, 8, 8, 8, 8, 8, 8, 8, 8, 8, 8, 8, 8, 8, 8, 8, 8, 8, 8, 8, 8, 8, 8, 8, 8, 8, 8, 8, 8, 8, 8, 8, 8, 8, 8, 8, 8, 8, 8, 8, 8, 8, 8, 8, 8, 8, 8, 8, 8, 8, 8, 8, 8, 8, 8, 8, 8, 8, 8, 8, 8, 8, 8, 8, 8]⟩) t21) w fun t22 w =>
  cJ pg (nB 5 3 t22) w fun t23 w =>
  cJ pg (dY .add 3 (.tmp 19) (.tmp 23) sU t23) w fun t24 w =>
  R t24 w
theorem wR (R : K1) (hr : HR iU R Q) (h : jF R (g 0) (g 2) w) : eI pg fL (aA 1 (aA 1 (aA 2 fE))) Q g w :=
  dX (kn := no) (l := []) (by kernel_rfl) h mH hr trivial
def mU (kn : K2) (yH sU : Value) (w : World) : Prop :=
  cJ pg (dY .geq 83 (.tmp 13) (.const (.int .u64 256)) yH (.int .u64 256)) w fun t14 w =>
  mG t14
    (cJ pg (dY .shr 83 (.tmp 15) (.const (.int .u64 8)) yH (.int .u64 8)) w fun t16 w =>
    cJ pg (dY .add 3 (.tmp 17) (.const (.int .i64 8)) sU (.int .i64 8)) w fun t18 w =>
    kn t16 t18 w)
    (kn yH sU w)
theorem wP (kn : K2) (hn : ∀ g w, kn (g 0) (g 2) w → Q .normal g w) (h : mU kn (g 0) (g 2) w) : eI pg fL (cP 1 (aA 1 (aA 2 fE))) Q g w :=
  dX (kr := no) (l := []) (by kernel_rfl) h hn mH trivial
def jD (R : K1) (yH sU : Value) (w : World) : Prop :=
  mU (fun yH sU w => jF R yH sU w) yH sU w
theorem wS (R : K1) (hr : HR iU R Q) (h : jD R (g 0) (g 2) w) : eI pg fL (aA 1 (aA 2 fE)) Q g w :=
  eJ 1 _ g w (by kernel_rfl) (wP (fK (fun g w => eI pg fL (aA 1 (aA 1 (aA 2 fE))) Q g w) Q) g w (fun yH sU w => jF R yH sU w) (fun g w h => fF (K := fun g w => eI pg fL (aA 1 (aA 1 (aA 2 fE))) Q g w) (wR Q g w R hr h)) h)
def mT (kn : K2) (yH sU : Value) (w : World) : Prop :=
  cJ pg (dY .geq 83 (.tmp 7) (.const (.int .u64 65536)) yH (.int .u64 65536)) w fun t8 w =>
  mG t8
    (cJ pg (dY .shr 83 (.tmp 9) (.const (.int .u64 16)) yH (.int .u64 16)) w fun t10 w =>
    cJ pg (dY .add 3 (.tmp 11) (.const (.int .i64 16)) sU (.int .i64 16)) w fun t12 w =>
    kn t10 t12 w)
    (kn yH sU w)
theorem wV (kn : K2) (hn : ∀ g w, kn (g 0) (g 2) w → Q .normal g w) (h : mT kn (g 0) (g 2) w) : eI pg fL (cP 1 (aA 2 fE)) Q g w :=
  dX (kr := no) (l := []) (by kernel_rfl) h hn mH trivial
def jH (R : K1) (yH sU : Value) (w : World) : Prop :=
  mT (fun yH sU w => jD R yH sU w) yH sU w
theorem wN (R : K1) (hr : HR iU R Q) (h : jH R (g 0) (g 2) w) : eI pg fL (aA 2 fE) Q g w :=
  eJ 1 _ g w (by kernel_rfl) (wV (fK (fun g w => eI pg fL (aA 1 (aA 2 fE)) Q g w) Q) g w (fun yH sU w => jD R yH sU w) (fun g w h => fF (K := fun g w => eI pg fL (aA 1 (aA 2 fE)) Q g w) (wS Q g w R hr h)) h)
def mS (kn : K2) (yH : Value) (w : World) : Prop :=
  cJ pg (dY .geq 83 (.tmp 3) (.const (.int .u64 4294967296)) yH (.int .u64 4294967296)) w fun t4 w =>
  mG t4
    (cJ pg (dY .shr 83 (.tmp 5) (.const (.int .u64 32)) yH (.int .u64 32)) w fun t6 w =>
    kn t6 (.int .i64 32) w)
    (kn yH (.int .i64 0) w)
theorem wQ (kn : K2) (hn : ∀ g w, kn (g 0) (g 2) w → Q .normal g w) (h : mS kn (g 0) w) : eI pg fL (cP 2 fE) Q g w :=
  dX (kr := no) (l := []) (by kernel_rfl) h hn mH trivial
def mV (R : K1) (yH : Value) (w : World) : Prop :=
  mS (fun yH sU w => jH R yH sU w) yH w
theorem wU (R : K1) (hr : HR iU R Q) (h : mV R (g 0) w) : eI pg fL fE Q g w :=
  eJ 2 _ g w (by kernel_rfl) (wQ (fK (fun g w => eI pg fL (aA 2 fE) Q g w) Q) g w (fun yH sU w => jH R yH sU w) (fun g w h => fF (K := fun g w => eI pg fL (aA 2 fE) Q g w) (wN Q g w R hr h)) h)
def wK (a0 : Value) (w : World) (R : K1) : Prop :=
  mV R a0 w
theorem xR {a0 : Value} {w : World} {R : K1} (h : wK a0 w R) : gH pg lF #[a0] w R := by
  refine fQ (ann := fL) (fn := Tryd.f49) (c := fE) (args := [a0]) (rs := iU) (N := 25) TrydM.mixed (by kernel_rfl) Tryd.func49 (by kernel_rfl) (by kernel_rfl) (by kernel_rfl) (of_decide_eq_true (by kernel_rfl)) (by kernel_rfl) ?_
  exact (wU (qD pg iU R) (kJ [a0]) w R (fun _ _ h => h) h)
def pA : FA := ⟨kI, fun i => .leaf ([], []) []⟩
def lV : List ResultVar := [.tmp 2]
noncomputable def nI : Code := jB Tryd.f50
def lZ (R : K1) (I0 : Value) (w : World) : Prop :=
  cJ pg (dY .eql 22 (.tmp 3) (.const (.slice none 0 0)) I0 (.slice none 0 0)) w fun t4 w =>
  mG t4
    (R (.slice none 0 0) w)
    (cJ pg (hZ 22 0 []) w fun t5 w =>
    cJ pg (mM .append #[22, 22] 22 [t5, I0]) w fun t7 w =>
    R t7 w)
theorem uS (R : K1) (hr : HR lV R Q) (h : lZ R (g 0) w) : eI pg pA nI Q g w :=
  dX (kn := no) (l := []) (by kernel_rfl) h mH hr trivial
def sV (a0 : Value) (w : World) (R : K1) : Prop :=
  lZ R a0 w
theorem vM {a0 : Value} {w : World} {R : K1} (h : sV a0 w R) : gH pg kI #[a0] w R := by
  refine fQ (ann := pA) (fn := Tryd.f50) (c := nI) (args := [a0]) (rs := lV) (N := 8) TrydM.mixed (by kernel_rfl) Tryd.func50 (by kernel_rfl) (by kernel_rfl) (by kernel_rfl) (of_decide_eq_true (by kernel_rfl)) (by kernel_rfl) ?_
  exact (uS (qD pg lV R) (kJ [a0]) w R (fun _ _ h => h) h)
end Go.Proofs.YtoepfjgekpdddaaDoor
namespace Go.En
open Go
section
variable {P : Program} {w : World} {t : TypeId} {ox oy : Operand} {k : IntKind} {a b : Int}
theorem kN (s : Sem Value) : (V s).run P w = (s.run P w).andThen fun v w => .ok (.value v) w := by
  unfold V; rw [Sem.run_bind] <;> rfl
theorem IY (s : Sem Unit) : (U s).run P w = (s.run P w).andThen fun _ w => .ok .skip w := by
  unfold U; rw [Sem.run_bind] <;> rfl
theorem fH : (dY .add t ox oy (.int k a) (.int k b)).run P w = .ok (.value (.int k (k.wrap (a + b)))) w := by
  simp [dY, tJ, kN, binOp, Op.intArith]
theorem fR : (dY .sub t ox oy (.int k a) (.int k b)).run P w = .ok (.value (.int k (k.wrap (a - b)))) w := by
  simp [dY, tJ, kN, binOp, Op.intArith]
theorem gQ : (dY .mul t ox oy (.int k a) (.int k b)).run P w = .ok (.value (.int k (k.wrap (a * b)))) w := by
  simp [dY, tJ, kN, binOp, Op.intArith]
theorem gN (h : b ≠ 0) : (dY .quo t ox oy (.int k a) (.int k b)).run P w = .ok (.value (.int k (k.wrap (a.tdiv b)))) w := by
  simp [dY, tJ, kN, binOp, Op.intDiv, h]
theorem gI (h : b ≠ 0) : (dY .rem t ox oy (.int k a) (.int k b)).run P w = .ok (.value (.int k (a.tmod b))) w := by
  simp [dY, tJ, kN, binOp, Op.intDiv, h]
def Hx (k : IntKind) (a b : Int) : Int := k.wrap (BitVec.ofInt k.bits a &&& BitVec.ofInt k.bits b).toNat
def IU (k : IntKind) (a b : Int) : Int := k.wrap (BitVec.ofInt k.bits a ||| BitVec.ofInt k.bits b).toNat
def HP (k : IntKind) (a b : Int) : Int := k.wrap (BitVec.ofInt k.bits a ^^^ BitVec.ofInt k.bits b).toNat
def FN (k : IntKind) (a b : Int) : Int := k.wrap (BitVec.ofInt k.bits a &&& ~~~BitVec.ofInt k.bits b).toNat
theorem gR : (dY .and t ox oy (.int k a) (.int k b)).run P w = .ok (.value (.int k (Hx k a b))) w := by
  simp [dY, tJ, kN, binOp, Op.intBits, Hx]
theorem iR : (dY .or t ox oy (.int k a) (.int k b)).run P w = .ok (.value (.int k (IU k a b))) w := by
  simp [dY, tJ, kN, binOp, Op.intBits, IU]
theorem gT : (dY .xor t ox oy (.int k a) (.int k b)).run P w = .ok (.value (.int k (HP k a b))) w := by
  simp [dY, tJ, kN, binOp, Op.intBits, HP]
theorem eC : (dY .andNot t ox oy (.int k a) (.int k b)).run P w = .ok (.value (.int k (FN k a b))) w := by
  simp [dY, tJ, kN, binOp, Op.intBits, FN]
theorem fZ {k' : IntKind} (h : 0 ≤ b) : (dY .shl t ox oy (.int k a) (.int k' b)).run P w = .ok (.value (.int k (k.wrap (a * 2 ^ (min b.toNat k.bits))))) w := by
  simp [dY, tJ, kN, binOp, Op.shift, Int.not_lt.2 h]
theorem fY {k' : IntKind} (h : 0 ≤ b) : (dY .shr t ox oy (.int k a) (.int k' b)).run P w = .ok (.value (.int k (a.fdiv (2 ^ (min b.toNat k.bits))))) w := by
  simp [dY, tJ, kN, binOp, Op.shift, Int.not_lt.2 h]
theorem gB : (dY .eql t ox oy (.int k a) (.int k b)).run P w = .ok (.value (.bool (a == b))) w := by
  simp [dY, tJ, kN, binOp, Op.intCmp, eqGuard]
theorem fP : (dY .neq t ox oy (.int k a) (.int k b)).run P w = .ok (.value (.bool (a != b))) w := by
  simp [dY, tJ, kN, binOp, Op.intCmp, eqGuard]
theorem fB : (dY .lss t ox oy (.int k a) (.int k b)).run P w = .ok (.value (.bool (decide (a < b)))) w := by
  simp [dY, tJ, kN, binOp, Op.intCmp]
theorem gU : (dY .leq t ox oy (.int k a) (.int k b)).run P w = .ok (.value (.bool (decide (a ≤ b)))) w := by
  simp [dY, tJ, kN, binOp, Op.intCmp]
theorem fM : (dY .gtr t ox oy (.int k a) (.int k b)).run P w = .ok (.value (.bool (decide (b < a)))) w := by
  simp [dY, tJ, kN, binOp, Op.intCmp]
theorem gG : (dY .geq t ox oy (.int k a) (.int k b)).run P w = .ok (.value (.bool (decide (b ≤ a)))) w := by
  simp [dY, tJ, kN, binOp, Op.intCmp]
theorem gS : (Hn .neg (.int k a)).run P w = .ok (.value (.int k (k.wrap (0 - a)))) w := by
  simp [Hn, kN, Op.unary, Op.intArith]
theorem gX : (Hn .xor (.int k a)).run P w = .ok (.value (.int k (HP k (if k.signed then -1 else k.max) a))) w := by
  simp [Hn, kN, Op.unary, Op.intBits, HP]
theorem gM (c : Bool) : (Hn .not (.bool c)).run P w = .ok (.value (.bool !c)) w := by
  simp [Hn, kN, Op.unary]
theorem eS (c : Bool) (x y : Value) : (kO (.bool c) x y).run P w = .ok (.value (if c then x else y)) w := by
  simp [kO, asBool]
theorem Dc {x y : Value} {r : Bool} (hg : eqGuard .eql t ox oy x y = pure ()) (hb : binOp .eql t x y = (do pure (.bool (← Op.equal t x y)))) (he : (Op.equal t x y).run P w = .ok r w) :
    (dY .eql t ox oy x y).run P w = .ok (.value (.bool r)) w := by
  unfold dY
  simp only [tJ, kN, hg, hb, pure_bind]
  rw [Sem.run_bind, he] <;> rfl
theorem F3 (n : Nat) (c d : Bool) (hu : P.underlying t = some .bool) : (Op.equalIn (n + 1) t (.bool c) (.bool d)).run P w = .ok (c == d) w := by
  simp only [Op.equalIn, underlying]
  simp [hu]
theorem Hv (c d : Bool) (hu : P.underlying t = some .bool) : (Op.equal t (.bool c) (.bool d)).run P w = .ok (c == d) w := F3 9999 c d hu
theorem Hd (c d : Bool) (hu : P.underlying t = some .bool) : (dY .eql t ox oy (.bool c) (.bool d)).run P w = .ok (.value (.bool (c == d))) w :=
  Dc rfl rfl (Hv c d hu)
theorem eM {n : Int} (h0 : -9223372036854775808 ≤ n) (h1 : n ≤ 9223372036854775807) : IntKind.i64.wrap n = n := by
  unfold IntKind.wrap; simp [IntKind.bits, IntKind.signed]; split <;> omega
theorem gE {n : Int} (h0 : 0 ≤ n) (h1 : n ≤ 18446744073709551615) : IntKind.u64.wrap n = n := by
  unfold IntKind.wrap; simp [IntKind.bits, IntKind.signed]; omega
theorem gY {n : Int} (h0 : -2147483648 ≤ n) (h1 : n ≤ 2147483647) : IntKind.i32.wrap n = n := by
  unfold IntKind.wrap; simp [IntKind.bits, IntKind.signed]; split <;> omega
theorem gV {n : Int} (h0 : 0 ≤ n) (h1 : n ≤ 4294967295) : IntKind.u32.wrap n = n := by
  unfold IntKind.wrap; simp [IntKind.bits, IntKind.signed]; omega
theorem gW {n : Int} (h0 : 0 ≤ n) (h1 : n ≤ 65535) : IntKind.u16.wrap n = n := by
  unfold IntKind.wrap; simp [IntKind.bits, IntKind.signed]; omega
theorem iO {n : Int} (h0 : 0 ≤ n) (h1 : n ≤ 255) : IntKind.u8.wrap n = n := by
  unfold IntKind.wrap; simp [IntKind.bits, IntKind.signed]; omega
theorem GD (n : Nat) {e : TypeId} (hu : P.underlying t = some (.pointer e)) (x : Option Addr) : (Op.equalIn (n + 1) t (.pointer x) (.pointer none)).run P w = .ok x.isNone w := by
  simp only [Op.equalIn, underlying]
  cases x <;> simp [hu]
theorem Ic {e : TypeId} (hu : P.underlying t = some (.pointer e)) (x : Option Addr) : (Op.equal t (.pointer x) (.pointer none)).run P w = .ok x.isNone w := GD 9999 hu x
theorem HC (m : Nat) {e : TypeId} (hu : P.underlying t = some (.slice e)) (x : Option Addr) (n c : Nat) : (Op.equalIn (m + 1) t (.slice x n c) (.slice none 0 0)).run P w = .ok x.isNone w := by
  simp only [Op.equalIn, underlying]
  cases x <;> simp [hu]
theorem IA {e : TypeId} (hu : P.underlying t = some (.slice e)) (x : Option Addr) (n c : Nat) : (Op.equal t (.slice x n c) (.slice none 0 0)).run P w = .ok x.isNone w := HC 9999 hu x n c
theorem GH {e : TypeId} (hu : P.underlying t = some (.pointer e)) (x : Option Addr) : (dY .eql t ox oy (.pointer x) (.pointer none)).run P w = .ok (.value (.bool x.isNone)) w :=
  Dc rfl rfl (Ic hu x)
theorem HM {e : TypeId} (hu : P.underlying t = some (.slice e)) (x : Option Addr) (n c : Nat) : (dY .eql t ox oy (.slice x n c) (.slice none 0 0)).run P w = .ok (.value (.bool x.isNone)) w :=
  Dc rfl rfl (IA hu x n c)
theorem tK {s : TypeId} {d : TypeDesc} {kd : IntKind} (hs : P.underlying s = some d) (hu : P.underlying t = some (.int kd)) : (nB s t (.int k a)).run P w = .ok (.value (.int kd (kd.wrap a))) w := by
  cases d <;> simp [nB, kN, convert, underlying, hs, hu, Conv.intToInt]
theorem BS {ty : TypeId} {e : TypeId} (hu : P.underlying t = some (.slice e)) (x : Option Addr) (n c : Nat) : (mM .len #[t] ty [.slice x n c]).run P w = .ok (.value (.int .i64 n)) w := by
  simp [mM, builtin, Builtin.len_, underlying, hu, goInt]
theorem Ig {ty : TypeId} (hu : P.underlying t = some .string) (x : ByteArray) : (mM .len #[t] ty [.string x]).run P w = .ok (.value (.int .i64 x.size)) w := by
  simp [mM, builtin, Builtin.len_, underlying, hu, goInt]
theorem gZ {ats : Array TypeId} {ty : TypeId} : (mM .min ats ty [.int k a, .int k b]).run P w = .ok (.value (.int k (if b < a then b else a))) w := by
  simp [mM, builtin, Builtin.min_, Builtin.min2]
theorem gP {ats : Array TypeId} {ty : TypeId} : (mM .max ats ty [.int k a, .int k b]).run P w = .ok (.value (.int k (if b > a then b else a))) w := by
  simp [mM, builtin, Builtin.max_, Builtin.max2]
theorem lG (a b : Value) : (iB (.tuple #[a, b]) 0).run P w = .ok (.value a) w := Eq.trans rfl rfl
theorem lH (a b : Value) : (iB (.tuple #[a, b]) 1).run P w = .ok (.value b) w := Eq.trans rfl rfl
theorem oZ (a b c : Value) : (iB (.tuple #[a, b, c]) 0).run P w = .ok (.value a) w := Eq.trans rfl rfl
theorem oR (a b c : Value) : (iB (.tuple #[a, b, c]) 1).run P w = .ok (.value b) w := Eq.trans rfl rfl
theorem oY (a b c : Value) : (iB (.tuple #[a, b, c]) 2).run P w = .ok (.value c) w := Eq.trans rfl rfl
theorem oX (a b c d : Value) : (iB (.tuple #[a, b, c, d]) 0).run P w = .ok (.value a) w := Eq.trans rfl rfl
theorem oU (a b c d : Value) : (iB (.tuple #[a, b, c, d]) 1).run P w = .ok (.value b) w := Eq.trans rfl rfl
theorem oT (a b c d : Value) : (iB (.tuple #[a, b, c, d]) 2).run P w = .ok (.value c) w := Eq.trans rfl rfl
theorem oS (a b c d : Value) : (iB (.tuple #[a, b, c, d]) 3).run P w = .ok (.value d) w := Eq.trans rfl rfl
theorem gF (x : Addr) : (BI (.pointer (some x))).run P w = .ok (.value (.pointer (some x))) w := Eq.trans rfl rfl
theorem iX {fs : Array Field} {f : Field} {i : Nat} {inf : TypeInfo} (hu : P.underlying t = some (.struct fs)) (hf : fs[i]? = some f)
    (hi : P.info? f.type = some inf) (hz : inf.size ≠ 0) (x : Addr) : (eH t (.pointer (some x)) i).run P w = .ok (.value (.pointer (some (x.add f.offset)))) w := by
  simp [eH, kN, Instr.fieldAt, underlying, hu, hf, Instr.sureAddr, fieldPlace, sizeOf, typeInfo, hi, hz]
theorem El {e : TypeId} {inf : TypeInfo} (hu : P.underlying t = some (.slice e)) (hi : P.info? e = some inf) (x : Addr) (n c : Nat) (h0 : 0 ≤ a) (h1 : a < n) :
    (iC t (.slice (some x) n c) (.int k a)).run P w = .ok (.value (.pointer (some (x.add (a.toNat * inf.size))))) w := by
  simp [iC, kN, Instr.indexAt, asIntOf, underlying, hu, h0, h1, sizeOf, typeInfo, hi]
theorem Gy {e : TypeId} {len : Nat} {inf : TypeInfo} (hu : P.underlying t = some (.array len e)) (hi : P.info? e = some inf) (x : Addr) (h0 : 0 ≤ a) (h1 : a < len) :
    (iC t (.pointer (some x)) (.int k a)).run P w = .ok (.value (.pointer (some (x.add (a.toNat * inf.size))))) w := by
  simp [iC, kN, Instr.indexAt, asIntOf, underlying, hu, h0, h1, sizeOf, typeInfo, hi, Instr.sureAddr]
theorem H4 (hu : P.underlying t = some .string) (x : ByteArray) (h0 : 0 ≤ a) (h1 : a.toNat < x.size) :
    (GG t (.string x) (.int k a)).run P w = .ok (.value (.int .u8 (x[a.toNat]'h1).toNat)) w := by
  simp [GG, kN, Instr.index, asIntOf, underlying, hu, h0, h1]
end
end Go.En
namespace Go.En
open Go
def iE (w : World) (b : Nat) (cs : List Value) : Prop :=
  ∃ T lo hi, w.heap[b]? = some (.cells cs.toArray T (lo, hi)) ∧ (cs.length ≤ lo ∨ hi = lo)
structure gA (w w' : World) (M : Nat → Prop) : Prop where
  os : w'.os = w.os
  tape : w'.tape = w.tape
  output : w'.output = w.output
  size : w.heap.size ≤ w'.heap.size
  keep : ∀ b, b < w.heap.size → ¬ M b → w'.heap[b]? = w.heap[b]?
def jQ : Nat → Prop := fun _ => False
theorem gA.refl (w : World) (M : Nat → Prop) : gA w w M := ⟨rfl, rfl, rfl, Nat.le_refl _, fun _ _ _ => rfl⟩
theorem gA.mono {w w' : World} {M N : Nat → Prop} (h : gA w w' M) (hm : ∀ b, b < w.heap.size → M b → N b) : gA w w' N :=
  ⟨h.os, h.tape, h.output, h.size, fun b hb hn => h.keep b hb fun hM => hn (hm b hb hM)⟩
theorem gA.trans {a b c : World} {M N : Nat → Prop} (h : gA a b M) (k : gA b c N) (hn : ∀ x, x < a.heap.size → N x → M x) : gA a c M :=
  ⟨k.os.trans h.os, k.tape.trans h.tape, k.output.trans h.output, Nat.le_trans h.size k.size,
    fun x hx hM => (k.keep x (Nat.lt_of_lt_of_le hx h.size) fun h => hM (hn x hx h)).trans (h.keep x hx hM)⟩
theorem gA.seq {a b c : World} {M : Nat → Prop} (h : gA a b M) (k : gA b c M) : gA a c M := h.trans k fun _ _ h => h
theorem gA.new {a b c : World} {M : Nat → Prop} {x : Nat} (h : gA a b M) (k : gA b c (fun y => y = x)) (hx : a.heap.size ≤ x) : gA a c M :=
  h.trans k fun y hy e => absurd hy (by subst e; omega)
theorem gA.below {w w' : World} (h : gA w w' jQ) : Go.RowKit.Below w.heap.size w w' :=
  ⟨h.os, h.tape, h.output, h.size, fun k hk => h.keep k hk fun h => h⟩
theorem gA.dr (w : World) (M : Nat → Prop) : gA w (dr w) M := ⟨rfl, rfl, rfl, Nat.le_refl _, fun _ _ _ => rfl⟩
theorem gA.alloc (w : World) (o : Obj) (M : Nat → Prop) : gA w (w.alloc o) M :=
  ⟨rfl, rfl, rfl, by simp, fun b hb _ => by show (w.heap.push o)[b]? = _; rw [Array.getElem?_push, if_neg (by omega)]⟩
theorem CJ (w : World) (a : Addr) (v : Value) (b : Nat) (h : b ≠ a.block) : (w.setCell a v).heap[b]? = w.heap[b]? := Go.RowKit.Below.heap_setCell w a v b h
theorem gA.setCell (w : World) (a : Addr) (v : Value) {M : Nat → Prop} (h : a.block < w.heap.size → M a.block) : gA w (w.setCell a v) M :=
  ⟨rfl, rfl, rfl, by simp, fun b hb hM => CJ w a v b fun e => hM (e ▸ h (e ▸ hb))⟩
theorem iE.lt {w : World} {b : Nat} {cs : List Value} (h : iE w b cs) : b < w.heap.size := by
  obtain ⟨T, lo, hi, h, _⟩ := h
  rcases Nat.lt_or_ge b w.heap.size with h' | h'
  · exact h'
  · rw [Array.getElem?_eq_none h'] at h; cases h
theorem iE.ext {w w' : World} {b : Nat} {cs : List Value} {M : Nat → Prop} (h : iE w b cs) (hx : gA w w' M) (hM : ¬ M b) : iE w' b cs := by
  have := h.lt
  obtain ⟨T, lo, hi, h, k⟩ := h
  exact ⟨T, lo, hi, by rw [hx.keep b this hM]; exact h, k⟩
theorem iE.cell {w : World} {b off : Nat} {cs : List Value} (h : iE w b cs) : w.cell? ⟨b, off, none⟩ = cs[off]? := by
  obtain ⟨T, lo, hi, h, _⟩ := h
  simp [World.cell?, h]
theorem iE.free {w : World} {b off : Nat} {cs : List Value} {s : Option Nat} (h : iE w b cs) (ho : off < cs.length) : w.frozen? ⟨b, off, s⟩ = false := by
  obtain ⟨T, lo, hi, h, k⟩ := h
  simp only [World.frozen?, h]
  rcases k with k | k <;> (simp; omega)
theorem iE.setCell {w : World} {b off : Nat} {cs : List Value} (h : iE w b cs) (v : Value) : iE (w.setCell ⟨b, off, none⟩ v) b (cs.set off v) := by
  have hb := h.lt
  obtain ⟨T, lo, hi, h, k⟩ := h
  refine ⟨T, lo, hi, ?_, by simpa using k⟩
  simp only [World.setCell, Array.getElem?_modify, h]
  simp
theorem iE.alloc (w : World) (cs : List Value) (T : TypeId) : iE (w.alloc (.cells cs.toArray T)) w.heap.size cs :=
  ⟨T, 0, 0, by show (w.heap.push _)[w.heap.size]? = _; simp, .inr rfl⟩
theorem G5 {w w' : World} {M : Nat → Prop} {a : Addr} {v : Value} (h : w.cell? a = some v) (hx : gA w w' M) (hM : ¬ M a.block) : w'.cell? a = some v := by
  have hb := World.block_lt_of_cell? w a h
  have e := hx.keep _ hb hM
  unfold World.cell? at h ⊢
  rw [e]; exact h
section
variable {P : Program} {w : World} {t : TypeId}
def F9 (d : TypeDesc) : Bool := match d with | .struct _ | .array _ _ => true | _ => false
theorem yA {d : TypeDesc} (hu : P.underlying t = some d) : (isAgg t).run P w = .ok (F9 d) w := by
  cases d <;> simp [isAgg, underlying, hu, F9]
theorem gO {i : TypeInfo} (hi : P.info? t = some i) : (sizeOf t).run P w = .ok i.size w := by simp [sizeOf, typeInfo, hi]
theorem AB {b off : Nat} {cs : List Value} (ho : iE w b cs) : ∀ (n i : Nat) (acc : Array Value), off + i + n ≤ cs.length →
    (loadCellsFrom ⟨b, off, none⟩ i n acc).run P w = .ok (acc ++ ((cs.drop (off + i)).take n).toArray) w := by
  intro n
  induction n with
  | zero => intro i acc _; simp [loadCellsFrom]
  | succ n ih =>
    intro i acc h
    have hc : w.cell? ((⟨b, off, none⟩ : Addr).add i) = some cs[off + i] := by
      unfold Addr.add
      split
      · rename_i hi; subst hi; rw [ho.cell]; simp
      · show w.cell? ⟨b, off + i, none⟩ = _; rw [ho.cell]; simp
    simp only [loadCellsFrom, Sem.run_bind, run_load, hc, Result.andThen_ok]
    rw [ih (i + 1) _ (by omega)]
    congr 1
    rw [List.drop_eq_getElem_cons (by omega : off + i < cs.length)]
    simp [Nat.add_assoc]
theorem yU {b off n : Nat} {cs : List Value} (ho : iE w b cs) (h : off + n ≤ cs.length) :
    (loadCells ⟨b, off, none⟩ n).run P w = .ok ((cs.drop off).take n).toArray w := by
  unfold loadCells
  rw [AB ho n 0 #[] (by omega)]
  simp
theorem DS {d : TypeDesc} {i : TypeInfo} (hu : P.underlying t = some d) (hd : F9 d = true) (hi : P.info? t = some i) {b off : Nat} {cs : List Value} (ho : iE w b cs) (h : off + i.size ≤ cs.length) :
    (eF t (.pointer (some ⟨b, off, none⟩))).run P w = .ok (.value (.agg ((cs.drop off).take i.size).toArray)) w := by
  unfold eF
  rw [kN]
  simp only [Instr.loadAt, Instr.sureAddr, loadVar, pure_bind, Sem.run_bind, yA hu, hd, Result.andThen_ok, if_true, gO hi, yU ho h, Sem.run_pure]
def one (v : Value) : Bool := match v with | .agg _ | .tuple _ => false | _ => true
theorem Fn {a : Addr} {v x : Value} (hv : one v = true) (hc : w.cell? a = some x) (hf : w.frozen? a = false) : (store a v).run P w = .ok () (w.setCell a v) := by
  unfold store
  cases v <;> simp [one] at hv <;> simp [Sem.run, hc, hf]
def gC (cs : List Value) (off : Nat) : List Value → List Value
  | [] => cs
  | v :: vs => gC (cs.set off v) (off + 1) vs
theorem rK {b : Nat} {M : Nat → Prop} (hM : M b) : ∀ (vs : List Value) (w : World) (off i : Nat) (cs : List Value), iE w b cs → off + i + vs.length ≤ cs.length → (∀ v ∈ vs, one v = true) →
    ∃ w', (storeCells ⟨b, off, none⟩ vs i).run P w = .ok () w' ∧ iE w' b (gC cs (off + i) vs) ∧ gA w w' M ∧ w'.heap.size = w.heap.size ∧ w'.drawn = w.drawn := by
  intro vs
  induction vs with
  | nil => intro w off i cs ho _ _; exact ⟨w, by simp [storeCells], ho, gA.refl _ _, rfl, rfl⟩
  | cons v vs ih =>
    intro w off i cs ho h hv
    simp only [List.length_cons] at h
    have ha : (⟨b, off, none⟩ : Addr).add i = ⟨b, off + i, none⟩ := by
      unfold Addr.add; split
      · rename_i hi; subst hi; rfl
      · rfl
    have hlt : off + i < cs.length := by omega
    have hc : w.cell? ⟨b, off + i, none⟩ = some cs[off + i] := by rw [ho.cell]; simp
    have hs := Fn (P := P) (hv v (by simp)) hc (ho.free hlt)
    obtain ⟨w', h1, h2, h3, h4, h5⟩ := ih (w.setCell ⟨b, off + i, none⟩ v) off (i + 1) (cs.set (off + i) v) (ho.setCell v) (by simp; omega) (fun x hx => hv x (List.mem_cons_of_mem _ hx))
    refine ⟨w', ?_, h2, (gA.setCell w _ v fun _ => hM).trans h3 (fun _ _ h => h), by rw [h4]; simp, by rw [h5] <;> rfl⟩
    simp only [storeCells, Sem.run_bind, ha, hs, Result.andThen_ok]
    exact h1
theorem mZ {i : TypeInfo} (hi : P.info? t = some i) {b off : Nat} {cs : List Value} (ho : iE w b cs) {v : Value} (hs : v.cells.size = i.size)
    (hv : ∀ x ∈ v.cells.toList, one x = true) (h : off + i.size ≤ cs.length) {K : Value → World → Prop}
    (hk : ∀ w', iE w' b (gC cs off v.cells.toList) → gA w w' (fun x => x = b) → w'.heap.size = w.heap.size → K undef w') : cJ P (fC t (.pointer (some ⟨b, off, none⟩)) v) w K := by
  obtain ⟨w', h1, h2, h3, h4, _⟩ := rK (P := P) (M := fun x => x = b) rfl v.cells.toList w off 0 cs ho (by simp [hs]; omega) hv
  have : (fC t (.pointer (some ⟨b, off, none⟩)) v).run P w = .ok .skip w' := by
    unfold fC
    rw [IY]
    simp only [Instr.storeAt, Instr.sureAddr, storeVar, pure_bind, Sem.run_bind, gO hi, Result.andThen_ok, hs]
    simp [h1]
  unfold cJ
  rw [this]
  exact hk w' h2 h3 h4
theorem DJ {v : Value} (hv : one v = true) : v.cells = #[v] := by cases v <;> simp [one] at hv <;> rfl
theorem yV {i : TypeInfo} (hi : P.info? t = some i) (h1 : i.size = 1) {b off : Nat} {cs : List Value} (ho : iE w b cs) {v : Value} (hv : one v = true) (h : off < cs.length) {K : Value → World → Prop}
    (hk : ∀ w', iE w' b (cs.set off v) → gA w w' (fun x => x = b) → w'.heap.size = w.heap.size → K undef w') : cJ P (fC t (.pointer (some ⟨b, off, none⟩)) v) w K := by
  have e := DJ hv
  refine mZ hi ho (by rw [e, h1] <;> rfl) (by rw [e]; simpa using hv) (by omega) fun w' a b c => hk w' ?_ b c
  rw [e] at a; exact a
def Gw (c : Option Value) (w : World) (Gv : Result Next) : Result Next := match c with | some v => .ok (.value v) w | none => Gv
def Gv (P : Program) (t : TypeId) (x : Addr) (w : World) : Result Next := (eF t (.pointer (some x))).run P w
theorem cW (v : Value) (w : World) (f : Result Next) : Gw (some v) w f = .ok (.value v) w := rfl
theorem D3 {d : TypeDesc} (hu : P.underlying t = some d) (hd : F9 d = false) (x : Addr) (w : World) :
    (eF t (.pointer (some x))).run P w = Gw (w.cell? x) w (Gv P t x w) := by
  cases h : w.cell? x with
  | none => rfl
  | some v =>
    unfold eF
    rw [kN]
    simp only [Instr.loadAt, Instr.sureAddr, loadVar, pure_bind, Sem.run_bind, yA hu, hd, Result.andThen_ok, Bool.false_eq_true, if_false, run_load, h, Gw]
theorem FJ {d : TypeDesc} {i : TypeInfo} (hu : P.underlying t = some d) (hd : F9 d = true) (hi : P.info? t = some i) {b off : Nat} {cs : List Value} (ho : iE w b cs) (h : off + i.size ≤ cs.length) {K : Value → Prop}
    (hk : K (.agg ((cs.drop off).take i.size).toArray)) : zN P t (.pointer (some ⟨b, off, none⟩)) w K := by
  refine ⟨_, ?_, hk⟩
  simp only [asAddr, loadVar, pure_bind, Sem.run_bind, yA hu, hd, Result.andThen_ok, if_true, gO hi, yU ho h, Sem.run_pure]
theorem wC {v : Value} {K : Value → World → Prop} (hk : ∀ w', iE w' w.heap.size v.cells.toList → gA w w' jQ → w'.heap.size = w.heap.size + 1 → K (.pointer (some ⟨w.heap.size, 0, none⟩)) w') :
    cJ P (D1 t v) w K := by
  have : (D1 t v).run P w = .ok (.value (.pointer (some ⟨w.heap.size, 0, none⟩))) (w.alloc (.cells v.cells.toList.toArray t)) := by
    unfold D1; rw [kN]
    simp [Instr.box, newVar, newRow]
  unfold cJ
  rw [this]
  exact hk _ (iE.alloc _ _ _) (gA.alloc _ _ _) (by simp)
theorem pG {i : TypeInfo} {z : Value} (hi : P.info? t = some i) (hz : i.zero = some z) {K : Value → World → Prop}
    (hk : ∀ w', iE w' w.heap.size z.cells.toList → gA w w' jQ → w'.heap.size = w.heap.size + 1 → K (.pointer (some ⟨w.heap.size, 0, none⟩)) w') :
    cJ P (iF t) w K := by
  have : (iF t).run P w = .ok (.value (.pointer (some ⟨w.heap.size, 0, none⟩))) (w.alloc (.cells z.cells.toList.toArray t)) := by
    unfold iF; rw [kN]
    simp [Instr.alloc, zeroValue, typeInfo, hi, hz, newVar, newRow]
  unfold cJ
  rw [this]
  exact hk _ (iE.alloc _ _ _) (gA.alloc _ _ _) (by simp)
end
theorem yB {P : Program} {w : World} {k : IntKind} {a : Int} {y : Nat} {code : BoundsCode} (h0 : 0 ≤ a) (h1 : a ≤ y) : (Instr.sliceBound (.int k a) y code).run P w = .ok a.toNat w := by
  simp [Instr.sliceBound, asIntOf, h0, h1]
section
variable {P : Program} {w : World} {t e : TypeId} {k k' : IntKind} {lo hi : Int} {i : TypeInfo}
def pH (x : Option Addr) (m l sz : Nat) : Option Addr := if m = l then x else x.map (·.add (l * sz))
theorem Fe (hu : P.underlying t = some (.slice e)) (hi' : P.info? e = some i) (x : Option Addr) (n c : Nat) (h0 : 0 ≤ hi) (h1 : hi ≤ c) :
    (kA t (.slice x n c) none (some (.int k hi)) none).run P w = .ok (.value (.slice (pH x c 0 i.size) (hi.toNat - 0) (c - 0))) w := by
  simp only [kA, kN, Instr.sliceAt, underlying, hu, Sem.run_bind, run_program, Result.andThen_ok, Sem.run_pure, Instr.slice, Instr.sliceBounds, pure_bind, yB h0 h1, gO hi', pH]
theorem D0 (hu : P.underlying t = some (.slice e)) (hi' : P.info? e = some i) (x : Option Addr) (n c : Nat) (h0 : 0 ≤ lo) (h1 : lo ≤ hi) (h2 : hi ≤ c) :
    (kA t (.slice x n c) (some (.int k lo)) (some (.int k' hi)) none).run P w = .ok (.value (.slice (pH x c lo.toNat i.size) (hi.toNat - lo.toNat) (c - lo.toNat))) w := by
  have h3 : (0 : Int) ≤ hi := by omega
  have h4 : lo ≤ (hi.toNat : Int) := by omega
  simp only [kA, kN, Instr.sliceAt, underlying, hu, Sem.run_bind, run_program, Result.andThen_ok, Sem.run_pure, Instr.slice, Instr.sliceBounds, pure_bind, yB h3 h2, yB h0 h4, gO hi', pH]
def lC (a : Addr) (m l sz : Nat) : Addr := if m = l then a else a.add (l * sz)
theorem Ez {n : Nat} (hu : P.underlying t = some (.array n e)) (hi' : P.info? e = some i) (x : Addr) (h0 : 0 ≤ hi) (h1 : hi ≤ n) :
    (kA t (.pointer (some x)) none (some (.int k hi)) none).run P w = .ok (.value (.slice (some (lC x n 0 i.size)) (hi.toNat - 0) (n - 0))) w := by
  simp only [kA, kN, Instr.sliceAt, Instr.sureAddr, underlying, hu, Sem.run_bind, run_program, Result.andThen_ok, Sem.run_pure, Instr.sliceBounds, pure_bind, yB h0 h1, gO hi', lC]
theorem nN {n : Nat} (hu : P.underlying t = some (.array n e)) (hi' : P.info? e = some i) (x : Addr) :
    (kA t (.pointer (some x)) none none none).run P w = .ok (.value (.slice (some (lC x n 0 i.size)) (n - 0) (n - 0))) w := by
  simp only [kA, kN, Instr.sliceAt, Instr.sureAddr, underlying, hu, Sem.run_bind, run_program, Result.andThen_ok, Sem.run_pure, Instr.sliceBounds, pure_bind, gO hi', lC]
end
def Sl (w : World) (v : Value) (l : List Value) : Prop :=
  ∃ a n c, v = .slice a n c ∧ n = l.length ∧ n ≤ c ∧ (0 < n → ∃ b off, a = some ⟨b, off, none⟩ ∧ ∀ i, i < n → w.cell? ⟨b, off + i, none⟩ = l[i]?)
def Hh (v : Value) (M : Nat → Prop) : Prop := match v with | .slice (some a) (_ + 1) _ => M a.block | _ => False
theorem Sl.ext {w w' : World} {v : Value} {l : List Value} {M : Nat → Prop} (h : Sl w v l) (hx : gA w w' M) (hM : ¬ Hh v M) : Sl w' v l := by
  obtain ⟨a, n, c, rfl, hn, hc, h⟩ := h
  refine ⟨a, n, c, rfl, hn, hc, fun h0 => ?_⟩
  obtain ⟨b, off, rfl, h2⟩ := h h0
  refine ⟨b, off, rfl, fun i hi => ?_⟩
  have h1 := h2 i hi
  obtain ⟨v, hv⟩ : ∃ v, l[i]? = some v := ⟨l[i], by simp⟩
  rw [hv] at h1 ⊢
  refine G5 h1 hx ?_
  obtain ⟨m, rfl⟩ : ∃ m, n = m + 1 := ⟨n - 1, by omega⟩
  exact hM
theorem Sl.old {w : World} {v : Value} {l : List Value} (h : Sl w v l) : ¬ Hh v (fun b => w.heap.size ≤ b) := by
  obtain ⟨a, n, c, rfl, hn, hc, h⟩ := h
  unfold Hh
  split
  · rename_i x m _ e
    obtain ⟨rfl, rfl, rfl⟩ : a = some x ∧ n = m + 1 ∧ c = _ := by simpa using e
    obtain ⟨b, off, e, h2⟩ := h (by omega)
    have e := Option.some.inj e; subst e
    have h1 := h2 0 (by omega)
    obtain ⟨v, hv⟩ : ∃ v, l[0]? = some v := ⟨l[0], by simp⟩
    rw [hv] at h1
    have := World.block_lt_of_cell? _ _ h1
    simp at this ⊢; omega
  · simp
def Hm (x : UInt8) : Value := .int .u8 x.toNat
abbrev Bs (w : World) (v : Value) (l : List UInt8) : Prop := Sl w v (l.map Hm)
end Go.En
namespace Go.En
open Go
theorem tV (b o n : Nat) : (⟨b, o, none⟩ : Addr).add n = ⟨b, o + n, none⟩ := by
  unfold Addr.add; split
  · rename_i h; subst h; rfl
  · rfl
section
variable {P : Program} {w : World} {t e : TypeId} {k : IntKind} {a : Int}
theorem DD {inf : TypeInfo} {sz : Nat} (hz : inf.size = sz) (hu : P.underlying t = some (.slice e)) (hi : P.info? e = some inf) (b o n c : Nat) (h0 : 0 ≤ a) (h1 : a < n) :
    (iC t (.slice (some ⟨b, o, none⟩) n c) (.int k a)).run P w = .ok (.value (.pointer (some ⟨b, o + a.toNat * sz, none⟩))) w := by
  rw [El hu hi _ n c h0 h1, tV, hz]
theorem yK {inf : TypeInfo} (hz : inf.size = 1) (hu : P.underlying t = some (.slice e)) (hi : P.info? e = some inf) (b o n c : Nat) (h0 : 0 ≤ a) (h1 : a < n) :
    (iC t (.slice (some ⟨b, o, none⟩) n c) (.int k a)).run P w = .ok (.value (.pointer (some ⟨b, o + a.toNat, none⟩))) w := by
  rw [El hu hi _ n c h0 h1, tV, hz, Nat.mul_one]
theorem Dx {inf : TypeInfo} {len : Nat} (hz : inf.size = 1) (hu : P.underlying t = some (.array len e)) (hi : P.info? e = some inf) (b o : Nat) (h0 : 0 ≤ a) (h1 : a < (len : Int)) :
    (iC t (.pointer (some ⟨b, o, none⟩)) (.int k a)).run P w = .ok (.value (.pointer (some ⟨b, o + a.toNat, none⟩))) w := by
  rw [Gy hu hi _ h0 h1, tV, hz, Nat.mul_one]
end
section
variable {P : Program} {w : World} {s d e : TypeId}
end
end Go.En
namespace Go.En
open Go
theorem H8 (l : List UInt8) : ∀ x ∈ l.map Hm, one x = true := by
  intro x hx
  obtain ⟨c, _, rfl⟩ := List.mem_map.1 hx
  rfl
theorem FS {b o m l sz : Nat} (h : l ≠ m) : lC ⟨b, o, none⟩ m l sz = ⟨b, o + l * sz, none⟩ := by
  unfold lC; rw [if_neg (fun e => h e.symm), tV]
theorem sQ {b o m l : Nat} (h : l ≠ m) : lC ⟨b, o, none⟩ m l 1 = ⟨b, o + l, none⟩ := by rw [FS h, Nat.mul_one]
theorem Sl.drop {w : World} {b o n c : Nat} {l : List Value} (h : Sl w (.slice (some ⟨b, o, none⟩) n c) l) {k : Nat} (hk : k ≤ n) :
    Sl w (.slice (pH (some ⟨b, o, none⟩) c k 1) (n - k) (c - k)) (l.drop k) := by
  obtain ⟨x, m, c', e, hm, hc, hh⟩ := h
  cases e
  refine ⟨_, _, _, rfl, by rw [List.length_drop]; omega, by omega, fun h0 => ?_⟩
  obtain ⟨b', o', e, h2⟩ := hh (by omega)
  cases e
  have hne : ¬ c = k := by omega
  refine ⟨b, o + k, by unfold pH; rw [if_neg hne, Option.map_some, tV, Nat.mul_one], fun i hi => ?_⟩
  rw [Nat.add_assoc, h2 (k + i) (by omega), List.getElem?_drop]
theorem Sl.take {w : World} {b o n c : Nat} {l : List Value} (h : Sl w (.slice (some ⟨b, o, none⟩) n c) l) {k : Nat} (hk : k ≤ n) :
    Sl w (.slice (pH (some ⟨b, o, none⟩) c 0 1) (k - 0) (c - 0)) (l.take k) := by
  obtain ⟨x, m, c', e, hm, hc, hh⟩ := h
  cases e
  refine ⟨_, _, _, rfl, by rw [List.length_take]; omega, by omega, fun h0 => ?_⟩
  obtain ⟨b', o', e, h2⟩ := hh (by omega)
  cases e
  have hne : ¬ c = 0 := by omega
  refine ⟨b, o, by unfold pH; rw [if_neg hne, Option.map_some, tV] <;> rfl, fun i hi => ?_⟩
  rw [h2 i (by omega), List.getElem?_take_of_lt (by omega)]
theorem iE.bs {w : World} {b off c : Nat} {cs : List Value} {l : List UInt8} (h : iE w b cs) (hc : l.length ≤ c) (hl : ∀ i (hi : i < l.length), cs[off + i]? = some (Hm l[i])) : Bs w (.slice (some ⟨b, off, none⟩) l.length c) l :=
  ⟨_, _, _, rfl, by simp, hc, fun _ => ⟨b, off, rfl, fun i hi => by rw [h.cell, hl i hi]; simp [hi]⟩⟩
section
variable {P : Program} {w : World} {t e : TypeId} {k : IntKind} {a : Int}
theorem Eh {b off : Nat} {l : List Value} (h : ∀ i, i < l.length → w.cell? ⟨b, off + i, none⟩ = l[i]?) (n : Nat) (hn : n ≤ l.length) :
    (loadCells ⟨b, off, none⟩ n).run P w = .ok (l.take n).toArray w := by
  have key : ∀ (m i : Nat) (acc : Array Value), i + m ≤ l.length → (loadCellsFrom ⟨b, off, none⟩ i m acc).run P w = .ok (acc ++ ((l.drop i).take m).toArray) w := by
    intro m
    induction m with
    | zero => intro i acc _; simp [loadCellsFrom]
    | succ m ih =>
      intro i acc hm
      have hc := h i (by omega)
      rw [List.getElem?_eq_getElem (by omega)] at hc
      simp only [loadCellsFrom, Sem.run_bind, run_load, tV, hc, Result.andThen_ok]
      rw [ih (i + 1) _ (by omega), List.drop_eq_getElem_cons (by omega : i < l.length), List.take_succ_cons]
      simp
  unfold loadCells
  rw [key n 0 #[] (by omega)]
  simp
theorem GQ {i : TypeInfo} {z : Value} (hu : P.underlying t = some (.slice e)) (hi : P.info? e = some i) (h1 : i.size = 1) (hz : i.zero = some z) (hz1 : one z = true) {n : Int} (h0 : 0 ≤ n) (hn : i.bytes * n ≤ 2 ^ 48) (hn2 : n ≤ 9223372036854775807)
    {K : Value → World → Prop}
    (hk : ∀ w', iE w' w.heap.size (List.replicate n.toNat z) → gA w w' jQ → w'.heap.size = w.heap.size + 1 → K (.slice (some ⟨w.heap.size, 0, none⟩) n.toNat n.toNat) w') :
    cJ P (mN t (.int k n) (.int k n)) w K := by
  have hw : IntKind.i64.wrap n = n := eM (by omega) hn2
  have hcells : z.cells = #[z] := DJ hz1
  have harr : (Array.range n.toNat).map (fun j => (#[z] : Array Value)[j % (#[z] : Array Value).size]!) = (List.replicate n.toNat z).toArray := by
    apply Array.ext
    · simp
    · intro j h1 h2; simp [Nat.mod_one]
  have hz' : (zeroValue e).run P w = .ok z w := by simp [zeroValue, typeInfo, hi, hz]
  have : (mN t (.int k n) (.int k n)).run P w = .ok (.value (.slice (some ⟨w.heap.size, 0, none⟩) n.toNat n.toNat)) (w.alloc (.cells (List.replicate n.toNat z).toArray e)) := by
    unfold mN
    rw [kN]
    have t1 : (decide (n < 0) || decide ((i.bytes : Int) * n > 2 ^ 48) || decide (n < 0) || decide (n > n)) = false := by
      simp only [Bool.or_eq_false_iff, decide_eq_false_iff_not]; omega
    by_cases hn0 : n.toNat = 0
    · simp only [Instr.makeSlice, underlying, typeInfo, asInt, asIntOf, pure_bind, Sem.run_bind, run_program, Result.andThen_ok, hu, hi, Sem.run_pure, hw, t1, Bool.false_eq_true, if_false, run_askRoom, gO hi, h1, Nat.mul_one, hn0, if_true, newRow, run_newObj]
      have : (Array.range 0).map (fun x => (#[] : Array Value)[x % (#[] : Array Value).size]!) = (List.replicate 0 z).toArray := by simp
      rw [this]
      rfl
    · simp only [Instr.makeSlice, underlying, typeInfo, asInt, asIntOf, pure_bind, Sem.run_bind, run_program, Result.andThen_ok, hu, hi, Sem.run_pure, hw, t1, Bool.false_eq_true, if_false, run_askRoom, gO hi, h1, Nat.mul_one, hn0, hz', hcells, newRow, run_newObj, harr]
      rfl
  unfold cJ
  rw [this]
  exact hk _ (iE.alloc _ _ _) (gA.alloc _ _ _) (by simp)
end
end Go.En

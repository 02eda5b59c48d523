/- Parts of the proof of WeightsReads: merged and given short names by a program of ours. -/
import Derived.Orders
import Derived.Below
import Derived.KernelRfl
import Derived.Eval
import Derived.Laws.Sem
import Derived.Scope
import Derived.Test.YtoepfjgekpdddaaRows
namespace Go.En
open Go
abbrev eL := Nat → Value
def put (g : eL) (d : Option Tmp) (v : Value) : eL :=
  match d with
  | some d => fun i => match Nat.beq i d with | true => v | false => g i
  | none => g
def ev (g : eL) : Operand → Value
  | .tmp t => g t
  | .const v => v
  | .global b => .pointer (some ⟨b, 0, none⟩)
  | .func f => .func (.func f) #[] #[]
def Ret (P : Program) (f : FuncId) (args : Array Value) (w : World) (v : Value) (w' : World) : Prop :=
  Calls P f args w fun e w'' => e = .returned v ∧ w'' = w'
def cC (P : Program) (f : FuncId) (args : Array Value) (w : World) (R : Value → World → Prop) : Prop :=
  ∃ v w', Ret P f args w v w' ∧ R v w'
theorem cC.mono {P : Program} {f : FuncId} {args : Array Value} {w : World} {R R' : Value → World → Prop} (h : cC P f args w R)
    (hr : ∀ v w', R v w' → R' v w') : cC P f args w R' :=
  let ⟨v, w', a, b⟩ := h; ⟨v, w', a, hr _ _ b⟩
def adX (P : Program) (r : Result Next) (K : Value → World → Prop) : Prop :=
  match r with
  | .ok (.value v) w => K v w
  | .ok .skip w => K undef w
  | .ok (.enter f args) w => cC P f args w K
  | _ => False
theorem aB (P : Program) (v : Value) (w : World) (K : Value → World → Prop) : adX P (.ok (.value v) w) K = K v w := Eq.trans rfl rfl
theorem sX (P : Program) (w : World) (K : Value → World → Prop) : adX P (.ok .skip w) K = K undef w := Eq.trans rfl rfl
def aD (P : Program) (s : Sem Next) (w : World) (K : Value → World → Prop) : Prop := adX P (s.run P w) K
def gZ (P : Program) (s : Sem Next) (v : Value) (w : World) : Prop := s.run P w = .ok (.value v) w
def Gd (b : Bool) (s : (Value → World → Prop) → Prop) (w : World) (K : Value → World → Prop) : Prop :=
  match b with
  | true => s K
  | false => K undef w
def asB (v : Value) : Option Bool := match v with | .bool b => some b | _ => none
def dW (v : Value) (want : Bool) : Bool := asB v == some want
def hH (v : Value) (A B : Prop) : Prop :=
  match v with
  | .bool b => (match b with | true => A | false => B)
  | _ => False
def BF (ops : Array Oper) (j : Nat) : Option Tmp := (ops[j]?).bind (·.dst)
def wC (g : eL) (t : Option Tmp) (want : Bool) : Bool := match t with | some t => dW (g t) want | none => false
def V (s : Sem Value) : Sem Next := do pure (.value (← s))
def U (s : Sem Unit) : Sem Next := do s; pure .skip
def FX (op : BinOp) : Bool := match op with | .eql | .neq => true | _ => false
def aN (op : BinOp) (t : TypeId) (ox oy : Operand) (x y : Value) : Sem Next :=
  match FX op with
  | true => V (do eqGuard op t ox oy x y; binOp op t x y)
  | false => V (binOp op t x y)
def iJ (b : Builtin) (ats : Array TypeId) (ty : TypeId) (args : List Value) : Sem Next := builtin b ats ty #[] args.toArray
def fV (t : TypeId) (ps : List (Nat × Value)) : Sem Next := V (Instr.build t ps.toArray)
def cQ (t : TypeId) (n : Nat) (ps : List (Nat × Value)) : Sem Next := V (Instr.buildSlice t n ps.toArray)
def HE (g : eL) (o : Oper) : Sem Next :=
  match o.op with
  | .binOp op t x y _ => aN op t x y (ev g x) (ev g y)
  | .build t ps => fV t (ps.toList.map fun p => (p.1, ev g p.2))
  | .buildSlice t n ps => cQ t n (ps.toList.map fun p => (p.1, ev g p.2))
  | .call c => (match c.callee with
    | .builtin b => iJ b c.argTypes o.type (c.args.toList.map (ev g))
    | _ => execOp (ev g) o)
  | _ => execOp (ev g) o
def Gk (P : Program) (g : eL) (o : Oper) (w : World) (K : Value → World → Prop) : Prop :=
  match o.op with
  | .move x => K (ev g x) w
  | .assign x => K (ev g x) w
  | .call c => (match c.callee with
    | .value (.func f) => cC P f (c.args.toList.map (ev g)).toArray w K
    | _ => aD P (HE g o) w K)
  | _ => aD P (HE g o) w K
def E7 (P : Program) (ops : Array Oper) (g : eL) (o : Oper) (w : World) (K : Value → World → Prop) : Prop :=
  match o.guard with
  | none => Gk P g o w K
  | some (j, want) => Gd (wC g (BF ops j) want) (Gk P g o w) w K
def V0 (P : Program) (ops : Array Oper) : List Oper → eL → World → (eL → World → Prop) → Prop
  | [], g, w, K => K g w
  | o :: rest, g, w, K => E7 P ops g o w fun v w' => V0 P ops rest (put g o.dst v) w' K
structure Rec where
  heavy : Bool
  o : Oper
  g : eL
  w : World
  v : Value
def gOf (ops : Array Oper) (o : Oper) (g : eL) : Bool := match o.guard with | none => true | some (j, want) => wC g (BF ops j) want
def Gs (b : Bool) (p : Prop) : Prop := match b with | true => p | false => True
def Ob (P : Program) (ops : Array Oper) (q : Rec) (o : Oper) (g : eL) (w' : World) (v : Value) : Prop :=
  match q.heavy with
  | true => Gs (gOf ops o g) (gZ P (HE g o) v q.w)
  | false => Gs (gOf ops q.o q.g) (gZ P (HE q.g q.o) q.v w')
def Vo (i j : Nat) : List (Nat × Nat) → Bool
  | [] => false
  | (a, b) :: r => match Nat.beq a i with
    | true => (match Nat.beq b j with | true => true | false => Vo i j r)
    | false => Vo i j r
def nA (i : Nat) : List Nat → Bool
  | [] => false
  | a :: r => match Nat.beq a i with | true => true | false => nA i r
def YL : List Rec → Nat → Option Rec
  | [], _ => none
  | q :: _, 0 => some q
  | _ :: r, n + 1 => YL r n
def agM (P : Program) (ops : Array Oper) (o : Oper) (g : eL) (w' : World) (v : Value) (hist : List Rec) : List Nat → Prop
  | [] => True
  | k :: ks => (match YL hist k with
    | some q => Ob P ops q o g w' v
    | none => False) ∧ agM P ops o g w' v hist ks
abbrev ZP := List Nat × List (Nat × Nat)
abbrev Yv := List (Bool × List Nat)
def nR (P : Program) (ops : Array Oper) : List Oper → Yv → List Rec → eL → World → (eL → World → Prop) → Prop
  | [], _, _, g, w, K => K g w
  | _ :: _, [], _, _, _, _ => False
  | o :: rest, (hv, ks) :: pl, hist, g, w, K =>
    E7 P ops g o w fun v w' =>
      match hv, ks with
      | true, [] => nR P ops rest pl (⟨true, o, g, w, v⟩ :: hist) (put g o.dst v) w' K
      | true, k :: ks => agM P ops o g w' v hist (k :: ks) ∧ nR P ops rest pl (⟨true, o, g, w, v⟩ :: hist) (put g o.dst v) w' K
      | false, [] => w' = w ∧ nR P ops rest pl (⟨false, o, g, w, v⟩ :: hist) (put g o.dst v) w K
      | false, k :: ks => w' = w ∧ agM P ops o g w v hist (k :: ks) ∧ nR P ops rest pl (⟨false, o, g, w, v⟩ :: hist) (put g o.dst v) w K
def cV {α : Type} (F : (α → World → Prop) → α → World → Prop) (g : α) (w : World) : Prop :=
  ∃ I : Nat → α → World → Prop, (∃ n, I n g w) ∧ ∀ n g w, I n g w → F (fun g' w' => ∃ m, m < n ∧ I m g' w') g w
def aX (K : eL → World → Prop) (Q : Exit → eL → World → Prop) : Exit → eL → World → Prop
  | .normal, g, w => K g w
  | e, g, w => Q e g w
def rP (id : Nat) (Q : Exit → eL → World → Prop) : Exit → eL → World → Prop
  | .exit i, g, w => (match Nat.beq i id with | true => Q .normal g w | false => Q (.exit i) g w)
  | e, g, w => Q e g w
inductive HT where
  | leaf (an : ZP) (pl : Yv)
  | perm (π : List Nat) (es : List (Nat × Nat)) (an : ZP) (pl : Yv)
  | split (a b : Nat) (x y : HT)
structure FA where
  f : FuncId
  t : Nat → HT
def sO : List Nat → Nat → Nat
  | [], _ => 0
  | a :: r, i => match Nat.beq a i with | true => 0 | false => sO r i + 1
def Ee (π : List Nat) (i : Nat) : List (Nat × Nat) → List Edge
  | [] => []
  | (a, b) :: r => match Nat.beq b i with | true => ⟨sO π a, .data⟩ :: Ee π i r | false => Ee π i r
def E4 (π : List Nat) (es : List (Nat × Nat)) (i : Nat) (o : Oper) : Oper :=
  { dst := o.dst, op := o.op, type := o.type, pos := o.pos, after := (o.after.toList.map (fun e => (⟨sO π e.on, e.ground⟩ : Edge)) ++ Ee π i es).toArray,
    guard := match o.guard with | none => none | some (j, b) => some (sO π j, b) }
def PA (π : List Nat) (es : List (Nat × Nat)) (l : List Oper) : List Nat → List Oper
  | [] => []
  | i :: r => match l[i]? with | some o => E4 π es i o :: PA π es l r | none => PA π es l r
def lX (π : List Nat) (es : List (Nat × Nat)) (ops : Array Oper) : Array Oper := (PA π es ops.toList π).toArray
def afP (f : FuncId) (id : Nat) (ops : Array Oper) (a b : Nat) (w : World) : Bool :=
  Nat.ble ((Region.schedule true ops (w.tape w.drawn (.order f id))).idxOf a) ((Region.schedule true ops (w.tape w.drawn (.order f id))).idxOf b)
def Ord (b : Bool) (A B : Prop) : Prop := match b with | true => A | false => B
def Yf (P : Program) (f : FuncId) (id : Nat) (ops : Array Oper) : HT → eL → World → World → (eL → World → Prop) → Prop
  | .leaf _ pl, g, _, w, K => nR P ops ops.toList pl [] g w K
  | .perm π es _ pl, g, _, w, K => nR P (lX π es ops) (lX π es ops).toList pl [] g w K
  | .split a b x y, g, w0, w, K => Ord (afP f id ops a b w0) (Yf P f id ops x g w0 w K) (Yf P f id ops y g w0 w K)
def aQ (P : Program) (ann : FA) : Code → (Exit → eL → World → Prop) → eL → World → Prop
  | .skip, Q, g, w => Q .normal g w
  | .region id ops draw, Q, g, w => match draw with
    | false => V0 P ops ops.toList g w (Q .normal)
    | true => Yf P ann.f id ops (ann.t id) g w { w with drawn := w.drawn + 1 } (Q .normal)
  | .seq x y, Q, g, w => aQ P ann x (aX (fun g w => aQ P ann y Q g w) Q) g w
  | .cond c x y, Q, g, w => hH (ev g c) (aQ P ann x Q g w) (aQ P ann y Q g w)
  | .block id c, Q, g, w => aQ P ann c (rP id Q) g w
  | .loop c, Q, g, w => cV (fun X g w => aQ P ann c (aX X Q) g w) g w
  | .scope c, Q, g, w => aQ P ann c Q g w
  | .label _, Q, g, w => Q .normal g w
  | .exit id, Q, g, w => Q (.exit id) g w
  | .ret, Q, g, w => Q .ret g w
  | _, _, _, _ => False
def ZR (N : Nat) (o : Oper) : Bool := match o.dst with | some d => Nat.blt d N | none => true
def bef (b : Array Nat) (i j : Nat) : Bool := (b.getD j 0).testBit i
def Ua (ops : Array Oper) (o : Oper) : List Tmp :=
  (o.op.operands.toList.filterMap fun | .tmp t => some t | _ => none) ++ (match o.guard with | some (j, _) => (BF ops j).toList | none => [])
def aeH (ops : Array Oper) (x y : Oper) : Bool :=
  (match x.dst with | some d => (Ua ops y).contains d || y.dst == some d | none => false) ||
  (match y.dst with | some d => (Ua ops x).contains d | none => false)
def Ys (o : Oper) : Bool := match o.op with | .select .. => true | _ => false
def adG (o : Oper) : Bool := match o.op with | .call { callee := .value (.func _), .. } => true | _ => false
def Lh (P : Program) (o : Oper) : Bool :=
  match o.op with
  | .call c => (match c.callee with
    | .value (.func f) => (match P.funcs[f]? with | some fn => fn.body.isSome && !(fn.name == "runtime.NumGoroutine") | none => false)
    | .builtin b => (match b with | .print | .println => false | _ => true)
    | _ => true)
  | _ => true
def IL (o : Oper) : Bool := match o.op with | .move _ | .assign _ => true | _ => false
def KD (ops : Array Oper) (b : Array Nat) (an : ZP) (i j : Nat) (x y : Oper) : Bool :=
  bef b i j ||
  (!aeH ops x y &&
    match nA i an.1, nA j an.1 with
    | true, true => false
    | false, false => true
    | true, false => IL y || Vo i j an.2
    | false, true => IL x || Vo i j an.2)
def X2 (ops : Array Oper) (b : Array Nat) (an : ZP) : Bool :=
  (List.range ops.size).all fun j => (List.range j).all fun i =>
    match ops[i]?, ops[j]? with
    | some x, some y => KD ops b an i j x y
    | _, _ => false
def Xg (ops : Array Oper) : Bool :=
  (List.range ops.size).all fun i => match ops[i]? with
    | some o => o.after.all fun e => !Region.binds .any e || Nat.blt e.on i
    | none => false
def WM (ops : Array Oper) (b : Array Nat) : Bool :=
  (List.range ops.size).all fun j => (List.range ops.size).all fun i =>
    !bef b i j || (match ops[j]? with
      | some o => o.after.any fun e => Region.binds .any e && (Nat.beq e.on i || bef b i e.on)
      | none => false)
def V3 (ops : Array Oper) (an : ZP) : Bool :=
  Xg ops && WM ops (Region.before ops) && X2 ops (Region.before ops) an && (ops.all fun o => !Ys o) &&
    (List.range ops.size).all fun i => match ops[i]? with | some o => !adG o || nA i an.1 | none => false
def VV (n : Nat) (an : ZP) (pl : Yv) : Bool :=
  (List.range n).all fun i => match pl[i]? with
    | some (h, ks) => h == nA i an.1 && an.2.all fun p => !Nat.beq p.2 i || (Nat.blt p.1 i && ks.contains (i - 1 - p.1))
    | none => false
def Y3 (π : List Nat) (ops : Array Oper) : Bool :=
  Nat.beq π.length ops.size && ((List.range ops.size).all fun k => match π[k]? with | some i => Nat.beq (sO π i) k && Nat.blt i ops.size | none => false) &&
    ((List.range ops.size).all fun i => match π[sO π i]? with | some j => Nat.beq j i | none => false) &&
    ((List.range ops.size).all fun i => match ops[i]? with
      | some o => (o.after.all fun e => Nat.blt e.on ops.size) && (match o.guard with | some (j, _) => Nat.blt j ops.size | none => true)
      | none => false)
def NS (P : Program) (N : Nat) (ops : Array Oper) : List (Nat × Nat) → HT → Bool
  | _, .leaf an pl => V3 ops an && VV ops.size an pl
  | path, .perm π es an pl => (es.all fun p => Vo p.1 p.2 path && Nat.blt p.1 ops.size) && Y3 π ops && (lX π es ops).all (ZR N) && (lX π es ops).all (Lh P) &&
      V3 (lX π es ops) an && VV (lX π es ops).size an pl
  | path, .split a b x y => !Nat.beq a b && NS P N ops ((a, b) :: path) x && NS P N ops ((b, a) :: path) y
def Bx (P : Program) (N : Nat) (ann : FA) : Code → Bool
  | .skip | .exit _ | .ret | .label _ => true
  | .scope c => Bx P N ann c
  | .region id ops draw => ops.all (ZR N) && ops.all (Lh P) && (!draw || NS P N ops [] (ann.t id))
  | .seq x y => Bx P N ann x && Bx P N ann y
  | .cond _ x y => Bx P N ann x && Bx P N ann y
  | .block _ c => Bx P N ann c
  | .loop c => Bx P N ann c
  | _ => false
end Go.En
namespace Go.En
open Go
theorem Vq (g : eL) (d i : Nat) (v : Value) : put g (some d) v i = if i = d then v else g i := by
  unfold put
  by_cases h : i = d
  · subst h; simp
  · have : Nat.beq i d = false := by
      cases hb : Nat.beq i d
      · rfl
      · exact absurd (Nat.eq_of_beq_eq_true hb) h
    simp [this, h]
def LN (N : Nat) (g : eL) (a : Act) : Prop := a.defers = [] ∧ a.tmps.size = N ∧ ∀ i, a.tmps.getD i undef = g i
theorem LN.ev {N : Nat} {g : eL} {a : Act} (h : LN N g a) (x : Operand) : a.eval x = ev g x := by
  cases x <;> simp [Act.eval, En.ev, ← h.2.2]
theorem LN.evs {N : Nat} {g : eL} {a : Act} (h : LN N g a) : a.eval = En.ev g := funext h.ev
theorem LN.put {N : Nat} {g : eL} {a : Act} (h : LN N g a) (d : Option Tmp) (v : Value) (hd : ∀ t, d = some t → t < N) :
    LN N (put g d v) (a.put d v) := by
  cases d with
  | none => exact h
  | some t =>
    obtain ⟨h1, h2, h3⟩ := h
    have ht := hd t rfl
    refine ⟨h1, by simp [Act.put, h2], fun i => ?_⟩
    rw [Vq, ← h3 i]
    by_cases hi : i = t
    · subst hi; simp [Act.put, h2, ht]
    · have hi' : t ≠ i := fun e => hi e.symm
      simp [Act.put, hi, Array.getElem?_setIfInBounds_ne hi']
theorem LN.wanted {N : Nat} {g : eL} {a : Act} (h : LN N g a) (ops : Array Oper) (o : Oper) :
    Region.wanted o (yielded ops a.tmps) = match o.guard with | none => true | some (j, want) => wC g (BF ops j) want := by
  unfold Region.wanted
  cases o.guard with
  | none => rfl
  | some p =>
    obtain ⟨j, want⟩ := p
    simp only [yielded, wC, BF]
    cases (ops[j]?).bind (·.dst) with
    | none => simp
    | some t =>
      have h3 := h.2.2 t
      simp only [Option.bind_some, dW, asB, ← h3]
      simp only [Array.getD_eq_getD_getElem?]
      cases ht : a.tmps[t]? with
      | none => simp [undef]
      | some v => cases v <;> simp
section
variable {P : Program} {ops : Array Oper}
def TT (P : Program) (ops : Array Oper) (g : eL) (o : Oper) (w : World) (v : Value) (w' : World) : Prop :=
  ∀ K : Value → World → Prop, K v w' → E7 P ops g o w K
theorem aaA {s : Sem Next} {w : World} {K : Value → World → Prop} (h : aD P s w K) :
    ∃ v w', (∀ K' : Value → World → Prop, K' v w' → aD P s w K') ∧ K v w' := by
  unfold aD at *
  generalize s.run P w = r at *
  match r, h with
  | .ok (.value v) w1, h => exact ⟨v, w1, fun _ h' => h', h⟩
  | .ok .skip w1, h => exact ⟨undef, w1, fun _ h' => h', h⟩
  | .ok (.enter f args) w1, h =>
    obtain ⟨v, w', hr, hk⟩ := h
    exact ⟨v, w', fun _ h' => ⟨v, w', hr, h'⟩, hk⟩
theorem W7 {g : eL} {o : Oper} {w : World} {K : Value → World → Prop} (h : Gk P g o w K) :
    ∃ v w', (∀ K' : Value → World → Prop, K' v w' → Gk P g o w K') ∧ K v w' := by
  unfold Gk at *
  split at h
  · exact ⟨_, _, fun _ h' => h', h⟩
  · exact ⟨_, _, fun _ h' => h', h⟩
  · split at h
    · obtain ⟨v, w', a, b⟩ := h
      exact ⟨v, w', fun _ h' => ⟨v, w', a, h'⟩, b⟩
    · exact aaA h
  · exact aaA h
theorem agC (op : BinOp) (t : TypeId) (ox oy : Operand) (x y : Value) : aN op t ox oy x y = V (do eqGuard op t ox oy x y; binOp op t x y) := by
  cases op <;> simp [aN, FX, eqGuard]
theorem aeD {g : eL} {o : Oper} (ho : Lh P o = true) : HE g o = execOp (ev g) o := by
  unfold HE
  split
  · rename_i op t x y yt hx
    simp only [execOp, hx, agC, V]
  · rename_i t ps hx
    have e : (List.map (fun p : Nat × Operand => (p.1, ev g p.2)) ps.toList).toArray = ps.map (fun p => (p.1, ev g p.2)) := by obtain ⟨l⟩ := ps; simp
    simp only [execOp, hx, fV, V, e]
  · rename_i t n ps hx
    have e : (List.map (fun p : Nat × Operand => (p.1, ev g p.2)) ps.toList).toArray = ps.map (fun p => (p.1, ev g p.2)) := by obtain ⟨l⟩ := ps; simp
    simp only [execOp, hx, cQ, V, e]
  · rename_i c hx
    split
    · rename_i b hb
      simp only [execOp, hx, resolve, hb, pure_bind, invoke, iJ]
      unfold Lh at ho
      simp only [hx, hb] at ho
      have e : (List.map (ev g) c.args.toList).toArray = c.args.map (ev g) := by obtain ⟨l⟩ := c.args; simp
      rw [e]
      cases b <;> first | rfl | (cases ho)
    · rfl
  · rfl
theorem Xu {f : FuncId} {fn : Func} (hf : P.funcs[f]? = some fn) (hb : fn.body.isSome = true) (hn : (fn.name == "runtime.NumGoroutine") = false)
    (args : Array Value) (w : World) : (callFunc f args).run P w = .ok (.enter f args) w := by
  unfold callFunc
  have hb' : fn.body.isNone = false := by cases h : fn.body <;> simp_all
  show Sem.run P (Sem.program fun p => _) w = _
  simp only [Sem.run]
  simp only [bind, Sem.bind, hf, hn, hb', Bool.false_eq_true, if_false]
  rfl
theorem H8 {g : eL} {o : Oper} {w : World} {K : Value → World → Prop} (h : E7 P ops g o w K) :
    ∃ v w', TT P ops g o w v w' ∧ K v w' := by
  unfold TT
  unfold E7 at *
  split at h
  · obtain ⟨v, w', h1, h2⟩ := W7 h
    exact ⟨v, w', h1, h2⟩
  · rename_i j want hg
    unfold Gd at *
    cases hb : wC g (BF ops j) want with
    | true =>
      simp only [hb] at h
      obtain ⟨v, w', h1, h2⟩ := W7 h
      exact ⟨v, w', fun K hk => h1 K hk, h2⟩
    | false =>
      simp only [hb] at h
      exact ⟨_, _, fun K hk => hk, h⟩
theorem TQ {N i : Nat} {g : eL} {a : Act} {o : Oper} {w w' : World} {v : Value} {Q : Exit → Act → World → Prop} {next : Act → World → Prop}
    (hi : ops[i]? = some o) (hc : Lh P o = true) (hr : LN N g a) (hy : TT P ops g o w v w') (hn : next (a.put o.dst v) w') : wpOp P ops Q i next a w := by
  have h := hy (fun v2 w2 => v2 = v ∧ w2 = w') ⟨rfl, rfl⟩
  unfold wpOp
  rw [hi]
  simp only [hr.wanted]
  have run : Gk P g o w (fun v2 w2 => v2 = v ∧ w2 = w') → o.wp P a w next Q := by
    intro h
    have stp : aD P (HE g o) w (fun v2 w2 => v2 = v ∧ w2 = w') → o.upon P a next Q ((execOp (ev g) o).run P w) := by
      intro h
      rw [aeD hc] at h
      unfold aD at h
      generalize (execOp (ev g) o).run P w = r at *
      match r, h with
      | .ok (.value v) w1, h => obtain ⟨rfl, rfl⟩ := h; exact hn
      | .ok .skip w1, h => obtain ⟨rfl, rfl⟩ := h; exact hn
      | .ok (.enter f args) w1, h =>
        obtain ⟨v2, w2, hret, rfl, rfl⟩ := h
        simp only [Oper.upon_enter]
        refine Calls.mono hret ?_
        rintro e w'' ⟨rfl, rfl⟩
        exact hn
    unfold Oper.wp
    rw [hr.evs]
    unfold Gk at h
    split at h
    · rename_i x hx
      obtain ⟨rfl, rfl⟩ := h
      simp only [execOp, hx]; exact hn
    · rename_i x hx
      obtain ⟨rfl, rfl⟩ := h
      simp only [execOp, hx]; exact hn
    · rename_i c hx
      split at h
      · rename_i f hcal
        obtain ⟨v2, w2, hret, rfl, rfl⟩ := h
        have e : (execOp (ev g) o).run P w = .ok (.enter f (List.map (ev g) c.args.toList).toArray) w := by
          unfold Lh at hc
          simp only [hx, hcal] at hc
          cases hfn : P.funcs[f]? with
          | none => rw [hfn] at hc; cases hc
          | some fn =>
            rw [hfn] at hc
            simp only [Bool.and_eq_true, Bool.not_eq_true'] at hc
            have ea : (List.map (ev g) c.args.toList).toArray = c.args.map (ev g) := by obtain ⟨l⟩ := c.args; simp
            rw [ea]
            simp only [execOp, hx, resolve, hcal, ev, Deferred.ofValue, pure_bind, invoke]
            simp only [Array.empty_append, Array.append_empty]
            exact Xu hfn hc.1 hc.2 _ w
        rw [e]
        simp only [Oper.upon_enter]
        refine Calls.mono hret ?_
        rintro e w'' ⟨rfl, rfl⟩
        exact hn
      · exact stp h
    · exact stp h
  unfold E7 at h
  cases hg : o.guard with
  | none =>
    rw [hg] at h
    simp only [if_true]
    exact .inl (run h)
  | some p =>
    obtain ⟨j, want⟩ := p
    simp only [hg] at h
    simp only
    by_cases hb : wC g (BF ops j) want = true
    · rw [if_pos hb]
      simp only [hb, Gd] at h
      exact .inl (run h)
    · rw [if_neg hb]
      have hb' : wC g (BF ops j) want = false := by simpa using hb
      simp only [hb', Gd] at h
      obtain ⟨rfl, rfl⟩ := h
      exact hn
def Wf (N : Nat) (ops : Array Oper) : Prop := ∀ (i : Nat) (o : Oper), ops[i]? = some o → ∀ t, o.dst = some t → t < N
def RJ (P : Program) (ops : Array Oper) : Prop := ∀ (i : Nat) (o : Oper), ops[i]? = some o → Lh P o = true
theorem aaQ {N : Nat} (hd : Wf N ops) (hca : RJ P ops) {Q : Exit → Act → World → Prop} {K : eL → World → Prop}
    (hQ : ∀ g a w, LN N g a → K g w → Q .normal a w) :
    ∀ (l : List Oper) (k : Nat) (g : eL) (a : Act) (w : World), (∀ j, l[j]? = ops[k + j]?) → LN N g a → V0 P ops l g w K →
      wpOps P ops Q (List.range' k l.length) a w := by
  intro l
  induction l with
  | nil => intro k g a w _ hr h; exact hQ _ _ _ hr h
  | cons o l ih =>
    intro k g a w hl hr h
    have h0 : ops[k]? = some o := by have := hl 0; simpa using this.symm
    obtain ⟨v, w', hy, hk⟩ := H8 h
    rw [List.length_cons, List.range'_succ, wpOps_cons]
    refine TQ h0 (hca k o h0) hr hy ?_
    refine ih (k + 1) _ _ _ (fun j => ?_) (hr.put _ _ (hd k o h0)) hk
    have := hl (j + 1)
    simp only [List.getElem?_cons_succ] at this
    rw [this]; congr 1; omega
def TN (an : ZP) (O : Nat → Oper) (G : Nat → eL) (W : Nat → World) (V : Nat → Value) (i : Nat) : Rec :=
  ⟨nA i an.1, O i, G i, W i, V i⟩
def Z0 (P : Program) (ops : Array Oper) (an : ZP) (O : Nat → Oper) (G : Nat → eL) (W : Nat → World) (V : Nat → Value) (i j : Nat) : Prop :=
  Ob P ops (TN an O G W V i) (O j) (G j) (W (j + 1)) (V j)
structure Run (P : Program) (ops : Array Oper) (an : ZP) (g0 : eL) (w0 : World) (n : Nat) (O : Nat → Oper) (G : Nat → eL) (W : Nat → World) (V : Nat → Value) : Prop where
  g0 : G 0 = g0
  w0 : W 0 = w0
  op : ∀ i, i < n → ops[i]? = some (O i)
  yld : ∀ i, i < n → TT P ops (G i) (O i) (W i) (V i) (W (i + 1))
  light : ∀ i, i < n → nA i an.1 = false → W (i + 1) = W i
  env : ∀ i, i < n → G (i + 1) = put (G i) (O i).dst (V i)
  chk : ∀ i j, i < j → j < n → Vo i j an.2 = true → Z0 P ops an O G W V i j
theorem YK {o : Oper} {g : eL} {w' : World} {v : Value} {hist : List Rec} : ∀ {ks : List Nat}, agM P ops o g w' v hist ks → ∀ k ∈ ks, ∃ q, YL hist k = some q ∧ Ob P ops q o g w' v := by
  intro ks
  induction ks with
  | nil => intro _ k hk; cases hk
  | cons a ks ih =>
    rintro ⟨h1, h2⟩ k hk
    rcases List.mem_cons.1 hk with rfl | hk
    · cases hn : YL hist k with
      | none => rw [hn] at h1; exact h1.elim
      | some q => rw [hn] at h1; exact ⟨q, rfl, h1⟩
    · exact ih h2 k hk
theorem aaX {n : Nat} {an : ZP} {pl : Yv} (h : VV n an pl = true) {i : Nat} (hi : i < n) :
    ∃ ks, pl[i]? = some (nA i an.1, ks) ∧ ∀ j, Vo j i an.2 = true → j < i ∧ (i - 1 - j) ∈ ks := by
  have := List.all_eq_true.1 h i (List.mem_range.2 hi)
  cases hp : pl[i]? with
  | none => rw [hp] at this; cases this
  | some p =>
    obtain ⟨hv, ks⟩ := p
    rw [hp] at this
    simp only [Bool.and_eq_true] at this
    obtain ⟨h1, h2⟩ := this
    have h1 : hv = nA i an.1 := by simpa using h1
    refine ⟨ks, by rw [h1], fun j hj => ?_⟩
    have mm : ∀ (l : List (Nat × Nat)), Vo j i l = true → (j, i) ∈ l := by
      intro l
      induction l with
      | nil => intro h; cases h
      | cons q r ih =>
        obtain ⟨a, b⟩ := q
        intro h
        unfold Vo at h
        cases ha : Nat.beq a j with
        | true =>
          simp only [ha] at h
          cases hb : Nat.beq b i with
          | true =>
            obtain rfl := Nat.eq_of_beq_eq_true ha
            obtain rfl := Nat.eq_of_beq_eq_true hb
            exact List.mem_cons_self
          | false => simp only [hb] at h; exact List.mem_cons_of_mem _ (ih h)
        | false => simp only [ha] at h; exact List.mem_cons_of_mem _ (ih h)
    have := List.all_eq_true.1 h2 (j, i) (mm _ hj)
    simp only [Nat.beq_refl, Bool.not_true, Bool.false_or, Bool.and_eq_true] at this
    refine ⟨?_, by simpa using this.2⟩
    have hlt := this.1
    exact (Nat.blt_eq (x := j) (y := i)) ▸ hlt
theorem YP {an : ZP} {pl : Yv} {g0 : eL} {w0 : World} {K : eL → World → Prop} (hpl : VV ops.size an pl = true) :
    ∀ (l : List Oper) (m : Nat) (hist : List Rec) (O : Nat → Oper) (G : Nat → eL) (W : Nat → World) (V : Nat → Value),
      (∀ j, l[j]? = ops[m + j]?) → m + l.length = ops.size → Run P ops an g0 w0 m O G W V → (∀ i, i < m → YL hist (m - 1 - i) = some (TN an O G W V i)) →
      nR P ops l (pl.drop m) hist (G m) (W m) K →
      ∃ (O : Nat → Oper) (G : Nat → eL) (W : Nat → World) (V : Nat → Value), Run P ops an g0 w0 (m + l.length) O G W V ∧ K (G (m + l.length)) (W (m + l.length)) := by
  intro l
  induction l with
  | nil => intro m hist O G W V _ _ hr _ h; exact ⟨O, G, W, V, hr, by unfold nR at h; exact h⟩
  | cons o l ih =>
    intro m hist O G W V hl hlen hr hh h
    have h0 : ops[m]? = some o := by have := hl 0; simpa using this.symm
    have hmn : m < ops.size := by rw [List.length_cons] at hlen; omega
    obtain ⟨ks, hk1, hk2⟩ := aaX hpl hmn
    have hdrop : pl.drop m = (nA m an.1, ks) :: pl.drop (m + 1) := by
      have hlt : m < pl.length := by
        rcases Nat.lt_or_ge m pl.length with h | h
        · exact h
        · rw [List.getElem?_eq_none h] at hk1; cases hk1
      rw [List.drop_eq_getElem_cons hlt]
      rw [List.getElem?_eq_getElem hlt] at hk1
      rw [Option.some.inj hk1]
    rw [hdrop] at h
    obtain ⟨v, w', hy, hk⟩ := H8 h
    have key : (nA m an.1 = false → w' = W m) ∧ (∀ k ∈ ks, ∃ q, YL hist k = some q ∧ Ob P ops q o (G m) w' v) ∧
        (nR P ops l (pl.drop (m + 1)) (⟨nA m an.1, o, G m, W m, v⟩ :: hist) (put (G m) o.dst v) w' K) := by
      have nil : ∀ w', ∀ k ∈ ([] : List Nat), ∃ q, YL hist k = some q ∧ Ob P ops q o (G m) w' v := fun _ k hk => (by cases hk)
      cases hm : nA m an.1 with
      | true =>
        rw [hm] at hk
        cases ks with
        | nil => exact ⟨fun e => (by cases e), nil _, hk⟩
        | cons k ks => exact ⟨fun e => (by cases e), YK hk.1, hk.2⟩
      | false =>
        rw [hm] at hk
        cases ks with
        | nil => obtain ⟨rfl, hk⟩ := hk; exact ⟨fun _ => rfl, nil _, hk⟩
        | cons k ks => obtain ⟨rfl, hc, hk⟩ := hk; exact ⟨fun _ => rfl, YK hc, hk⟩
    obtain ⟨kl, c1, c2⟩ := key
    let O' : Nat → Oper := fun i => if i = m then o else O i
    let V' : Nat → Value := fun i => if i = m then v else V i
    let G' : Nat → eL := fun i => if i = m + 1 then put (G m) o.dst v else G i
    let W' : Nat → World := fun i => if i = m + 1 then w' else W i
    have eO : ∀ i, i < m → O' i = O i := fun i hi => if_neg (by omega)
    have eV : ∀ i, i < m → V' i = V i := fun i hi => if_neg (by omega)
    have eG : ∀ i, i ≤ m → G' i = G i := fun i hi => if_neg (by omega)
    have eW : ∀ i, i ≤ m → W' i = W i := fun i hi => if_neg (by omega)
    have oO : O' m = o := if_pos rfl
    have oV : V' m = v := if_pos rfl
    have oG : G' (m + 1) = put (G m) o.dst v := if_pos rfl
    have oW : W' (m + 1) = w' := if_pos rfl
    have eR : ∀ i, i < m → TN an O' G' W' V' i = TN an O G W V i := fun i hi => by
      simp only [TN, eO i hi, eV i hi, eG i (by omega), eW i (by omega)]
    have hr' : Run P ops an g0 w0 (m + 1) O' G' W' V' := by
      refine ⟨by rw [eG 0 (by omega)]; exact hr.g0, by rw [eW 0 (by omega)]; exact hr.w0, fun i hi => ?_, fun i hi => ?_, fun i hi hm => ?_, fun i hi => ?_, fun i j hij hj hm => ?_⟩
      · by_cases hi' : i = m
        · subst hi'; rw [oO]; exact h0
        · rw [eO i (by omega)]; exact hr.op i (by omega)
      · by_cases hi' : i = m
        · subst hi'; rw [oO, oV, oW, eG i (by omega), eW i (by omega)]; exact hy
        · rw [eO i (by omega), eV i (by omega), eG i (by omega), eW i (by omega), eW (i + 1) (by omega)]; exact hr.yld i (by omega)
      · by_cases hi' : i = m
        · subst hi'; rw [oW, eW i (by omega)]; exact kl hm
        · rw [eW i (by omega), eW (i + 1) (by omega)]; exact hr.light i (by omega) hm
      · by_cases hi' : i = m
        · subst hi'; rw [oO, oV, oG, eG i (by omega)]
        · rw [eO i (by omega), eV i (by omega), eG i (by omega), eG (i + 1) (by omega)]; exact hr.env i (by omega)
      · unfold Z0
        by_cases hj' : j = m
        · subst hj'
          rw [eR i (by omega), oO, oV, oW, eG j (by omega)]
          obtain ⟨q, hq, hc⟩ := c1 _ (hk2 i hm).2
          rw [hh i hij] at hq
          obtain rfl := Option.some.inj hq
          exact hc
        · rw [eR i (by omega), eO j (by omega), eV j (by omega), eG j (by omega), eW (j + 1) (by omega)]
          exact hr.chk i j hij (by omega) hm
    have := ih (m + 1) (⟨nA m an.1, o, G m, W m, v⟩ :: hist) O' G' W' V' (fun j => by
        have := hl (j + 1)
        simp only [List.getElem?_cons_succ] at this
        rw [this]; congr 1; omega) (by rw [List.length_cons] at hlen; omega) hr' (fun i hi => by
        by_cases hi' : i = m
        · subst hi'
          rw [show i + 1 - 1 - i = 0 from by omega]
          simp only [YL, TN, oO, oV, eG i (by omega), eW i (by omega)]
        · rw [eR i (by omega), show m + 1 - 1 - i = (m - 1 - i) + 1 from by omega]
          exact hh i (by omega)) (by rw [oG, oW]; exact c2)
    rw [List.length_cons, show m + (l.length + 1) = m + 1 + l.length from by omega]
    exact this
end
end Go.En
namespace Go.En
open Go
section
variable {P : Program} {ops : Array Oper} {an : ZP} {g0 : eL} {w0 : World} {O : Nat → Oper} {G : Nat → eL} {W : Nat → World} {V : Nat → Value}
def IO (n : Nat) (O : Nat → Oper) (V : Nat → Value) (g0 : eL) (S : Nat → Prop) (g : eL) : Prop :=
  ∀ s, (∃ j, j < n ∧ S j ∧ (O j).dst = some s ∧ (∀ k, k < n → S k → (O k).dst = some s → k ≤ j) ∧ g s = V j) ∨
    ((∀ j, j < n → S j → (O j).dst ≠ some s) ∧ g s = g0 s)
theorem IO.agree {n : Nat} {S T : Nat → Prop} {g g' : eL} (h : IO n O V g0 S g) (h' : IO n O V g0 T g') (s : Nat)
    (hs : ∀ j, j < n → (O j).dst = some s → (S j ↔ T j)) : g s = g' s := by
  rcases h s with ⟨j, h1, h2, h3, h4, h5⟩ | ⟨h1, h2⟩ <;> rcases h' s with ⟨k, k1, k2, k3, k4, k5⟩ | ⟨k1, k2⟩
  · have a := h4 k k1 ((hs k k1 k3).2 k2) k3
    have b := k4 j h1 ((hs j h1 h3).1 h2) h3
    have : j = k := by omega
    subst this; rw [h5, k5]
  · exact absurd h3 (k1 j h1 ((hs j h1 h3).1 h2))
  · exact absurd k3 (h1 k k1 ((hs k k1 k3).2 k2))
  · rw [h2, k2]
theorem IO.step {n : Nat} {S : Nat → Prop} {g : eL} (h : IO n O V g0 S g) (i : Nat) (hi : i < n)
    (hw : ∀ s, (O i).dst = some s → ∀ j, j < n → j ≠ i → (O j).dst = some s → S j → j < i) :
    IO n O V g0 (fun j => S j ∨ j = i) (put g (O i).dst (V i)) := by
  intro s
  cases hd : (O i).dst with
  | none =>
    rcases h s with ⟨j, h1, h2, h3, h4, h5⟩ | ⟨h1, h2⟩
    · refine .inl ⟨j, h1, .inl h2, h3, fun k k1 k2 k3 => ?_, h5⟩
      rcases k2 with k2 | rfl
      · exact h4 k k1 k2 k3
      · rw [hd] at k3; cases k3
    · refine .inr ⟨fun j h3 h4 h5 => ?_, h2⟩
      rcases h4 with h4 | rfl
      · exact h1 j h3 h4 h5
      · rw [hd] at h5; cases h5
  | some t =>
    rw [Vq]
    by_cases hst : s = t
    · subst hst
      rw [if_pos rfl]
      refine .inl ⟨i, hi, .inr rfl, hd, fun k k1 k2 k3 => ?_, rfl⟩
      rcases k2 with k2 | rfl
      · by_cases hk : k = i
        · omega
        · have := hw s hd k k1 hk k3 k2; omega
      · omega
    · rw [if_neg hst]
      rcases h s with ⟨j, h1, h2, h3, h4, h5⟩ | ⟨h1, h2⟩
      · refine .inl ⟨j, h1, .inl h2, h3, fun k k1 k2 k3 => ?_, h5⟩
        rcases k2 with k2 | rfl
        · exact h4 k k1 k2 k3
        · rw [hd] at k3; exact absurd (Option.some.inj k3).symm hst
      · refine .inr ⟨fun j h3 h4 h5 => ?_, h2⟩
        rcases h4 with h4 | rfl
        · exact h1 j h3 h4 h5
        · rw [hd] at h5; exact absurd (Option.some.inj h5).symm hst
theorem Run.envFor {n : Nat} (r : Run P ops an g0 w0 n O G W V) : ∀ i, i ≤ n → IO n O V g0 (fun j => j < i) (G i) := by
  intro i
  induction i with
  | zero => intro _ s; exact .inr ⟨fun j _ h => absurd h (by omega), by rw [r.g0]⟩
  | succ i ih =>
    intro hi
    have h := ih (by omega)
    have := h.step (V := V) i (by omega) (fun s _ j _ _ _ hj => hj)
    rw [← r.env i (by omega)] at this
    intro s
    rcases this s with ⟨j, h1, h2, h3, h4, h5⟩ | ⟨h1, h2⟩
    · exact .inl ⟨j, h1, by omega, h3, fun k k1 k2 k3 => h4 k k1 (by omega) k3, h5⟩
    · exact .inr ⟨fun j a b => h1 j a (by omega), h2⟩
theorem Run.still {n : Nat} (r : Run P ops an g0 w0 n O G W V) (i : Nat) : ∀ d, i + d ≤ n → (∀ h, i ≤ h → h < i + d → nA h an.1 = false) → W (i + d) = W i := by
  intro d
  induction d with
  | zero => intro _ _; rfl
  | succ d ih =>
    intro h1 h2
    rw [← Nat.add_assoc, r.light (i + d) (by omega) (h2 _ (by omega) (by omega))]
    exact ih (by omega) (fun h a b => h2 h a (by omega))
theorem Run.still' {n : Nat} (r : Run P ops an g0 w0 n O G W V) {i k : Nat} (hik : i ≤ k) (hk : k ≤ n) (hh : ∀ h, i ≤ h → h < k → nA h an.1 = false) : W k = W i := by
  have := r.still i (k - i) (by omega) (fun h a b => hh h a (by omega))
  rwa [show i + (k - i) = k from by omega] at this
theorem YJ {i k : Nat} : (∃ h, i ≤ h ∧ h < k ∧ nA h an.1 = true) → ∃ h, i ≤ h ∧ h < k ∧ nA h an.1 = true ∧ ∀ h', i ≤ h' → h' < h → nA h' an.1 = false := by
  rintro ⟨h, h1, h2, h3⟩
  induction h using Nat.strongRecOn with
  | _ h ih =>
    by_cases hx : ∃ h', i ≤ h' ∧ h' < h ∧ nA h' an.1 = true
    · obtain ⟨h', a, b, c⟩ := hx
      exact ih h' b a (by omega) c
    · refine ⟨h, h1, h2, h3, fun h' a b => ?_⟩
      cases hm : nA h' an.1
      · rfl
      · exact absurd ⟨h', a, b, hm⟩ hx
theorem VT {i k : Nat} : (∃ h, i ≤ h ∧ h < k ∧ nA h an.1 = true) → ∃ h, i ≤ h ∧ h < k ∧ nA h an.1 = true ∧ ∀ h', h < h' → h' < k → nA h' an.1 = false := by
  rintro ⟨h, h1, h2, h3⟩
  induction hd : k - h using Nat.strongRecOn generalizing h with
  | _ d ih =>
    by_cases hx : ∃ h', h < h' ∧ h' < k ∧ nA h' an.1 = true
    · obtain ⟨h', a, b, c⟩ := hx
      exact ih (k - h') (by omega) h' (by omega) b c rfl
    · refine ⟨h, h1, h2, h3, fun h' a b => ?_⟩
      cases hm : nA h' an.1
      · rfl
      · exact absurd ⟨h', a, b, hm⟩ hx
structure V7 (ops : Array Oper) (an : ZP) (O : Nat → Oper) (b : Array Nat) : Prop where
  back : ∀ i, i < ops.size → ∀ e ∈ (O i).after, Region.binds .any e = true → e.on < i
  closed : ∀ i j, i < ops.size → j < ops.size → bef b i j = true → ∃ e ∈ (O j).after, Region.binds .any e = true ∧ (e.on = i ∨ bef b i e.on = true)
  pair : ∀ i j, i < j → j < ops.size → KD ops b an i j (O i) (O j) = true
  sel : ∀ i, i < ops.size → Ys (O i) = false
  fn : ∀ i, i < ops.size → adG (O i) = true → nA i an.1 = true
theorem aaW (h : V3 ops an = true) (ho : ∀ i, i < ops.size → ops[i]? = some (O i)) : V7 ops an O (Region.before ops) := by
  unfold V3 at h
  simp only [Bool.and_eq_true] at h
  obtain ⟨⟨⟨⟨h1, h2⟩, h3⟩, h5⟩, h6⟩ := h
  refine ⟨fun i hi e he hb => ?_, fun i j hi hj hb => ?_, fun i j hij hj => ?_, fun i hi => ?_, fun i hi hf => ?_⟩
  · unfold Xg at h1
    have := List.all_eq_true.1 h1 i (List.mem_range.2 hi)
    rw [ho i hi] at this
    have := Array.all_eq_true'.1 this e he
    simp only [hb, Bool.not_true, Bool.false_or] at this
    exact (Nat.blt_eq (x := e.on) (y := i)) ▸ this
  · unfold WM at h2
    have := List.all_eq_true.1 (List.all_eq_true.1 h2 j (List.mem_range.2 hj)) i (List.mem_range.2 hi)
    rw [ho j hj] at this
    simp only [hb, Bool.not_true, Bool.false_or] at this
    obtain ⟨e, he, h⟩ := Array.any_eq_true'.1 this
    simp only [Bool.and_eq_true, Bool.or_eq_true] at h
    refine ⟨e, he, h.1, h.2.imp (fun h => Nat.eq_of_beq_eq_true h) id⟩
  · unfold X2 at h3
    have := List.all_eq_true.1 (List.all_eq_true.1 h3 j (List.mem_range.2 hj)) i (List.mem_range.2 hij)
    rw [ho i (by omega), ho j hj] at this
    exact this
  · have := Array.all_eq_true'.1 h5 (O i) (Array.mem_of_getElem? (ho i hi))
    simpa using this
  · have := List.all_eq_true.1 h6 i (List.mem_range.2 hi)
    rw [ho i hi] at this
    simpa [hf] using this
theorem adU {i j : Nat} : ∀ {l : List (Nat × Nat)}, Vo i j l = true → (i, j) ∈ l := by
  intro l
  induction l with
  | nil => intro h; cases h
  | cons p r ih =>
    obtain ⟨a, b⟩ := p
    intro h
    unfold Vo at h
    cases ha : Nat.beq a i with
    | true =>
      simp only [ha] at h
      cases hb : Nat.beq b j with
      | true =>
        obtain rfl := Nat.eq_of_beq_eq_true ha
        obtain rfl := Nat.eq_of_beq_eq_true hb
        exact List.mem_cons_self
      | false => simp only [hb] at h; exact List.mem_cons_of_mem _ (ih h)
    | false => simp only [ha] at h; exact List.mem_cons_of_mem _ (ih h)
theorem V7.order {b : Array Nat} (st : V7 ops an O b) {S : Nat → Prop} {i : Nat} (hi : i < ops.size)
    (hdown : ∀ j k, j < ops.size → k < ops.size → S k → bef b j k = true → S j) (hbi : ∀ j, j < ops.size → bef b j i = true → S j) (hni : ¬ S i)
    {s : Nat} (hs : s ∈ Ua ops (O i) ∨ (O i).dst = some s) {j : Nat} (hj : j < ops.size) (hji : j ≠ i) (hd : (O j).dst = some s) : S j ↔ j < i := by
  rcases Nat.lt_or_ge j i with h | h
  · refine ⟨fun _ => h, fun _ => ?_⟩
    have p := st.pair j i h hi
    unfold KD at p
    simp only [Bool.or_eq_true, Bool.and_eq_true, Bool.not_eq_true'] at p
    rcases p with p | p
    · exact hbi j hj p
    · exfalso
      have p1 := p.1
      unfold aeH at p1
      simp only [hd, Bool.or_eq_false_iff] at p1
      rcases hs with hs | hs
      · have := p1.1.1; simp [hs] at this
      · have := p1.1.2; simp [hs] at this
  · have h' : i < j := by omega
    refine ⟨fun hS => ?_, fun hh => by omega⟩
    exfalso
    have p := st.pair i j h' hj
    unfold KD at p
    simp only [Bool.or_eq_true, Bool.and_eq_true, Bool.not_eq_true'] at p
    rcases p with p | p
    · exact hni (hdown i j hi hj hS p)
    · have p1 := p.1
      unfold aeH at p1
      simp only [hd, Bool.or_eq_false_iff] at p1
      rcases hs with hs | hs
      · have := p1.2; simp [hs] at this
      · have := p1.1; rw [hs] at this; simp at this
theorem HN {g g' : eL} {o : Oper} (h : ∀ s ∈ Ua ops o, g s = g' s) : ∀ x ∈ o.op.operands, ev g x = ev g' x := by
  intro x hx
  cases x with
  | tmp t => exact h t (List.mem_append_left _ (List.mem_filterMap.2 ⟨.tmp t, by simpa using hx, rfl⟩))
  | _ => rfl
theorem YO {g g' : eL} {o : Oper} (hs : Ys o = false) (h : ∀ s ∈ Ua ops o, g s = g' s) : HE g o = HE g' o := by
  have e := execOp_congr o (fun cs b he => by simp [Ys, he] at hs) (HN h)
  have k := HN h
  unfold HE
  split
  · rename_i op t x y yt hx
    rw [k x (by simp [hx, Op.operands]), k y (by simp [hx, Op.operands])]
  · rename_i t ps hx
    congr 1
    refine List.map_congr_left fun p hp => ?_
    rw [k p.2 (by simp [hx, Op.operands]; exact ⟨p.1, by simpa using hp⟩)]
  · rename_i t n ps hx
    congr 1
    refine List.map_congr_left fun p hp => ?_
    rw [k p.2 (by simp [hx, Op.operands]; exact ⟨p.1, by simpa using hp⟩)]
  · rename_i c hx
    split
    · rename_i b hb
      congr 1
      refine List.map_congr_left fun p hp => ?_
      exact k p (by simp [hx, Op.operands, Call.operands, hb]; simpa using hp)
    · exact e
  · exact e
theorem Wu {g g' : eL} {o : Oper} {j : Nat} {want : Bool} (hg : o.guard = some (j, want)) (h : ∀ s ∈ Ua ops o, g s = g' s) :
    wC g (BF ops j) want = wC g' (BF ops j) want := by
  cases hs : BF ops j with
  | none => rfl
  | some t =>
    have := h t (List.mem_append_right _ (by simp [hg, hs]))
    simp [wC, this]
theorem Ro {g g' : eL} {o : Oper} {w : World} {K : Value → World → Prop} (hs : Ys o = false) (h : ∀ s ∈ Ua ops o, g s = g' s)
    (hk : E7 P ops g o w K) : E7 P ops g' o w K := by
  have e := YO (ops := ops) hs h
  have run : Gk P g o w = Gk P g' o w := by
    funext K
    unfold Gk
    split
    · rename_i x hx
      have := HN (ops := ops) h x (by simp [hx, Op.operands])
      rw [this]
    · rename_i x hx
      have := HN (ops := ops) h x (by simp [hx, Op.operands])
      rw [this]
    · rename_i c hx
      have k := HN h
      have : List.map (ev g) c.args.toList = List.map (ev g') c.args.toList := List.map_congr_left fun p hp => k p (by simp [hx, Op.operands, Call.operands]; exact .inr (by simpa using hp))
      rw [this, e]
    · rw [e]
  unfold E7 at *
  cases hg : o.guard with
  | none => rw [hg] at hk; simp only at hk ⊢; rwa [← run]
  | some p =>
    obtain ⟨j, want⟩ := p
    simp only [hg] at hk ⊢
    rw [← run, ← Wu hg h]
    exact hk
theorem Yc {n : Nat} (hn : n = ops.size) {b : Array Nat} (r : Run P ops an g0 w0 n O G W V) (st : V7 ops an O b) {S : Nat → Prop} {i k : Nat} (hi : i < n) (hk : k ≤ n)
    (hdown : ∀ j k, j < ops.size → k < ops.size → S k → bef b j k = true → S j) (hbi : ∀ j, j < ops.size → bef b j i = true → S j) (hni : ¬ S i)
    (hS : ∀ h, h < n → nA h an.1 = true → (S h ↔ h < k)) (hl : nA i an.1 = false) :
    TT P ops (G i) (O i) (W k) (V i) (W k) := by
  subst hn
  have same : Gs (gOf ops (O i) (G i)) (gZ P (HE (G i) (O i)) (V i) (W k)) → IL (O i) = false → TT P ops (G i) (O i) (W k) (V i) (W k) := by
    intro hs hm K hK
    have run : gZ P (HE (G i) (O i)) (V i) (W k) → Gk P (G i) (O i) (W k) K := by
      intro hs
      unfold gZ at hs
      have stp : aD P (HE (G i) (O i)) (W k) K := by unfold aD; rw [hs]; exact hK
      unfold Gk
      split
      · rename_i x hx; simp [IL, hx] at hm
      · rename_i x hx; simp [IL, hx] at hm
      · rename_i c hx
        have hf : adG (O i) = false := by
          cases hh : adG (O i)
          · rfl
          · rw [st.fn i hi hh] at hl; cases hl
        obtain ⟨cal, cargs, cats⟩ := c
        cases cal with
        | value f =>
          cases f with
          | func f => simp [adG, hx] at hf
          | _ => exact stp
        | _ => exact stp
      · exact stp
    have hy := r.yld i hi (fun v _ => v = V i) rfl
    unfold E7 at hy ⊢
    unfold gOf at hs
    cases hg : (O i).guard with
    | none => rw [hg] at hs; exact run hs
    | some p =>
      obtain ⟨j, want⟩ := p
      rw [hg] at hs
      simp only [hg] at hs hy ⊢
      cases hb : wC (G i) (BF ops j) want with
      | true => rw [hb] at hs; exact run hs
      | false =>
        rw [hb] at hy
        have : undef = V i := hy
        show K undef (W k)
        rw [this]; exact hK
  have moved : IL (O i) = true → TT P ops (G i) (O i) (W k) (V i) (W k) := by
    intro hm K hK
    have hy := r.yld i hi (fun v _ => v = V i) rfl
    unfold E7 at hy ⊢
    have mv : ∀ (K' : Value → World → Prop) w, Gk P (G i) (O i) w K' ↔ ∃ x, ((O i).op = .move x ∨ (O i).op = .assign x) ∧ K' (ev (G i) x) w := by
      intro K' w
      unfold Gk
      unfold IL at hm
      split
      · rename_i x hx; constructor
        · intro h; exact ⟨x, .inl hx, h⟩
        · rintro ⟨y, h | h, h'⟩
          · rw [hx] at h; cases h; exact h'
          · rw [hx] at h; cases h
      · rename_i x hx; constructor
        · intro h; exact ⟨x, .inr hx, h⟩
        · rintro ⟨y, h | h, h'⟩
          · rw [hx] at h; cases h
          · rw [hx] at h; cases h; exact h'
      · rename_i c hx; simp [hx] at hm
      · rename_i h1 h2 _; split at hm
        · rename_i x hx; exact absurd hx (h1 x)
        · rename_i x hx; exact absurd hx (h2 x)
        · cases hm
    cases hg : (O i).guard with
    | none =>
      rw [hg] at hy
      simp only at hy ⊢
      rw [mv] at hy ⊢
      obtain ⟨x, hx, h⟩ := hy
      exact ⟨x, hx, h ▸ hK⟩
    | some p =>
      obtain ⟨j, want⟩ := p
      simp only [hg] at hy ⊢
      unfold Gd at *
      cases hb : wC (G i) (BF ops j) want with
      | true =>
        simp only [hb] at hy ⊢
        rw [mv] at hy ⊢
        obtain ⟨x, hx, h⟩ := hy
        exact ⟨x, hx, h ▸ hK⟩
      | false =>
        simp only [hb] at hy ⊢
        rwa [hy]
  rcases Nat.le_total k i with hki | hki
  · by_cases hx : ∃ h, k ≤ h ∧ h < i ∧ nA h an.1 = true
    · obtain ⟨h, h1, h2, h3, h4⟩ := YJ hx
      have e : W h = W k := r.still' h1 (by omega) h4
      have p := st.pair h i h2 hi
      unfold KD at p
      simp only [Bool.or_eq_true, Bool.and_eq_true, Bool.not_eq_true'] at p
      rcases p with p | p
      · have := hbi h (by omega) p
        have := (hS h (by omega) h3).1 this
        omega
      · have p2 := p.2
        rw [h3, hl] at p2
        simp only [Bool.or_eq_true] at p2
        cases hmv : IL (O i) with
        | true => exact moved hmv
        | false =>
          rcases p2 with p2 | p2
          · rw [hmv] at p2; cases p2
          · refine same ?_ hmv
            have c := r.chk h i h2 hi p2
            unfold Z0 Ob TN at c
            simp only [h3] at c
            rw [← e]; exact c
    · have e : W i = W k := r.still' hki (by omega) (fun h a b => by
        cases hm : nA h an.1
        · rfl
        · exact absurd ⟨h, a, b, hm⟩ hx)
      have hy := r.yld i hi
      rw [r.light i hi hl, e] at hy
      exact hy
  · by_cases hx : ∃ h, i ≤ h ∧ h < k ∧ nA h an.1 = true
    · obtain ⟨h, h1, h2, h3, h4⟩ := VT hx
      have hne : h ≠ i := fun e => by rw [e, hl] at h3; cases h3
      have e : W k = W (h + 1) := r.still' (by omega) hk (fun h' a b => h4 h' (by omega) b)
      have p := st.pair i h (by omega) (by omega)
      unfold KD at p
      simp only [Bool.or_eq_true, Bool.and_eq_true, Bool.not_eq_true'] at p
      rcases p with p | p
      · exact absurd (hdown i h (by omega) (by omega) ((hS h (by omega) h3).2 h2) p) hni
      · have p2 := p.2
        rw [h3, hl] at p2
        simp only [Bool.or_eq_true] at p2
        cases hmv : IL (O i) with
        | true => exact moved hmv
        | false =>
          rcases p2 with p2 | p2
          · rw [hmv] at p2; cases p2
          · refine same ?_ hmv
            have c := r.chk i h (by omega) (by omega) p2
            unfold Z0 Ob TN at c
            simp only [hl] at c
            rw [e]; exact c
    · have e : W k = W i := r.still' hki hk (fun h a b => by
        cases hm : nA h an.1
        · rfl
        · exact absurd ⟨h, a, b, hm⟩ hx)
      have hy := r.yld i hi
      rw [r.light i hi hl, ← e] at hy
      exact hy
def kE (listed : Array Bool) (i : Nat) : Prop := listed.getD i false = true
theorem adP {N n : Nat} (hn : n = ops.size) (hd : Wf N ops) (hca : RJ P ops) {b : Array Nat} (r : Run P ops an g0 w0 n O G W V) (st : V7 ops an O b)
    {Q : Exit → Act → World → Prop} (hQ : ∀ a, LN N (G n) a → Q .normal a (W n)) :
    ∀ (fuel : Nat) (listed : Array Bool) (g : eL) (a : Act) (k : Nat), listed.size = n → LN N g a → k ≤ n →
      (∀ j, j < n → kE listed j → ∀ e ∈ (O j).after, Region.binds .any e = true → kE listed e.on) →
      IO n O V g0 (kE listed) g → (∀ h, h < n → nA h an.1 = true → (kE listed h ↔ h < k)) →
      ((List.range n).filter fun i => !listed.getD i false).length ≤ fuel →
      wpAny P .any ops Q fuel listed a (W k) := by
  subst hn
  have ready_iff : ∀ (listed : Array Bool), listed.size = ops.size → ∀ i, i ∈ Region.ready .any ops listed ↔ (i < ops.size ∧ ¬ kE listed i ∧ ∀ e ∈ (O i).after, Region.binds .any e = true → kE listed e.on) := by
    intro listed hsz i
    unfold Region.ready kE
    rw [List.mem_filter, List.mem_range]
    constructor
    · rintro ⟨h1, h2⟩
      rw [r.op i h1] at h2
      simp only [Bool.and_eq_true, Option.map_some, Option.getD_some] at h2
      refine ⟨h1, ?_, fun e he hb => ?_⟩
      · have := h2.1
        rw [Array.getD_eq_getD_getElem?] at this ⊢
        rw [Array.getElem?_eq_getElem (by omega)] at this ⊢
        simpa using this
      · have := Array.all_eq_true'.1 h2.2 e he
        simpa [hb] using this
    · rintro ⟨h1, h2, h3⟩
      refine ⟨h1, ?_⟩
      rw [r.op i h1]
      simp only [Bool.and_eq_true, Option.map_some, Option.getD_some]
      refine ⟨?_, Array.all_eq_true'.2 fun e he => ?_⟩
      · rw [Array.getD_eq_getD_getElem?] at h2 ⊢
        rw [Array.getElem?_eq_getElem (by omega)] at h2 ⊢
        simpa using h2
      · by_cases hb : Region.binds .any e = true
        · simp [hb, h3 e he hb]
        · simp [hb]
  have none_ready : ∀ (listed : Array Bool), listed.size = ops.size → Region.ready .any ops listed = [] → ∀ i, i < ops.size → kE listed i := by
    intro listed hsz hr i
    induction i using Nat.strongRecOn with
    | _ i ih =>
      intro hi
      refine Classical.byContradiction fun hl => ?_
      have : i ∈ Region.ready .any ops listed := (ready_iff listed hsz i).2 ⟨hi, hl, fun e he hb => by
        have := st.back i hi e he hb
        exact ih e.on this (by omega)⟩
      rw [hr] at this; cases this
  have all_done : ∀ (listed : Array Bool) (g : eL) (a : Act) (k : Nat), LN N g a → k ≤ ops.size → IO ops.size O V g0 (kE listed) g →
      (∀ h, h < ops.size → nA h an.1 = true → (kE listed h ↔ h < k)) → (∀ i, i < ops.size → kE listed i) → Q .normal a (W k) := by
    intro listed g a k hr hk he hh hall
    have e : W ops.size = W k := r.still' hk (Nat.le_refl _) (fun h h1 h2 => by
      cases hm : nA h an.1
      · rfl
      · have := (hh h h2 hm).1 (hall h h2); omega)
    have eg : g = G ops.size := funext fun s => he.agree (r.envFor ops.size (Nat.le_refl _)) s (fun j hj _ => ⟨fun _ => hj, fun _ => hall j hj⟩)
    rw [← e]; exact hQ a (eg ▸ hr)
  intro fuel
  induction fuel with
  | zero =>
    intro listed g a k hsz hr hk hdep henv hh hc
    have hall : ∀ i, i < ops.size → kE listed i := by
      intro i hi
      have hnil : ((List.range ops.size).filter fun i => !listed.getD i false) = [] := List.length_eq_zero_iff.1 (by omega)
      have := List.filter_eq_nil_iff.1 hnil i (List.mem_range.2 hi)
      unfold kE; simpa using this
    refine ⟨?_, all_done listed g a k hr hk henv hh hall⟩
    rw [List.eq_nil_iff_forall_not_mem]
    intro i hi
    have := (ready_iff listed hsz i).1 hi
    exact this.2.1 (hall i this.1)
  | succ fuel ih =>
    intro listed g a k hsz hr hk hdep henv hh hc
    refine ⟨fun hn => all_done listed g a k hr hk henv hh (none_ready listed hsz hn), fun i hi => ?_⟩
    obtain ⟨h1, h2, h3⟩ := (ready_iff listed hsz i).1 hi
    have hdown : ∀ k j, j < ops.size → k < ops.size → kE listed k → bef b j k = true → kE listed j := by
      intro k
      induction k using Nat.strongRecOn with
      | _ k ihk =>
        intro j hj hk hl hb
        obtain ⟨e, he, hbi, h⟩ := st.closed j k hj hk hb
        have hle := hdep k hk hl e he hbi
        rcases h with h | h
        · exact h ▸ hle
        · have hlt := st.back k hk e he hbi
          exact ihk e.on hlt j hj (by omega) hle h
    have hbi : ∀ j, j < ops.size → bef b j i = true → kE listed j := by
      intro j hj hb
      obtain ⟨e, he, hbi, h⟩ := st.closed j i hj h1 hb
      have hle := h3 e he hbi
      rcases h with h | h
      · exact h ▸ hle
      · have hlt := st.back i h1 e he hbi
        exact hdown e.on j hj (by omega) hle h
    have hdown' : ∀ j k, j < ops.size → k < ops.size → kE listed k → bef b j k = true → kE listed j := fun j k => hdown k j
    have hlooks : ∀ s ∈ Ua ops (O i), (G i) s = g s := fun s hs =>
      (r.envFor i (by omega)).agree henv s (fun j hj hd => by
        by_cases hji : j = i
        · subst hji
          exact ⟨fun h => absurd h (by omega), fun h => absurd h h2⟩
        · exact (st.order h1 hdown' hbi h2 (.inl hs) hj hji hd).symm)
    have hl' : ∀ j, kE (listed.setIfInBounds i true) j ↔ (kE listed j ∨ j = i) := by
      intro j
      unfold kE
      rw [Array.getD_eq_getD_getElem?, Array.getD_eq_getD_getElem?]
      by_cases hji : j = i
      · subst hji
        rw [Array.getElem?_setIfInBounds_self_of_lt (by omega)]
        simp
      · rw [Array.getElem?_setIfInBounds_ne (fun e => hji e.symm)]
        simp [hji]
    have next : ∀ k', k' ≤ ops.size → (∀ h, h < ops.size → nA h an.1 = true → ((kE listed h ∨ h = i) ↔ h < k')) → TT P ops g (O i) (W k) (V i) (W k') →
        wpOp P ops Q i (wpAny P .any ops Q fuel (listed.setIfInBounds i true)) a (W k) := by
      intro k' hk' hh' hy
      refine TQ (r.op i h1) (hca i _ (r.op i h1)) hr hy ?_
      refine ih _ (put g (O i).dst (V i)) _ k' (by simp [hsz]) (hr.put _ _ (hd i _ (r.op i h1))) hk' ?_ ?_ ?_ ?_
      · intro j hj hlj e he hb
        rw [hl'] at hlj ⊢
        rcases hlj with hlj | rfl
        · exact .inl (hdep j hj hlj e he hb)
        · exact .inl (h3 e he hb)
      · have := henv.step i h1 (fun s hs j hj hji hd hlj => (st.order h1 hdown' hbi h2 (.inr hs) hj hji hd).1 hlj)
        intro s
        rcases this s with ⟨j, j1, j2, j3, j4, j5⟩ | ⟨j1, j2⟩
        · exact .inl ⟨j, j1, (hl' j).2 j2, j3, fun k k1 k2 k3 => j4 k k1 ((hl' k).1 k2) k3, j5⟩
        · exact .inr ⟨fun j a b => j1 j a ((hl' j).1 b), j2⟩
      · intro h a b; rw [hl']; exact hh' h a b
      · have hin : i ∈ (List.range ops.size).filter fun i => !listed.getD i false :=
          List.mem_filter.2 ⟨List.mem_range.2 h1, by unfold kE at h2; simpa using h2⟩
        have e1 : ((List.range ops.size).filter fun j => !(listed.setIfInBounds i true).getD j false) = ((List.range ops.size).filter fun j => !listed.getD j false).filter fun j => j != i := by
          rw [List.filter_filter]
          refine List.filter_congr fun j _ => ?_
          have := hl' j
          unfold kE at this
          by_cases hji : j = i
          · have hh : (listed.setIfInBounds i true).getD j false = true := this.2 (.inr hji)
            rw [hh, hji]; simp
          · have hne : (j != i) = true := by simpa using hji
            rw [hne, Bool.true_and]
            cases ha : listed.getD j false with
            | true => rw [this.2 (.inl ha)]
            | false =>
              cases hb : (listed.setIfInBounds i true).getD j false with
              | false => rfl
              | true => rcases this.1 hb with h | h
                        · rw [ha] at h; cases h
                        · exact absurd h hji
        have hnd : ((List.range ops.size).filter fun j => !listed.getD j false).Nodup := List.nodup_range.filter _
        rw [e1, ← List.Nodup.erase_eq_filter hnd, List.length_erase_of_mem hin]
        omega
    cases hm : nA i an.1 with
    | true =>
      have hS : ∀ h, h < ops.size → nA h an.1 = true → (kE listed h ↔ h < i) := by
        intro h hh1 hhm
        rcases Nat.lt_trichotomy h i with hlt | heq | hgt
        · refine ⟨fun _ => hlt, fun _ => ?_⟩
          have p := st.pair h i hlt h1
          unfold KD at p
          rw [hhm, hm] at p
          simp only [Bool.or_eq_true, Bool.and_eq_true, Bool.false_eq_true, and_false, or_false] at p
          exact hbi h hh1 p
        · subst heq; exact ⟨fun hh => absurd hh h2, fun hh => absurd hh (by omega)⟩
        · refine ⟨fun hl => ?_, fun hh => absurd hh (by omega)⟩
          have p := st.pair i h hgt hh1
          unfold KD at p
          rw [hhm, hm] at p
          simp only [Bool.or_eq_true, Bool.and_eq_true, Bool.false_eq_true, and_false, or_false] at p
          exact absurd (hdown h i h1 hh1 hl p) h2
      have eW : W k = W i := by
        rcases Nat.le_total k i with hki | hki
        · exact (r.still' hki (by omega) (fun h a b => by
            cases hx : nA h an.1
            · rfl
            · have := (hh h (by omega) hx).1 ((hS h (by omega) hx).2 b); omega)).symm
        · exact r.still' hki hk (fun h a b => by
            cases hx : nA h an.1
            · rfl
            · have := (hS h (by omega) hx).1 ((hh h (by omega) hx).2 b); omega)
      refine next (i + 1) (by omega) (fun h a b => ?_) ?_
      · rw [hS h a b]; omega
      · rw [eW]
        intro K hK
        exact Ro (ops := ops) (st.sel i h1) hlooks (r.yld i h1 K hK)
    | false =>
      refine next k hk (fun h a b => ?_) ?_
      · rw [← hh h a b]
        constructor
        · rintro (h' | rfl)
          · exact h'
          · rw [hm] at b; cases b
        · exact .inl
      · intro K hK
        exact Ro (ops := ops) (st.sel i h1) hlooks (Yc rfl r st h1 hk hdown' hbi h2 hh hm K hK)
end
end Go.En
namespace Go.En
open Go
def Y0 (P : Program) (f : FuncId) (c : Code) (Q : Exit → Act → World → Prop) (a : Act) (w : World) : Prop :=
  ∀ (b : Frame) (k : List Item) (cs : List Frame), b.fn = f → ∃ e a' w', Q e a' w' ∧ Arrives P (lone (b.at a (.code c :: k)) cs w) b k cs e a' w'
section
variable {P : Program} {f : FuncId} {Q : Exit → Act → World → Prop} {a : Act} {w : World}
theorem VN {c : Code} (h : c.wp P Q a w) : Y0 P f c Q a w := fun b k cs _ => h b k cs
theorem agQ {x y : Code} (h : Y0 P f x (Exit.then (Y0 P f y Q) Q) a w) : Y0 P f (.seq x y) Q a w := by
  intro b k cs hb
  obtain ⟨e, a1, w1, hq, har⟩ := h b (.code y :: k) cs hb
  cases e with
  | normal =>
    obtain ⟨e2, a2, w2, hq2, har2⟩ := hq b k cs hb
    exact ⟨e2, a2, w2, hq2, .of_steps (.head step_seq har) har2⟩
  | _ => exact ⟨_, a1, w1, hq, .of_steps (.one step_seq) (.pass (x := .code y) rfl (fun _ _ => .inl (by simp)) har)⟩
theorem acN {c : Operand} {x y : Code} {t : Bool} (hc : a.eval c = .bool t) (h : Y0 P f (if t then x else y) Q a w) : Y0 P f (.cond c x y) Q a w :=
  fun b k cs hb => let ⟨e, a1, w1, q, r⟩ := h b k cs hb; ⟨e, a1, w1, q, .of_steps (.one (step_cond hc)) r⟩
theorem abQ {id : Nat} {c : Code} (h : Y0 P f c (Exit.inBlock id Q) a w) : Y0 P f (.block id c) Q a w := by
  intro b k cs hb
  obtain ⟨e, a1, w1, hq, har⟩ := h b (.inBlock id :: k) cs hb
  cases e with
  | normal => exact ⟨.normal, a1, w1, hq, .head step_block (Steps.trans har (.one step_inBlock))⟩
  | exit i =>
    by_cases hid : i = id
    · simp only [Exit.inBlock, hid, if_true] at hq
      exact ⟨.normal, a1, w1, hq, .head step_block (har k (by simp [exitTo, hid]))⟩
    · simp only [Exit.inBlock, hid, if_false] at hq
      refine ⟨.exit i, a1, w1, hq, fun k' hk => .head step_block (har k' ?_)⟩
      have : (id == i) = false := by simp; exact fun h => hid h.symm
      simp [exitTo, this, hk]
  | goto l => exact ⟨_, a1, w1, hq, fun k' hk => .head step_block (har k' (by simp [gotoIn, hk]))⟩
  | outgrown => exact ⟨_, a1, w1, hq, .of_steps (b := b) (k := k) (cs := cs) (e := .outgrown) (.one step_block) har⟩
  | _ => exact ⟨_, a1, w1, hq, .of_steps (.one step_block) har⟩
theorem aaJ {c : Code} (h : Y0 P f c (Exit.noGoto Q) a w) : Y0 P f (.scope c) Q a w := by
  intro b k cs hb
  obtain ⟨e, a1, w1, hq, har⟩ := h b (.inScope c :: k) cs hb
  cases e with
  | normal => exact ⟨.normal, a1, w1, hq, .head step_scope (Steps.trans har (.one step_inScope))⟩
  | exit id => exact ⟨.exit id, a1, w1, hq, fun k' hk => .head step_scope (har k' (by simp [exitTo, hk]))⟩
  | goto l => exact hq.elim
  | _ => exact ⟨_, a1, w1, hq, .of_steps (.one step_scope) har⟩
theorem aeE {c : Code} (I : Act → World → Prop) (μ : Act → World → Nat) (h0 : I a w)
    (round : ∀ a w, I a w → Y0 P f c (Exit.then (fun a' w' => I a' w' ∧ μ a' w' < μ a w) Q) a w) : Y0 P f (.loop c) Q a w := by
  intro b k cs hb
  have key : ∀ n a w, μ a w = n → I a w →
      ∃ e a' w', Q e a' w' ∧ Arrives P (lone (b.at a (.code c :: .inLoop c :: k)) cs w) b k cs e a' w' := by
    intro n
    induction n using Nat.strongRecOn with
    | _ n ih =>
      intro a w hn hI
      obtain ⟨e, a1, w1, hq, har⟩ := round a w hI b (.inLoop c :: k) cs hb
      cases e with
      | normal =>
        obtain ⟨hI1, hlt⟩ := hq
        obtain ⟨e2, a2, w2, hq2, har2⟩ := ih (μ a1 w1) (hn ▸ hlt) a1 w1 rfl hI1
        exact ⟨e2, a2, w2, hq2, .of_steps (Steps.trans har (.one step_inLoop)) har2⟩
      | _ => exact ⟨_, a1, w1, hq, .pass (x := .inLoop c) rfl (fun _ _ => .inl (by simp)) har⟩
  obtain ⟨e, a', w', hq, har⟩ := key _ a w rfl h0
  exact ⟨e, a', w', hq, .of_steps (.one step_loop) har⟩
theorem UB (hm : P.follows .mixedOrders = true) {id : Nat} {ops : Array Oper}
    (h : wpOps P ops Q (Region.schedule true ops (w.tape w.drawn (.order f id))) a { w with drawn := w.drawn + 1 }) : Y0 P f (.region id ops true) Q a w := by
  intro b k cs hb
  obtain ⟨e, a1, w1, q, r⟩ := wp_ops _ a _ h b k cs
  refine ⟨e, a1, w1, q, .of_steps (.one ?_) r⟩
  have := @step_region_draw P b a k cs w ops id
  rw [hm, hb] at this
  exact this
theorem XF {fn : Func} {c : Code} {args : Array Value} {w : World} {R : Ending → World → Prop}
    (hf : P.funcs[f]? = some fn) (hb : fn.body = some c)
    (h : Y0 P f c (bodyPost P fn R) { tmps := args ++ Array.replicate (fn.ntmps - args.size) undef, defers := [] } w) : Calls P f args w R := by
  intro cs
  let b : Frame := { (default : Frame) with fn := f, kind := .normal }
  have henter : Frame.enter P f args .normal = b.at { tmps := args ++ Array.replicate (fn.ntmps - args.size) undef, defers := [] } [.code c] := by
    simp [Frame.enter, Frame.at, hf, hb, b]
  obtain ⟨e, a', w', hq, har⟩ := h b [] cs rfl
  rw [← henter] at har
  cases e with
  | normal =>
    obtain ⟨hd, v, hr, hR⟩ := hq
    exact ⟨.returned v, w', _, hR, Steps.trans har (.one step_end), rfl, rfl, hd, rfl, fn, hf, hr⟩
  | ret =>
    obtain ⟨hd, v, hr, hR⟩ := hq
    obtain ⟨todo, hs⟩ := har
    exact ⟨.returned v, w', _, hR, hs, rfl, rfl, hd, rfl, fn, hf, hr⟩
  | panic chain =>
    obtain ⟨hd, hR⟩ := hq
    obtain ⟨todo, hs⟩ := har
    exact ⟨.panicked chain, w', _, hR, hs, rfl, rfl, hd, fn, hf⟩
  | exit id => exact hq.elim
  | goto l => exact hq.elim
  | outgrown => exact ⟨.outgrown, w', b, hq, har.resolve_left (by simp [b]), rfl, trivial⟩
end
def XT (ops : Array Oper) : Nat → Array Bool → List Nat → Prop
  | 0, _, L => L = []
  | _ + 1, listed, [] => Region.ready .any ops listed = []
  | n + 1, listed, i :: L => i ∈ Region.ready .any ops listed ∧ XT ops n (listed.setIfInBounds i true) L
section
variable {P : Program} {ops : Array Oper} {Q : Exit → Act → World → Prop}
theorem agH : ∀ (fuel t : Nat) (listed : Array Bool), XT ops fuel listed (Region.linearise.go .any ops fuel t listed []) := by
  intro fuel
  induction fuel with
  | zero => intro t listed; simp [Region.linearise.go, XT]
  | succ fuel ih =>
    intro t listed
    simp only [Region.linearise.go]
    change XT ops (fuel + 1) listed (match (Region.ready .any ops listed)[t % (Region.ready .any ops listed).length]? with
      | some i => Region.linearise.go .any ops fuel (t / (Region.ready .any ops listed).length) (listed.setIfInBounds i true) [i]
      | none => [].reverse)
    cases hi : (Region.ready .any ops listed)[t % (Region.ready .any ops listed).length]? with
    | none =>
      have : Region.ready .any ops listed = [] := by
        cases hr : Region.ready .any ops listed with
        | nil => rfl
        | cons x xs =>
          rw [hr] at hi
          have hlt : t % (x :: xs).length < (x :: xs).length := Nat.mod_lt _ (by simp)
          rw [List.getElem?_eq_getElem hlt] at hi
          cases hi
      simpa [XT] using this
    | some i =>
      simp only []
      rw [linearise_go_acc]
      exact ⟨List.mem_of_getElem? hi, ih _ _⟩
theorem OX : ∀ (fuel : Nat) (listed : Array Bool) (L : List Nat) (a : Act) (w : World), wpAny P .any ops Q fuel listed a w → XT ops fuel listed L → wpOps P ops Q L a w := by
  intro fuel
  induction fuel with
  | zero => intro listed L a w h hL; obtain rfl : L = [] := hL; exact h.2
  | succ fuel ih =>
    intro listed L a w h hL
    cases L with
    | nil => exact h.1 hL
    | cons i L =>
      rw [wpOps_cons]
      exact wpOp_mono (fun a w hh => ih _ _ a w hh hL.2) (h.2 i hL.1)
end
structure Perm (π : List Nat) (ops : Array Oper) : Prop where
  len : π.length = ops.size
  to : ∀ i, i < ops.size → sO π i < ops.size ∧ π[sO π i]? = some i
  back : ∀ k, k < ops.size → ∃ i, π[k]? = some i ∧ sO π i = k ∧ i < ops.size
  after : ∀ (i : Nat) (o : Oper), ops[i]? = some o → ∀ e ∈ o.after, e.on < ops.size
  guard : ∀ (i : Nat) (o : Oper) (j : Nat) (b : Bool), ops[i]? = some o → o.guard = some (j, b) → j < ops.size
theorem agN {π : List Nat} {ops : Array Oper} (h : Y3 π ops = true) : Perm π ops := by
  unfold Y3 at h
  simp only [Bool.and_eq_true] at h
  obtain ⟨⟨⟨h1, h2⟩, h3⟩, h4⟩ := h
  have h1 := Nat.eq_of_beq_eq_true h1
  have at4 : ∀ (i : Nat) (o : Oper), ops[i]? = some o → (o.after.all fun e => Nat.blt e.on ops.size) = true ∧ (match o.guard with | some (j, _) => Nat.blt j ops.size | none => true) = true := by
    intro i o ho
    have hi : i < ops.size := by
      rcases Nat.lt_or_ge i ops.size with h | h
      · exact h
      · rw [Array.getElem?_eq_none h] at ho; cases ho
    have := List.all_eq_true.1 h4 i (List.mem_range.2 hi)
    rw [ho] at this
    simp only [Bool.and_eq_true] at this
    refine ⟨this.1, ?_⟩
    have h := this.2
    revert h
    cases o.guard <;> exact id
  refine ⟨h1, fun i hi => ?_, fun k hk => ?_, fun i o ho e he => ?_, fun i o j b ho hg => ?_⟩
  · have := List.all_eq_true.1 h3 i (List.mem_range.2 hi)
    cases hp : π[sO π i]? with
    | none => rw [hp] at this; cases this
    | some j =>
      rw [hp] at this
      obtain rfl := Nat.eq_of_beq_eq_true this
      refine ⟨?_, rfl⟩
      rcases Nat.lt_or_ge (sO π j) π.length with h | h
      · omega
      · rw [List.getElem?_eq_none h] at hp; cases hp
  · have := List.all_eq_true.1 h2 k (List.mem_range.2 hk)
    cases hp : π[k]? with
    | none => rw [hp] at this; cases this
    | some i =>
      rw [hp] at this
      simp only [Bool.and_eq_true] at this
      exact ⟨i, rfl, Nat.eq_of_beq_eq_true this.1, (Nat.blt_eq (x := i) (y := ops.size)) ▸ this.2⟩
  · have := Array.all_eq_true'.1 (at4 i o ho).1 e he
    exact (Nat.blt_eq (x := e.on) (y := ops.size)) ▸ this
  · have := (at4 i o ho).2
    rw [hg] at this
    exact (Nat.blt_eq (x := j) (y := ops.size)) ▸ this
theorem WO {π : List Nat} {es : List (Nat × Nat)} {l : List Oper} : ∀ (r : List Nat), (∀ i ∈ r, i < l.length) → (PA π es l r).length = r.length ∧ ∀ k i : Nat, r[k]? = some i → (PA π es l r)[k]? = (l[i]?).map (E4 π es i) := by
  intro r
  induction r with
  | nil => intro _; exact ⟨rfl, fun k i h => by simp at h⟩
  | cons j r ih =>
    intro h
    obtain ⟨h1, h2⟩ := ih fun i hi => h i (List.mem_cons_of_mem _ hi)
    have hj : j < l.length := h j (by simp)
    simp only [PA, List.getElem?_eq_getElem hj]
    refine ⟨by simp [h1], fun k i hk => ?_⟩
    cases k with
    | zero => simp at hk; subst hk; simp [List.getElem?_eq_getElem hj]
    | succ k => simp at hk ⊢; exact h2 k i hk
section
variable {P : Program} {ops : Array Oper} {Q : Exit → Act → World → Prop} {π : List Nat} {es : List (Nat × Nat)}
theorem Perm.mem (p : Perm π ops) : ∀ i ∈ π, i < ops.toList.length := by
  intro i hi
  obtain ⟨k, hk, e⟩ := List.getElem_of_mem hi
  obtain ⟨j, h1, _, h2⟩ := p.back k (by rw [← p.len]; exact hk)
  rw [List.getElem?_eq_getElem hk] at h1
  cases h1
  rw [← e]; simpa using h2
theorem Perm.size (p : Perm π ops) : (lX π es ops).size = ops.size := by
  unfold lX
  rw [List.size_toArray, (WO (es := es) (π := π) π p.mem).1, p.len]
theorem Perm.get (p : Perm π ops) {i : Nat} (hi : i < ops.size) : (lX π es ops)[sO π i]? = (ops[i]?).map (E4 π es i) := by
  unfold lX
  have := (WO (es := es) (π := π) π p.mem).2 (sO π i) i (p.to i hi).2
  rw [Array.getElem?_toList] at this
  simpa using this
theorem aaF {i : Nat} {o : Oper} {a : Act} {w : World} {K : Act → World → Prop} : (E4 π es i o).wp P a w K Q = o.wp P a w K Q := by
  unfold Oper.wp
  have : execOp a.eval (E4 π es i o) = execOp a.eval o := by
    obtain ⟨d, op, ty, ps, af, g⟩ := o
    cases op <;> rfl
  rw [this]
  generalize (execOp a.eval o).run P w = r
  cases r with
  | ok n w => cases n <;> rfl
  | halt x w => cases x <;> rfl
theorem X6 {i : Nat} {o : Oper} {a : Act} {w : World} : (E4 π es i o).asks P a w = o.asks P a w := by
  unfold Oper.asks
  have : execOp a.eval (E4 π es i o) = execOp a.eval o := by
    obtain ⟨d, op, ty, ps, af, g⟩ := o
    cases op <;> rfl
  rw [this]
theorem Yb (p : Perm π ops) {i : Nat} {o : Oper} (ho : ops[i]? = some o) (tmps : Array Value) :
    Region.wanted (E4 π es i o) (yielded (lX π es ops) tmps) = Region.wanted o (yielded ops tmps) := by
  unfold Region.wanted E4
  simp only
  cases hg : o.guard with
  | none => rfl
  | some q =>
    obtain ⟨j, b⟩ := q
    simp only
    have hj := p.guard i o j b ho hg
    have : (lX π es ops)[sO π j]?.bind (·.dst) = (ops[j]?).bind (·.dst) := by
      rw [p.get hj]
      cases ops[j]? <;> rfl
    unfold yielded
    rw [this]
theorem Y2 (p : Perm π ops) : ∀ (L : List Nat), (∀ i ∈ L, i < ops.size) → ∀ (a : Act) (w : World), wpOps P (lX π es ops) Q (L.map (sO π)) a w → wpOps P ops Q L a w := by
  intro L
  induction L with
  | nil => intro _ a w h; exact h
  | cons i L ih =>
    intro hL a w h
    rw [List.map_cons, wpOps_cons] at h
    rw [wpOps_cons]
    have hi := hL i (by simp)
    have ih := ih fun i hi => hL i (List.mem_cons_of_mem _ hi)
    unfold wpOp at h ⊢
    rw [p.get hi] at h
    rw [Array.getElem?_eq_getElem hi] at h ⊢
    simp only [Option.map_some] at h
    rw [Yb p (Array.getElem?_eq_getElem hi)] at h
    simp only
    split
    · rename_i hw
      rw [if_pos hw, aaF, X6] at h
      exact h.imp (Oper.wp_mono fun a w => ih a w) id
    · rename_i hw
      rw [if_neg hw] at h
      exact ih _ _ h
theorem LL {ops : Array Oper} {listed : Array Bool} (hsz : listed.size = ops.size) (i : Nat) :
    i ∈ Region.ready .any ops listed ↔ (i < ops.size ∧ listed.getD i false = false ∧ ∀ o, ops[i]? = some o → ∀ e ∈ o.after, Region.binds .any e = true → listed.getD e.on false = true) := by
  unfold Region.ready
  rw [List.mem_filter, List.mem_range]
  constructor
  · rintro ⟨h1, h2⟩
    rw [Array.getElem?_eq_getElem h1] at h2
    simp only [Bool.and_eq_true, Option.map_some, Option.getD_some] at h2
    refine ⟨h1, ?_, fun o ho e he hb => ?_⟩
    · have := h2.1
      rw [Array.getD_eq_getD_getElem?] at this ⊢
      rw [Array.getElem?_eq_getElem (by omega)] at this ⊢
      simpa using this
    · rw [Array.getElem?_eq_getElem h1] at ho
      cases ho
      have := Array.all_eq_true'.1 h2.2 e he
      simpa [hb] using this
  · rintro ⟨h1, h2, h3⟩
    refine ⟨h1, ?_⟩
    rw [Array.getElem?_eq_getElem h1]
    simp only [Bool.and_eq_true, Option.map_some, Option.getD_some]
    refine ⟨?_, Array.all_eq_true'.2 fun e he => ?_⟩
    · rw [Array.getD_eq_getD_getElem?] at h2 ⊢
      rw [Array.getElem?_eq_getElem (by omega)] at h2 ⊢
      simpa using h2
    · by_cases hb : Region.binds .any e = true
      · simp [hb, h3 _ (Array.getElem?_eq_getElem h1) e he hb]
      · simp [hb]
theorem adJ {π : List Nat} {i : Nat} : ∀ {es : List (Nat × Nat)} {e : Edge}, e ∈ Ee π i es → ∃ a, (a, i) ∈ es ∧ e.on = sO π a := by
  intro es
  induction es with
  | nil => intro e h; simp [Ee] at h
  | cons q r ih =>
    obtain ⟨a, b⟩ := q
    intro e h
    simp only [Ee] at h
    cases hb : Nat.beq b i with
    | true =>
      rw [hb] at h
      obtain rfl := Nat.eq_of_beq_eq_true hb
      rcases List.mem_cons.1 h with rfl | h
      · exact ⟨a, by simp, rfl⟩
      · obtain ⟨a, h1, h2⟩ := ih h; exact ⟨a, List.mem_cons_of_mem _ h1, h2⟩
    | false => rw [hb] at h; obtain ⟨a, h1, h2⟩ := ih h; exact ⟨a, List.mem_cons_of_mem _ h1, h2⟩
theorem acF (p : Perm π ops) {L0 : List Nat} (hes : ∀ q ∈ es, L0.idxOf q.1 ≤ L0.idxOf q.2 ∧ q.1 ≠ q.2 ∧ q.1 < ops.size) :
    ∀ (fuel : Nat) (listed listed' : Array Bool) (pre L : List Nat), L0 = pre ++ L → listed.size = ops.size → listed'.size = ops.size →
      (∀ j, j < ops.size → listed'.getD (sO π j) false = listed.getD j false) → (∀ j ∈ pre, listed.getD j false = true) → (∀ j, listed.getD j false = true → j ∈ pre) →
      XT ops fuel listed L → XT (lX π es ops) fuel listed' (L.map (sO π)) ∧ ∀ i ∈ L, i < ops.size := by
  intro fuel
  induction fuel with
  | zero => intro listed listed' pre L _ _ _ _ _ _ h; obtain rfl : L = [] := h; exact ⟨rfl, by simp⟩
  | succ fuel ih =>
    intro listed listed' pre L hL0 hs hs' hrel hpre hpre' h
    have hsz : (lX π es ops).size = ops.size := p.size
    cases L with
    | nil =>
      refine ⟨?_, by simp⟩
      show Region.ready .any (lX π es ops) listed' = []
      rw [List.eq_nil_iff_forall_not_mem]
      intro k hk
      obtain ⟨h1, h2, h3⟩ := (LL (by omega) k).1 hk
      obtain ⟨i, hi1, hi2, hi3⟩ := p.back k (by omega)
      have : i ∈ Region.ready .any ops listed := by
        refine (LL hs i).2 ⟨hi3, ?_, fun o ho e he hb => ?_⟩
        · rw [← hrel i hi3, hi2]; exact h2
        · have g := p.get (es := es) hi3
          rw [hi2, ho] at g
          have hon := p.after i o ho e he
          have := h3 _ g ⟨sO π e.on, e.ground⟩ (by
            simp only [E4, List.mem_toArray, List.mem_append, List.mem_map]
            exact .inl ⟨e, by simpa using he, rfl⟩) (by unfold Region.binds at hb ⊢; exact hb)
          rw [← hrel e.on hon]; exact this
      rw [show Region.ready .any ops listed = [] from h] at this
      cases this
    | cons i L =>
      obtain ⟨h1, h2⟩ := h
      obtain ⟨r1, r2, r3⟩ := (LL hs i).1 h1
      have hnot : i ∉ pre := fun hm => by rw [hpre i hm] at r2; cases r2
      have hidx : L0.idxOf i = pre.length := by
        rw [hL0, List.idxOf_append, if_neg hnot]; simp
      have ready' : sO π i ∈ Region.ready .any (lX π es ops) listed' := by
        refine (LL (by omega) _).2 ⟨by rw [hsz]; exact (p.to i r1).1, by rw [hrel i r1]; exact r2, fun o' ho' e' he' hb => ?_⟩
        rw [p.get r1, Array.getElem?_eq_getElem r1] at ho'
        simp only [Option.map_some, Option.some.injEq] at ho'
        subst ho'
        simp only [E4, List.mem_toArray, List.mem_append, List.mem_map] at he'
        rcases he' with ⟨e, he, rfl⟩ | he'
        · have ho := Array.getElem?_eq_getElem r1
          have he2 : e ∈ ops[i].after := by simpa using he
          rw [hrel e.on (p.after i _ ho e he2)]
          exact r3 _ ho e he2 (by unfold Region.binds at hb ⊢; exact hb)
        · obtain ⟨a, ha, hon⟩ := adJ he'
          obtain ⟨q1, q2, q3⟩ := hes _ ha
          simp only at q1 q2 q3
          rw [hon, hrel a q3]
          refine hpre a ?_
          rw [hidx] at q1
          rw [hL0, List.idxOf_append] at q1
          by_cases hm : a ∈ pre
          · exact hm
          · rw [if_neg hm] at q1
            exfalso
            have hz : (i :: L).idxOf a = 0 := by omega
            rw [List.idxOf_cons] at hz
            cases hb : (i == a) with
            | true => exact q2 (by simpa using (beq_iff_eq.1 hb).symm)
            | false => rw [hb] at hz; simp at hz
      have hlen' : listed'.size = ops.size := hs'
      obtain ⟨k1, k2⟩ := ih (listed.setIfInBounds i true) (listed'.setIfInBounds (sO π i) true) (pre ++ [i]) L (by rw [hL0]; simp) (by simp [hs]) (by simp [hs'])
        (fun j hj => by
          by_cases hji : j = i
          · subst hji
            rw [Array.getD_eq_getD_getElem?, Array.getD_eq_getD_getElem?, Array.getElem?_setIfInBounds_self_of_lt (by rw [hs']; exact (p.to j hj).1), Array.getElem?_setIfInBounds_self_of_lt (by omega)]
          · have hne : sO π i ≠ sO π j := fun e => by
              have a1 := (p.to i r1).2
              have a2 := (p.to j hj).2
              rw [e] at a1
              rw [a1] at a2
              exact hji (Option.some.inj a2).symm
            have := hrel j hj
            rw [Array.getD_eq_getD_getElem?, Array.getD_eq_getD_getElem?] at this ⊢
            rw [Array.getElem?_setIfInBounds_ne hne, Array.getElem?_setIfInBounds_ne (fun e => hji e.symm)]
            exact this)
        (fun j hj => by
          rw [Array.getD_eq_getD_getElem?]
          rcases List.mem_append.1 hj with hj | hj
          · by_cases hji : j = i
            · subst hji; rw [Array.getElem?_setIfInBounds_self_of_lt (by omega)]; rfl
            · rw [Array.getElem?_setIfInBounds_ne (fun e => hji e.symm), ← Array.getD_eq_getD_getElem?]; exact hpre j hj
          · have : j = i := by simpa using hj
            subst this
            rw [Array.getElem?_setIfInBounds_self_of_lt (by omega)]; rfl)
        (fun j hj => by
          by_cases hji : j = i
          · subst hji; simp
          · rw [Array.getD_eq_getD_getElem?, Array.getElem?_setIfInBounds_ne (fun e => hji e.symm), ← Array.getD_eq_getD_getElem?] at hj
            exact List.mem_append_left _ (hpre' j hj))
        h2
      exact ⟨⟨ready', k1⟩, fun j hj => (List.mem_cons.1 hj).elim (fun e => e ▸ r1) (k2 j)⟩
end
section
variable {P : Program} {ops : Array Oper}
theorem TZ {N : Nat} {an : ZP} {pl : Yv} (hok : V3 ops an = true) (hpl : VV ops.size an pl = true) (hd : Wf N ops) (hca : RJ P ops)
    {K : eL → World → Prop} {Q : Exit → Act → World → Prop} (hQ : ∀ g a w, LN N g a → K g w → Q .normal a w) {g : eL} {a : Act} {w : World} (hr : LN N g a)
    (h : nR P ops ops.toList pl [] g w K) : wpAny P .any ops Q ops.size (Array.replicate ops.size false) a w := by
  have r0 : Run P ops an g w 0 (fun _ => default) (fun _ => g) (fun _ => w) (fun _ => undef) :=
    ⟨rfl, rfl, fun i hi => by omega, fun i hi => by omega, fun i hi => by omega, fun i hi => by omega, fun i j _ hj => by omega⟩
  obtain ⟨O, G, W, V, r, hk⟩ := YP hpl ops.toList 0 [] _ _ _ _ (fun j => by simp) (by simp) r0 (fun i hi => by omega) h
  simp only [Nat.zero_add, Array.length_toList] at r hk
  have st := aaW hok r.op
  have := adP (Q := Q) (n := ops.size) rfl hd hca r st (fun a hra => hQ _ a _ hra hk) ops.size (Array.replicate ops.size false) g a 0 (by simp) hr (by omega)
    (fun j hj hl => by unfold kE at hl; simp [Array.getD_eq_getD_getElem?, hj] at hl)
    (fun s => .inr ⟨fun j hj hl => by unfold kE at hl; simp [Array.getD_eq_getD_getElem?, hj] at hl, rfl⟩)
    (fun h hh _ => ⟨fun hl => by unfold kE at hl; simp [Array.getD_eq_getD_getElem?, hh] at hl, fun hl => by omega⟩)
    (Nat.le_trans (List.length_filter_le _ _) (by simp))
  rw [r.w0] at this
  exact this
theorem WH {N : Nat} {ops : Array Oper} (h : ops.all (ZR N) = true) : Wf N ops := by
  intro i o ho t ht
  have := Array.all_eq_true'.1 h o (Array.mem_of_getElem? ho)
  unfold ZR at this
  rw [ht] at this
  exact (Nat.blt_eq (x := t) (y := N)) ▸ this
theorem V6 {ops : Array Oper} (h : ops.all (Lh P) = true) : RJ P ops :=
  fun _ o ho => Array.all_eq_true'.1 h o (Array.mem_of_getElem? ho)
theorem YX {N : Nat} {f : FuncId} {id : Nat} (hd : Wf N ops) (hca : RJ P ops)
    {K : eL → World → Prop} {Q : Exit → Act → World → Prop} (hQ : ∀ g a w, LN N g a → K g w → Q .normal a w) {g : eL} {a : Act} {w0 w : World} (hr : LN N g a) :
    ∀ (T : HT) (path : List (Nat × Nat)), NS P N ops path T = true →
      (∀ q ∈ path, (Region.schedule true ops (w0.tape w0.drawn (.order f id))).idxOf q.1 ≤ (Region.schedule true ops (w0.tape w0.drawn (.order f id))).idxOf q.2 ∧ q.1 ≠ q.2) →
      Yf P f id ops T g w0 w K → wpOps P ops Q (Region.schedule true ops (w0.tape w0.drawn (.order f id))) a w := by
  have lin : XT ops ops.size (Array.replicate ops.size false) (Region.schedule true ops (w0.tape w0.drawn (.order f id))) := by
    unfold Region.schedule
    simp only [Bool.true_or, if_true]
    exact agH _ _ _
  generalize hL : Region.schedule true ops (w0.tape w0.drawn (.order f id)) = L at lin ⊢
  intro T
  induction T with
  | leaf an pl =>
    intro path hok _ h
    simp only [NS, Bool.and_eq_true] at hok
    exact OX _ _ _ _ _ (TZ hok.1 hok.2 hd hca hQ hr h) lin
  | perm π es an pl =>
    intro path hok hpath h
    simp only [NS, Bool.and_eq_true] at hok
    obtain ⟨⟨⟨⟨⟨h1, h2⟩, h3⟩, h4⟩, h5⟩, h6⟩ := hok
    have p := agN h2
    have hes : ∀ q ∈ es, L.idxOf q.1 ≤ L.idxOf q.2 ∧ q.1 ≠ q.2 ∧ q.1 < ops.size := fun q hq => by
      have := List.all_eq_true.1 h1 q hq
      simp only [Bool.and_eq_true] at this
      have hp := hpath q (adU this.1)
      exact ⟨hp.1, hp.2, (Nat.blt_eq (x := q.1) (y := ops.size)) ▸ this.2⟩
    obtain ⟨k1, k2⟩ := acF (es := es) p hes ops.size (Array.replicate ops.size false) (Array.replicate ops.size false) [] L rfl (by simp) (by simp)
      (fun j hj => by simp [Array.getD_eq_getD_getElem?, hj, (p.to j hj).1]) (by simp)
      (fun j hj => by rw [Array.getD_eq_getD_getElem?] at hj; by_cases hh : j < ops.size <;> simp [hh] at hj) lin
    have hw := TZ h5 h6 (WH h3) (V6 h4) hQ hr h
    rw [p.size] at hw
    exact Y2 (es := es) p L k2 a w (OX _ _ _ _ _ hw k1)
  | split x y A B ihA ihB =>
    intro path hok hpath h
    simp only [NS, Bool.and_eq_true] at hok
    have hne : x ≠ y := by
      intro e
      have := hok.1.1
      rw [e] at this
      simp at this
    simp only [Yf] at h
    unfold Ord afP at h
    rw [hL] at h
    cases hb : Nat.ble (L.idxOf x) (L.idxOf y) with
    | true =>
      rw [hb] at h
      refine ihA _ hok.1.2 (fun q hq => ?_) h
      rcases List.mem_cons.1 hq with rfl | hq
      · exact ⟨Nat.le_of_ble_eq_true hb, hne⟩
      · exact hpath q hq
    | false =>
      rw [hb] at h
      refine ihB _ hok.2 (fun q hq => ?_) h
      rcases List.mem_cons.1 hq with rfl | hq
      · refine ⟨?_, hne.symm⟩
        simp only
        rcases Nat.lt_or_ge (L.idxOf y) (L.idxOf x) with hh | hh
        · omega
        · have := Nat.ble_eq_true_of_le hh; rw [this] at hb; cases hb
      · exact hpath q hq
end
end Go.En
namespace Go.En
open Go
section
variable {P : Program} {ann : FA}
def lD : List Oper → List Nat
  | [] => []
  | o :: r => match o.dst with | some d => d :: lD r | none => lD r
def Tz : Code → List Nat
  | .region _ ops _ => lD ops.toList
  | .seq x y => Tz x ++ Tz y
  | .cond _ x y => Tz x ++ Tz y
  | .block _ c => Tz c
  | .scope c => Tz c
  | .loop c => Tz c
  | _ => []
def kY (l : List Nat) (g g' : eL) : Prop := ∀ s, s ∉ l → g' s = g s
theorem kY.refl (l : List Nat) (g : eL) : kY l g g := fun _ _ => rfl
theorem kY.trans {l l1 l2 : List Nat} {a b c : eL} (h : kY l1 a b) (k : kY l2 b c) (h1 : ∀ s, s ∈ l1 → s ∈ l) (h2 : ∀ s, s ∈ l2 → s ∈ l) : kY l a c :=
  fun s hs => (k s fun h => hs (h2 s h)).trans (h s fun h => hs (h1 s h))
theorem kY.mono {l l1 : List Nat} {a b : eL} (h : kY l1 a b) (h1 : ∀ s, s ∈ l1 → s ∈ l) : kY l a b := fun s hs => h s fun hh => hs (h1 s hh)
theorem kY.put {l : List Nat} {a : eL} (d : Option Tmp) (v : Value) (h : ∀ t, d = some t → t ∈ l) : kY l a (put a d v) := by
  intro s hs
  cases d with
  | none => rfl
  | some t =>
    rw [Vq, if_neg (fun e => hs (by rw [e]; exact h t rfl))]
theorem ZM {ops : Array Oper} {K : eL → World → Prop} : ∀ (l : List Oper) (g : eL) (w : World), V0 P ops l g w K →
    ∃ g' w', K g' w' ∧ kY (lD l) g g' ∧ ∀ K' : eL → World → Prop, K' g' w' → V0 P ops l g w K' := by
  intro l
  induction l with
  | nil => intro g w h; exact ⟨g, w, h, kY.refl _ _, fun _ h => h⟩
  | cons o l ih =>
    intro g w h
    obtain ⟨v, w1, hy, h1⟩ := H8 h
    obtain ⟨g', w', hk, ha, hall⟩ := ih _ _ h1
    refine ⟨g', w', hk, ?_, fun K' hk' => hy _ (hall K' hk')⟩
    refine kY.trans (kY.put o.dst v (l := lD (o :: l)) fun t ht => by simp [lD, ht]) ha (fun _ h => h) (fun s hs => ?_)
    unfold lD
    split
    · exact List.mem_cons_of_mem _ hs
    · exact hs
theorem TK {ops : Array Oper} {K : eL → World → Prop} : ∀ (l : List Oper) (pl : Yv) (hist : List Rec) (g : eL) (w : World), nR P ops l pl hist g w K →
    ∃ g' w', K g' w' ∧ kY (lD l) g g' ∧ ∀ K' : eL → World → Prop, K' g' w' → nR P ops l pl hist g w K' := by
  intro l
  induction l with
  | nil => intro pl hist g w h; unfold nR at h; exact ⟨g, w, h, kY.refl _ _, fun _ h => (by unfold nR; exact h)⟩
  | cons o l ih =>
    intro pl hist g w h
    cases pl with
    | nil => exact h.elim
    | cons p pl =>
      obtain ⟨hv, ks⟩ := p
      obtain ⟨v, w1, hy, h1⟩ := H8 h
      have tail : ∀ (w2 : World) (hist' : List Rec), nR P ops l pl hist' (put g o.dst v) w2 K →
          ∃ g' w', K g' w' ∧ kY (lD (o :: l)) g g' ∧ ∀ K' : eL → World → Prop, K' g' w' → nR P ops l pl hist' (put g o.dst v) w2 K' := by
        intro w2 hist' c2
        obtain ⟨g', w', hk, ha, hall⟩ := ih _ _ _ _ c2
        refine ⟨g', w', hk, ?_, hall⟩
        refine kY.trans (kY.put o.dst v (l := lD (o :: l)) fun t ht => by simp [lD, ht]) ha (fun _ h => h) (fun s hs => ?_)
        unfold lD
        split
        · exact List.mem_cons_of_mem _ hs
        · exact hs
      cases hv with
      | true =>
        cases ks with
        | nil =>
          obtain ⟨g', w', hk, ha, hall⟩ := tail w1 _ h1
          exact ⟨g', w', hk, ha, fun K' hk' => hy _ (hall K' hk')⟩
        | cons k ks =>
          obtain ⟨hc, h1⟩ := h1
          obtain ⟨g', w', hk, ha, hall⟩ := tail w1 _ h1
          exact ⟨g', w', hk, ha, fun K' hk' => hy _ ⟨hc, hall K' hk'⟩⟩
      | false =>
        cases ks with
        | nil =>
          obtain ⟨rfl, h1⟩ := h1
          obtain ⟨g', w', hk, ha, hall⟩ := tail w1 _ h1
          exact ⟨g', w', hk, ha, fun K' hk' => hy _ ⟨rfl, hall K' hk'⟩⟩
        | cons k ks =>
          obtain ⟨rfl, hc, h1⟩ := h1
          obtain ⟨g', w', hk, ha, hall⟩ := tail w1 _ h1
          exact ⟨g', w', hk, ha, fun K' hk' => hy _ ⟨rfl, hc, hall K' hk'⟩⟩
theorem Ln {l : List Oper} {s : Nat} : s ∈ lD l ↔ ∃ o ∈ l, o.dst = some s := by
  induction l with
  | nil => simp [lD]
  | cons o l ih =>
    unfold lD
    cases hd : o.dst with
    | none => simp [ih, hd]
    | some d => simp [ih, hd, eq_comm]
theorem YY {π : List Nat} {es : List (Nat × Nat)} {l : List Oper} {s : Nat} : ∀ (r : List Nat), s ∈ lD (PA π es l r) → s ∈ lD l := by
  intro r
  induction r with
  | nil => intro h; simp [PA, lD] at h
  | cons i r ih =>
    intro h
    simp only [PA] at h
    cases ho : l[i]? with
    | none => rw [ho] at h; exact ih h
    | some o =>
      rw [ho] at h
      obtain ⟨o', h1, h2⟩ := Ln.1 h
      rcases List.mem_cons.1 h1 with rfl | h1
      · exact Ln.2 ⟨o, List.mem_of_getElem? ho, h2⟩
      · exact ih (Ln.2 ⟨o', h1, h2⟩)
theorem aeG {f : FuncId} {id : Nat} {ops : Array Oper} {K : eL → World → Prop} {g : eL} {w0 : World} : ∀ (T : HT) (w : World), Yf P f id ops T g w0 w K →
    ∃ g' w', K g' w' ∧ kY (lD ops.toList) g g' ∧ ∀ K' : eL → World → Prop, K' g' w' → Yf P f id ops T g w0 w K' := by
  intro T
  induction T with
  | leaf an pl => intro w h; exact TK _ _ _ _ _ h
  | perm π es an pl =>
    intro w h
    obtain ⟨g', w', a, b, c⟩ := TK _ _ _ _ _ h
    exact ⟨g', w', a, b.mono (fun s hs => YY π (by simpa [lX] using hs)), c⟩
  | split x y A B ihA ihB =>
    intro w h
    simp only [Yf, Ord] at h ⊢
    cases hb : afP f id ops x y w0 with
    | true => rw [hb] at h; exact ihA w h
    | false => rw [hb] at h; exact ihB w h
theorem cV.head {α : Type} {F : (α → World → Prop) → α → World → Prop} (hmono : ∀ X Y g w, (∀ g w, X g w → Y g w) → F X g w → F Y g w)
    {g : α} {w : World} (h : F (fun g' w' => cV F g' w') g w) (hdet : ∃ g' w', cV F g' w' ∧ ∀ X : α → World → Prop, X g' w' → F X g w) : cV F g w := by
  obtain ⟨g1, w1, ⟨I, ⟨n1, h1⟩, hI⟩, hF⟩ := hdet
  refine ⟨fun n g' w' => I n g' w' ∨ (n = n1 + 1 ∧ g' = g ∧ w' = w), ⟨n1 + 1, .inr ⟨rfl, rfl, rfl⟩⟩, ?_⟩
  rintro n g' w' (h | ⟨rfl, rfl, rfl⟩)
  · exact hmono _ _ _ _ (fun _ _ ⟨m, hm, hh⟩ => ⟨m, hm, .inl hh⟩) (hI _ _ _ h)
  · exact hF _ ⟨n1, by omega, .inl h1⟩
theorem Z3 : ∀ (c : Code) (Q : Exit → eL → World → Prop) (g : eL) (w : World), aQ P ann c Q g w →
    ∃ e g' w', Q e g' w' ∧ kY (Tz c) g g' ∧ ∀ Q' : Exit → eL → World → Prop, Q' e g' w' → aQ P ann c Q' g w := by
  intro c
  induction c with
  | skip => intro Q g w h; exact ⟨_, _, _, h, kY.refl _ _, fun _ h => h⟩
  | region id ops draw =>
    intro Q g w h
    cases draw with
    | false =>
      obtain ⟨g', w', a, b, c⟩ := ZM _ _ _ h
      exact ⟨.normal, g', w', a, b, fun Q' h => c _ h⟩
    | true =>
      obtain ⟨g', w', a, b, c⟩ := aeG _ _ h
      exact ⟨.normal, g', w', a, b, fun Q' h => c _ h⟩
  | seq x y ihx ihy =>
    intro Q g w h
    obtain ⟨e, g1, w1, a, b, c⟩ := ihx _ _ _ h
    cases e with
    | normal =>
      obtain ⟨e2, g2, w2, a2, b2, c2⟩ := ihy _ _ _ a
      exact ⟨e2, g2, w2, a2, b.trans b2 (fun s h => List.mem_append_left _ h) (fun s h => List.mem_append_right _ h), fun Q' h => c _ (c2 _ h)⟩
    | _ => exact ⟨_, g1, w1, a, b.mono (fun s h => List.mem_append_left _ h), fun Q' h => c _ h⟩
  | cond c x y ihx ihy =>
    intro Q g w h
    simp only [aQ] at h ⊢
    unfold hH at h ⊢
    cases hc : ev g c with
    | bool b =>
      rw [hc] at h
      cases b with
      | true =>
        obtain ⟨e, g', w', a, b, c⟩ := ihx _ _ _ h
        exact ⟨e, g', w', a, b.mono (fun s h => List.mem_append_left _ h), c⟩
      | false =>
        obtain ⟨e, g', w', a, b, c⟩ := ihy _ _ _ h
        exact ⟨e, g', w', a, b.mono (fun s h => List.mem_append_right _ h), c⟩
    | _ => rw [hc] at h; exact h.elim
  | block id c ih =>
    intro Q g w h
    obtain ⟨e, g', w', a, b, c⟩ := ih _ _ _ h
    cases e with
    | exit i =>
      simp only [rP] at a
      cases hb : Nat.beq i id with
      | true =>
        simp only [hb] at a
        refine ⟨.normal, g', w', a, b, fun Q' h => c _ ?_⟩
        simp only [rP, hb]; exact h
      | false =>
        simp only [hb] at a
        refine ⟨.exit i, g', w', a, b, fun Q' h => c _ ?_⟩
        simp only [rP, hb]; exact h
    | _ => exact ⟨_, g', w', a, b, fun Q' h => c _ h⟩
  | loop c ih =>
    intro Q g w h
    have hmono : ∀ (Q : Exit → eL → World → Prop) (X Y : eL → World → Prop) g w, (∀ g w, X g w → Y g w) → aQ P ann c (aX X Q) g w → aQ P ann c (aX Y Q) g w := by
      intro Q X Y g w hxy h
      obtain ⟨e, g', w', a, _, k⟩ := ih _ _ _ h
      refine k _ ?_
      cases e with
      | normal => exact hxy _ _ a
      | _ => exact a
    obtain ⟨I, ⟨n, h0⟩, hI⟩ := h
    have key : ∀ n g w, I n g w → ∃ e g' w', Q e g' w' ∧ kY (Tz c) g g' ∧ ∀ Q' : Exit → eL → World → Prop, Q' e g' w' → cV (fun X g w => aQ P ann c (aX X Q') g w) g w := by
      intro n
      induction n using Nat.strongRecOn with
      | _ n ih2 =>
        intro g w hg
        obtain ⟨e, g1, w1, a, b, k⟩ := ih _ _ _ (hI n g w hg)
        have once : ∀ (Q' : Exit → eL → World → Prop), (∀ X : eL → World → Prop, aQ P ann c (aX X Q') g w) → cV (fun X g w => aQ P ann c (aX X Q') g w) g w := by
          intro Q' h
          refine ⟨fun n g' w' => g' = g ∧ w' = w, ⟨0, rfl, rfl⟩, ?_⟩
          rintro _ g' w' ⟨rfl, rfl⟩
          exact h _
        cases e with
        | normal =>
          obtain ⟨m, hm, hIm⟩ := a
          obtain ⟨e2, g2, w2, a2, b2, k2⟩ := ih2 m hm g1 w1 hIm
          refine ⟨e2, g2, w2, a2, b.trans b2 (fun _ h => h) (fun _ h => h), fun Q' h => ?_⟩
          have hl := k2 Q' h
          exact cV.head (hmono Q') (k _ hl) ⟨g1, w1, hl, fun X hx => k _ hx⟩
        | _ => exact ⟨_, g1, w1, a, b, fun Q' h => once Q' fun X => k _ h⟩
    exact key n g w h0
  | exit id => intro Q g w h; exact ⟨_, _, _, h, kY.refl _ _, fun _ h => h⟩
  | label l => intro Q g w h; exact ⟨_, _, _, h, kY.refl _ _, fun _ h => h⟩
  | scope c ih => intro Q g w h; exact ih Q g w h
  | ret => intro Q g w h; exact ⟨_, _, _, h, kY.refl _ _, fun _ h => h⟩
  | _ => intro Q g w h; exact h.elim
theorem FF {c : Code} {Q Q' : Exit → eL → World → Prop} {g : eL} {w : World} (h : aQ P ann c Q g w)
    (hq : ∀ e g' w', kY (Tz c) g g' → Q e g' w' → Q' e g' w') : aQ P ann c Q' g w :=
  let ⟨_, _, _, a, b, k⟩ := Z3 c Q g w h
  k _ (hq _ _ _ b a)
def noG (Q : Exit → eL → World → Prop) : Exit → eL → World → Prop
  | .goto _, _, _ => False
  | e, g, w => Q e g w
theorem Zq : ∀ (c : Code) (Q : Exit → eL → World → Prop) (g : eL) (w : World), aQ P ann c Q g w → aQ P ann c (noG Q) g w := by
  intro c
  induction c with
  | skip => intro Q g w h; exact h
  | region id ops draw => intro Q g w h; cases draw <;> exact h
  | seq x y ihx ihy =>
    intro Q g w h
    show aQ P ann x (aX (fun g w => aQ P ann y (noG Q) g w) (noG Q)) g w
    refine FF (ihx _ _ _ h) (fun e g' w' _ hq => ?_)
    cases e with
    | normal => exact ihy _ _ _ hq
    | goto l => exact hq.elim
    | _ => exact hq
  | cond c x y ihx ihy =>
    intro Q g w h
    simp only [aQ] at h ⊢
    unfold hH at h ⊢
    cases hc : ev g c with
    | bool b =>
      rw [hc] at h
      cases b with
      | true => exact ihx _ _ _ h
      | false => exact ihy _ _ _ h
    | _ => rw [hc] at h; exact h.elim
  | block id c ih =>
    intro Q g w h
    show aQ P ann c (rP id (noG Q)) g w
    refine FF (ih _ _ _ h) (fun e g' w' _ hq => ?_)
    cases e with
    | exit i =>
      simp only [noG, rP] at hq ⊢
      cases hb : Nat.beq i id with
      | true => rw [hb] at hq; exact hq
      | false => rw [hb] at hq; exact hq
    | goto l => exact hq.elim
    | _ => exact hq
  | loop c ih =>
    intro Q g w h
    obtain ⟨I, h0, hI⟩ := h
    refine ⟨I, h0, fun n g w hi => ?_⟩
    refine FF (ih _ _ _ (hI n g w hi)) (fun e g' w' _ hq => ?_)
    cases e with
    | normal => exact hq
    | goto l => exact hq.elim
    | _ => exact hq
  | exit id => intro Q g w h; exact h
  | label l => intro Q g w h; exact h
  | scope c ih => intro Q g w h; exact ih Q g w h
  | ret => intro Q g w h; exact h
  | _ => intro Q g w h; exact h.elim
theorem abI {N : Nat} (hm : P.follows .mixedOrders = true) : ∀ (c : Code), Bx P N ann c = true →
    ∀ (Q : Exit → eL → World → Prop) (QA : Exit → Act → World → Prop) (g : eL) (a : Act) (w : World), LN N g a →
      (∀ e g a w, LN N g a → Q e g w → QA e a w) → aQ P ann c Q g w → Y0 P ann.f c QA a w := by
  intro c
  induction c with
  | skip => intro _ Q QA g a w hr hq h; exact VN (wp_skip (hq _ _ _ _ hr h))
  | region id ops draw =>
    intro hok Q QA g a w hr hq h
    simp only [Bx, Bool.and_eq_true, Bool.or_eq_true, Bool.not_eq_true'] at hok
    have hd := WH hok.1.1
    have hca := V6 hok.1.2
    cases draw with
    | false =>
      refine VN (wp_region ?_)
      have := aaQ hd hca (P := P) (Q := QA) (K := Q .normal) (fun g a w => hq .normal g a w) ops.toList 0 g a w (fun j => by simp) hr h
      rw [List.range_eq_range']
      simpa using this
    | true =>
      rcases hok.2 with h1 | h1
      · cases h1
      · exact UB hm (YX hd hca (fun g a w => hq .normal g a w) hr _ [] h1 (by simp) h)
  | seq x y ihx ihy =>
    intro hok Q QA g a w hr hq h
    simp only [Bx, Bool.and_eq_true] at hok
    refine agQ (ihx hok.1 _ _ g a w hr (fun e g a w hr h => ?_) h)
    cases e with
    | normal => exact ihy hok.2 _ _ g a w hr hq h
    | _ => exact hq _ _ _ _ hr h
  | cond c x y ihx ihy =>
    intro hok Q QA g a w hr hq h
    simp only [Bx, Bool.and_eq_true] at hok
    simp only [aQ] at h
    unfold hH at h
    have he := hr.ev c
    cases hc : ev g c with
    | bool b =>
      rw [hc] at h he
      refine acN he ?_
      cases b with
      | true => exact ihx hok.1 _ _ g a w hr hq h
      | false => exact ihy hok.2 _ _ g a w hr hq h
    | _ => rw [hc] at h; exact h.elim
  | block id c ih =>
    intro hok Q QA g a w hr hq h
    refine abQ (ih hok _ _ g a w hr (fun e g a w hr h => ?_) h)
    cases e with
    | exit i =>
      unfold Exit.inBlock
      simp only [rP] at h
      by_cases hi : i = id
      · subst hi
        simp only [if_true]
        simp only [Nat.beq_refl] at h
        exact hq _ _ _ _ hr h
      · simp only [hi, if_false]
        have : Nat.beq i id = false := by
          cases hb : Nat.beq i id
          · rfl
          · exact absurd (Nat.eq_of_beq_eq_true hb) hi
        simp only [this] at h
        exact hq _ _ _ _ hr h
    | _ => exact hq _ _ _ _ hr h
  | loop c ih =>
    intro hok Q QA g a w hr hq h
    obtain ⟨I, h0, hround⟩ := h
    have hex : ∀ a w, (∃ n g, LN N g a ∧ I n g w) → ∃ n, (∃ g, LN N g a ∧ I n g w) ∧ ∀ m, (∃ g, LN N g a ∧ I m g w) → n ≤ m := by
      rintro a w ⟨n, hn⟩
      induction n using Nat.strongRecOn with
      | _ n ih2 =>
        by_cases hx : ∃ m, m < n ∧ ∃ g, LN N g a ∧ I m g w
        · obtain ⟨m, hm, h⟩ := hx; exact ih2 m hm h
        · exact ⟨n, hn, fun m hm => Nat.le_of_not_lt fun hlt => hx ⟨m, hlt, hm⟩⟩
    have hdec : ∀ a w, Decidable (∃ n g, LN N g a ∧ I n g w) := fun a w => Classical.propDecidable _
    let μ : Act → World → Nat := fun a w => if hh : ∃ n g, LN N g a ∧ I n g w then Classical.choose (hex a w hh) else 0
    have hμ : ∀ a w n g, LN N g a → I n g w → μ a w ≤ n ∧ ∃ g, LN N g a ∧ I (μ a w) g w := by
      intro a w n g hr hI
      have hh : ∃ n g, LN N g a ∧ I n g w := ⟨n, g, hr, hI⟩
      have e : μ a w = Classical.choose (hex a w hh) := dif_pos hh
      have s := Classical.choose_spec (hex a w hh)
      rw [e]
      exact ⟨s.2 n ⟨g, hr, hI⟩, s.1⟩
    obtain ⟨n0, h0⟩ := h0
    refine aeE (fun a w => ∃ n g, LN N g a ∧ I n g w) μ ⟨n0, g, hr, h0⟩ ?_
    rintro a w ⟨n, g, hr, hI⟩
    obtain ⟨_, g', hr', hI'⟩ := hμ a w n g hr hI
    refine ih hok _ _ g' a w hr' (fun e g1 a1 w1 hr1 h => ?_) (hround _ _ _ hI')
    cases e with
    | normal =>
      obtain ⟨m, hm, hIm⟩ := h
      have := hμ a1 w1 m g1 hr1 hIm
      exact ⟨⟨m, g1, hr1, hIm⟩, by omega⟩
    | _ => exact hq _ _ _ _ hr1 h
  | label l => intro _ Q QA g a w hr hq h; exact VN (wp_label (hq _ _ _ _ hr h))
  | scope c ih =>
    intro hok Q QA g a w hr hq h
    refine aaJ (ih hok (noG Q) _ g a w hr (fun e g a w hr h => ?_) (Zq c _ g w h))
    cases e with
    | goto l => exact h.elim
    | _ => exact hq _ _ _ _ hr h
  | exit id => intro _ Q QA g a w hr hq h; exact VN (wp_exit (hq _ _ _ _ hr h))
  | ret => intro _ Q QA g a w hr hq h; exact VN (wp_ret (hq _ _ _ _ hr h))
  | _ => intro hok; simp [Bx] at hok
def wW (P : Program) : List ResultVar → eL → World → (List Value → Prop) → Prop
  | [], _, _, K => K []
  | .tmp t :: r, g, w, K => wW P r g w fun vs => K (g t :: vs)
  | .cell a t :: r, g, w, K => ∃ v, (do loadVar t (← asAddr (g a)) : Sem Value).run P w = .ok v w ∧ wW P r g w fun vs => K (v :: vs)
def tup : List Value → Value
  | [v] => v
  | vs => .tuple vs.toArray
def jT (P : Program) (rs : List ResultVar) (R : Value → World → Prop) : Exit → eL → World → Prop
  | .normal, g, w => wW P rs g w fun vs => R (tup vs) w
  | .ret, g, w => wW P rs g w fun vs => R (tup vs) w
  | _, _, _ => False
theorem YM {N : Nat} {g : eL} {a : Act} {w : World} (hr : LN N g a) : ∀ (rs : List ResultVar) (K : List Value → Prop), wW P rs g w K →
    ∃ vs, K vs ∧ (rs.mapM fun | .tmp t => pure (a.tmps.getD t undef) | .cell b t => do loadVar t (← asAddr (a.tmps.getD b undef)) : Sem (List Value)).run P w = .ok vs w := by
  intro rs
  induction rs with
  | nil => intro K h; exact ⟨[], h, by simp⟩
  | cons r rs ih =>
    intro K h
    cases r with
    | tmp t =>
      obtain ⟨vs, h1, h2⟩ := ih _ h
      refine ⟨_, h1, ?_⟩
      rw [List.mapM_cons]
      rw [pure_bind, Sem.run_bind]
      simp only [h2, Result.andThen, Sem.run_pure, hr.2.2 t]
    | cell b t =>
      obtain ⟨v, hv, h⟩ := h
      obtain ⟨vs, h1, h2⟩ := ih _ h
      refine ⟨_, h1, ?_⟩
      rw [List.mapM_cons]
      rw [← hr.2.2 b] at hv
      rw [Sem.run_bind]
      simp only [hv, Result.andThen]
      rw [Sem.run_bind]
      simp only [h2, Result.andThen]
      rfl
theorem ahX (vs : Array Value) : (if h : vs.size = 1 then vs[0] else Value.tuple vs) = tup vs.toList := by
  obtain ⟨l⟩ := vs
  match l with
  | [] => rfl
  | [v] => rfl
  | a :: b :: r => simp [tup]
theorem YH {N : Nat} {g : eL} {a : Act} {w : World} (fn : Func) {rs : List ResultVar} (hrs : fn.results = rs.toArray) (hr : LN N g a) {R : Value → World → Prop}
    (h : wW P rs g w fun vs => R (tup vs) w) : ∃ v, (results fn a.tmps).run P w = .ok v w ∧ R v w := by
  obtain ⟨vs, h1, h2⟩ := YM hr rs _ h
  refine ⟨tup vs, ?_, h1⟩
  unfold results
  rw [hrs, Array.mapM_eq_mapM_toList, List.toList_toArray]
  simp only [bind_assoc, map_eq_pure_bind]
  rw [Sem.run_bind]
  refine Eq.trans (congrArg (fun r => Result.andThen r _) h2) ?_
  simp only [Result.andThen]
  simp only [pure_bind, Sem.run_pure, ahX]
def gE (args : List Value) : eL := fun i => args.getD i undef
theorem bQ {f : FuncId} {fn : Func} {c : Code} {args : List Value} {w : World} {rs : List ResultVar} {R : Value → World → Prop} (hm : P.follows .mixedOrders = true) (hAf : ann.f = f)
    (hf : P.funcs[f]? = some fn) (hb : fn.body = some c) (hrs : fn.results = rs.toArray) {N : Nat} (hN : fn.ntmps = N) (hle : args.length ≤ N)
    (hok : Bx P N ann c = true) (h : aQ P ann c (jT P rs R) (gE args) w) : cC P f args.toArray w R := by
  obtain ⟨e, g', w', hq, _, hall⟩ := Z3 _ _ _ _ h
  have hrv : wW P rs g' w' fun vs => R (tup vs) w' := by cases e <;> first | exact hq | exact hq.elim
  have hex : ∃ v, R v w' ∧ ∀ R' : Value → World → Prop, R' v w' → wW P rs g' w' fun vs => R' (tup vs) w' := by
    have gen : ∀ (rs : List ResultVar) (K : List Value → Prop), wW P rs g' w' K → ∃ vs, K vs ∧ ∀ K' : List Value → Prop, K' vs → wW P rs g' w' K' := by
      intro rs
      induction rs with
      | nil => intro K h; exact ⟨_, h, fun _ h => h⟩
      | cons r rs ih =>
        intro K h
        cases r with
        | tmp t =>
          obtain ⟨vs, a, b⟩ := ih _ h
          exact ⟨_, a, fun K' h => b _ h⟩
        | cell b t =>
          obtain ⟨v, hv, h⟩ := h
          obtain ⟨vs, a, b⟩ := ih _ h
          exact ⟨_, a, fun K' h => ⟨v, hv, b _ h⟩⟩
    obtain ⟨vs, a, b⟩ := gen _ _ hrv
    exact ⟨_, a, fun R' h => b _ h⟩
  obtain ⟨v, hv, hrest⟩ := hex
  refine ⟨v, w', ?_, hv⟩
  have hrel : LN N (gE args) { tmps := args.toArray ++ Array.replicate (fn.ntmps - args.toArray.size) undef, defers := [] } := by
    refine ⟨rfl, by simp [hN]; omega, fun i => ?_⟩
    simp only [gE, Array.getD_eq_getD_getElem?, List.getD_eq_getElem?_getD]
    by_cases hi : i < args.length
    · simp [Array.getElem?_append, hi]
    · simp only [Array.getElem?_append, List.size_toArray, hi, if_false, Array.getElem?_replicate]
      rw [List.getElem?_eq_none (by omega)]
      split <;> rfl
  refine XF (f := f) hf hb ?_
  refine hAf ▸ abI hm c hok (jT P rs fun v2 w2 => v2 = v ∧ w2 = w') _ _ _ _ hrel ?_ (hall _ ?_)
  · intro e g a w hr h
    have hx : ∀ {w}, (wW P rs g w fun vs => tup vs = v ∧ w = w') → a.defers = [] ∧ ∃ v2, (results fn a.tmps).run P w = .ok v2 w ∧ (Ending.returned v2 = .returned v ∧ w = w') := by
      intro w h
      obtain ⟨v2, h1, rfl, h3⟩ := YH fn hrs hr (R := fun v2 w2 => v2 = v ∧ w2 = w') h
      exact ⟨hr.1, v2, h1, rfl, h3⟩
    cases e with
    | normal => exact hx h
    | ret => exact hx h
    | _ => exact h.elim
  · have := hrest (fun v2 w2 => v2 = v ∧ w2 = w') ⟨rfl, rfl⟩
    cases e <;> first | exact this | exact hq.elim
theorem Wq {f : FuncId} {args : Array Value} {w : World} {R : Value → World → Prop} (h : cC P f args w R) :
    Calls P f args w fun e w' => ∃ v, e = .returned v ∧ R v w' := by
  obtain ⟨v, w', hr, hR⟩ := h
  refine Calls.mono hr ?_
  rintro e w'' ⟨rfl, rfl⟩
  exact ⟨v, rfl, hR⟩
end
end Go.En
namespace Go.En
open Go
def sA : Code → Code | .seq a _ => a | c => c
def bI : Code → Code | .block _ c => c | .loop c => c | .scope c => c | c => c
def fB (f : Func) : Code := match f.body with | some c => c | none => .skip
def aC : Nat → Code → Code
  | 0, c => c
  | 1, c => sA c
  | n + 1, .seq a b => .seq a (aC n b)
  | _, c => c
def aA : Nat → Code → Code
  | 0, c => c
  | n + 1, .seq _ b => aA n b
  | _, c => c
def Zt : Nat → Code → Bool
  | 1, .seq _ _ => true
  | n + 1, .seq _ b => Zt n b
  | _, _ => false
def dr (w : World) : World := { w with drawn := w.drawn + 1 }
def F1 (P : Program) (t : TypeId) (a : Value) (w : World) (K : Value → Prop) : Prop := ∃ v, (do loadVar t (← asAddr a) : Sem Value).run P w = .ok v w ∧ K v
def exL : List (Nat × (eL → World → Prop)) → Nat → eL → World → Prop
  | [], _, _, _ => False
  | (j, k) :: r, i, g, w => match Nat.beq i j with | true => k g w | false => exL r i g w
def exQ (kn kr : eL → World → Prop) (l : List (Nat × (eL → World → Prop))) : Exit → eL → World → Prop
  | .normal, g, w => kn g w
  | .ret, g, w => kr g w
  | .exit i, g, w => exL l i g w
  | _, _, _ => False
def adK (Q : Exit → eL → World → Prop) : List (Nat × (eL → World → Prop)) → Prop
  | [] => True
  | (i, k) :: r => (∀ g w, k g w → Q (.exit i) g w) ∧ adK Q r
def fJ (c a b : Value) : Sem Next := do pure (.value (if ← asBool c then a else b))
def hT (t : TypeId) : Sem Next := V (Instr.alloc t true (.tuple #[]))
def Ej (t : TypeId) (x : Value) : Sem Next := V (Instr.box t x)
def aW (t : TypeId) (a : Value) : Sem Next := V (Instr.loadAt t a)
def cB (t : TypeId) (a x : Value) : Sem Next := U (Instr.storeAt t a x)
def Ix (x : Value) : Sem Next := execOp (fun _ => x) ⟨none, .nilCheck (.tmp 0), 0, default, #[], none⟩
def sUn (op : UnOp) (x : Value) : Sem Next := V (Op.unary op x)
def jH (s d : TypeId) (x : Value) : Sem Next := V (convert s d x)
def aeS (t : TypeId) (x : Value) : Sem Next := V (Instr.makeInterface t x)
def oD (t : TypeId) (l c : Value) : Sem Next := V (Instr.makeSlice t l c)
def jU (t : TypeId) (x : Value) (lo hi mx : Option Value) : Sem Next := V (Instr.sliceAt t x lo hi mx)
def bA (t : TypeId) (x : Value) (f : Nat) : Sem Next := V (Instr.fieldAt t x f)
def cD (t : TypeId) (x i : Value) : Sem Next := V (Instr.indexAt t x i)
def Oc (t : TypeId) (x i : Value) : Sem Next := V (Instr.index t x i)
def dV (t : Value) (i : Nat) : Sem Next := V (Instr.extract t i)
section
variable {P : Program} {ann : FA}
theorem ahS {Q : Exit → eL → World → Prop} : ∀ {l : List (Nat × (eL → World → Prop))}, adK Q l → ∀ {i : Nat} {g : eL} {w : World}, exL l i g w → Q (.exit i) g w := by
  intro l
  induction l with
  | nil => intro _ i g w h; exact h.elim
  | cons p r ih =>
    obtain ⟨j, k⟩ := p
    rintro ⟨h1, h2⟩ i g w h
    simp only [exL] at h
    cases hb : Nat.beq i j with
    | true =>
      simp only [hb] at h
      obtain rfl := Nat.eq_of_beq_eq_true hb
      exact h1 _ _ h
    | false => simp only [hb] at h; exact ih h2 h
theorem aI {c : Code} {kn kr : eL → World → Prop} {l : List (Nat × (eL → World → Prop))} {Q : Exit → eL → World → Prop} {g : eL} {w : World} {A : Prop}
    (e : A = aQ P ann c (exQ kn kr l) g w) (h : A) (hn : ∀ g w, kn g w → Q .normal g w) (hr : ∀ g w, kr g w → Q .ret g w) (hl : adK Q l) : aQ P ann c Q g w := by
  rw [e] at h
  refine FF h (fun e g' w' _ hq => ?_)
  cases e with
  | normal => exact hn _ _ hq
  | ret => exact hr _ _ hq
  | exit i => exact ahS hl hq
  | _ => exact hq.elim
theorem abT {x y z : Code} {Q : Exit → eL → World → Prop} {g : eL} {w : World} (h : aQ P ann (.seq (.seq x y) z) Q g w) : aQ P ann (.seq x (.seq y z)) Q g w := by
  show aQ P ann x (aX (fun g w => aQ P ann y (aX (fun g w => aQ P ann z Q g w) Q) g w) Q) g w
  have h : aQ P ann x (aX (fun g w => aQ P ann y (aX (fun g w => aQ P ann z Q g w) Q) g w) (aX (fun g w => aQ P ann z Q g w) Q)) g w := h
  refine FF h (fun e g' w' _ hq => ?_)
  cases e <;> exact hq
theorem aS {K : eL → World → Prop} {Q : Exit → eL → World → Prop} {g : eL} {w : World} (h : K g w) : aX K Q .normal g w := h
theorem aaL {Q : Exit → eL → World → Prop} : ∀ (n : Nat) (c : Code) (g : eL) (w : World), Zt n c = true → aQ P ann (.seq (aC n c) (aA n c)) Q g w → aQ P ann c Q g w := by
  intro n
  induction n with
  | zero => intro c g w h; simp [Zt] at h
  | succ n ih =>
    intro c g w h hd
    cases c with
    | seq a b =>
      cases n with
      | zero => exact hd
      | succ n =>
        have hb : Zt (n + 1) b = true := by simpa [Zt] using h
        have hd' : aQ P ann (.seq (.seq a (aC (n + 1) b)) (aA (n + 1) b)) Q g w := hd
        have := abT hd'
        show aQ P ann a (aX (fun g w => aQ P ann b Q g w) Q) g w
        have h2 : aQ P ann a (aX (fun g w => aQ P ann (.seq (aC (n + 1) b) (aA (n + 1) b)) Q g w) Q) g w := this
        refine FF h2 (fun e g' w' _ hq => ?_)
        cases e with
        | normal => exact ih b g' w' hb hq
        | _ => exact hq
    | _ => cases n <;> simp [Zt] at h
theorem aL {Q : Exit → eL → World → Prop} (n : Nat) (c : Code) (g : eL) (w : World) (h : Zt n c = true)
    (hd : aQ P ann (aC n c) (aX (fun g w => aQ P ann (aA n c) Q g w) Q) g w) : aQ P ann c Q g w := aaL n c g w h hd
def ajC (id : Nat) : Code → Bool | .block i _ => Nat.beq i id | _ => false
def ahH : Code → Bool | .loop _ => true | _ => false
theorem cU {Q : Exit → eL → World → Prop} (id : Nat) (c : Code) (g : eL) (w : World) (h : ajC id c = true) (hd : aQ P ann (bI c) (rP id Q) g w) : aQ P ann c Q g w := by
  cases c with
  | block i c =>
    obtain rfl := Nat.eq_of_beq_eq_true (show Nat.beq i id = true from h)
    exact hd
  | _ => cases h
def ajA : Code → Bool | .scope _ => true | _ => false
theorem XP {Q : Exit → eL → World → Prop} (c : Code) (g : eL) (w : World) (h : ajA c = true) (hd : aQ P ann (bI c) Q g w) : aQ P ann c Q g w := by
  cases c with
  | scope c => exact hd
  | _ => cases h
theorem adW {T : Type} (proj : eL → T) (F : (T → World → Prop) → T → World → Prop) {c : Code} {Q : Exit → eL → World → Prop} {g : eL} {w : World}
    (hF : ∀ (X : T → World → Prop) g' w', kY (Tz c) g g' → F X (proj g') w' → aQ P ann c (aX (fun g'' w'' => X (proj g'') w'') Q) g' w')
    (h : cV F (proj g) w) : aQ P ann (.loop c) Q g w := by
  obtain ⟨I, ⟨n, h0⟩, hI⟩ := h
  refine ⟨fun n g' w' => kY (Tz c) g g' ∧ I n (proj g') w', ⟨n, kY.refl _ _, h0⟩, ?_⟩
  rintro n g' w' ⟨ha, hi⟩
  have := hF _ g' w' ha (hI n _ _ hi)
  refine FF this (fun e g2 w2 ha2 hq => ?_)
  cases e with
  | normal =>
    obtain ⟨m, hm, hh⟩ := hq
    exact ⟨m, hm, ha.trans ha2 (fun _ h => h) (fun _ h => h), hh⟩
  | _ => exact hq
theorem cR {T : Type} (proj : eL → T) (F : (T → World → Prop) → T → World → Prop) (c : Code) {Q : Exit → eL → World → Prop} {g : eL} {w : World} (hl : ahH c = true)
    (h : cV F (proj g) w)
    (hF : ∀ (X : T → World → Prop) g' w', kY (Tz (bI c)) g g' → F X (proj g') w' → aQ P ann (bI c) (aX (fun g'' w'' => X (proj g'') w'') Q) g' w') : aQ P ann c Q g w := by
  cases c with
  | loop c => exact adW proj F hF h
  | _ => cases hl
theorem Y6 {l : List Nat} {s : Nat} (hs : nA s l = false) : s ∉ l := by
  induction l with
  | nil => simp
  | cons a r ih =>
    unfold nA at hs
    cases hb : Nat.beq a s with
    | true => simp only [hb] at hs; cases hs
    | false =>
      simp only [hb] at hs
      intro hm
      rcases List.mem_cons.1 hm with e | hm
      · subst e; simp at hb
      · exact ih hs hm
theorem aO {l : List Nat} {g g' : eL} (h : kY l g g') {s : Nat} (hs : nA s l = false) : g' s = g s := h s (Y6 hs)
def MI (id : Nat) : Code → Array Oper
  | .region i ops _ => match Nat.beq i id with | true => ops | false => #[]
  | .seq a b => match (MI id a).size with | 0 => MI id b | _ + 1 => MI id a
  | .cond _ a b => match (MI id a).size with | 0 => MI id b | _ + 1 => MI id a
  | .block _ c => MI id c
  | .loop c => MI id c
  | .scope c => MI id c
  | _ => #[]
theorem adF {b : Bool} {A B : Prop} (ha : A) (hb : B) : Ord b A B := by cases b <;> assumption
theorem cV.rule {α : Type} {F : (α → World → Prop) → α → World → Prop} (I : Nat → α → World → Prop) {g : α} {w : World} (n : Nat) (h0 : I n g w)
    (hr : ∀ n g w, I n g w → F (fun g' w' => ∃ m, m < n ∧ I m g' w') g w) : cV F g w := ⟨I, ⟨n, h0⟩, hr⟩
theorem aK (A B : Prop) : hH (.bool true) A B = A := Eq.trans rfl rfl
theorem aJ (A B : Prop) : hH (.bool false) A B = B := Eq.trans rfl rfl
theorem cL (s : (Value → World → Prop) → Prop) (w : World) (K : Value → World → Prop) : Gd true s w K = s K := Eq.trans rfl rfl
theorem dG (s : (Value → World → Prop) → Prop) (w : World) (K : Value → World → Prop) : Gd false s w K = K undef w := Eq.trans rfl rfl
theorem Gl (p : Prop) : Gs true p = p := Eq.trans rfl rfl
theorem CN (p : Prop) : Gs false p = True := Eq.trans rfl rfl
theorem rU : dW (.bool true) true = true := Eq.trans rfl rfl
theorem gD : dW (.bool true) false = false := Eq.trans rfl rfl
theorem BK : dW (.bool false) true = false := Eq.trans rfl rfl
theorem eD : dW (.bool false) false = true := Eq.trans rfl rfl
end
end Go.En
namespace Go.Proofs.Ytoepfjgekpdddaa
open Go Go.En
noncomputable abbrev pg : Program := Try.prog
theorem TryM.mixed : pg.follows .mixedOrders = true := Try.checked.mixed
abbrev K0 := World → Prop
abbrev K1 := Value → K0
abbrev K2 := Value → K1
abbrev K3 := Value → K2
abbrev K4 := Value → K3
abbrev K5 := Value → K4
abbrev K6 := Value → K5
abbrev K7 := Value → K6
abbrev K8 := Value → K7
abbrev K9 := Value → K8
abbrev UK := Value → K9
abbrev K11 := Value → UK
abbrev HR (rs : List ResultVar) (R : K1) (Q : Exit → eL → World → Prop) : Prop := ∀ g w, (wW pg rs g w fun vs => R (tup vs) w) → Q .ret g w
abbrev no : eL → World → Prop := fun _ _ => False
theorem fG {Q : eL → World → Prop} : ∀ g w, no g w → Q g w := fun _ _ h => h.elim
abbrev sP : FuncId := 4
abbrev Cs : FuncId := 10
abbrev pS : FuncId := 11
abbrev Co : FuncId := 12
abbrev wF : FuncId := 13
abbrev oM : FuncId := 15
abbrev DZ : FuncId := 16
abbrev vW : FuncId := 17
abbrev DS : FuncId := 19
abbrev qA : FuncId := 21
abbrev kC : FuncId := 22
abbrev jY : FuncId := 23
abbrev Cd : FuncId := 24
abbrev iE : FuncId := 25
abbrev Ge : FuncId := 26
abbrev pW : FuncId := 27
abbrev tR : FuncId := 28
abbrev tN : FuncId := 29
abbrev Ai : FuncId := 30
abbrev zE : FuncId := 31
abbrev rF : FuncId := 32
abbrev rA : FuncId := 33
abbrev Qx : FuncId := 34
abbrev mX : FuncId := 35
abbrev nB : FuncId := 36
abbrev Cp : FuncId := 37
abbrev lV : FuncId := 38
abbrev CD : FuncId := 39
abbrev Ga : FuncId := 40
abbrev kO : FuncId := 41
abbrev I5 : FuncId := 42
abbrev Ea : FuncId := 43
abbrev CG : FuncId := 44
abbrev B1 : FuncId := 45
abbrev vB : FuncId := 46
abbrev zX : FuncId := 47
abbrev D1 : FuncId := 48
abbrev rL : FuncId := 49
abbrev iX : FuncId := 50
abbrev AT : FuncId := 51
abbrev oH : FuncId := 52
abbrev tC : FuncId := 53
abbrev nN : FuncId := 54
abbrev tK : FuncId := 55
abbrev zP : FuncId := 56
abbrev yS : FuncId := 57
abbrev kN : FuncId := 58
abbrev Ba : FuncId := 59
abbrev oP : FuncId := 60
abbrev DK : FuncId := 61
abbrev DU : FuncId := 62
abbrev B8 : FuncId := 63
abbrev Ay : FuncId := 64
abbrev CH : FuncId := 65
abbrev Ec : FuncId := 66
abbrev sB : FuncId := 67
abbrev Cg : FuncId := 68
abbrev F5 : FuncId := 69
end Go.Proofs.Ytoepfjgekpdddaa
namespace Go.Proofs.Ytoepfjgekpdddaa
open Go Go.En
set_option linter.unusedVariables false
set_option maxRecDepth 20000
attribute [local irreducible] Go.En.aQ
variable (Q : Exit → eL → World → Prop) (g : eL) (w : World)
def AZ : FA := ⟨sP, fun i => .leaf ([], []) []⟩
def qJ : List ResultVar := [.tmp 2]
noncomputable def yF : Code := fB Try.f4
def qM (R : K1) (gL : Value) (w : World) : Prop :=
  cC pg Cs #[] w fun t10 w =>
  aD pg (sUn .not t10) w fun t12 w =>
  hH t12
    (R (.bool false) w)
    (aD pg (iJ .len #[22] 3 [gL]) w fun t14 w =>
    aD pg (aN .gtr 3 (.tmp 14) (.const (.int .i64 300)) t14 (.int .i64 300)) w fun t15 w =>
    hH t15
      (R (.bool true) w)
      (cC pg oM #[gL] w fun t18 w =>
      aD pg (dV t18 0) w fun t19 w =>
      aD pg (dV t18 1) w fun t20 w =>
      aD pg (dV t18 2) w fun t21 w =>
      aD pg (jH 22 9 gL) w fun t24 w =>
      cC pg DZ #[t24] w fun t25 w =>
      aD pg (dV t25 0) w fun t26 w =>
      aD pg (dV t25 1) w fun t27 w =>
      aD pg (dV t25 2) w fun t28 w =>
      aD pg (jH 22 9 t19) w fun t30 w =>
      aD pg (aN .eql 9 (.tmp 30) (.tmp 31) t30 t26) w fun t32 w =>
      Gd (dW t32 true) (fun K => K t20 w) w fun t34 w =>
      Gd (dW t32 true) (fun K => K t27 w) w fun t35 w =>
      Gd (dW t32 true) (fun K => aD pg (aN .eql 3 (.tmp 34) (.tmp 35) t34 t35) w K) w fun t36 w =>
      aD pg (fJ t32 t36 (.bool false)) w fun t37 w =>
      Gd (dW t37 true) (fun K => K t21 w) w fun t39 w =>
      Gd (dW t37 true) (fun K => K t28 w) w fun t40 w =>
      Gd (dW t37 true) (fun K => aD pg (aN .eql 24 (.tmp 39) (.tmp 40) t39 t40) w K) w fun t41 w =>
      aD pg (fJ t37 t41 (.bool false)) w fun t42 w =>
      R t42 w))
theorem Hm (R : K1) (hr : HR qJ R Q) (h : qM R (g 0) w) : aQ pg AZ yF Q g w :=
  aI (kn := no) (l := []) (by kernel_rfl) h fG hr trivial
def Fe (a0 : Value) (w : World) (R : K1) : Prop :=
  qM R a0 w
theorem HF {a0 : Value} {w : World} {R : K1} (h : Fe a0 w R) : cC pg sP #[a0] w R := by
  refine bQ (ann := AZ) (fn := Try.f4) (c := yF) (args := [a0]) (rs := qJ) (N := 43) TryM.mixed (by kernel_rfl) Try.func4 (by kernel_rfl) (by kernel_rfl) (by kernel_rfl) (of_decide_eq_true (by kernel_rfl)) (by kernel_rfl) ?_
  exact (Hm (jT pg qJ R) (gE [a0]) w R (fun _ _ h => h) h)
def oI : FA := ⟨DZ, fun i => .leaf ([], []) []⟩
def uX : List ResultVar := [.tmp 2, .tmp 3, .tmp 4]
noncomputable def mJ : Code := fB Try.f16
def lI (R : K1) (l_6 e_7 n_8 : Value) (w : World) : Prop :=
  aD pg (aN .neq 24 (.tmp 43) (.const (.int .i64 0)) e_7 (.int .i64 0)) w fun t44 w =>
  hH t44
    (R (.tuple #[(.string ⟨#[]⟩), (.int .i64 0), e_7]) w)
    (cC pg Co #[l_6] w fun t48 w =>
    aD pg (dV t48 0) w fun t49 w =>
    aD pg (dV t48 1) w fun t50 w =>
    aD pg (aN .neq 24 (.tmp 51) (.const (.int .i64 0)) t50 (.int .i64 0)) w fun t52 w =>
    hH t52
      (R (.tuple #[(.string ⟨#[]⟩), (.int .i64 0), t50]) w)
      (aD pg (aN .add 3 (.const (.int .i64 1)) (.tmp 55) (.int .i64 1) n_8) w fun t56 w =>
      R (.tuple #[t49, t56, (.int .i64 0)]) w))
theorem Sh (R : K1) (hr : HR uX R Q) (h : lI R (g 6) (g 7) (g 8) w) : aQ pg oI (aA 7 mJ) Q g w :=
  aI (kn := no) (l := []) (by kernel_rfl) h fG hr trivial
def G3 (kn : K3) (R : K1) (gL : Value) (w : World) : Prop :=
  aD pg (aN .eql 9 (.tmp 10) (.const (.string ⟨#[]⟩)) gL (.string ⟨#[]⟩)) w fun t11 w =>
  hH t11
    (R (.tuple #[(.string ⟨#[]⟩), (.int .i64 0), (.int .i64 10)]) w)
    (aD pg (Oc 9 gL (.int .i64 0)) w fun t13 w =>
    aD pg (jH 5 3 t13) w fun t14 w =>
    aD pg (aN .geq 3 (.tmp 16) (.const (.int .i64 128)) t14 (.int .i64 128)) w fun t17 w =>
    hH t17
      (aD pg (aN .sub 3 (.tmp 18) (.const (.int .i64 127)) t14 (.int .i64 127)) w fun t19 w =>
      aD pg (aN .add 3 (.tmp 19) (.const (.int .i64 1)) t19 (.int .i64 1)) w fun t20 w =>
      aD pg (aN .quo 3 (.tmp 20) (.const (.int .i64 2)) t20 (.int .i64 2)) w fun t21 w =>
      aD pg (jU 9 gL (some (.int .i64 1)) none none) w fun t24 w =>
      aD pg (aN .sub 3 (.tmp 25) (.const (.int .i64 127)) t14 (.int .i64 127)) w fun t26 w =>
      cC pg Ai #[t24, t26] w fun t27 w =>
      aD pg (dV t27 0) w fun t28 w =>
      aD pg (dV t27 1) w fun t29 w =>
      kn t28 t29 t21 w)
      (aD pg (iJ .len #[9] 3 [gL]) w fun t31 w =>
      aD pg (aN .sub 3 (.tmp 31) (.const (.int .i64 1)) t31 (.int .i64 1)) w fun t32 w =>
      aD pg (aN .lss 3 (.tmp 32) (.tmp 33) t32 t14) w fun t34 w =>
      hH t34
        (kn (.string ⟨#[]⟩) (.int .i64 10) t14 w)
        (aD pg (aN .add 3 (.const (.int .i64 1)) (.tmp 37) (.int .i64 1) t14) w fun t38 w =>
        aD pg (jU 9 gL (some (.int .i64 1)) (some t38) none) w fun t39 w =>
        cC pg zE #[t39] w fun t40 w =>
        aD pg (dV t40 0) w fun t41 w =>
        aD pg (dV t40 1) w fun t42 w =>
        kn t41 t42 t14 w)))
theorem S2 (kn : K3) (R : K1) (hn : ∀ g w, kn (g 6) (g 7) (g 8) w → Q .normal g w) (hr : HR uX R Q) (h : G3 kn R (g 0) w) : aQ pg oI (aC 7 mJ) Q g w :=
  aI (l := []) (by kernel_rfl) h hn hr trivial
def Hc (R : K1) (gL : Value) (w : World) : Prop :=
  G3 (fun l_6 e_7 n_8 w => lI R l_6 e_7 n_8 w) R gL w
theorem Sr (R : K1) (hr : HR uX R Q) (h : Hc R (g 0) w) : aQ pg oI mJ Q g w :=
  aL 7 _ g w (by kernel_rfl) (S2 (aX (fun g w => aQ pg oI (aA 7 mJ) Q g w) Q) g w (fun l_6 e_7 n_8 w => lI R l_6 e_7 n_8 w) R (fun g w h => aS (K := fun g w => aQ pg oI (aA 7 mJ) Q g w) (Sh Q g w R hr h)) hr h)
def Wn (a0 : Value) (w : World) (R : K1) : Prop :=
  Hc R a0 w
theorem UE {a0 : Value} {w : World} {R : K1} (h : Wn a0 w R) : cC pg DZ #[a0] w R := by
  refine bQ (ann := oI) (fn := Try.f16) (c := mJ) (args := [a0]) (rs := uX) (N := 57) TryM.mixed (by kernel_rfl) Try.func16 (by kernel_rfl) (by kernel_rfl) (by kernel_rfl) (of_decide_eq_true (by kernel_rfl)) (by kernel_rfl) ?_
  exact (Sr (jT pg uX R) (gE [a0]) w R (fun _ _ h => h) h)
def bK : FA := ⟨tN, fun i => match Nat.beq i 22 with | true => .leaf ([8, 9], [(0, 8), (1, 8), (3, 8), (4, 8), (5, 8), (6, 8), (7, 8)]) [(false, []), (false, []), (false, []), (false, []), (false, []), (false, []), (false, []), (false, []), (true, [0, 1, 2, 3, 4, 6, 7]), (true, [])] | false => match Nat.beq i 24 with | true => .leaf ([1], [(1, 2), (1, 3)]) [(false, []), (true, []), (false, [0]), (false, [1]), (false, [])] | false => match Nat.beq i 25 with | true => .leaf ([11, 12], []) [(false, []), (false, []), (false, []), (false, []), (false, []), (false, []), (false, []), (false, []), (false, []), (false, []), (false, []), (true, []), (true, []), (false, [])] | false => match Nat.beq i 26 with | true => .leaf ([8, 10], [(1, 8)]) [(false, []), (false, []), (false, []), (false, []), (false, []), (false, []), (false, []), (false, []), (true, [6]), (false, []), (true, [])] | false => .leaf ([], []) []⟩
def gJ : List ResultVar := [.tmp 2, .tmp 3]
noncomputable def bG : Code := fB Try.f29
def mQ (R : K1) (bW : Value) (w : World) : Prop :=
  aD pg (iJ .len #[22] 3 [bW]) w fun t100 w =>
  aD pg (aN .geq 3 (.tmp 100) (.const (.int .i64 256)) t100 (.int .i64 256)) w fun t101 w =>
  hH t101
    (R (.tuple #[(.slice none 0 0), (.int .i64 11)]) w)
    (R (.tuple #[bW, (.int .i64 0)]) w)
theorem Lz (R : K1) (hr : HR gJ R Q) (h : mQ R (g 11) w) : aQ pg bK (aA 1 (aA 3 (aA 1 (aA 7 (bI (aA 1 bG)))))) Q g w :=
  aI (kn := no) (l := []) (by kernel_rfl) h fG hr trivial
def rI (kn : K5) (k2 : K1) (yJ t8 t9 bW t54 : Value) (w : World) : Prop :=
  aD pg (aN .lss 3 (.tmp 54) (.const (.int .i64 256)) t54 (.int .i64 256)) w fun t55 w =>
  hH t55
    (aD pg (bA 77 t8 1) (dr w) fun t57 w_ => w_ = (dr w) ∧
    aD pg (aW 75 t57) (dr w) fun t58 w_ => w_ = (dr w) ∧
    (dr w) = (dr w) ∧
    aD pg (aN .rem 3 (.tmp 59) (.const (.int .i64 2)) t54 (.int .i64 2)) (dr w) fun t60 w_ => w_ = (dr w) ∧
    aD pg (cD 80 t9 t60) (dr w) fun t61 w_ => w_ = (dr w) ∧
    aD pg (aW 3 t61) (dr w) fun t62 w_ => w_ = (dr w) ∧
    aD pg (cD 75 t58 t62) (dr w) fun t63 w_ => w_ = (dr w) ∧
    aD pg (aW 84 t63) (dr w) fun t64 w_ => w_ = (dr w) ∧
    aD pg (hT 84) (dr w) fun agL TL =>
    (gZ pg (aW 84 t63) t64 TL ∧ gZ pg (cD 75 t58 t62) t63 TL ∧ gZ pg (aW 3 t61) t62 TL ∧ gZ pg (cD 80 t9 t60) t61 TL ∧ gZ pg (aN .rem 3 (.tmp 59) (.const (.int .i64 2)) t54 (.int .i64 2)) t60 TL ∧ gZ pg (aW 75 t57) t58 TL ∧ gZ pg (bA 77 t8 1) t57 TL ∧ True) ∧
    aD pg (cB 84 agL t64) TL fun _u9 aiS =>
    aD pg (bA 84 agL 0) aiS fun t66 w =>
    aD pg (aW 5 t66) w fun t67 w =>
    aD pg (cQ 22 1 [(0, t67)]) w fun t68 w =>
    aD pg (iJ .append #[22, 22] 22 [bW, t68]) w fun t69 w =>
    (dr w) = (dr w) ∧
    cC pg kO #[yJ] (dr w) fun t71 iS =>
    aD pg (bA 84 agL 1) iS fun t72 w_ => w_ = iS ∧
    (gZ pg (bA 84 agL 1) t72 (dr w) ∧ True) ∧
    aD pg (aW 3 t72) iS fun t73 w_ => w_ = iS ∧
    (gZ pg (aW 3 t72) t73 (dr w) ∧ True) ∧
    aD pg (aN .lss 3 (.tmp 71) (.tmp 73) t71 t73) iS fun t74 w_ => w_ = iS ∧
    hH t74
      ((dr iS) = (dr iS) ∧
      aD pg (bA 77 t8 1) (dr iS) fun t76 w_ => w_ = (dr iS) ∧
      aD pg (aW 75 t76) (dr iS) fun t77 w_ => w_ = (dr iS) ∧
      (dr iS) = (dr iS) ∧
      aD pg (aN .add 3 (.tmp 78) (.const (.int .i64 1)) t54 (.int .i64 1)) (dr iS) fun t79 w_ => w_ = (dr iS) ∧
      aD pg (aN .rem 3 (.tmp 79) (.const (.int .i64 2)) t79 (.int .i64 2)) (dr iS) fun t80 w_ => w_ = (dr iS) ∧
      aD pg (cD 80 t9 t80) (dr iS) fun t81 w_ => w_ = (dr iS) ∧
      aD pg (aW 3 t81) (dr iS) fun t82 w_ => w_ = (dr iS) ∧
      aD pg (cD 75 t77 t82) (dr iS) fun t83 w_ => w_ = (dr iS) ∧
      aD pg (bA 84 t83 0) (dr iS) fun t84 w_ => w_ = (dr iS) ∧
      aD pg (aW 5 t84) (dr iS) fun t85 w_ => w_ = (dr iS) ∧
      aD pg (cQ 22 1 [(0, t85)]) (dr iS) fun t86 ahO =>
      aD pg (iJ .append #[22, 22] 22 [t69, t86]) ahO fun t87 ZI =>
      ZI = ZI ∧
      k2 t87 ZI)
      ((dr iS) = (dr iS) ∧
      aD pg (aN .rem 3 (.tmp 88) (.const (.int .i64 2)) t54 (.int .i64 2)) (dr iS) fun t89 w_ => w_ = (dr iS) ∧
      aD pg (aW 77 t8) (dr iS) fun t90 w_ => w_ = (dr iS) ∧
      (dr iS) = (dr iS) ∧
      aD pg (aN .rem 3 (.tmp 91) (.const (.int .i64 2)) t54 (.int .i64 2)) (dr iS) fun t92 w_ => w_ = (dr iS) ∧
      aD pg (cD 80 t9 t92) (dr iS) fun t93 w_ => w_ = (dr iS) ∧
      aD pg (aW 3 t93) (dr iS) fun t94 w_ => w_ = (dr iS) ∧
      (dr iS) = (dr iS) ∧
      cC pg I5 #[t90, t94, yJ] (dr iS) fun t96 Z6 =>
      (gZ pg (aN .rem 3 (.tmp 88) (.const (.int .i64 2)) t54 (.int .i64 2)) t89 Z6 ∧ True) ∧
      aD pg (cD 80 t9 t89) Z6 fun t97 w_ => w_ = Z6 ∧
      aD pg (cB 3 t97 t96) Z6 fun _u10 aiB =>
      aD pg (aN .add 3 (.tmp 54) (.const (.int .i64 1)) t54 (.int .i64 1)) aiB fun t98 w =>
      kn yJ t8 t9 t69 t98 w))
    (k2 bW w)
theorem KJ (kn : K5) (k2 : K1) (hn : ∀ g w, kn (g 7) (g 8) (g 9) (g 11) (g 54) w → Q .normal g w) (h2 : ∀ g w, k2 (g 11) w → Q (.exit 2) g w) (h : rI kn k2 (g 7) (g 8) (g 9) (g 11) (g 54) w) : aQ pg bK (bI (bI (aA 1 (aC 1 (aA 3 (aA 1 (aA 7 (bI (aA 1 bG))))))))) Q g w :=
  aI (kr := no) (l := [(2, fun g w => k2 (g 11) w)]) (by kernel_rfl) h hn fG ⟨h2, trivial⟩
def Ap (k2 : K1) (yJ t8 t9 bW t54 : Value) (w : World) : Prop :=
  cV (fun (X : (Value × Value) → K0) (t : Value × Value) (w : World) => rI (fun _ _ _ bW t54 w => X (bW, t54) w) k2 yJ t8 t9 t.1 t.2 w) (bW, t54) w
theorem KK (k2 : K1) (h2 : ∀ g w, k2 (g 11) w → Q (.exit 2) g w) (h : Ap k2 (g 7) (g 8) (g 9) (g 11) (g 54) w) : aQ pg bK (bI (aA 1 (aC 1 (aA 3 (aA 1 (aA 7 (bI (aA 1 bG)))))))) Q g w := by
  refine cR (T := Value × Value) (fun g : eL => (g 11, g 54)) (fun X t w => rI (fun _ _ _ bW t54 w => X (bW, t54) w) k2 (g 7) (g 8) (g 9) t.1 t.2 w) _ (by kernel_rfl) h (fun X g1 w1 ha hL => ?_)
  rw [← aO (s := 7) ha (by kernel_rfl)] at hL
  rw [← aO (s := 8) ha (by kernel_rfl)] at hL
  rw [← aO (s := 9) ha (by kernel_rfl)] at hL
  exact (KJ (aX (fun g2 w2 => X ((fun g : eL => (g 11, g 54)) g2) w2) Q) g1 w1 (fun _ _ _ bW t54 w => X (bW, t54) w) k2 (fun _ _ h => h) h2 hL)
def qZ (kn : K1) (yJ t8 t9 bW t54 : Value) (w : World) : Prop :=
  Ap kn yJ t8 t9 bW t54 w
theorem Lv (kn : K1) (hn : ∀ g w, kn (g 11) w → Q .normal g w) (h : qZ kn (g 7) (g 8) (g 9) (g 11) (g 54) w) : aQ pg bK (aA 1 (aC 1 (aA 3 (aA 1 (aA 7 (bI (aA 1 bG))))))) Q g w :=
  cU 2 _ g w (by kernel_rfl) (KK (rP 2 Q) g w kn hn h)
def yZ (kn : K5) (yJ t8 t9 bW : Value) (w : World) : Prop :=
  kn yJ t8 t9 bW (.int .i64 0) w
theorem KV (kn : K5) (hn : ∀ g w, kn (g 7) (g 8) (g 9) (g 11) (g 54) w → Q .normal g w) (h : yZ kn (g 7) (g 8) (g 9) (g 11) w) : aQ pg bK (aC 1 (aC 1 (aA 3 (aA 1 (aA 7 (bI (aA 1 bG))))))) Q g w :=
  aI (kr := no) (l := []) (by kernel_rfl) h hn fG trivial
def AK (kn : K1) (yJ t8 t9 bW : Value) (w : World) : Prop :=
  yZ (fun yJ t8 t9 bW t54 w => qZ kn yJ t8 t9 bW t54 w) yJ t8 t9 bW w
theorem LI (kn : K1) (hn : ∀ g w, kn (g 11) w → Q .normal g w) (h : AK kn (g 7) (g 8) (g 9) (g 11) w) : aQ pg bK (aC 1 (aA 3 (aA 1 (aA 7 (bI (aA 1 bG)))))) Q g w :=
  aL 1 _ g w (by kernel_rfl) (KV (aX (fun g w => aQ pg bK (aA 1 (aC 1 (aA 3 (aA 1 (aA 7 (bI (aA 1 bG))))))) Q g w) Q) g w (fun yJ t8 t9 bW t54 w => qZ kn yJ t8 t9 bW t54 w) (fun g w h => aS (K := fun g w => aQ pg bK (aA 1 (aC 1 (aA 3 (aA 1 (aA 7 (bI (aA 1 bG))))))) Q g w) (Lv Q g w kn hn h)) h)
def mN (R : K1) (yJ t8 t9 bW : Value) (w : World) : Prop :=
  AK (fun bW w => mQ R bW w) yJ t8 t9 bW w
theorem KB (R : K1) (hr : HR gJ R Q) (h : mN R (g 7) (g 8) (g 9) (g 11) w) : aQ pg bK (aA 3 (aA 1 (aA 7 (bI (aA 1 bG))))) Q g w :=
  aL 1 _ g w (by kernel_rfl) (LI (aX (fun g w => aQ pg bK (aA 1 (aA 3 (aA 1 (aA 7 (bI (aA 1 bG)))))) Q g w) Q) g w (fun bW w => mQ R bW w) (fun g w h => aS (K := fun g w => aQ pg bK (aA 1 (aA 3 (aA 1 (aA 7 (bI (aA 1 bG)))))) Q g w) (Lz Q g w R hr h)) h)
def zK (kn : K4) (R : K1) (yJ t8 t9 : Value) (w : World) : Prop :=
  cC pg kO #[yJ] w fun t52 w =>
  aD pg (aN .lss 3 (.tmp 52) (.const (.int .i64 0)) t52 (.int .i64 0)) w fun t53 w =>
  hH t53
    (R (.tuple #[(.slice none 0 0), (.int .i64 11)]) w)
    (kn yJ t8 t9 (.slice none 0 0) w)
theorem LE (kn : K4) (R : K1) (hn : ∀ g w, kn (g 7) (g 8) (g 9) (g 11) w → Q .normal g w) (hr : HR gJ R Q) (h : zK kn R (g 7) (g 8) (g 9) w) : aQ pg bK (aC 3 (aA 1 (aA 7 (bI (aA 1 bG))))) Q g w :=
  aI (l := []) (by kernel_rfl) h hn hr trivial
def mU (R : K1) (yJ t8 t9 : Value) (w : World) : Prop :=
  zK (fun yJ t8 t9 bW w => mN R yJ t8 t9 bW w) R yJ t8 t9 w
theorem KY (R : K1) (hr : HR gJ R Q) (h : mU R (g 7) (g 8) (g 9) w) : aQ pg bK (aA 1 (aA 7 (bI (aA 1 bG)))) Q g w :=
  aL 3 _ g w (by kernel_rfl) (LE (aX (fun g w => aQ pg bK (aA 3 (aA 1 (aA 7 (bI (aA 1 bG))))) Q g w) Q) g w (fun yJ t8 t9 bW w => mN R yJ t8 t9 bW w) R (fun g w h => aS (K := fun g w => aQ pg bK (aA 3 (aA 1 (aA 7 (bI (aA 1 bG))))) Q g w) (KB Q g w R hr h)) hr h)
def oY (kn : K4) (k0 : K3) (yJ t8 t9 t42 : Value) (w : World) : Prop :=
  aD pg (aN .lss 3 (.tmp 42) (.const (.int .i64 2)) t42 (.int .i64 2)) w fun t43 w =>
  hH t43
    (aD pg (aW 77 t8) w fun t46 w =>
    cC pg Ga #[t46, yJ] w fun t48 w =>
    aD pg (cD 80 t9 t42) w fun t49 w =>
    aD pg (cB 3 t49 t48) w fun _u w =>
    aD pg (aN .add 3 (.tmp 42) (.const (.int .i64 1)) t42 (.int .i64 1)) w fun t50 w =>
    kn yJ t8 t9 t50 w)
    (k0 yJ t8 t9 w)
theorem J7 (kn : K4) (k0 : K3) (hn : ∀ g w, kn (g 7) (g 8) (g 9) (g 42) w → Q .normal g w) (h0 : ∀ g w, k0 (g 7) (g 8) (g 9) w → Q (.exit 0) g w) (h : oY kn k0 (g 7) (g 8) (g 9) (g 42) w) : aQ pg bK (bI (bI (aA 1 (aC 1 (aA 7 (bI (aA 1 bG))))))) Q g w :=
  aI (kr := no) (l := [(0, fun g w => k0 (g 7) (g 8) (g 9) w)]) (by kernel_rfl) h hn fG ⟨h0, trivial⟩
def xS (k0 : K3) (yJ t8 t9 t42 : Value) (w : World) : Prop :=
  cV (fun (X : Value → K0) (t : Value) (w : World) => oY (fun _ _ _ t42 w => X t42 w) k0 yJ t8 t9 t w) t42 w
theorem J4 (k0 : K3) (h0 : ∀ g w, k0 (g 7) (g 8) (g 9) w → Q (.exit 0) g w) (h : xS k0 (g 7) (g 8) (g 9) (g 42) w) : aQ pg bK (bI (aA 1 (aC 1 (aA 7 (bI (aA 1 bG)))))) Q g w := by
  refine cR (T := Value) (fun g : eL => g 42) (fun X t w => oY (fun _ _ _ t42 w => X t42 w) k0 (g 7) (g 8) (g 9) t w) _ (by kernel_rfl) h (fun X g1 w1 ha hL => ?_)
  rw [← aO (s := 7) ha (by kernel_rfl)] at hL
  rw [← aO (s := 8) ha (by kernel_rfl)] at hL
  rw [← aO (s := 9) ha (by kernel_rfl)] at hL
  exact (J7 (aX (fun g2 w2 => X ((fun g : eL => g 42) g2) w2) Q) g1 w1 (fun _ _ _ t42 w => X t42 w) k0 (fun _ _ h => h) h0 hL)
def pN (kn : K3) (yJ t8 t9 t42 : Value) (w : World) : Prop :=
  xS kn yJ t8 t9 t42 w
theorem JT (kn : K3) (hn : ∀ g w, kn (g 7) (g 8) (g 9) w → Q .normal g w) (h : pN kn (g 7) (g 8) (g 9) (g 42) w) : aQ pg bK (aA 1 (aC 1 (aA 7 (bI (aA 1 bG))))) Q g w :=
  cU 0 _ g w (by kernel_rfl) (J4 (rP 0 Q) g w kn hn h)
def xX (kn : K4) (yJ t8 t9 : Value) (w : World) : Prop :=
  kn yJ t8 t9 (.int .i64 0) w
theorem Ju (kn : K4) (hn : ∀ g w, kn (g 7) (g 8) (g 9) (g 42) w → Q .normal g w) (h : xX kn (g 7) (g 8) (g 9) w) : aQ pg bK (aC 1 (aC 1 (aA 7 (bI (aA 1 bG))))) Q g w :=
  aI (kr := no) (l := []) (by kernel_rfl) h hn fG trivial
def xM (kn : K3) (yJ t8 t9 : Value) (w : World) : Prop :=
  xX (fun yJ t8 t9 t42 w => pN kn yJ t8 t9 t42 w) yJ t8 t9 w
theorem Kb (kn : K3) (hn : ∀ g w, kn (g 7) (g 8) (g 9) w → Q .normal g w) (h : xM kn (g 7) (g 8) (g 9) w) : aQ pg bK (aC 1 (aA 7 (bI (aA 1 bG)))) Q g w :=
  aL 1 _ g w (by kernel_rfl) (Ju (aX (fun g w => aQ pg bK (aA 1 (aC 1 (aA 7 (bI (aA 1 bG))))) Q g w) Q) g w (fun yJ t8 t9 t42 w => pN kn yJ t8 t9 t42 w) (fun g w h => aS (K := fun g w => aQ pg bK (aA 1 (aC 1 (aA 7 (bI (aA 1 bG))))) Q g w) (JT Q g w kn hn h)) h)
def lN (R : K1) (yJ t8 t9 : Value) (w : World) : Prop :=
  xM (fun yJ t8 t9 w => mU R yJ t8 t9 w) yJ t8 t9 w
theorem JS (R : K1) (hr : HR gJ R Q) (h : lN R (g 7) (g 8) (g 9) w) : aQ pg bK (aA 7 (bI (aA 1 bG))) Q g w :=
  aL 1 _ g w (by kernel_rfl) (Kb (aX (fun g w => aQ pg bK (aA 1 (aA 7 (bI (aA 1 bG)))) Q g w) Q) g w (fun yJ t8 t9 w => mU R yJ t8 t9 w) (fun g w h => aS (K := fun g w => aQ pg bK (aA 1 (aA 7 (bI (aA 1 bG)))) Q g w) (KY Q g w R hr h)) h)
def xQ (kn : K3) (R : K1) (gL : Value) (w : World) : Prop :=
  cC pg Cp #[gL, (.int .i64 6), (.int .i64 12)] w fun t16 w =>
  aD pg (dV t16 0) w fun t17 w =>
  aD pg (dV t16 1) w fun t18 w =>
  aD pg (dV t16 2) w fun t19 w =>
  aD pg (hT 69) w fun c_4 w =>
  aD pg (cB 69 c_4 t17) w fun _u w =>
  aD pg (aN .neq 24 (.tmp 20) (.const (.int .i64 0)) t19 (.int .i64 0)) w fun t21 w =>
  hH t21
    (R (.tuple #[(.slice none 0 0), t19]) w)
    (aD pg (jU 22 gL (some t18) none none) w fun t26 w =>
    cC pg lV #[t26] w fun t27 w =>
    aD pg (dV t27 0) w fun t28 w =>
    aD pg (dV t27 1) w fun t29 w =>
    aD pg (aN .neq 24 (.tmp 30) (.const (.int .i64 0)) t29 (.int .i64 0)) w fun t31 w =>
    hH t31
      (R (.tuple #[(.slice none 0 0), t29]) w)
      (aD pg (aW 69 c_4) w fun t34 w =>
      cC pg CD #[t34] w fun t35 w =>
      aD pg (dV t35 0) w fun t36 w =>
      aD pg (dV t35 1) w fun t37 w =>
      aD pg (hT 77) w fun t8 w =>
      aD pg (cB 77 t8 t36) w fun _u w =>
      aD pg (aN .neq 24 (.tmp 38) (.const (.int .i64 0)) t37 (.int .i64 0)) w fun t39 w =>
      hH t39
        (R (.tuple #[(.slice none 0 0), t37]) w)
        (aD pg (fV 80 []) w fun t41 w =>
        aD pg (hT 80) w fun t9 w =>
        aD pg (cB 80 t9 t41) w fun _u w =>
        kn t28 t8 t9 w)))
theorem J8 (kn : K3) (R : K1) (hn : ∀ g w, kn (g 7) (g 8) (g 9) w → Q .normal g w) (hr : HR gJ R Q) (h : xQ kn R (g 0) w) : aQ pg bK (aC 7 (bI (aA 1 bG))) Q g w :=
  aI (l := []) (by kernel_rfl) h hn hr trivial
def xL (R : K1) (gL : Value) (w : World) : Prop :=
  xQ (fun yJ t8 t9 w => lN R yJ t8 t9 w) R gL w
theorem JV (R : K1) (hr : HR gJ R Q) (h : xL R (g 0) w) : aQ pg bK (bI (aA 1 bG)) Q g w :=
  aL 7 _ g w (by kernel_rfl) (J8 (aX (fun g w => aQ pg bK (aA 7 (bI (aA 1 bG))) Q g w) Q) g w (fun yJ t8 t9 w => lN R yJ t8 t9 w) R (fun g w h => aS (K := fun g w => aQ pg bK (aA 7 (bI (aA 1 bG))) Q g w) (JS Q g w R hr h)) hr h)
def pO (R : K1) (gL : Value) (w : World) : Prop :=
  xL R gL w
theorem JL (R : K1) (hr : HR gJ R Q) (h : pO R (g 0) w) : aQ pg bK (aA 1 bG) Q g w :=
  XP _ g w (by kernel_rfl) (JV Q g w R hr h)
def xI (kn : K1) (gL : Value) (w : World) : Prop :=
  kn gL w
theorem Jq (kn : K1) (hn : ∀ g w, kn (g 0) w → Q .normal g w) (h : xI kn (g 0) w) : aQ pg bK (aC 1 bG) Q g w :=
  aI (kr := no) (l := []) (by kernel_rfl) h hn fG trivial
def xD (R : K1) (gL : Value) (w : World) : Prop :=
  xI (fun gL w => pO R gL w) gL w
theorem JF (R : K1) (hr : HR gJ R Q) (h : xD R (g 0) w) : aQ pg bK bG Q g w :=
  aL 1 _ g w (by kernel_rfl) (Jq (aX (fun g w => aQ pg bK (aA 1 bG) Q g w) Q) g w (fun gL w => pO R gL w) (fun g w h => aS (K := fun g w => aQ pg bK (aA 1 bG) Q g w) (JL Q g w R hr h)) h)
def LA (a0 : Value) (w : World) (R : K1) : Prop :=
  xD R a0 w
theorem Ml {a0 : Value} {w : World} {R : K1} (h : LA a0 w R) : cC pg tN #[a0] w R := by
  refine bQ (ann := bK) (fn := Try.f29) (c := bG) (args := [a0]) (rs := gJ) (N := 103) TryM.mixed (by kernel_rfl) Try.func29 (by kernel_rfl) (by kernel_rfl) (by kernel_rfl) (of_decide_eq_true (by kernel_rfl)) (by kernel_rfl) ?_
  exact (JF (jT pg gJ R) (gE [a0]) w R (fun _ _ h => h) h)
def dO : FA := ⟨Ai, fun i => .leaf ([], []) []⟩
def mL : List ResultVar := [.tmp 4, .tmp 5]
noncomputable def dC : Code := fB Try.f30
def vR (R : K1) (dJ : Value) (w : World) : Prop :=
  aD pg (jH 22 9 dJ) w fun t38 w =>
  R (.tuple #[t38, (.int .i64 0)]) w
theorem Nm (R : K1) (hr : HR mL R Q) (h : vR R (g 6) w) : aQ pg dO (aA 1 (aA 3 dC)) Q g w :=
  aI (kn := no) (l := []) (by kernel_rfl) h fG hr trivial
def qE (kn : K4) (gL kQ dJ FW : Value) (w : World) : Prop :=
  aD pg (aN .add 3 (.tmp 16) (.const (.int .i64 1)) FW (.int .i64 1)) w fun t17 w =>
  kn gL kQ dJ t17 w
theorem Ou (kn : K4) (hn : ∀ g w, kn (g 0) (g 1) (g 6) (g 7) w → Q .normal g w) (h : qE kn (g 0) (g 1) (g 6) (g 7) w) : aQ pg dO (aA 2 (bI (bI (aA 1 (aC 1 (aA 3 dC)))))) Q g w :=
  aI (kr := no) (l := []) (by kernel_rfl) h hn fG trivial
def Dx (kn : K4) (k0 : K1) (gL kQ dJ FW : Value) (w : World) : Prop :=
  aD pg (aN .lss 3 (.tmp 13) (.tmp 14) FW kQ) w fun t15 w =>
  hH t15
    (aD pg (aN .rem 3 (.tmp 18) (.const (.int .i64 2)) FW (.int .i64 2)) w fun t19 w =>
    aD pg (aN .eql 3 (.tmp 19) (.const (.int .i64 0)) t19 (.int .i64 0)) w fun t20 w =>
    hH t20
      (aD pg (aN .quo 3 (.tmp 23) (.const (.int .i64 2)) FW (.int .i64 2)) w fun t24 w =>
      aD pg (Oc 9 gL t24) w fun t25 w =>
      aD pg (aN .quo 5 (.tmp 25) (.const (.int .u8 16)) t25 (.int .u8 16)) w fun t26 w =>
      aD pg (cQ 22 1 [(0, t26)]) w fun t27 w =>
      aD pg (iJ .append #[22, 22] 22 [dJ, t27]) w fun t28 w =>
      kn gL kQ t28 FW w)
      (aD pg (aN .quo 3 (.tmp 31) (.const (.int .i64 2)) FW (.int .i64 2)) w fun t32 w =>
      aD pg (Oc 9 gL t32) w fun t33 w =>
      aD pg (aN .rem 5 (.tmp 33) (.const (.int .u8 16)) t33 (.int .u8 16)) w fun t34 w =>
      aD pg (cQ 22 1 [(0, t34)]) w fun t35 w =>
      aD pg (iJ .append #[22, 22] 22 [dJ, t35]) w fun t36 w =>
      kn gL kQ t36 FW w))
    (k0 dJ w)
theorem NH (kn : K4) (k0 : K1) (hn : ∀ g w, kn (g 0) (g 1) (g 6) (g 7) w → Q .normal g w) (h0 : ∀ g w, k0 (g 6) w → Q (.exit 0) g w) (h : Dx kn k0 (g 0) (g 1) (g 6) (g 7) w) : aQ pg dO (aC 2 (bI (bI (aA 1 (aC 1 (aA 3 dC)))))) Q g w :=
  aI (kr := no) (l := [(0, fun g w => k0 (g 6) w)]) (by kernel_rfl) h hn fG ⟨h0, trivial⟩
def wL (kn : K4) (k0 : K1) (gL kQ dJ FW : Value) (w : World) : Prop :=
  Dx (fun gL kQ dJ FW w => qE kn gL kQ dJ FW w) k0 gL kQ dJ FW w
theorem Of (kn : K4) (k0 : K1) (hn : ∀ g w, kn (g 0) (g 1) (g 6) (g 7) w → Q .normal g w) (h0 : ∀ g w, k0 (g 6) w → Q (.exit 0) g w) (h : wL kn k0 (g 0) (g 1) (g 6) (g 7) w) : aQ pg dO (bI (bI (aA 1 (aC 1 (aA 3 dC))))) Q g w :=
  aL 2 _ g w (by kernel_rfl) (NH (aX (fun g w => aQ pg dO (aA 2 (bI (bI (aA 1 (aC 1 (aA 3 dC)))))) Q g w) Q) g w (fun gL kQ dJ FW w => qE kn gL kQ dJ FW w) k0 (fun g w h => aS (K := fun g w => aQ pg dO (aA 2 (bI (bI (aA 1 (aC 1 (aA 3 dC)))))) Q g w) (Ou Q g w kn hn h)) h0 h)
def DB (k0 : K1) (gL kQ dJ FW : Value) (w : World) : Prop :=
  cV (fun (X : (Value × Value) → K0) (t : Value × Value) (w : World) => wL (fun _ _ dJ FW w => X (dJ, FW) w) k0 gL kQ t.1 t.2 w) (dJ, FW) w
theorem N0 (k0 : K1) (h0 : ∀ g w, k0 (g 6) w → Q (.exit 0) g w) (h : DB k0 (g 0) (g 1) (g 6) (g 7) w) : aQ pg dO (bI (aA 1 (aC 1 (aA 3 dC)))) Q g w := by
  refine cR (T := Value × Value) (fun g : eL => (g 6, g 7)) (fun X t w => wL (fun _ _ dJ FW w => X (dJ, FW) w) k0 (g 0) (g 1) t.1 t.2 w) _ (by kernel_rfl) h (fun X g1 w1 ha hL => ?_)
  rw [← aO (s := 0) ha (by kernel_rfl)] at hL
  rw [← aO (s := 1) ha (by kernel_rfl)] at hL
  exact (Of (aX (fun g2 w2 => X ((fun g : eL => (g 6, g 7)) g2) w2) Q) g1 w1 (fun _ _ dJ FW w => X (dJ, FW) w) k0 (fun _ _ h => h) h0 hL)
def wN (kn : K1) (gL kQ dJ FW : Value) (w : World) : Prop :=
  DB kn gL kQ dJ FW w
theorem Nz (kn : K1) (hn : ∀ g w, kn (g 6) w → Q .normal g w) (h : wN kn (g 0) (g 1) (g 6) (g 7) w) : aQ pg dO (aA 1 (aC 1 (aA 3 dC))) Q g w :=
  cU 0 _ g w (by kernel_rfl) (N0 (rP 0 Q) g w kn hn h)
def Dr (kn : K4) (gL kQ dJ : Value) (w : World) : Prop :=
  kn gL kQ dJ (.int .i64 0) w
theorem On (kn : K4) (hn : ∀ g w, kn (g 0) (g 1) (g 6) (g 7) w → Q .normal g w) (h : Dr kn (g 0) (g 1) (g 6) w) : aQ pg dO (aC 1 (aC 1 (aA 3 dC))) Q g w :=
  aI (kr := no) (l := []) (by kernel_rfl) h hn fG trivial
def C1 (kn : K1) (gL kQ dJ : Value) (w : World) : Prop :=
  Dr (fun gL kQ dJ FW w => wN kn gL kQ dJ FW w) gL kQ dJ w
theorem OG (kn : K1) (hn : ∀ g w, kn (g 6) w → Q .normal g w) (h : C1 kn (g 0) (g 1) (g 6) w) : aQ pg dO (aC 1 (aA 3 dC)) Q g w :=
  aL 1 _ g w (by kernel_rfl) (On (aX (fun g w => aQ pg dO (aA 1 (aC 1 (aA 3 dC))) Q g w) Q) g w (fun gL kQ dJ FW w => wN kn gL kQ dJ FW w) (fun g w h => aS (K := fun g w => aQ pg dO (aA 1 (aC 1 (aA 3 dC))) Q g w) (Nz Q g w kn hn h)) h)
def vN (R : K1) (gL kQ dJ : Value) (w : World) : Prop :=
  C1 (fun dJ w => vR R dJ w) gL kQ dJ w
theorem OD (R : K1) (hr : HR mL R Q) (h : vN R (g 0) (g 1) (g 6) w) : aQ pg dO (aA 3 dC) Q g w :=
  aL 1 _ g w (by kernel_rfl) (OG (aX (fun g w => aQ pg dO (aA 1 (aA 3 dC)) Q g w) Q) g w (fun dJ w => vR R dJ w) (fun g w h => aS (K := fun g w => aQ pg dO (aA 1 (aA 3 dC)) Q g w) (Nm Q g w R hr h)) h)
def BC (kn : K3) (R : K1) (gL kQ : Value) (w : World) : Prop :=
  aD pg (iJ .len #[9] 3 [gL]) w fun t9 w =>
  aD pg (aN .mul 3 (.const (.int .i64 2)) (.tmp 9) (.int .i64 2) t9) w fun t10 w =>
  aD pg (aN .lss 3 (.tmp 10) (.tmp 11) t10 kQ) w fun t12 w =>
  hH t12
    (R (.tuple #[(.string ⟨#[]⟩), (.int .i64 10)]) w)
    (kn gL kQ (.slice none 0 0) w)
theorem Mv (kn : K3) (R : K1) (hn : ∀ g w, kn (g 0) (g 1) (g 6) w → Q .normal g w) (hr : HR mL R Q) (h : BC kn R (g 0) (g 1) w) : aQ pg dO (aC 3 dC) Q g w :=
  aI (l := []) (by kernel_rfl) h hn hr trivial
def BQ (R : K1) (gL kQ : Value) (w : World) : Prop :=
  BC (fun gL kQ dJ w => vN R gL kQ dJ w) R gL kQ w
theorem L4 (R : K1) (hr : HR mL R Q) (h : BQ R (g 0) (g 1) w) : aQ pg dO dC Q g w :=
  aL 3 _ g w (by kernel_rfl) (Mv (aX (fun g w => aQ pg dO (aA 3 dC) Q g w) Q) g w (fun gL kQ dJ w => vN R gL kQ dJ w) R (fun g w h => aS (K := fun g w => aQ pg dO (aA 3 dC) Q g w) (OD Q g w R hr h)) hr h)
def Qa (a0 a1 : Value) (w : World) (R : K1) : Prop :=
  BQ R a0 a1 w
theorem Re {a0 a1 : Value} {w : World} {R : K1} (h : Qa a0 a1 w R) : cC pg Ai #[a0, a1] w R := by
  refine bQ (ann := dO) (fn := Try.f30) (c := dC) (args := [a0, a1]) (rs := mL) (N := 39) TryM.mixed (by kernel_rfl) Try.func30 (by kernel_rfl) (by kernel_rfl) (by kernel_rfl) (of_decide_eq_true (by kernel_rfl)) (by kernel_rfl) ?_
  exact (L4 (jT pg mL R) (gE [a0, a1]) w R (fun _ _ h => h) h)
def gH : FA := ⟨zE, fun i => match Nat.beq i 18 with | true => .leaf ([1], [(1, 2), (1, 3)]) [(false, []), (true, []), (false, [0]), (false, [1]), (false, [])] | false => .leaf ([], []) []⟩
def jK : List ResultVar := [.tmp 2, .tmp 3]
noncomputable def fW : Code := fB Try.f31
def wG (R : K1)  (w : World) : Prop :=
  R (.tuple #[(.string ⟨#[]⟩), (.int .i64 11)]) w
theorem NP (R : K1) (hr : HR jK R Q) (h : wG R w) : aQ pg gH (aA 1 (aA 11 fW)) Q g w :=
  aI (kn := no) (l := []) (by kernel_rfl) h fG hr trivial
def vX (kn : K5) (k0 : K0) (R : K1) (Wo t8 Bm t10 bW : Value) (w : World) : Prop :=
  aD pg (iJ .len #[22] 3 [bW]) w fun t57 w =>
  aD pg (aN .lss 3 (.tmp 57) (.const (.int .i64 256)) t57 (.int .i64 256)) w fun t58 w =>
  hH t58
    (aD pg (bA 96 t8 1) w fun t59 w =>
    aD pg (aW 94 t59) w fun t60 w =>
    aD pg (cD 94 t60 Bm) w fun t62 w =>
    aD pg (aW 103 t62) w fun t63 w =>
    aD pg (hT 103) w fun agB w =>
    aD pg (cB 103 agB t63) w fun _u w =>
    aD pg (bA 103 agB 0) w fun t65 w =>
    aD pg (aW 3 t65) w fun t66 w =>
    aD pg (jH 3 5 t66) w fun t67 w =>
    aD pg (cQ 22 1 [(0, t67)]) w fun t68 w =>
    aD pg (iJ .append #[22, 22] 22 [bW, t68]) w fun t69 w =>
    aD pg (aW 91 Wo) (dr w) fun t70 w_ => w_ = (dr w) ∧
    cC pg zX #[t70] (dr w) fun t71 TP =>
    aD pg (bA 103 agB 1) TP fun t72 w_ => w_ = TP ∧
    (gZ pg (bA 103 agB 1) t72 (dr w) ∧ True) ∧
    aD pg (aW 3 t72) TP fun t73 w_ => w_ = TP ∧
    (gZ pg (aW 3 t72) t73 (dr w) ∧ True) ∧
    aD pg (aN .lss 3 (.tmp 71) (.tmp 73) t71 t73) TP fun t74 w_ => w_ = TP ∧
    hH t74
      (aD pg (bA 96 t8 1) TP fun t76 w =>
      aD pg (aW 94 t76) w fun t77 w =>
      aD pg (cD 94 t77 t10) w fun t79 w =>
      aD pg (bA 103 t79 0) w fun t80 w =>
      aD pg (aW 3 t80) w fun t81 w =>
      aD pg (jH 3 5 t81) w fun t82 w =>
      aD pg (cQ 22 1 [(0, t82)]) w fun t83 w =>
      aD pg (iJ .append #[22, 22] 22 [t69, t83]) w fun t84 w =>
      aD pg (iJ .len #[22] 3 [t84]) w fun t86 w =>
      aD pg (aN .gtr 3 (.tmp 86) (.const (.int .i64 255)) t86 (.int .i64 255)) w fun t87 w =>
      hH t87
        (R (.tuple #[(.string ⟨#[]⟩), (.int .i64 11)]) w)
        (aD pg (jH 22 9 t84) w fun t89 w =>
        R (.tuple #[t89, (.int .i64 0)]) w))
      (aD pg (aW 96 t8) TP fun t91 w =>
      aD pg (aW 91 Wo) w fun t93 w =>
      cC pg D1 #[t91, Bm, t93] w fun t94 w =>
      aD pg (dV t94 0) w fun t95 w =>
      aD pg (dV t94 1) w fun t96 w =>
      aD pg (cB 91 Wo t95) w fun _u w =>
      kn Wo t8 t10 t96 t69 w))
    (k0 w)
theorem Ok (kn : K5) (k0 : K0) (R : K1) (hn : ∀ g w, kn (g 7) (g 8) (g 9) (g 10) (g 11) w → Q .normal g w) (h0 : ∀ g w, k0 w → Q (.exit 0) g w) (hr : HR jK R Q) (h : vX kn k0 R (g 7) (g 8) (g 9) (g 10) (g 11) w) : aQ pg gH (bI (bI (aC 1 (aA 11 fW)))) Q g w :=
  aI (l := [(0, fun g w => k0 w)]) (by kernel_rfl) h hn hr ⟨h0, trivial⟩
def CP (k0 : K0) (R : K1) (Wo t8 Bm t10 bW : Value) (w : World) : Prop :=
  cV (fun (X : (Value × Value × Value) → K0) (t : Value × Value × Value) (w : World) => vX (fun _ _ Bm t10 bW w => X (Bm, t10, bW) w) k0 R Wo t8 t.1 t.2.1 t.2.2 w) (Bm, t10, bW) w
theorem Np (k0 : K0) (R : K1) (h0 : ∀ g w, k0 w → Q (.exit 0) g w) (hr : HR jK R Q) (h : CP k0 R (g 7) (g 8) (g 9) (g 10) (g 11) w) : aQ pg gH (bI (aC 1 (aA 11 fW))) Q g w := by
  refine cR (T := Value × Value × Value) (fun g : eL => (g 9, g 10, g 11)) (fun X t w => vX (fun _ _ Bm t10 bW w => X (Bm, t10, bW) w) k0 R (g 7) (g 8) t.1 t.2.1 t.2.2 w) _ (by kernel_rfl) h (fun X g1 w1 ha hL => ?_)
  rw [← aO (s := 7) ha (by kernel_rfl)] at hL
  rw [← aO (s := 8) ha (by kernel_rfl)] at hL
  exact (Ok (aX (fun g2 w2 => X ((fun g : eL => (g 9, g 10, g 11)) g2) w2) Q) g1 w1 (fun _ _ Bm t10 bW w => X (Bm, t10, bW) w) k0 R (fun _ _ h => h) h0 hr hL)
def CT (kn : K0) (R : K1) (Wo t8 Bm t10 bW : Value) (w : World) : Prop :=
  CP kn R Wo t8 Bm t10 bW w
theorem NJ (kn : K0) (R : K1) (hn : ∀ g w, kn w → Q .normal g w) (hr : HR jK R Q) (h : CT kn R (g 7) (g 8) (g 9) (g 10) (g 11) w) : aQ pg gH (aC 1 (aA 11 fW)) Q g w :=
  cU 0 _ g w (by kernel_rfl) (Np (rP 0 Q) g w kn R hn hr h)
def pR (R : K1) (Wo t8 Bm t10 bW : Value) (w : World) : Prop :=
  CT (fun  w => wG R w) R Wo t8 Bm t10 bW w
theorem NW (R : K1) (hr : HR jK R Q) (h : pR R (g 7) (g 8) (g 9) (g 10) (g 11) w) : aQ pg gH (aA 11 fW) Q g w :=
  aL 1 _ g w (by kernel_rfl) (NJ (aX (fun g w => aQ pg gH (aA 1 (aA 11 fW)) Q g w) Q) g w (fun  w => wG R w) R (fun g w h => aS (K := fun g w => aQ pg gH (aA 1 (aA 11 fW)) Q g w) (NP Q g w R hr h)) hr h)
def C5 (kn : K5) (R : K1) (gL : Value) (w : World) : Prop :=
  cC pg Ea #[gL, (.int .i64 6), (.int .i64 12)] w fun t16 w =>
  aD pg (dV t16 0) w fun t17 w =>
  aD pg (dV t16 1) w fun t18 w =>
  aD pg (dV t16 2) w fun t19 w =>
  aD pg (hT 86) w fun c_4 w =>
  aD pg (cB 86 c_4 t17) w fun _u w =>
  aD pg (aN .neq 24 (.tmp 20) (.const (.int .i64 0)) t19 (.int .i64 0)) w fun t21 w =>
  hH t21
    (R (.tuple #[(.string ⟨#[]⟩), t19]) w)
    (aD pg (jU 9 gL (some t18) none none) w fun t26 w =>
    cC pg CG #[t26] w fun t27 w =>
    aD pg (dV t27 0) w fun t28 w =>
    aD pg (dV t27 1) w fun t29 w =>
    aD pg (hT 91) w fun Wo w =>
    aD pg (cB 91 Wo t28) w fun _u w =>
    aD pg (aN .neq 24 (.tmp 30) (.const (.int .i64 0)) t29 (.int .i64 0)) w fun t31 w =>
    hH t31
      (R (.tuple #[(.string ⟨#[]⟩), t29]) w)
      (aD pg (aW 86 c_4) w fun t34 w =>
      cC pg B1 #[t34] w fun t35 w =>
      aD pg (dV t35 0) w fun t36 w =>
      aD pg (dV t35 1) w fun t37 w =>
      aD pg (hT 96) w fun t8 w =>
      aD pg (cB 96 t8 t36) w fun _u w =>
      aD pg (aN .neq 24 (.tmp 38) (.const (.int .i64 0)) t37 (.int .i64 0)) w fun t39 w =>
      hH t39
        (R (.tuple #[(.string ⟨#[]⟩), t37]) w)
        (aD pg (aW 96 t8) w fun t42 w =>
        aD pg (aW 91 Wo) w fun t43 w =>
        cC pg vB #[t42, t43] w fun t44 w =>
        aD pg (dV t44 0) w fun t45 w =>
        aD pg (dV t44 1) w fun t46 w =>
        aD pg (cB 91 Wo t45) w fun _u w =>
        aD pg (aW 96 t8) w fun t48 w =>
        aD pg (aW 91 Wo) w fun t49 w =>
        cC pg vB #[t48, t49] w fun t50 w =>
        aD pg (dV t50 0) w fun t51 w =>
        aD pg (dV t50 1) w fun t52 w =>
        aD pg (cB 91 Wo t51) w fun _u w =>
        aD pg (aW 91 Wo) w fun t53 w =>
        cC pg zX #[t53] w fun t54 w =>
        aD pg (aN .lss 3 (.tmp 54) (.const (.int .i64 0)) t54 (.int .i64 0)) w fun t55 w =>
        hH t55
          (R (.tuple #[(.string ⟨#[]⟩), (.int .i64 11)]) w)
          (kn Wo t8 t46 t52 (.slice none 0 0) w))))
theorem Om (kn : K5) (R : K1) (hn : ∀ g w, kn (g 7) (g 8) (g 9) (g 10) (g 11) w → Q .normal g w) (hr : HR jK R Q) (h : C5 kn R (g 0) w) : aQ pg gH (aC 11 fW) Q g w :=
  aI (l := []) (by kernel_rfl) h hn hr trivial
def Dy (R : K1) (gL : Value) (w : World) : Prop :=
  C5 (fun Wo t8 Bm t10 bW w => pR R Wo t8 Bm t10 bW w) R gL w
theorem Ot (R : K1) (hr : HR jK R Q) (h : Dy R (g 0) w) : aQ pg gH fW Q g w :=
  aL 11 _ g w (by kernel_rfl) (Om (aX (fun g w => aQ pg gH (aA 11 fW) Q g w) Q) g w (fun Wo t8 Bm t10 bW w => pR R Wo t8 Bm t10 bW w) R (fun g w h => aS (K := fun g w => aQ pg gH (aA 11 fW) Q g w) (NW Q g w R hr h)) hr h)
def PR (a0 : Value) (w : World) (R : K1) : Prop :=
  Dy R a0 w
theorem O6 {a0 : Value} {w : World} {R : K1} (h : PR a0 w R) : cC pg zE #[a0] w R := by
  refine bQ (ann := gH) (fn := Try.f31) (c := fW) (args := [a0]) (rs := jK) (N := 99) TryM.mixed (by kernel_rfl) Try.func31 (by kernel_rfl) (by kernel_rfl) (by kernel_rfl) (of_decide_eq_true (by kernel_rfl)) (by kernel_rfl) ?_
  exact (Ot (jT pg jK R) (gE [a0]) w R (fun _ _ h => h) h)
def dU : FA := ⟨Cp, fun i => match Nat.beq i 25 with | true => .leaf ([2, 3], [(0, 2)]) [(false, []), (false, []), (true, [1]), (true, []), (false, []), (false, [])] | false => .leaf ([], []) []⟩
def gW : List ResultVar := [.cell 6 69, .tmp 7, .tmp 8]
noncomputable def dE : Code := fB Try.f37
def zS (R : K1) (t6 iI cZ : Value) (w : World) : Prop :=
  aD pg (aW 69 cZ) (dr w) fun t101 w_ => w_ = (dr w) ∧
  (dr w) = (dr w) ∧
  cC pg nN #[iI] (dr w) fun t103 agS =>
  (gZ pg (aW 69 cZ) t101 agS ∧ True) ∧
  aD pg (cB 69 t6 t101) agS fun _u3 Xf =>
  Xf = Xf ∧
  Xf = Xf ∧
  F1 pg 69 t6 Xf fun r0 => R (.tuple #[r0, t103, (.int .i64 0)]) Xf
theorem Rx (R : K1) (hr : HR gW R Q) (h : zS R (g 6) (g 9) (g 12) w) : aQ pg dU (aA 1 (aA 7 dE)) Q g w :=
  aI (kn := no) (l := []) (by kernel_rfl) h fG hr trivial
def sD (kn : K5) (R : K1) (aR t6 iI cZ aY : Value) (w : World) : Prop :=
  aD pg (bA 69 cZ 1) w fun t91 w =>
  aD pg (aW 62 t91) w fun t92 w =>
  aD pg (iJ .len #[62] 3 [t92]) w fun t93 w =>
  aD pg (aN .gtr 3 (.tmp 93) (.tmp 94) t93 aR) w fun t95 w =>
  Gd (dW t95 false) (fun K => K aY w) w fun t97 w =>
  Gd (dW t95 false) (fun K => aD pg (aN .lss 3 (.tmp 97) (.const (.int .i64 0)) t97 (.int .i64 0)) w K) w fun t98 w =>
  aD pg (fJ t95 (.bool true) t98) w fun t99 w =>
  hH t99
    (aD pg (fV 69 []) w fun t100 w =>
    aD pg (cB 69 t6 t100) w fun _u w =>
    F1 pg 69 t6 w fun r0 => R (.tuple #[r0, (.int .i64 0), (.int .i64 11)]) w)
    (kn aR t6 iI cZ aY w)
theorem PC (kn : K5) (R : K1) (hn : ∀ g w, kn (g 2) (g 6) (g 9) (g 12) (g 13) w → Q .normal g w) (hr : HR gW R Q) (h : sD kn R (g 2) (g 6) (g 9) (g 12) (g 13) w) : aQ pg dU (aA 6 (bI (aA 1 (bI (bI (aC 1 (aA 7 dE))))))) Q g w :=
  aI (l := []) (by kernel_rfl) h hn hr trivial
def Et (kn : K5) (R : K1) (aR t6 iI cZ aY : Value) (w : World) : Prop :=
  cC pg AT #[iI, aY] w fun t52 w =>
  aD pg (dV t52 0) w fun t53 w =>
  aD pg (dV t52 1) w fun t54 w =>
  aD pg (aN .neq 24 (.tmp 55) (.const (.int .i64 0)) t54 (.int .i64 0)) w fun t56 w =>
  hH t56
    (aD pg (fV 69 []) w fun t57 w =>
    aD pg (cB 69 t6 t57) w fun _u w =>
    F1 pg 69 t6 w fun r0 => R (.tuple #[r0, (.int .i64 0), t54]) w)
    (aD pg (aN .sub 3 (.tmp 59) (.const (.int .i64 1)) t53 (.int .i64 1)) w fun t60 w =>
    cC pg oH #[t60] w fun t63 w =>
    aD pg (aN .sub 3 (.tmp 61) (.tmp 63) aY t63) w fun t64 w =>
    aD pg (bA 69 cZ 1) w fun t65 w =>
    aD pg (aW 62 t65) w fun t66 w =>
    aD pg (cQ 62 1 [(0, t60)]) w fun t68 w =>
    aD pg (iJ .append #[62, 62] 62 [t66, t68]) w fun t69 w =>
    aD pg (bA 69 cZ 1) w fun t70 w =>
    aD pg (cB 62 t70 t69) w fun _u w =>
    aD pg (aN .eql 3 (.tmp 71) (.const (.int .i64 0)) t60 (.int .i64 0)) w fun t72 w =>
    hH t72
      (cC pg tC #[iI] w fun t75 w =>
      aD pg (dV t75 0) w fun t76 w =>
      aD pg (dV t75 1) w fun t77 w =>
      aD pg (aN .neq 24 (.tmp 78) (.const (.int .i64 0)) t77 (.int .i64 0)) w fun t79 w =>
      hH t79
        (aD pg (fV 69 []) w fun t80 w =>
        aD pg (cB 69 t6 t80) w fun _u w =>
        F1 pg 69 t6 w fun r0 => R (.tuple #[r0, (.int .i64 0), t77]) w)
        (aD pg (aN .gtr 3 (.tmp 82) (.tmp 83) t76 aR) w fun t84 w =>
        hH t84
          (aD pg (fV 69 []) w fun t85 w =>
          aD pg (cB 69 t6 t85) w fun _u w =>
          F1 pg 69 t6 w fun r0 => R (.tuple #[r0, (.int .i64 0), (.int .i64 11)]) w)
          (aD pg (bA 69 cZ 1) w fun t86 w =>
          aD pg (aW 62 t86) w fun t87 w =>
          aD pg (iJ .append #[62, 3] 62 [t87, t76]) w fun t89 w =>
          aD pg (bA 69 cZ 1) w fun t90 w =>
          aD pg (cB 62 t90 t89) w fun _u w =>
          kn aR t6 iI cZ t64 w)))
      (kn aR t6 iI cZ t64 w))
theorem O0 (kn : K5) (R : K1) (hn : ∀ g w, kn (g 2) (g 6) (g 9) (g 12) (g 13) w → Q .normal g w) (hr : HR gW R Q) (h : Et kn R (g 2) (g 6) (g 9) (g 12) (g 13) w) : aQ pg dU (aC 6 (bI (aA 1 (bI (bI (aC 1 (aA 7 dE))))))) Q g w :=
  aI (l := []) (by kernel_rfl) h hn hr trivial
def Em (kn : K5) (R : K1) (aR t6 iI cZ aY : Value) (w : World) : Prop :=
  Et (fun aR t6 iI cZ aY w => sD kn R aR t6 iI cZ aY w) R aR t6 iI cZ aY w
theorem P4 (kn : K5) (R : K1) (hn : ∀ g w, kn (g 2) (g 6) (g 9) (g 12) (g 13) w → Q .normal g w) (hr : HR gW R Q) (h : Em kn R (g 2) (g 6) (g 9) (g 12) (g 13) w) : aQ pg dU (bI (aA 1 (bI (bI (aC 1 (aA 7 dE)))))) Q g w :=
  aL 6 _ g w (by kernel_rfl) (O0 (aX (fun g w => aQ pg dU (aA 6 (bI (aA 1 (bI (bI (aC 1 (aA 7 dE))))))) Q g w) Q) g w (fun aR t6 iI cZ aY w => sD kn R aR t6 iI cZ aY w) R (fun g w h => aS (K := fun g w => aQ pg dU (aA 6 (bI (aA 1 (bI (bI (aC 1 (aA 7 dE))))))) Q g w) (PC Q g w kn R hn hr h)) hr h)
def AS (kn : K5) (R : K1) (aR t6 iI cZ aY : Value) (w : World) : Prop :=
  Em kn R aR t6 iI cZ aY w
theorem QD (kn : K5) (R : K1) (hn : ∀ g w, kn (g 2) (g 6) (g 9) (g 12) (g 13) w → Q .normal g w) (hr : HR gW R Q) (h : AS kn R (g 2) (g 6) (g 9) (g 12) (g 13) w) : aQ pg dU (aA 1 (bI (bI (aC 1 (aA 7 dE))))) Q g w :=
  cU 1 _ g w (by kernel_rfl) (P4 (rP 1 Q) g w kn R hn hr h)
def EB (kn : K5) (k0 : K3) (aR t6 iI cZ aY : Value) (w : World) : Prop :=
  aD pg (aN .gtr 3 (.tmp 47) (.const (.int .i64 0)) aY (.int .i64 0)) w fun t48 w =>
  hH t48
    (kn aR t6 iI cZ aY w)
    (k0 t6 iI cZ w)
theorem Pt (kn : K5) (k0 : K3) (hn : ∀ g w, kn (g 2) (g 6) (g 9) (g 12) (g 13) w → Q .normal g w) (h0 : ∀ g w, k0 (g 6) (g 9) (g 12) w → Q (.exit 0) g w) (h : EB kn k0 (g 2) (g 6) (g 9) (g 12) (g 13) w) : aQ pg dU (aC 1 (bI (bI (aC 1 (aA 7 dE))))) Q g w :=
  aI (kr := no) (l := [(0, fun g w => k0 (g 6) (g 9) (g 12) w)]) (by kernel_rfl) h hn fG ⟨h0, trivial⟩
def yR (kn : K5) (k0 : K3) (R : K1) (aR t6 iI cZ aY : Value) (w : World) : Prop :=
  EB (fun aR t6 iI cZ aY w => AS kn R aR t6 iI cZ aY w) k0 aR t6 iI cZ aY w
theorem Rs (kn : K5) (k0 : K3) (R : K1) (hn : ∀ g w, kn (g 2) (g 6) (g 9) (g 12) (g 13) w → Q .normal g w) (h0 : ∀ g w, k0 (g 6) (g 9) (g 12) w → Q (.exit 0) g w) (hr : HR gW R Q) (h : yR kn k0 R (g 2) (g 6) (g 9) (g 12) (g 13) w) : aQ pg dU (bI (bI (aC 1 (aA 7 dE)))) Q g w :=
  aL 1 _ g w (by kernel_rfl) (Pt (aX (fun g w => aQ pg dU (aA 1 (bI (bI (aC 1 (aA 7 dE))))) Q g w) Q) g w (fun aR t6 iI cZ aY w => AS kn R aR t6 iI cZ aY w) k0 (fun g w h => aS (K := fun g w => aQ pg dU (aA 1 (bI (bI (aC 1 (aA 7 dE))))) Q g w) (QD Q g w kn R hn hr h)) h0 h)
def EM (k0 : K3) (R : K1) (aR t6 iI cZ aY : Value) (w : World) : Prop :=
  cV (fun (X : Value → K0) (t : Value) (w : World) => yR (fun _ _ _ _ aY w => X aY w) k0 R aR t6 iI cZ t w) aY w
theorem QF (k0 : K3) (R : K1) (h0 : ∀ g w, k0 (g 6) (g 9) (g 12) w → Q (.exit 0) g w) (hr : HR gW R Q) (h : EM k0 R (g 2) (g 6) (g 9) (g 12) (g 13) w) : aQ pg dU (bI (aC 1 (aA 7 dE))) Q g w := by
  refine cR (T := Value) (fun g : eL => g 13) (fun X t w => yR (fun _ _ _ _ aY w => X aY w) k0 R (g 2) (g 6) (g 9) (g 12) t w) _ (by kernel_rfl) h (fun X g1 w1 ha hL => ?_)
  rw [← aO (s := 2) ha (by kernel_rfl)] at hL
  rw [← aO (s := 6) ha (by kernel_rfl)] at hL
  rw [← aO (s := 9) ha (by kernel_rfl)] at hL
  rw [← aO (s := 12) ha (by kernel_rfl)] at hL
  exact (Rs (aX (fun g2 w2 => X ((fun g : eL => g 13) g2) w2) Q) g1 w1 (fun _ _ _ _ aY w => X aY w) k0 R (fun _ _ h => h) h0 hr hL)
def FB (kn : K3) (R : K1) (aR t6 iI cZ aY : Value) (w : World) : Prop :=
  EM kn R aR t6 iI cZ aY w
theorem QC (kn : K3) (R : K1) (hn : ∀ g w, kn (g 6) (g 9) (g 12) w → Q .normal g w) (hr : HR gW R Q) (h : FB kn R (g 2) (g 6) (g 9) (g 12) (g 13) w) : aQ pg dU (aC 1 (aA 7 dE)) Q g w :=
  cU 0 _ g w (by kernel_rfl) (QF (rP 0 Q) g w kn R hn hr h)
def pT (R : K1) (aR t6 iI cZ aY : Value) (w : World) : Prop :=
  FB (fun t6 iI cZ w => zS R t6 iI cZ w) R aR t6 iI cZ aY w
theorem M9 (R : K1) (hr : HR gW R Q) (h : pT R (g 2) (g 6) (g 9) (g 12) (g 13) w) : aQ pg dU (aA 7 dE) Q g w :=
  aL 1 _ g w (by kernel_rfl) (QC (aX (fun g w => aQ pg dU (aA 1 (aA 7 dE)) Q g w) Q) g w (fun t6 iI cZ w => zS R t6 iI cZ w) R (fun g w h => aS (K := fun g w => aQ pg dU (aA 1 (aA 7 dE)) Q g w) (Rx Q g w R hr h)) hr h)
def C6 (kn : K5) (R : K1) (gL FL aR : Value) (w : World) : Prop :=
  aD pg (hT 69) w fun t6 w =>
  cC pg rL #[gL] w fun t20 w =>
  cC pg iX #[t20, (.int .i64 4)] w fun t23 w =>
  aD pg (dV t23 0) w fun t24 w =>
  aD pg (dV t23 1) w fun t25 w =>
  aD pg (aN .neq 24 (.tmp 26) (.const (.int .i64 0)) t25 (.int .i64 0)) w fun t27 w =>
  hH t27
    (aD pg (fV 69 []) w fun t28 w =>
    aD pg (cB 69 t6 t28) w fun _u w =>
    F1 pg 69 t6 w fun r0 => R (.tuple #[r0, (.int .i64 0), t25]) w)
    (aD pg (jH 44 3 t24) w fun t31 w =>
    aD pg (aN .add 3 (.tmp 31) (.const (.int .i64 5)) t31 (.int .i64 5)) w fun t32 w =>
    aD pg (fV 69 [(0, t32)]) w fun t33 w =>
    aD pg (hT 69) w fun cZ w =>
    aD pg (cB 69 cZ t33) w fun _u w =>
    aD pg (bA 69 cZ 0) w fun t34 w =>
    aD pg (aW 3 t34) w fun t35 w =>
    aD pg (aN .gtr 3 (.tmp 35) (.tmp 36) t35 FL) w fun t37 w =>
    Gd (dW t37 false) (fun K => aD pg (bA 69 cZ 0) w K) w fun t39 w =>
    Gd (dW t37 false) (fun K => aD pg (aW 3 t39) w K) w fun t40 w =>
    Gd (dW t37 false) (fun K => aD pg (aN .gtr 3 (.tmp 40) (.const (.int .i64 15)) t40 (.int .i64 15)) w K) w fun t41 w =>
    aD pg (fJ t37 (.bool true) t41) w fun t42 w =>
    hH t42
      (aD pg (fV 69 []) w fun t43 w =>
      aD pg (cB 69 t6 t43) w fun _u w =>
      F1 pg 69 t6 w fun r0 => R (.tuple #[r0, (.int .i64 0), (.int .i64 12)]) w)
      (aD pg (bA 69 cZ 0) w fun t44 w =>
      aD pg (aW 3 t44) w fun t45 w =>
      aD pg (aN .shl 3 (.const (.int .i64 1)) (.tmp 45) (.int .i64 1) t45) w fun t46 w =>
      kn aR t6 t20 cZ t46 w))
theorem OK (kn : K5) (R : K1) (hn : ∀ g w, kn (g 2) (g 6) (g 9) (g 12) (g 13) w → Q .normal g w) (hr : HR gW R Q) (h : C6 kn R (g 0) (g 1) (g 2) w) : aQ pg dU (aC 7 dE) Q g w :=
  aI (l := []) (by kernel_rfl) h hn hr trivial
def C3 (R : K1) (gL FL aR : Value) (w : World) : Prop :=
  C6 (fun aR t6 iI cZ aY w => pT R aR t6 iI cZ aY w) R gL FL aR w
theorem OP (R : K1) (hr : HR gW R Q) (h : C3 R (g 0) (g 1) (g 2) w) : aQ pg dU dE Q g w :=
  aL 7 _ g w (by kernel_rfl) (OK (aX (fun g w => aQ pg dU (aA 7 dE) Q g w) Q) g w (fun aR t6 iI cZ aY w => pT R aR t6 iI cZ aY w) R (fun g w h => aS (K := fun g w => aQ pg dU (aA 7 dE) Q g w) (M9 Q g w R hr h)) hr h)
def TS (a0 a1 a2 : Value) (w : World) (R : K1) : Prop :=
  C3 R a0 a1 a2 w
theorem Si {a0 a1 a2 : Value} {w : World} {R : K1} (h : TS a0 a1 a2 w R) : cC pg Cp #[a0, a1, a2] w R := by
  refine bQ (ann := dU) (fn := Try.f37) (c := dE) (args := [a0, a1, a2]) (rs := gW) (N := 104) TryM.mixed (by kernel_rfl) Try.func37 (by kernel_rfl) (by kernel_rfl) (by kernel_rfl) (of_decide_eq_true (by kernel_rfl)) (by kernel_rfl) ?_
  exact (OP (jT pg gW R) (gE [a0, a1, a2]) w R (fun _ _ h => h) h)
def CM : FA := ⟨lV, fun i => match Nat.beq i 3 with | true => .leaf ([1, 12, 16], [(1, 3), (1, 4), (1, 5), (1, 8), (1, 9), (1, 10), (1, 11), (3, 12), (4, 12), (5, 12)]) [(false, []), (true, []), (false, []), (false, [1]), (false, [2]), (false, [3]), (false, []), (false, []), (false, [6]), (false, [7]), (false, [8]), (false, [9]), (true, [6, 7, 8]), (false, []), (false, []), (false, []), (true, []), (false, []), (false, [])] | false => .leaf ([], []) []⟩
def uR : List ResultVar := [.tmp 2, .tmp 3]
noncomputable def Bp : Code := fB Try.f38
def nX (R : K1) (gL : Value) (w : World) : Prop :=
  aD pg (iJ .len #[22] 3 [gL]) w fun t5 w =>
  aD pg (aN .eql 3 (.tmp 5) (.const (.int .i64 0)) t5 (.int .i64 0)) w fun t6 w =>
  Gd (dW t6 false) (fun K => K gL w) w fun t8 w =>
  Gd (dW t6 false) (fun K => K gL w) w fun t9 w =>
  Gd (dW t6 false) (fun K => aD pg (iJ .len #[22] 3 [t9]) w K) w fun t10 w =>
  Gd (dW t6 false) (fun K => aD pg (aN .sub 3 (.tmp 10) (.const (.int .i64 1)) t10 (.int .i64 1)) w K) w fun t11 w =>
  Gd (dW t6 false) (fun K => aD pg (cD 22 t8 t11) w K) w fun t12 w =>
  Gd (dW t6 false) (fun K => aD pg (aW 5 t12) w K) w fun t13 w =>
  Gd (dW t6 false) (fun K => aD pg (aN .eql 5 (.tmp 13) (.const (.int .u8 0)) t13 (.int .u8 0)) w K) w fun t14 w =>
  aD pg (fJ t6 (.bool true) t14) w fun t15 w =>
  hH t15
    (R (.tuple #[(.pointer none), (.int .i64 11)]) w)
    ((dr w) = (dr w) ∧
    cC pg jY #[gL] (dr w) fun t17 Ha =>
    Ha = Ha ∧
    aD pg (iJ .len #[22] 3 [gL]) Ha fun t19 w_ => w_ = Ha ∧
    (gZ pg (iJ .len #[22] 3 [gL]) t19 (dr w) ∧ True) ∧
    aD pg (aN .sub 3 (.tmp 19) (.const (.int .i64 1)) t19 (.int .i64 1)) Ha fun t20 w_ => w_ = Ha ∧
    (gZ pg (aN .sub 3 (.tmp 19) (.const (.int .i64 1)) t19 (.int .i64 1)) t20 (dr w) ∧ True) ∧
    aD pg (aN .mul 3 (.const (.int .i64 8)) (.tmp 20) (.int .i64 8) t20) Ha fun t21 w_ => w_ = Ha ∧
    (gZ pg (aN .mul 3 (.const (.int .i64 8)) (.tmp 20) (.int .i64 8) t20) t21 (dr w) ∧ True) ∧
    Ha = Ha ∧
    Ha = Ha ∧
    aD pg (iJ .len #[22] 3 [gL]) Ha fun t24 w_ => w_ = Ha ∧
    (gZ pg (iJ .len #[22] 3 [gL]) t24 (dr w) ∧ True) ∧
    aD pg (aN .sub 3 (.tmp 24) (.const (.int .i64 1)) t24 (.int .i64 1)) Ha fun t25 w_ => w_ = Ha ∧
    (gZ pg (aN .sub 3 (.tmp 24) (.const (.int .i64 1)) t24 (.int .i64 1)) t25 (dr w) ∧ True) ∧
    aD pg (cD 22 gL t25) Ha fun t26 w_ => w_ = Ha ∧
    (gZ pg (cD 22 gL t25) t26 (dr w) ∧ True) ∧
    aD pg (aW 5 t26) Ha fun t27 w_ => w_ = Ha ∧
    (gZ pg (aW 5 t26) t27 (dr w) ∧ True) ∧
    cC pg tK #[t27] Ha fun t28 MS =>
    (gZ pg (aN .mul 3 (.const (.int .i64 8)) (.tmp 20) (.int .i64 8) t20) t21 MS ∧ gZ pg (aN .sub 3 (.tmp 19) (.const (.int .i64 1)) t19 (.int .i64 1)) t20 MS ∧ gZ pg (iJ .len #[22] 3 [gL]) t19 MS ∧ True) ∧
    aD pg (aN .add 3 (.tmp 21) (.tmp 28) t21 t28) MS fun t29 w_ => w_ = MS ∧
    aD pg (aN .sub 3 (.tmp 29) (.const (.int .i64 1)) t29 (.int .i64 1)) MS fun t30 w_ => w_ = MS ∧
    aD pg (fV 114 [(0, t17), (1, t30)]) MS fun t31 w_ => w_ = MS ∧
    aD pg (Ej 114 t31) MS fun t32 Ye =>
    Ye = Ye ∧
    Ye = Ye ∧
    R (.tuple #[t32, (.int .i64 0)]) Ye)
theorem If (R : K1) (hr : HR uR R Q) (h : nX R (g 0) w) : aQ pg CM Bp Q g w :=
  aI (kn := no) (l := []) (by kernel_rfl) h fG hr trivial
def BH (a0 : Value) (w : World) (R : K1) : Prop :=
  nX R a0 w
theorem Bk {a0 : Value} {w : World} {R : K1} (h : BH a0 w R) : cC pg lV #[a0] w R := by
  refine bQ (ann := CM) (fn := Try.f38) (c := Bp) (args := [a0]) (rs := uR) (N := 33) TryM.mixed (by kernel_rfl) Try.func38 (by kernel_rfl) (by kernel_rfl) (by kernel_rfl) (of_decide_eq_true (by kernel_rfl)) (by kernel_rfl) ?_
  exact (If (jT pg uR R) (gE [a0]) w R (fun _ _ h => h) h)
def bP : FA := ⟨CD, fun i => match Nat.beq i 3 with | true => .split 3 5 (.perm [0, 1, 2, 3, 4, 5, 6] [(3, 5)] ([3, 5, 6], [(0, 3), (0, 5), (1, 3), (1, 5), (4, 5)]) [(false, []), (false, []), (false, []), (true, [1, 2]), (false, []), (true, [0, 3, 4]), (true, [])]) (.perm [0, 1, 2, 5, 3, 4, 6] [(5, 3)] ([3, 4, 6], [(0, 3), (0, 4), (1, 3), (1, 4), (2, 3)]) [(false, []), (false, []), (false, []), (true, [0, 1, 2]), (true, [2, 3]), (false, []), (true, [])]) | false => match Nat.beq i 16 with | true => .leaf ([5, 10], [(1, 5), (2, 5)]) [(false, []), (false, []), (false, []), (false, []), (false, []), (true, [2, 3]), (false, []), (false, []), (false, []), (false, []), (true, [])] | false => match Nat.beq i 17 with | true => .leaf ([13], []) [(false, []), (false, []), (false, []), (false, []), (false, []), (false, []), (false, []), (false, []), (false, []), (false, []), (false, []), (false, []), (false, []), (true, [])] | false => .leaf ([], []) []⟩
def mW : List ResultVar := [.cell 2 77, .tmp 3]
noncomputable def bH : Code := fB Try.f39
def D0 (R : K1) (t2 t4 : Value) (w : World) : Prop :=
  aD pg (aW 77 t4) w fun t90 w =>
  aD pg (cB 77 t2 t90) w fun _u w =>
  F1 pg 77 t2 w fun r0 => R (.tuple #[r0, (.int .i64 0)]) w
theorem UI (R : K1) (hr : HR mW R Q) (h : D0 R (g 2) (g 4) w) : aQ pg bP (aA 1 (aA 1 (aA 1 (aA 3 bH)))) Q g w :=
  aI (kn := no) (l := []) (by kernel_rfl) h fG hr trivial
def D7 (kn : K6) (bT t2 t4 dA t42 t43 : Value) (w : World) : Prop :=
  aD pg (aN .add 3 (.tmp 43) (.const (.int .i64 1)) t43 (.int .i64 1)) w fun t89 w =>
  kn bT t2 t4 dA t42 t89 w
theorem UV (kn : K6) (hn : ∀ g w, kn (g 1) (g 2) (g 4) (g 5) (g 42) (g 43) w → Q .normal g w) (h : D7 kn (g 1) (g 2) (g 4) (g 5) (g 42) (g 43) w) : aQ pg bP (aA 1 (aA 2 (bI (bI (aA 1 (aC 1 (aA 1 (aA 1 (aA 3 bH))))))))) Q g w :=
  aI (kr := no) (l := []) (by kernel_rfl) h hn fG trivial
def D5 (kn : K6) (bT t2 t4 dA Zw Qe t42 t43 : Value) (w : World) : Prop :=
  (dr w) = (dr w) ∧
  (dr w) = (dr w) ∧
  (dr w) = (dr w) ∧
  aD pg (Ix Zw) (dr w) fun t79 w_ => w_ = (dr w) ∧
  aD pg (bA 84 t79 1) (dr w) fun t80 w_ => w_ = (dr w) ∧
  aD pg (aW 3 t80) (dr w) fun t81 w_ => w_ = (dr w) ∧
  aD pg (aN .shl 3 (.tmp 77) (.tmp 81) Qe t81) (dr w) fun t82 w_ => w_ = (dr w) ∧
  aD pg (bA 77 t4 1) (dr w) fun t83 w_ => w_ = (dr w) ∧
  aD pg (aW 75 t83) (dr w) fun t84 w_ => w_ = (dr w) ∧
  aD pg (iJ .len #[75] 3 [t84]) (dr w) fun t85 w_ => w_ = (dr w) ∧
  aD pg (aN .sub 3 (.tmp 82) (.tmp 85) t82 t85) (dr w) fun t86 w_ => w_ = (dr w) ∧
  aD pg (Ix Zw) (dr w) fun t87 w_ => w_ = (dr w) ∧
  aD pg (bA 84 t87 2) (dr w) fun t88 w_ => w_ = (dr w) ∧
  aD pg (cB 3 t88 t86) (dr w) fun _u13 aiH =>
  kn bT t2 t4 dA t42 t43 aiH
theorem Uj (kn : K6) (hn : ∀ g w, kn (g 1) (g 2) (g 4) (g 5) (g 42) (g 43) w → Q .normal g w) (h : D5 kn (g 1) (g 2) (g 4) (g 5) (g 9) (g 10) (g 42) (g 43) w) : aQ pg bP (aA 1 (aA 4 (bI (aC 1 (aA 2 (bI (bI (aA 1 (aC 1 (aA 1 (aA 1 (aA 3 bH)))))))))))) Q g w :=
  aI (kr := no) (l := []) (by kernel_rfl) h hn fG trivial
def H6 (kn : K8) (bT t2 t4 dA Zw Qe t42 t43 : Value) (w : World) : Prop :=
  (dr w) = (dr w) ∧
  aD pg (bA 69 bT 0) (dr w) fun t67 w_ => w_ = (dr w) ∧
  aD pg (aW 3 t67) (dr w) fun t68 w_ => w_ = (dr w) ∧
  (dr w) = (dr w) ∧
  aD pg (jH 3 49 Qe) (dr w) fun t70 w_ => w_ = (dr w) ∧
  cC pg kC #[t70] (dr w) fun t71 Lq =>
  (gZ pg (aW 3 t67) t68 Lq ∧ gZ pg (bA 69 bT 0) t67 Lq ∧ True) ∧
  aD pg (aN .sub 3 (.tmp 68) (.tmp 71) t68 t71) Lq fun t72 w_ => w_ = Lq ∧
  aD pg (aN .add 3 (.tmp 72) (.const (.int .i64 1)) t72 (.int .i64 1)) Lq fun t73 w_ => w_ = Lq ∧
  aD pg (Ix Zw) Lq fun t74 w_ => w_ = Lq ∧
  aD pg (bA 84 t74 1) Lq fun t75 w_ => w_ = Lq ∧
  aD pg (cB 3 t75 t73) Lq fun _u10 ahL =>
  kn bT t2 t4 dA Zw Qe t42 t43 ahL
theorem UG (kn : K8) (hn : ∀ g w, kn (g 1) (g 2) (g 4) (g 5) (g 9) (g 10) (g 42) (g 43) w → Q .normal g w) (h : H6 kn (g 1) (g 2) (g 4) (g 5) (g 9) (g 10) (g 42) (g 43) w) : aQ pg bP (aC 1 (aA 4 (bI (aC 1 (aA 2 (bI (bI (aA 1 (aC 1 (aA 1 (aA 1 (aA 3 bH)))))))))))) Q g w :=
  aI (kr := no) (l := []) (by kernel_rfl) h hn fG trivial
def DN (kn : K6) (bT t2 t4 dA Zw Qe t42 t43 : Value) (w : World) : Prop :=
  H6 (fun bT t2 t4 dA Zw Qe t42 t43 w => D5 kn bT t2 t4 dA Zw Qe t42 t43 w) bT t2 t4 dA Zw Qe t42 t43 w
theorem UO (kn : K6) (hn : ∀ g w, kn (g 1) (g 2) (g 4) (g 5) (g 42) (g 43) w → Q .normal g w) (h : DN kn (g 1) (g 2) (g 4) (g 5) (g 9) (g 10) (g 42) (g 43) w) : aQ pg bP (aA 4 (bI (aC 1 (aA 2 (bI (bI (aA 1 (aC 1 (aA 1 (aA 1 (aA 3 bH))))))))))) Q g w :=
  aL 1 _ g w (by kernel_rfl) (UG (aX (fun g w => aQ pg bP (aA 1 (aA 4 (bI (aC 1 (aA 2 (bI (bI (aA 1 (aC 1 (aA 1 (aA 1 (aA 3 bH)))))))))))) Q g w) Q) g w (fun bT t2 t4 dA Zw Qe t42 t43 w => D5 kn bT t2 t4 dA Zw Qe t42 t43 w) (fun g w h => aS (K := fun g w => aQ pg bP (aA 1 (aA 4 (bI (aC 1 (aA 2 (bI (bI (aA 1 (aC 1 (aA 1 (aA 1 (aA 3 bH)))))))))))) Q g w) (Uj Q g w kn hn h)) h)
def H2 (kn : K8) (bT t2 t4 dA t42 t43 : Value) (w : World) : Prop :=
  aD pg (bA 77 t4 1) w fun t46 w =>
  aD pg (aW 75 t46) w fun t47 w =>
  aD pg (cD 75 t47 t43) w fun t49 w =>
  aD pg (Ix t49) w fun t52 w =>
  aD pg (bA 84 t52 0) w fun t53 w =>
  aD pg (aW 5 t53) w fun t54 w =>
  aD pg (cD 62 dA t54) w fun t55 w =>
  aD pg (aW 3 t55) w fun t56 w =>
  aD pg (Ix t49) w fun t59 w =>
  aD pg (bA 84 t59 0) w fun t60 w =>
  aD pg (aW 5 t60) w fun t61 w =>
  aD pg (cD 62 dA t61) w fun t62 w =>
  aD pg (aW 3 t62) w fun t63 w =>
  aD pg (aN .add 3 (.tmp 63) (.const (.int .i64 1)) t63 (.int .i64 1)) w fun t64 w =>
  aD pg (cD 62 dA t61) w fun t65 w =>
  aD pg (cB 3 t65 t64) w fun _u w =>
  kn bT t2 t4 dA t49 t56 t42 t43 w
theorem UR (kn : K8) (hn : ∀ g w, kn (g 1) (g 2) (g 4) (g 5) (g 9) (g 10) (g 42) (g 43) w → Q .normal g w) (h : H2 kn (g 1) (g 2) (g 4) (g 5) (g 42) (g 43) w) : aQ pg bP (aC 4 (bI (aC 1 (aA 2 (bI (bI (aA 1 (aC 1 (aA 1 (aA 1 (aA 3 bH))))))))))) Q g w :=
  aI (kr := no) (l := []) (by kernel_rfl) h hn fG trivial
def I8 (kn : K6) (bT t2 t4 dA t42 t43 : Value) (w : World) : Prop :=
  H2 (fun bT t2 t4 dA Zw Qe t42 t43 w => DN kn bT t2 t4 dA Zw Qe t42 t43 w) bT t2 t4 dA t42 t43 w
theorem U2 (kn : K6) (hn : ∀ g w, kn (g 1) (g 2) (g 4) (g 5) (g 42) (g 43) w → Q .normal g w) (h : I8 kn (g 1) (g 2) (g 4) (g 5) (g 42) (g 43) w) : aQ pg bP (bI (aC 1 (aA 2 (bI (bI (aA 1 (aC 1 (aA 1 (aA 1 (aA 3 bH)))))))))) Q g w :=
  aL 4 _ g w (by kernel_rfl) (UR (aX (fun g w => aQ pg bP (aA 4 (bI (aC 1 (aA 2 (bI (bI (aA 1 (aC 1 (aA 1 (aA 1 (aA 3 bH))))))))))) Q g w) Q) g w (fun bT t2 t4 dA Zw Qe t42 t43 w => DN kn bT t2 t4 dA Zw Qe t42 t43 w) (fun g w h => aS (K := fun g w => aQ pg bP (aA 4 (bI (aC 1 (aA 2 (bI (bI (aA 1 (aC 1 (aA 1 (aA 1 (aA 3 bH))))))))))) Q g w) (UO Q g w kn hn h)) h)
def I1 (kn : K6) (bT t2 t4 dA t42 t43 : Value) (w : World) : Prop :=
  I8 kn bT t2 t4 dA t42 t43 w
theorem UT (kn : K6) (hn : ∀ g w, kn (g 1) (g 2) (g 4) (g 5) (g 42) (g 43) w → Q .normal g w) (h : I1 kn (g 1) (g 2) (g 4) (g 5) (g 42) (g 43) w) : aQ pg bP (aC 1 (aA 2 (bI (bI (aA 1 (aC 1 (aA 1 (aA 1 (aA 3 bH))))))))) Q g w :=
  cU 3 _ g w (by kernel_rfl) (U2 (rP 3 Q) g w kn hn h)
def Aa (kn : K6) (bT t2 t4 dA t42 t43 : Value) (w : World) : Prop :=
  I1 (fun bT t2 t4 dA t42 t43 w => D7 kn bT t2 t4 dA t42 t43 w) bT t2 t4 dA t42 t43 w
theorem UZ (kn : K6) (hn : ∀ g w, kn (g 1) (g 2) (g 4) (g 5) (g 42) (g 43) w → Q .normal g w) (h : Aa kn (g 1) (g 2) (g 4) (g 5) (g 42) (g 43) w) : aQ pg bP (aA 2 (bI (bI (aA 1 (aC 1 (aA 1 (aA 1 (aA 3 bH)))))))) Q g w :=
  aL 1 _ g w (by kernel_rfl) (UT (aX (fun g w => aQ pg bP (aA 1 (aA 2 (bI (bI (aA 1 (aC 1 (aA 1 (aA 1 (aA 3 bH))))))))) Q g w) Q) g w (fun bT t2 t4 dA t42 t43 w => D7 kn bT t2 t4 dA t42 t43 w) (fun g w h => aS (K := fun g w => aQ pg bP (aA 1 (aA 2 (bI (bI (aA 1 (aC 1 (aA 1 (aA 1 (aA 3 bH))))))))) Q g w) (UV Q g w kn hn h)) h)
def G1 (kn : K6) (k2 : K2) (bT t2 t4 dA t42 t43 : Value) (w : World) : Prop :=
  aD pg (aN .lss 3 (.tmp 43) (.tmp 42) t43 t42) w fun t44 w =>
  hH t44
    (kn bT t2 t4 dA t42 t43 w)
    (k2 t2 t4 w)
theorem Tm (kn : K6) (k2 : K2) (hn : ∀ g w, kn (g 1) (g 2) (g 4) (g 5) (g 42) (g 43) w → Q .normal g w) (h2 : ∀ g w, k2 (g 2) (g 4) w → Q (.exit 2) g w) (h : G1 kn k2 (g 1) (g 2) (g 4) (g 5) (g 42) (g 43) w) : aQ pg bP (aC 2 (bI (bI (aA 1 (aC 1 (aA 1 (aA 1 (aA 3 bH)))))))) Q g w :=
  aI (kr := no) (l := [(2, fun g w => k2 (g 2) (g 4) w)]) (by kernel_rfl) h hn fG ⟨h2, trivial⟩
def Ca (kn : K6) (k2 : K2) (bT t2 t4 dA t42 t43 : Value) (w : World) : Prop :=
  G1 (fun bT t2 t4 dA t42 t43 w => Aa kn bT t2 t4 dA t42 t43 w) k2 bT t2 t4 dA t42 t43 w
theorem Tf (kn : K6) (k2 : K2) (hn : ∀ g w, kn (g 1) (g 2) (g 4) (g 5) (g 42) (g 43) w → Q .normal g w) (h2 : ∀ g w, k2 (g 2) (g 4) w → Q (.exit 2) g w) (h : Ca kn k2 (g 1) (g 2) (g 4) (g 5) (g 42) (g 43) w) : aQ pg bP (bI (bI (aA 1 (aC 1 (aA 1 (aA 1 (aA 3 bH))))))) Q g w :=
  aL 2 _ g w (by kernel_rfl) (Tm (aX (fun g w => aQ pg bP (aA 2 (bI (bI (aA 1 (aC 1 (aA 1 (aA 1 (aA 3 bH)))))))) Q g w) Q) g w (fun bT t2 t4 dA t42 t43 w => Aa kn bT t2 t4 dA t42 t43 w) k2 (fun g w h => aS (K := fun g w => aQ pg bP (aA 2 (bI (bI (aA 1 (aC 1 (aA 1 (aA 1 (aA 3 bH)))))))) Q g w) (UZ Q g w kn hn h)) h2 h)
def GO (k2 : K2) (bT t2 t4 dA t42 t43 : Value) (w : World) : Prop :=
  cV (fun (X : Value → K0) (t : Value) (w : World) => Ca (fun _ _ _ _ _ t43 w => X t43 w) k2 bT t2 t4 dA t42 t w) t43 w
theorem SD (k2 : K2) (h2 : ∀ g w, k2 (g 2) (g 4) w → Q (.exit 2) g w) (h : GO k2 (g 1) (g 2) (g 4) (g 5) (g 42) (g 43) w) : aQ pg bP (bI (aA 1 (aC 1 (aA 1 (aA 1 (aA 3 bH)))))) Q g w := by
  refine cR (T := Value) (fun g : eL => g 43) (fun X t w => Ca (fun _ _ _ _ _ t43 w => X t43 w) k2 (g 1) (g 2) (g 4) (g 5) (g 42) t w) _ (by kernel_rfl) h (fun X g1 w1 ha hL => ?_)
  rw [← aO (s := 1) ha (by kernel_rfl)] at hL
  rw [← aO (s := 2) ha (by kernel_rfl)] at hL
  rw [← aO (s := 4) ha (by kernel_rfl)] at hL
  rw [← aO (s := 5) ha (by kernel_rfl)] at hL
  rw [← aO (s := 42) ha (by kernel_rfl)] at hL
  exact (Tf (aX (fun g2 w2 => X ((fun g : eL => g 43) g2) w2) Q) g1 w1 (fun _ _ _ _ _ t43 w => X t43 w) k2 (fun _ _ h => h) h2 hL)
def B6 (kn : K2) (bT t2 t4 dA t42 t43 : Value) (w : World) : Prop :=
  GO kn bT t2 t4 dA t42 t43 w
theorem RV (kn : K2) (hn : ∀ g w, kn (g 2) (g 4) w → Q .normal g w) (h : B6 kn (g 1) (g 2) (g 4) (g 5) (g 42) (g 43) w) : aQ pg bP (aA 1 (aC 1 (aA 1 (aA 1 (aA 3 bH))))) Q g w :=
  cU 2 _ g w (by kernel_rfl) (SD (rP 2 Q) g w kn hn h)
def G2 (kn : K6) (bT t2 t4 dA : Value) (w : World) : Prop :=
  aD pg (bA 77 t4 1) w fun t40 w =>
  aD pg (aW 75 t40) w fun t41 w =>
  aD pg (iJ .len #[75] 3 [t41]) w fun t42 w =>
  kn bT t2 t4 dA t42 (.int .i64 0) w
theorem Ts (kn : K6) (hn : ∀ g w, kn (g 1) (g 2) (g 4) (g 5) (g 42) (g 43) w → Q .normal g w) (h : G2 kn (g 1) (g 2) (g 4) (g 5) w) : aQ pg bP (aC 1 (aC 1 (aA 1 (aA 1 (aA 3 bH))))) Q g w :=
  aI (kr := no) (l := []) (by kernel_rfl) h hn fG trivial
def Hf (kn : K2) (bT t2 t4 dA : Value) (w : World) : Prop :=
  G2 (fun bT t2 t4 dA t42 t43 w => B6 kn bT t2 t4 dA t42 t43 w) bT t2 t4 dA w
theorem SF (kn : K2) (hn : ∀ g w, kn (g 2) (g 4) w → Q .normal g w) (h : Hf kn (g 1) (g 2) (g 4) (g 5) w) : aQ pg bP (aC 1 (aA 1 (aA 1 (aA 3 bH)))) Q g w :=
  aL 1 _ g w (by kernel_rfl) (Ts (aX (fun g w => aQ pg bP (aA 1 (aC 1 (aA 1 (aA 1 (aA 3 bH))))) Q g w) Q) g w (fun bT t2 t4 dA t42 t43 w => B6 kn bT t2 t4 dA t42 t43 w) (fun g w h => aS (K := fun g w => aQ pg bP (aA 1 (aC 1 (aA 1 (aA 1 (aA 3 bH))))) Q g w) (RV Q g w kn hn h)) h)
def uZ (R : K1) (bT t2 t4 dA : Value) (w : World) : Prop :=
  Hf (fun t2 t4 w => D0 R t2 t4 w) bT t2 t4 dA w
theorem Ta (R : K1) (hr : HR mW R Q) (h : uZ R (g 1) (g 2) (g 4) (g 5) w) : aQ pg bP (aA 1 (aA 1 (aA 3 bH))) Q g w :=
  aL 1 _ g w (by kernel_rfl) (SF (aX (fun g w => aQ pg bP (aA 1 (aA 1 (aA 1 (aA 3 bH)))) Q g w) Q) g w (fun t2 t4 w => D0 R t2 t4 w) (fun g w h => aS (K := fun g w => aQ pg bP (aA 1 (aA 1 (aA 1 (aA 3 bH)))) Q g w) (UI Q g w R hr h)) h)
def vH (kn : K7) (k0 : K4) (bT t2 t4 dA t25 t26 t27 : Value) (w : World) : Prop :=
  aD pg (aN .lss 3 (.tmp 27) (.tmp 26) t27 t26) w fun t28 w =>
  hH t28
    (aD pg (cD 62 t25 t27) w fun t30 w =>
    aD pg (aW 3 t30) w fun t31 w =>
    aD pg (sUn .neg t31) w fun t36 w =>
    aD pg (iJ .max #[3, 3] 3 [t31, t36]) w fun t37 w =>
    aD pg (cD 62 dA t27) w fun t38 w =>
    aD pg (cB 3 t38 t37) w fun _u w =>
    aD pg (aN .add 3 (.tmp 27) (.const (.int .i64 1)) t27 (.int .i64 1)) w fun t39 w =>
    kn bT t2 t4 dA t25 t26 t39 w)
    (k0 bT t2 t4 dA w)
theorem RZ (kn : K7) (k0 : K4) (hn : ∀ g w, kn (g 1) (g 2) (g 4) (g 5) (g 25) (g 26) (g 27) w → Q .normal g w) (h0 : ∀ g w, k0 (g 1) (g 2) (g 4) (g 5) w → Q (.exit 0) g w) (h : vH kn k0 (g 1) (g 2) (g 4) (g 5) (g 25) (g 26) (g 27) w) : aQ pg bP (bI (bI (aA 1 (aC 1 (aA 1 (aA 3 bH)))))) Q g w :=
  aI (kr := no) (l := [(0, fun g w => k0 (g 1) (g 2) (g 4) (g 5) w)]) (by kernel_rfl) h hn fG ⟨h0, trivial⟩
def G0 (k0 : K4) (bT t2 t4 dA t25 t26 t27 : Value) (w : World) : Prop :=
  cV (fun (X : Value → K0) (t : Value) (w : World) => vH (fun _ _ _ _ _ _ t27 w => X t27 w) k0 bT t2 t4 dA t25 t26 t w) t27 w
theorem SB (k0 : K4) (h0 : ∀ g w, k0 (g 1) (g 2) (g 4) (g 5) w → Q (.exit 0) g w) (h : G0 k0 (g 1) (g 2) (g 4) (g 5) (g 25) (g 26) (g 27) w) : aQ pg bP (bI (aA 1 (aC 1 (aA 1 (aA 3 bH))))) Q g w := by
  refine cR (T := Value) (fun g : eL => g 27) (fun X t w => vH (fun _ _ _ _ _ _ t27 w => X t27 w) k0 (g 1) (g 2) (g 4) (g 5) (g 25) (g 26) t w) _ (by kernel_rfl) h (fun X g1 w1 ha hL => ?_)
  rw [← aO (s := 1) ha (by kernel_rfl)] at hL
  rw [← aO (s := 2) ha (by kernel_rfl)] at hL
  rw [← aO (s := 4) ha (by kernel_rfl)] at hL
  rw [← aO (s := 5) ha (by kernel_rfl)] at hL
  rw [← aO (s := 25) ha (by kernel_rfl)] at hL
  rw [← aO (s := 26) ha (by kernel_rfl)] at hL
  exact (RZ (aX (fun g2 w2 => X ((fun g : eL => g 27) g2) w2) Q) g1 w1 (fun _ _ _ _ _ _ t27 w => X t27 w) k0 (fun _ _ h => h) h0 hL)
def Ci (kn : K4) (bT t2 t4 dA t25 t26 t27 : Value) (w : World) : Prop :=
  G0 kn bT t2 t4 dA t25 t26 t27 w
theorem SU (kn : K4) (hn : ∀ g w, kn (g 1) (g 2) (g 4) (g 5) w → Q .normal g w) (h : Ci kn (g 1) (g 2) (g 4) (g 5) (g 25) (g 26) (g 27) w) : aQ pg bP (aA 1 (aC 1 (aA 1 (aA 3 bH)))) Q g w :=
  cU 0 _ g w (by kernel_rfl) (SB (rP 0 Q) g w kn hn h)
def GN (kn : K7) (bT t2 t4 dA : Value) (w : World) : Prop :=
  aD pg (bA 69 bT 1) w fun t24 w =>
  aD pg (aW 62 t24) w fun t25 w =>
  aD pg (iJ .len #[62] 3 [t25]) w fun t26 w =>
  kn bT t2 t4 dA t25 t26 (.int .i64 0) w
theorem S0 (kn : K7) (hn : ∀ g w, kn (g 1) (g 2) (g 4) (g 5) (g 25) (g 26) (g 27) w → Q .normal g w) (h : GN kn (g 1) (g 2) (g 4) (g 5) w) : aQ pg bP (aC 1 (aC 1 (aA 1 (aA 3 bH)))) Q g w :=
  aI (kr := no) (l := []) (by kernel_rfl) h hn fG trivial
def GT (kn : K4) (bT t2 t4 dA : Value) (w : World) : Prop :=
  GN (fun bT t2 t4 dA t25 t26 t27 w => Ci kn bT t2 t4 dA t25 t26 t27 w) bT t2 t4 dA w
theorem RU (kn : K4) (hn : ∀ g w, kn (g 1) (g 2) (g 4) (g 5) w → Q .normal g w) (h : GT kn (g 1) (g 2) (g 4) (g 5) w) : aQ pg bP (aC 1 (aA 1 (aA 3 bH))) Q g w :=
  aL 1 _ g w (by kernel_rfl) (S0 (aX (fun g w => aQ pg bP (aA 1 (aC 1 (aA 1 (aA 3 bH)))) Q g w) Q) g w (fun bT t2 t4 dA t25 t26 t27 w => Ci kn bT t2 t4 dA t25 t26 t27 w) (fun g w h => aS (K := fun g w => aQ pg bP (aA 1 (aC 1 (aA 1 (aA 3 bH)))) Q g w) (SU Q g w kn hn h)) h)
def Cz (R : K1) (bT t2 t4 dA : Value) (w : World) : Prop :=
  GT (fun bT t2 t4 dA w => uZ R bT t2 t4 dA w) bT t2 t4 dA w
theorem R0 (R : K1) (hr : HR mW R Q) (h : Cz R (g 1) (g 2) (g 4) (g 5) w) : aQ pg bP (aA 1 (aA 3 bH)) Q g w :=
  aL 1 _ g w (by kernel_rfl) (RU (aX (fun g w => aQ pg bP (aA 1 (aA 1 (aA 3 bH))) Q g w) Q) g w (fun bT t2 t4 dA w => uZ R bT t2 t4 dA w) (fun g w h => aS (K := fun g w => aQ pg bP (aA 1 (aA 1 (aA 3 bH))) Q g w) (Ta Q g w R hr h)) h)
def Gu (kn : K4) (bT t2 t4 : Value) (w : World) : Prop :=
  aD pg (bA 69 bT 1) w fun t20 w =>
  aD pg (aW 62 t20) w fun t21 w =>
  aD pg (iJ .len #[62] 3 [t21]) w fun t22 w =>
  aD pg (oD 62 t22 t22) w fun t23 w =>
  kn bT t2 t4 t23 w
theorem R9 (kn : K4) (hn : ∀ g w, kn (g 1) (g 2) (g 4) (g 5) w → Q .normal g w) (h : Gu kn (g 1) (g 2) (g 4) w) : aQ pg bP (aC 1 (aA 3 bH)) Q g w :=
  aI (kr := no) (l := []) (by kernel_rfl) h hn fG trivial
def qG (R : K1) (bT t2 t4 : Value) (w : World) : Prop :=
  Gu (fun bT t2 t4 dA w => Cz R bT t2 t4 dA w) bT t2 t4 w
theorem SH (R : K1) (hr : HR mW R Q) (h : qG R (g 1) (g 2) (g 4) w) : aQ pg bP (aA 3 bH) Q g w :=
  aL 1 _ g w (by kernel_rfl) (R9 (aX (fun g w => aQ pg bP (aA 1 (aA 3 bH)) Q g w) Q) g w (fun bT t2 t4 dA w => Cz R bT t2 t4 dA w) (fun g w h => aS (K := fun g w => aQ pg bP (aA 1 (aA 3 bH)) Q g w) (R0 Q g w R hr h)) h)
def GH (kn : K3) (R : K1) (VP : Value) (w : World) : Prop :=
  aD pg (Ej 69 VP) w fun bT w =>
  aD pg (hT 77) w fun t2 w =>
  aD pg (aW 69 bT) w fun t11 w =>
  cC pg zP #[t11, (.int .i64 15)] w fun t12 w =>
  aD pg (aN .neq 24 (.tmp 12) (.const (.int .i64 0)) t12 (.int .i64 0)) w fun t13 w =>
  hH t13
    (aD pg (fV 77 []) w fun t14 w =>
    aD pg (cB 77 t2 t14) w fun _u w =>
    F1 pg 77 t2 w fun r0 => R (.tuple #[r0, (.int .i64 1)]) w)
    (Ord (afP CD 3 (MI 3 bH) 3 5 w)
      (aD pg (bA 69 bT 0) (dr w) fun t15 w_ => w_ = (dr w) ∧
      aD pg (aW 3 t15) (dr w) fun t16 w_ => w_ = (dr w) ∧
      aD pg (aW 69 bT) (dr w) fun t17 w_ => w_ = (dr w) ∧
      cC pg yS #[t17] (dr w) fun t18 Ws =>
      (gZ pg (aW 3 t15) t16 Ws ∧ gZ pg (bA 69 bT 0) t15 Ws ∧ True) ∧
      aD pg (fV 77 [(0, t16), (1, t18)]) Ws fun t19 w_ => w_ = Ws ∧
      aD pg (hT 77) Ws fun t4 afC =>
      (gZ pg (fV 77 [(0, t16), (1, t18)]) t19 afC ∧ gZ pg (aW 3 t15) t16 afC ∧ gZ pg (bA 69 bT 0) t15 afC ∧ True) ∧
      aD pg (cB 77 t4 t19) afC fun _u6 ahJ =>
      kn bT t2 t4 ahJ)
      (aD pg (bA 69 bT 0) (dr w) fun t15 w_ => w_ = (dr w) ∧
      aD pg (aW 3 t15) (dr w) fun t16 w_ => w_ = (dr w) ∧
      aD pg (aW 69 bT) (dr w) fun t17 w_ => w_ = (dr w) ∧
      aD pg (hT 77) (dr w) fun t4 Ws =>
      (gZ pg (aW 69 bT) t17 Ws ∧ gZ pg (aW 3 t15) t16 Ws ∧ gZ pg (bA 69 bT 0) t15 Ws ∧ True) ∧
      cC pg yS #[t17] Ws fun t18 adY =>
      (gZ pg (aW 3 t15) t16 adY ∧ gZ pg (bA 69 bT 0) t15 adY ∧ True) ∧
      aD pg (fV 77 [(0, t16), (1, t18)]) adY fun t19 w_ => w_ = adY ∧
      aD pg (cB 77 t4 t19) adY fun _u6 ahJ =>
      kn bT t2 t4 ahJ))
theorem R4 (kn : K3) (R : K1) (hn : ∀ g w, kn (g 1) (g 2) (g 4) w → Q .normal g w) (hr : HR mW R Q) (h : GH kn R (g 0) w) : aQ pg bP (aC 3 bH) Q g w :=
  aI (l := []) (by kernel_rfl) h hn hr trivial
def GM (R : K1) (VP : Value) (w : World) : Prop :=
  GH (fun bT t2 t4 w => qG R bT t2 t4 w) R VP w
theorem R3 (R : K1) (hr : HR mW R Q) (h : GM R (g 0) w) : aQ pg bP bH Q g w :=
  aL 3 _ g w (by kernel_rfl) (R4 (aX (fun g w => aQ pg bP (aA 3 bH) Q g w) Q) g w (fun bT t2 t4 w => qG R bT t2 t4 w) R (fun g w h => aS (K := fun g w => aQ pg bP (aA 3 bH) Q g w) (SH Q g w R hr h)) hr h)
def WN (a0 : Value) (w : World) (R : K1) : Prop :=
  GM R a0 w
theorem V2 {a0 : Value} {w : World} {R : K1} (h : WN a0 w R) : cC pg CD #[a0] w R := by
  refine bQ (ann := bP) (fn := Try.f39) (c := bH) (args := [a0]) (rs := mW) (N := 91) TryM.mixed (by kernel_rfl) Try.func39 (by kernel_rfl) (by kernel_rfl) (by kernel_rfl) (of_decide_eq_true (by kernel_rfl)) (by kernel_rfl) ?_
  exact (R3 (jT pg mW R) (gE [a0]) w R (fun _ _ h => h) h)
def MN : FA := ⟨Ga, fun i => .leaf ([], []) []⟩
def H9 : List ResultVar := [.tmp 4]
noncomputable def Le : Code := fB Try.f40
def I7 (R : K1) (t0 r_1 : Value) (w : World) : Prop :=
  aD pg (Ej 77 t0) w fun t2 w =>
  aD pg (bA 77 t2 0) w fun t6 w =>
  aD pg (aW 3 t6) w fun t7 w =>
  cC pg kN #[r_1, t7] w fun t8 w =>
  aD pg (jH 44 3 t8) w fun t9 w =>
  R t9 w
theorem Uh (R : K1) (hr : HR H9 R Q) (h : I7 R (g 0) (g 1) w) : aQ pg MN Le Q g w :=
  aI (kn := no) (l := []) (by kernel_rfl) h fG hr trivial
def W3 (a0 a1 : Value) (w : World) (R : K1) : Prop :=
  I7 R a0 a1 w
theorem VW {a0 a1 : Value} {w : World} {R : K1} (h : W3 a0 a1 w R) : cC pg Ga #[a0, a1] w R := by
  refine bQ (ann := MN) (fn := Try.f40) (c := Le) (args := [a0, a1]) (rs := H9) (N := 10) TryM.mixed (by kernel_rfl) Try.func40 (by kernel_rfl) (by kernel_rfl) (by kernel_rfl) (of_decide_eq_true (by kernel_rfl)) (by kernel_rfl) ?_
  exact (Uh (jT pg H9 R) (gE [a0, a1]) w R (fun _ _ h => h) h)
def zL : FA := ⟨kO, fun i => .leaf ([], []) []⟩
def qS : List ResultVar := [.tmp 2]
noncomputable def yC : Code := fB Try.f41
def qL (R : K1) (r_0 : Value) (w : World) : Prop :=
  aD pg (aN .eql 72 (.tmp 3) (.const (.pointer none)) r_0 (.pointer none)) w fun t4 w =>
  hH t4
    (R (.int .i64 0) w)
    (aD pg (Ix r_0) w fun t6 w =>
    aD pg (bA 114 t6 1) w fun t7 w =>
    aD pg (aW 3 t7) w fun t8 w =>
    R t8 w)
theorem GD (R : K1) (hr : HR qS R Q) (h : qL R (g 0) w) : aQ pg zL yC Q g w :=
  aI (kn := no) (l := []) (by kernel_rfl) h fG hr trivial
def FS (a0 : Value) (w : World) (R : K1) : Prop :=
  qL R a0 w
theorem HL {a0 : Value} {w : World} {R : K1} (h : FS a0 w R) : cC pg kO #[a0] w R := by
  refine bQ (ann := zL) (fn := Try.f41) (c := yC) (args := [a0]) (rs := qS) (N := 9) TryM.mixed (by kernel_rfl) Try.func41 (by kernel_rfl) (by kernel_rfl) (by kernel_rfl) (of_decide_eq_true (by kernel_rfl)) (by kernel_rfl) ?_
  exact (GD (jT pg qS R) (gE [a0]) w R (fun _ _ h => h) h)
def Po : FA := ⟨I5, fun i => match Nat.beq i 4 with | true => .leaf ([5], [(0, 5), (1, 5)]) [(false, []), (false, []), (false, []), (false, []), (false, []), (true, [3, 4]), (false, []), (false, []), (false, [])] | false => .leaf ([], []) []⟩
def Ke : List ResultVar := [.tmp 6]
noncomputable def MG : Code := fB Try.f42
def Kw (R : K1) (t0 DL r_2 : Value) (w : World) : Prop :=
  aD pg (Ej 77 t0) w fun t3 w =>
  aD pg (aN .lss 3 (.tmp 8) (.const (.int .i64 0)) DL (.int .i64 0)) w fun t9 w =>
  Gd (dW t9 false) (fun K => K DL w) w fun t11 w =>
  Gd (dW t9 false) (fun K => aD pg (bA 77 t3 1) w K) w fun t12 w =>
  Gd (dW t9 false) (fun K => aD pg (aW 75 t12) w K) w fun t13 w =>
  Gd (dW t9 false) (fun K => aD pg (iJ .len #[75] 3 [t13]) w K) w fun t14 w =>
  Gd (dW t9 false) (fun K => aD pg (aN .geq 3 (.tmp 11) (.tmp 14) t11 t14) w K) w fun t15 w =>
  aD pg (fJ t9 (.bool true) t15) w fun t16 w =>
  hH t16
    (R (.int .i64 0) w)
    (aD pg (bA 77 t3 1) w fun t17 w =>
    aD pg (aW 75 t17) w fun t18 w =>
    aD pg (cD 75 t18 DL) w fun t20 w =>
    aD pg (aW 84 t20) w fun t21 w =>
    aD pg (hT 84) w fun tA w =>
    aD pg (cB 84 tA t21) w fun _u w =>
    aD pg (bA 84 tA 2) (dr w) fun t22 w_ => w_ = (dr w) ∧
    aD pg (aW 3 t22) (dr w) fun t23 w_ => w_ = (dr w) ∧
    (dr w) = (dr w) ∧
    aD pg (bA 84 tA 1) (dr w) fun t25 w_ => w_ = (dr w) ∧
    aD pg (aW 3 t25) (dr w) fun t26 w_ => w_ = (dr w) ∧
    cC pg kN #[r_2, t26] (dr w) fun t27 Xr =>
    (gZ pg (aW 3 t22) t23 Xr ∧ gZ pg (bA 84 tA 2) t22 Xr ∧ True) ∧
    aD pg (jH 44 3 t27) Xr fun t28 w_ => w_ = Xr ∧
    aD pg (aN .add 3 (.tmp 23) (.tmp 28) t23 t28) Xr fun t29 w_ => w_ = Xr ∧
    Xr = Xr ∧
    R t29 Xr)
theorem Vy (R : K1) (hr : HR Ke R Q) (h : Kw R (g 0) (g 1) (g 2) w) : aQ pg Po MG Q g w :=
  aI (kn := no) (l := []) (by kernel_rfl) h fG hr trivial
def X8 (a0 a1 a2 : Value) (w : World) (R : K1) : Prop :=
  Kw R a0 a1 a2 w
theorem Wt {a0 a1 a2 : Value} {w : World} {R : K1} (h : X8 a0 a1 a2 w R) : cC pg I5 #[a0, a1, a2] w R := by
  refine bQ (ann := Po) (fn := Try.f42) (c := MG) (args := [a0, a1, a2]) (rs := Ke) (N := 30) TryM.mixed (by kernel_rfl) Try.func42 (by kernel_rfl) (by kernel_rfl) (by kernel_rfl) (of_decide_eq_true (by kernel_rfl)) (by kernel_rfl) ?_
  exact (Vy (jT pg Ke R) (gE [a0, a1, a2]) w R (fun _ _ h => h) h)
def bF : FA := ⟨Ea, fun i => match Nat.beq i 30 with | true => .leaf ([2, 3], [(0, 2)]) [(false, []), (false, []), (true, [1]), (true, []), (false, []), (false, [])] | false => .leaf ([], []) []⟩
def eX : List ResultVar := [.cell 6 86, .tmp 7, .tmp 8]
noncomputable def bB : Code := fB Try.f43
def B5 (R : K1) (t6 iI cZ : Value) (w : World) : Prop :=
  aD pg (aW 86 cZ) (dr w) fun t111 w_ => w_ = (dr w) ∧
  aD pg (aW 121 iI) (dr w) fun t112 w_ => w_ = (dr w) ∧
  cC pg DU #[t112] (dr w) fun t113 agT =>
  (gZ pg (aW 86 cZ) t111 agT ∧ True) ∧
  aD pg (cB 86 t6 t111) agT fun _u3 WI =>
  WI = WI ∧
  WI = WI ∧
  F1 pg 86 t6 WI fun r0 => R (.tuple #[r0, t113, (.int .i64 0)]) WI
theorem TC (R : K1) (hr : HR eX R Q) (h : B5 R (g 6) (g 9) (g 12) w) : aQ pg bF (aA 1 (aA 7 bB)) Q g w :=
  aI (kn := no) (l := []) (by kernel_rfl) h fG hr trivial
def Ch (kn : K5) (R : K1) (aR t6 iI cZ aY : Value) (w : World) : Prop :=
  aD pg (bA 86 cZ 1) w fun t101 w =>
  aD pg (aW 62 t101) w fun t102 w =>
  aD pg (iJ .len #[62] 3 [t102]) w fun t103 w =>
  aD pg (aN .gtr 3 (.tmp 103) (.tmp 104) t103 aR) w fun t105 w =>
  Gd (dW t105 false) (fun K => K aY w) w fun t107 w =>
  Gd (dW t105 false) (fun K => aD pg (aN .lss 3 (.tmp 107) (.const (.int .i64 0)) t107 (.int .i64 0)) w K) w fun t108 w =>
  aD pg (fJ t105 (.bool true) t108) w fun t109 w =>
  hH t109
    (aD pg (fV 86 []) w fun t110 w =>
    aD pg (cB 86 t6 t110) w fun _u w =>
    F1 pg 86 t6 w fun r0 => R (.tuple #[r0, (.int .i64 0), (.int .i64 11)]) w)
    (kn aR t6 iI cZ aY w)
theorem Tc (kn : K5) (R : K1) (hn : ∀ g w, kn (g 2) (g 6) (g 9) (g 12) (g 13) w → Q .normal g w) (hr : HR eX R Q) (h : Ch kn R (g 2) (g 6) (g 9) (g 12) (g 13) w) : aQ pg bF (aA 1 (aA 1 (aA 5 (bI (aA 1 (bI (bI (aC 1 (aA 7 bB))))))))) Q g w :=
  aI (l := []) (by kernel_rfl) h hn hr trivial
def CA (kn : K6) (aR t6 iI Bz cZ aY : Value) (w : World) : Prop :=
  aD pg (aN .eql 44 (.tmp 99) (.const (.int .u64 3)) Bz (.int .u64 3)) w fun t100 w =>
  kn aR t6 iI cZ aY t100 w
theorem RQ (kn : K6) (hn : ∀ g w, kn (g 2) (g 6) (g 9) (g 12) (g 13) (g 15) w → Q .normal g w) (h : CA kn (g 2) (g 6) (g 9) (g 10) (g 12) (g 13) w) : aQ pg bF (aA 1 (aA 2 (bI (aA 1 (bI (bI (aC 1 (aA 1 (aA 5 (bI (aA 1 (bI (bI (aC 1 (aA 7 bB))))))))))))))) Q g w :=
  aI (kr := no) (l := []) (by kernel_rfl) h hn fG trivial
def Cu (kn : K7) (k4 : K6) (aR t6 iI Bz cZ aY Mj : Value) (w : World) : Prop :=
  aD pg (jH 44 3 Bz) w fun t90 w =>
  aD pg (aN .lss 3 (.tmp 88) (.tmp 90) Mj t90) w fun t91 w =>
  hH t91
    (aD pg (bA 86 cZ 1) w fun t94 w =>
    aD pg (aW 62 t94) w fun t95 w =>
    aD pg (cQ 62 1 [(0, (.int .i64 0))]) w fun t96 w =>
    aD pg (iJ .append #[62, 62] 62 [t95, t96]) w fun t97 w =>
    aD pg (bA 86 cZ 1) w fun t98 w =>
    aD pg (cB 62 t98 t97) w fun _u w =>
    aD pg (aN .add 3 (.tmp 92) (.const (.int .i64 1)) Mj (.int .i64 1)) w fun t93 w =>
    kn aR t6 iI Bz cZ aY t93 w)
    (k4 aR t6 iI Bz cZ aY w)
theorem Tq (kn : K7) (k4 : K6) (hn : ∀ g w, kn (g 2) (g 6) (g 9) (g 10) (g 12) (g 13) (g 16) w → Q .normal g w) (h4 : ∀ g w, k4 (g 2) (g 6) (g 9) (g 10) (g 12) (g 13) w → Q (.exit 4) g w) (h : Cu kn k4 (g 2) (g 6) (g 9) (g 10) (g 12) (g 13) (g 16) w) : aQ pg bF (bI (bI (aA 1 (aC 1 (aA 2 (bI (aA 1 (bI (bI (aC 1 (aA 1 (aA 5 (bI (aA 1 (bI (bI (aC 1 (aA 7 bB)))))))))))))))))) Q g w :=
  aI (kr := no) (l := [(4, fun g w => k4 (g 2) (g 6) (g 9) (g 10) (g 12) (g 13) w)]) (by kernel_rfl) h hn fG ⟨h4, trivial⟩
def GS (k4 : K6) (aR t6 iI Bz cZ aY Mj : Value) (w : World) : Prop :=
  cV (fun (X : Value → K0) (t : Value) (w : World) => Cu (fun _ _ _ _ _ _ Mj w => X Mj w) k4 aR t6 iI Bz cZ aY t w) Mj w
theorem RP (k4 : K6) (h4 : ∀ g w, k4 (g 2) (g 6) (g 9) (g 10) (g 12) (g 13) w → Q (.exit 4) g w) (h : GS k4 (g 2) (g 6) (g 9) (g 10) (g 12) (g 13) (g 16) w) : aQ pg bF (bI (aA 1 (aC 1 (aA 2 (bI (aA 1 (bI (bI (aC 1 (aA 1 (aA 5 (bI (aA 1 (bI (bI (aC 1 (aA 7 bB))))))))))))))))) Q g w := by
  refine cR (T := Value) (fun g : eL => g 16) (fun X t w => Cu (fun _ _ _ _ _ _ Mj w => X Mj w) k4 (g 2) (g 6) (g 9) (g 10) (g 12) (g 13) t w) _ (by kernel_rfl) h (fun X g1 w1 ha hL => ?_)
  rw [← aO (s := 2) ha (by kernel_rfl)] at hL
  rw [← aO (s := 6) ha (by kernel_rfl)] at hL
  rw [← aO (s := 9) ha (by kernel_rfl)] at hL
  rw [← aO (s := 10) ha (by kernel_rfl)] at hL
  rw [← aO (s := 12) ha (by kernel_rfl)] at hL
  rw [← aO (s := 13) ha (by kernel_rfl)] at hL
  exact (Tq (aX (fun g2 w2 => X ((fun g : eL => g 16) g2) w2) Q) g1 w1 (fun _ _ _ _ _ _ Mj w => X Mj w) k4 (fun _ _ h => h) h4 hL)
def Cx (kn : K6) (aR t6 iI Bz cZ aY Mj : Value) (w : World) : Prop :=
  GS kn aR t6 iI Bz cZ aY Mj w
theorem Sm (kn : K6) (hn : ∀ g w, kn (g 2) (g 6) (g 9) (g 10) (g 12) (g 13) w → Q .normal g w) (h : Cx kn (g 2) (g 6) (g 9) (g 10) (g 12) (g 13) (g 16) w) : aQ pg bF (aA 1 (aC 1 (aA 2 (bI (aA 1 (bI (bI (aC 1 (aA 1 (aA 5 (bI (aA 1 (bI (bI (aC 1 (aA 7 bB)))))))))))))))) Q g w :=
  cU 4 _ g w (by kernel_rfl) (RP (rP 4 Q) g w kn hn h)
def Gt (kn : K7) (aR t6 iI Bz cZ aY : Value) (w : World) : Prop :=
  kn aR t6 iI Bz cZ aY (.int .i64 0) w
theorem RW (kn : K7) (hn : ∀ g w, kn (g 2) (g 6) (g 9) (g 10) (g 12) (g 13) (g 16) w → Q .normal g w) (h : Gt kn (g 2) (g 6) (g 9) (g 10) (g 12) (g 13) w) : aQ pg bF (aC 1 (aC 1 (aA 2 (bI (aA 1 (bI (bI (aC 1 (aA 1 (aA 5 (bI (aA 1 (bI (bI (aC 1 (aA 7 bB)))))))))))))))) Q g w :=
  aI (kr := no) (l := []) (by kernel_rfl) h hn fG trivial
def Gn (kn : K6) (aR t6 iI Bz cZ aY : Value) (w : World) : Prop :=
  Gt (fun aR t6 iI Bz cZ aY Mj w => Cx kn aR t6 iI Bz cZ aY Mj w) aR t6 iI Bz cZ aY w
theorem RS (kn : K6) (hn : ∀ g w, kn (g 2) (g 6) (g 9) (g 10) (g 12) (g 13) w → Q .normal g w) (h : Gn kn (g 2) (g 6) (g 9) (g 10) (g 12) (g 13) w) : aQ pg bF (aC 1 (aA 2 (bI (aA 1 (bI (bI (aC 1 (aA 1 (aA 5 (bI (aA 1 (bI (bI (aC 1 (aA 7 bB))))))))))))))) Q g w :=
  aL 1 _ g w (by kernel_rfl) (RW (aX (fun g w => aQ pg bF (aA 1 (aC 1 (aA 2 (bI (aA 1 (bI (bI (aC 1 (aA 1 (aA 5 (bI (aA 1 (bI (bI (aC 1 (aA 7 bB)))))))))))))))) Q g w) Q) g w (fun aR t6 iI Bz cZ aY Mj w => Cx kn aR t6 iI Bz cZ aY Mj w) (fun g w h => aS (K := fun g w => aQ pg bF (aA 1 (aC 1 (aA 2 (bI (aA 1 (bI (bI (aC 1 (aA 1 (aA 5 (bI (aA 1 (bI (bI (aC 1 (aA 7 bB)))))))))))))))) Q g w) (Sm Q g w kn hn h)) h)
def vD (kn : K6) (aR t6 iI Bz cZ aY : Value) (w : World) : Prop :=
  Gn (fun aR t6 iI Bz cZ aY w => CA kn aR t6 iI Bz cZ aY w) aR t6 iI Bz cZ aY w
theorem SW (kn : K6) (hn : ∀ g w, kn (g 2) (g 6) (g 9) (g 12) (g 13) (g 15) w → Q .normal g w) (h : vD kn (g 2) (g 6) (g 9) (g 10) (g 12) (g 13) w) : aQ pg bF (aA 2 (bI (aA 1 (bI (bI (aC 1 (aA 1 (aA 5 (bI (aA 1 (bI (bI (aC 1 (aA 7 bB)))))))))))))) Q g w :=
  aL 1 _ g w (by kernel_rfl) (RS (aX (fun g w => aQ pg bF (aA 1 (aA 2 (bI (aA 1 (bI (bI (aC 1 (aA 1 (aA 5 (bI (aA 1 (bI (bI (aC 1 (aA 7 bB))))))))))))))) Q g w) Q) g w (fun aR t6 iI Bz cZ aY w => CA kn aR t6 iI Bz cZ aY w) (fun g w h => aS (K := fun g w => aQ pg bF (aA 1 (aA 2 (bI (aA 1 (bI (bI (aC 1 (aA 1 (aA 5 (bI (aA 1 (bI (bI (aC 1 (aA 7 bB))))))))))))))) Q g w) (RQ Q g w kn hn h)) h)
def Er (kn : K6) (R : K1) (aR t6 iI cZ aY : Value) (w : World) : Prop :=
  aD pg (aW 121 iI) w fun t79 w =>
  cC pg oP #[t79, (.int .i64 2)] w fun t80 w =>
  aD pg (dV t80 0) w fun t81 w =>
  aD pg (dV t80 1) w fun t82 w =>
  aD pg (dV t80 2) w fun t83 w =>
  aD pg (cB 121 iI t81) w fun _u w =>
  aD pg (aN .neq 24 (.tmp 84) (.const (.int .i64 0)) t83 (.int .i64 0)) w fun t85 w =>
  hH t85
    (aD pg (fV 86 []) w fun t86 w =>
    aD pg (cB 86 t6 t86) w fun _u w =>
    F1 pg 86 t6 w fun r0 => R (.tuple #[r0, (.int .i64 0), t83]) w)
    (kn aR t6 iI t82 cZ aY w)
theorem Rg (kn : K6) (R : K1) (hn : ∀ g w, kn (g 2) (g 6) (g 9) (g 10) (g 12) (g 13) w → Q .normal g w) (hr : HR eX R Q) (h : Er kn R (g 2) (g 6) (g 9) (g 12) (g 13) w) : aQ pg bF (aC 2 (bI (aA 1 (bI (bI (aC 1 (aA 1 (aA 5 (bI (aA 1 (bI (bI (aC 1 (aA 7 bB)))))))))))))) Q g w :=
  aI (l := []) (by kernel_rfl) h hn hr trivial
def FD (kn : K6) (R : K1) (aR t6 iI cZ aY : Value) (w : World) : Prop :=
  Er (fun aR t6 iI Bz cZ aY w => vD kn aR t6 iI Bz cZ aY w) R aR t6 iI cZ aY w
theorem PK (kn : K6) (R : K1) (hn : ∀ g w, kn (g 2) (g 6) (g 9) (g 12) (g 13) (g 15) w → Q .normal g w) (hr : HR eX R Q) (h : FD kn R (g 2) (g 6) (g 9) (g 12) (g 13) w) : aQ pg bF (bI (aA 1 (bI (bI (aC 1 (aA 1 (aA 5 (bI (aA 1 (bI (bI (aC 1 (aA 7 bB))))))))))))) Q g w :=
  aL 2 _ g w (by kernel_rfl) (Rg (aX (fun g w => aQ pg bF (aA 2 (bI (aA 1 (bI (bI (aC 1 (aA 1 (aA 5 (bI (aA 1 (bI (bI (aC 1 (aA 7 bB)))))))))))))) Q g w) Q) g w (fun aR t6 iI Bz cZ aY w => vD kn aR t6 iI Bz cZ aY w) R (fun g w h => aS (K := fun g w => aQ pg bF (aA 2 (bI (aA 1 (bI (bI (aC 1 (aA 1 (aA 5 (bI (aA 1 (bI (bI (aC 1 (aA 7 bB)))))))))))))) Q g w) (SW Q g w kn hn h)) hr h)
def zV (kn : K6) (R : K1) (aR t6 iI cZ aY : Value) (w : World) : Prop :=
  FD kn R aR t6 iI cZ aY w
theorem Rr (kn : K6) (R : K1) (hn : ∀ g w, kn (g 2) (g 6) (g 9) (g 12) (g 13) (g 15) w → Q .normal g w) (hr : HR eX R Q) (h : zV kn R (g 2) (g 6) (g 9) (g 12) (g 13) w) : aQ pg bF (aA 1 (bI (bI (aC 1 (aA 1 (aA 5 (bI (aA 1 (bI (bI (aC 1 (aA 7 bB)))))))))))) Q g w :=
  cU 3 _ g w (by kernel_rfl) (PK (rP 3 Q) g w kn R hn hr h)
def EK (kn : K5) (k2 : K5) (aR t6 iI cZ aY t15 : Value) (w : World) : Prop :=
  hH t15
    (kn aR t6 iI cZ aY w)
    (k2 aR t6 iI cZ aY w)
theorem Pl (kn : K5) (k2 : K5) (hn : ∀ g w, kn (g 2) (g 6) (g 9) (g 12) (g 13) w → Q .normal g w) (h2 : ∀ g w, k2 (g 2) (g 6) (g 9) (g 12) (g 13) w → Q (.exit 2) g w) (h : EK kn k2 (g 2) (g 6) (g 9) (g 12) (g 13) (g 15) w) : aQ pg bF (aC 1 (bI (bI (aC 1 (aA 1 (aA 5 (bI (aA 1 (bI (bI (aC 1 (aA 7 bB)))))))))))) Q g w :=
  aI (kr := no) (l := [(2, fun g w => k2 (g 2) (g 6) (g 9) (g 12) (g 13) w)]) (by kernel_rfl) h hn fG ⟨h2, trivial⟩
def zA (kn : K6) (k2 : K5) (R : K1) (aR t6 iI cZ aY t15 : Value) (w : World) : Prop :=
  EK (fun aR t6 iI cZ aY w => zV kn R aR t6 iI cZ aY w) k2 aR t6 iI cZ aY t15 w
theorem Qh (kn : K6) (k2 : K5) (R : K1) (hn : ∀ g w, kn (g 2) (g 6) (g 9) (g 12) (g 13) (g 15) w → Q .normal g w) (h2 : ∀ g w, k2 (g 2) (g 6) (g 9) (g 12) (g 13) w → Q (.exit 2) g w) (hr : HR eX R Q) (h : zA kn k2 R (g 2) (g 6) (g 9) (g 12) (g 13) (g 15) w) : aQ pg bF (bI (bI (aC 1 (aA 1 (aA 5 (bI (aA 1 (bI (bI (aC 1 (aA 7 bB))))))))))) Q g w :=
  aL 1 _ g w (by kernel_rfl) (Pl (aX (fun g w => aQ pg bF (aA 1 (bI (bI (aC 1 (aA 1 (aA 5 (bI (aA 1 (bI (bI (aC 1 (aA 7 bB)))))))))))) Q g w) Q) g w (fun aR t6 iI cZ aY w => zV kn R aR t6 iI cZ aY w) k2 (fun g w h => aS (K := fun g w => aQ pg bF (aA 1 (bI (bI (aC 1 (aA 1 (aA 5 (bI (aA 1 (bI (bI (aC 1 (aA 7 bB)))))))))))) Q g w) (Rr Q g w kn R hn hr h)) h2 h)
def EA (k2 : K5) (R : K1) (aR t6 iI cZ aY t15 : Value) (w : World) : Prop :=
  cV (fun (X : Value → K0) (t : Value) (w : World) => zA (fun _ _ _ _ _ t15 w => X t15 w) k2 R aR t6 iI cZ aY t w) t15 w
theorem QK (k2 : K5) (R : K1) (h2 : ∀ g w, k2 (g 2) (g 6) (g 9) (g 12) (g 13) w → Q (.exit 2) g w) (hr : HR eX R Q) (h : EA k2 R (g 2) (g 6) (g 9) (g 12) (g 13) (g 15) w) : aQ pg bF (bI (aC 1 (aA 1 (aA 5 (bI (aA 1 (bI (bI (aC 1 (aA 7 bB)))))))))) Q g w := by
  refine cR (T := Value) (fun g : eL => g 15) (fun X t w => zA (fun _ _ _ _ _ t15 w => X t15 w) k2 R (g 2) (g 6) (g 9) (g 12) (g 13) t w) _ (by kernel_rfl) h (fun X g1 w1 ha hL => ?_)
  rw [← aO (s := 2) ha (by kernel_rfl)] at hL
  rw [← aO (s := 6) ha (by kernel_rfl)] at hL
  rw [← aO (s := 9) ha (by kernel_rfl)] at hL
  rw [← aO (s := 12) ha (by kernel_rfl)] at hL
  rw [← aO (s := 13) ha (by kernel_rfl)] at hL
  exact (Qh (aX (fun g2 w2 => X ((fun g : eL => g 15) g2) w2) Q) g1 w1 (fun _ _ _ _ _ t15 w => X t15 w) k2 R (fun _ _ h => h) h2 hr hL)
def Eu (kn : K5) (R : K1) (aR t6 iI cZ aY t15 : Value) (w : World) : Prop :=
  EA kn R aR t6 iI cZ aY t15 w
theorem Pi (kn : K5) (R : K1) (hn : ∀ g w, kn (g 2) (g 6) (g 9) (g 12) (g 13) w → Q .normal g w) (hr : HR eX R Q) (h : Eu kn R (g 2) (g 6) (g 9) (g 12) (g 13) (g 15) w) : aQ pg bF (aC 1 (aA 1 (aA 5 (bI (aA 1 (bI (bI (aC 1 (aA 7 bB))))))))) Q g w :=
  cU 2 _ g w (by kernel_rfl) (QK (rP 2 Q) g w kn R hn hr h)
def AX (kn : K5) (R : K1) (aR t6 iI cZ aY t15 : Value) (w : World) : Prop :=
  Eu (fun aR t6 iI cZ aY w => Ch kn R aR t6 iI cZ aY w) R aR t6 iI cZ aY t15 w
theorem PV (kn : K5) (R : K1) (hn : ∀ g w, kn (g 2) (g 6) (g 9) (g 12) (g 13) w → Q .normal g w) (hr : HR eX R Q) (h : AX kn R (g 2) (g 6) (g 9) (g 12) (g 13) (g 15) w) : aQ pg bF (aA 1 (aA 5 (bI (aA 1 (bI (bI (aC 1 (aA 7 bB)))))))) Q g w :=
  aL 1 _ g w (by kernel_rfl) (Pi (aX (fun g w => aQ pg bF (aA 1 (aA 1 (aA 5 (bI (aA 1 (bI (bI (aC 1 (aA 7 bB))))))))) Q g w) Q) g w (fun aR t6 iI cZ aY w => Ch kn R aR t6 iI cZ aY w) R (fun g w h => aS (K := fun g w => aQ pg bF (aA 1 (aA 1 (aA 5 (bI (aA 1 (bI (bI (aC 1 (aA 7 bB))))))))) Q g w) (Tc Q g w kn R hn hr h)) hr h)
def Eg (kn : K6) (aR t6 iI cZ aY Zs : Value) (w : World) : Prop :=
  aD pg (aN .eql 3 (.tmp 75) (.const (.int .i64 1)) Zs (.int .i64 1)) w fun t76 w =>
  kn aR t6 iI cZ aY t76 w
theorem Q4 (kn : K6) (hn : ∀ g w, kn (g 2) (g 6) (g 9) (g 12) (g 13) (g 15) w → Q .normal g w) (h : Eg kn (g 2) (g 6) (g 9) (g 12) (g 13) (g 14) w) : aQ pg bF (aC 1 (aA 5 (bI (aA 1 (bI (bI (aC 1 (aA 7 bB)))))))) Q g w :=
  aI (kr := no) (l := []) (by kernel_rfl) h hn fG trivial
def oF (kn : K5) (R : K1) (aR t6 iI cZ aY Zs : Value) (w : World) : Prop :=
  Eg (fun aR t6 iI cZ aY t15 w => AX kn R aR t6 iI cZ aY t15 w) aR t6 iI cZ aY Zs w
theorem QS (kn : K5) (R : K1) (hn : ∀ g w, kn (g 2) (g 6) (g 9) (g 12) (g 13) w → Q .normal g w) (hr : HR eX R Q) (h : oF kn R (g 2) (g 6) (g 9) (g 12) (g 13) (g 14) w) : aQ pg bF (aA 5 (bI (aA 1 (bI (bI (aC 1 (aA 7 bB))))))) Q g w :=
  aL 1 _ g w (by kernel_rfl) (Q4 (aX (fun g w => aQ pg bF (aA 1 (aA 5 (bI (aA 1 (bI (bI (aC 1 (aA 7 bB)))))))) Q g w) Q) g w (fun aR t6 iI cZ aY t15 w => AX kn R aR t6 iI cZ aY t15 w) (fun g w h => aS (K := fun g w => aQ pg bF (aA 1 (aA 5 (bI (aA 1 (bI (bI (aC 1 (aA 7 bB)))))))) Q g w) (PV Q g w kn R hn hr h)) h)
def Ew (kn : K6) (R : K1) (aR t6 iI cZ aY : Value) (w : World) : Prop :=
  aD pg (aW 121 iI) w fun t50 w =>
  cC pg DK #[t50, aY] w fun t52 w =>
  aD pg (dV t52 0) w fun t53 w =>
  aD pg (dV t52 1) w fun t54 w =>
  aD pg (dV t52 2) w fun t55 w =>
  aD pg (cB 121 iI t53) w fun _u w =>
  aD pg (aN .neq 24 (.tmp 56) (.const (.int .i64 0)) t55 (.int .i64 0)) w fun t57 w =>
  hH t57
    (aD pg (fV 86 []) w fun t58 w =>
    aD pg (cB 86 t6 t58) w fun _u w =>
    F1 pg 86 t6 w fun r0 => R (.tuple #[r0, (.int .i64 0), t55]) w)
    (aD pg (bA 86 cZ 1) w fun t60 w =>
    aD pg (aW 62 t60) w fun t61 w =>
    aD pg (aN .sub 3 (.tmp 62) (.const (.int .i64 1)) t54 (.int .i64 1)) w fun t63 w =>
    aD pg (cQ 62 1 [(0, t63)]) w fun t64 w =>
    aD pg (iJ .append #[62, 62] 62 [t61, t64]) w fun t65 w =>
    aD pg (bA 86 cZ 1) w fun t66 w =>
    aD pg (cB 62 t66 t65) w fun _u w =>
    aD pg (aN .eql 3 (.tmp 67) (.const (.int .i64 0)) t54 (.int .i64 0)) w fun t68 w =>
    hH t68
      (aD pg (aN .sub 3 (.tmp 69) (.const (.int .i64 1)) aY (.int .i64 1)) w fun t70 w =>
      kn aR t6 iI cZ t70 t54 w)
      (aD pg (aN .sub 3 (.tmp 72) (.const (.int .i64 1)) t54 (.int .i64 1)) w fun t73 w =>
      aD pg (aN .sub 3 (.tmp 71) (.tmp 73) aY t73) w fun t74 w =>
      kn aR t6 iI cZ t74 t54 w))
theorem PU (kn : K6) (R : K1) (hn : ∀ g w, kn (g 2) (g 6) (g 9) (g 12) (g 13) (g 14) w → Q .normal g w) (hr : HR eX R Q) (h : Ew kn R (g 2) (g 6) (g 9) (g 12) (g 13) w) : aQ pg bF (aC 5 (bI (aA 1 (bI (bI (aC 1 (aA 7 bB))))))) Q g w :=
  aI (l := []) (by kernel_rfl) h hn hr trivial
def Fg (kn : K5) (R : K1) (aR t6 iI cZ aY : Value) (w : World) : Prop :=
  Ew (fun aR t6 iI cZ aY Zs w => oF kn R aR t6 iI cZ aY Zs w) R aR t6 iI cZ aY w
theorem PL (kn : K5) (R : K1) (hn : ∀ g w, kn (g 2) (g 6) (g 9) (g 12) (g 13) w → Q .normal g w) (hr : HR eX R Q) (h : Fg kn R (g 2) (g 6) (g 9) (g 12) (g 13) w) : aQ pg bF (bI (aA 1 (bI (bI (aC 1 (aA 7 bB)))))) Q g w :=
  aL 5 _ g w (by kernel_rfl) (PU (aX (fun g w => aQ pg bF (aA 5 (bI (aA 1 (bI (bI (aC 1 (aA 7 bB))))))) Q g w) Q) g w (fun aR t6 iI cZ aY Zs w => oF kn R aR t6 iI cZ aY Zs w) R (fun g w h => aS (K := fun g w => aQ pg bF (aA 5 (bI (aA 1 (bI (bI (aC 1 (aA 7 bB))))))) Q g w) (QS Q g w kn R hn hr h)) hr h)
def Bd (kn : K5) (R : K1) (aR t6 iI cZ aY : Value) (w : World) : Prop :=
  Fg kn R aR t6 iI cZ aY w
theorem PW (kn : K5) (R : K1) (hn : ∀ g w, kn (g 2) (g 6) (g 9) (g 12) (g 13) w → Q .normal g w) (hr : HR eX R Q) (h : Bd kn R (g 2) (g 6) (g 9) (g 12) (g 13) w) : aQ pg bF (aA 1 (bI (bI (aC 1 (aA 7 bB))))) Q g w :=
  cU 1 _ g w (by kernel_rfl) (PL (rP 1 Q) g w kn R hn hr h)
def Fo (kn : K5) (k0 : K3) (aR t6 iI cZ aY : Value) (w : World) : Prop :=
  aD pg (aN .gtr 3 (.tmp 47) (.const (.int .i64 0)) aY (.int .i64 0)) w fun t48 w =>
  hH t48
    (kn aR t6 iI cZ aY w)
    (k0 t6 iI cZ w)
theorem Qd (kn : K5) (k0 : K3) (hn : ∀ g w, kn (g 2) (g 6) (g 9) (g 12) (g 13) w → Q .normal g w) (h0 : ∀ g w, k0 (g 6) (g 9) (g 12) w → Q (.exit 0) g w) (h : Fo kn k0 (g 2) (g 6) (g 9) (g 12) (g 13) w) : aQ pg bF (aC 1 (bI (bI (aC 1 (aA 7 bB))))) Q g w :=
  aI (kr := no) (l := [(0, fun g w => k0 (g 6) (g 9) (g 12) w)]) (by kernel_rfl) h hn fG ⟨h0, trivial⟩
def Ah (kn : K5) (k0 : K3) (R : K1) (aR t6 iI cZ aY : Value) (w : World) : Prop :=
  Fo (fun aR t6 iI cZ aY w => Bd kn R aR t6 iI cZ aY w) k0 aR t6 iI cZ aY w
theorem PF (kn : K5) (k0 : K3) (R : K1) (hn : ∀ g w, kn (g 2) (g 6) (g 9) (g 12) (g 13) w → Q .normal g w) (h0 : ∀ g w, k0 (g 6) (g 9) (g 12) w → Q (.exit 0) g w) (hr : HR eX R Q) (h : Ah kn k0 R (g 2) (g 6) (g 9) (g 12) (g 13) w) : aQ pg bF (bI (bI (aC 1 (aA 7 bB)))) Q g w :=
  aL 1 _ g w (by kernel_rfl) (Qd (aX (fun g w => aQ pg bF (aA 1 (bI (bI (aC 1 (aA 7 bB))))) Q g w) Q) g w (fun aR t6 iI cZ aY w => Bd kn R aR t6 iI cZ aY w) k0 (fun g w h => aS (K := fun g w => aQ pg bF (aA 1 (bI (bI (aC 1 (aA 7 bB))))) Q g w) (PW Q g w kn R hn hr h)) h0 h)
def E0 (k0 : K3) (R : K1) (aR t6 iI cZ aY : Value) (w : World) : Prop :=
  cV (fun (X : Value → K0) (t : Value) (w : World) => Ah (fun _ _ _ _ aY w => X aY w) k0 R aR t6 iI cZ t w) aY w
theorem P8 (k0 : K3) (R : K1) (h0 : ∀ g w, k0 (g 6) (g 9) (g 12) w → Q (.exit 0) g w) (hr : HR eX R Q) (h : E0 k0 R (g 2) (g 6) (g 9) (g 12) (g 13) w) : aQ pg bF (bI (aC 1 (aA 7 bB))) Q g w := by
  refine cR (T := Value) (fun g : eL => g 13) (fun X t w => Ah (fun _ _ _ _ aY w => X aY w) k0 R (g 2) (g 6) (g 9) (g 12) t w) _ (by kernel_rfl) h (fun X g1 w1 ha hL => ?_)
  rw [← aO (s := 2) ha (by kernel_rfl)] at hL
  rw [← aO (s := 6) ha (by kernel_rfl)] at hL
  rw [← aO (s := 9) ha (by kernel_rfl)] at hL
  rw [← aO (s := 12) ha (by kernel_rfl)] at hL
  exact (PF (aX (fun g2 w2 => X ((fun g : eL => g 13) g2) w2) Q) g1 w1 (fun _ _ _ _ aY w => X aY w) k0 R (fun _ _ h => h) h0 hr hL)
def Fj (kn : K3) (R : K1) (aR t6 iI cZ aY : Value) (w : World) : Prop :=
  E0 kn R aR t6 iI cZ aY w
theorem Rh (kn : K3) (R : K1) (hn : ∀ g w, kn (g 6) (g 9) (g 12) w → Q .normal g w) (hr : HR eX R Q) (h : Fj kn R (g 2) (g 6) (g 9) (g 12) (g 13) w) : aQ pg bF (aC 1 (aA 7 bB)) Q g w :=
  cU 0 _ g w (by kernel_rfl) (P8 (rP 0 Q) g w kn R hn hr h)
def sH (R : K1) (aR t6 iI cZ aY : Value) (w : World) : Prop :=
  Fj (fun t6 iI cZ w => B5 R t6 iI cZ w) R aR t6 iI cZ aY w
theorem RG (R : K1) (hr : HR eX R Q) (h : sH R (g 2) (g 6) (g 9) (g 12) (g 13) w) : aQ pg bF (aA 7 bB) Q g w :=
  aL 1 _ g w (by kernel_rfl) (Rh (aX (fun g w => aQ pg bF (aA 1 (aA 7 bB)) Q g w) Q) g w (fun t6 iI cZ w => B5 R t6 iI cZ w) R (fun g w h => aS (K := fun g w => aQ pg bF (aA 1 (aA 7 bB)) Q g w) (TC Q g w R hr h)) hr h)
def ES (kn : K5) (R : K1) (gL FL aR : Value) (w : World) : Prop :=
  aD pg (hT 86) w fun t6 w =>
  cC pg Ba #[gL] w fun t18 w =>
  aD pg (fV 121 [(0, t18)]) w fun t19 w =>
  aD pg (hT 121) w fun iI w =>
  aD pg (cB 121 iI t19) w fun _u w =>
  aD pg (aW 121 iI) w fun t21 w =>
  cC pg oP #[t21, (.int .i64 4)] w fun t22 w =>
  aD pg (dV t22 0) w fun t23 w =>
  aD pg (dV t22 1) w fun t24 w =>
  aD pg (dV t22 2) w fun t25 w =>
  aD pg (cB 121 iI t23) w fun _u w =>
  aD pg (aN .neq 24 (.tmp 26) (.const (.int .i64 0)) t25 (.int .i64 0)) w fun t27 w =>
  hH t27
    (aD pg (fV 86 []) w fun t28 w =>
    aD pg (cB 86 t6 t28) w fun _u w =>
    F1 pg 86 t6 w fun r0 => R (.tuple #[r0, (.int .i64 0), t25]) w)
    (aD pg (jH 44 3 t24) w fun t31 w =>
    aD pg (aN .add 3 (.tmp 31) (.const (.int .i64 5)) t31 (.int .i64 5)) w fun t32 w =>
    aD pg (fV 86 [(0, t32)]) w fun t33 w =>
    aD pg (hT 86) w fun cZ w =>
    aD pg (cB 86 cZ t33) w fun _u w =>
    aD pg (bA 86 cZ 0) w fun t34 w =>
    aD pg (aW 3 t34) w fun t35 w =>
    aD pg (aN .gtr 3 (.tmp 35) (.tmp 36) t35 FL) w fun t37 w =>
    Gd (dW t37 false) (fun K => aD pg (bA 86 cZ 0) w K) w fun t39 w =>
    Gd (dW t37 false) (fun K => aD pg (aW 3 t39) w K) w fun t40 w =>
    Gd (dW t37 false) (fun K => aD pg (aN .gtr 3 (.tmp 40) (.const (.int .i64 15)) t40 (.int .i64 15)) w K) w fun t41 w =>
    aD pg (fJ t37 (.bool true) t41) w fun t42 w =>
    hH t42
      (aD pg (fV 86 []) w fun t43 w =>
      aD pg (cB 86 t6 t43) w fun _u w =>
      F1 pg 86 t6 w fun r0 => R (.tuple #[r0, (.int .i64 0), (.int .i64 12)]) w)
      (aD pg (bA 86 cZ 0) w fun t44 w =>
      aD pg (aW 3 t44) w fun t45 w =>
      cC pg iE #[t45] w fun t46 w =>
      kn aR t6 iI cZ t46 w))
theorem Rv (kn : K5) (R : K1) (hn : ∀ g w, kn (g 2) (g 6) (g 9) (g 12) (g 13) w → Q .normal g w) (hr : HR eX R Q) (h : ES kn R (g 0) (g 1) (g 2) w) : aQ pg bF (aC 7 bB) Q g w :=
  aI (l := []) (by kernel_rfl) h hn hr trivial
def FN (R : K1) (gL FL aR : Value) (w : World) : Prop :=
  ES (fun aR t6 iI cZ aY w => sH R aR t6 iI cZ aY w) R gL FL aR w
theorem Qk (R : K1) (hr : HR eX R Q) (h : FN R (g 0) (g 1) (g 2) w) : aQ pg bF bB Q g w :=
  aL 7 _ g w (by kernel_rfl) (Rv (aX (fun g w => aQ pg bF (aA 7 bB) Q g w) Q) g w (fun aR t6 iI cZ aY w => sH R aR t6 iI cZ aY w) R (fun g w h => aS (K := fun g w => aQ pg bF (aA 7 bB) Q g w) (RG Q g w R hr h)) hr h)
def Vr (a0 a1 a2 : Value) (w : World) (R : K1) : Prop :=
  FN R a0 a1 a2 w
theorem U7 {a0 a1 a2 : Value} {w : World} {R : K1} (h : Vr a0 a1 a2 w R) : cC pg Ea #[a0, a1, a2] w R := by
  refine bQ (ann := bF) (fn := Try.f43) (c := bB) (args := [a0, a1, a2]) (rs := eX) (N := 114) TryM.mixed (by kernel_rfl) Try.func43 (by kernel_rfl) (by kernel_rfl) (by kernel_rfl) (of_decide_eq_true (by kernel_rfl)) (by kernel_rfl) ?_
  exact (Qk (jT pg eX R) (gE [a0, a1, a2]) w R (fun _ _ h => h) h)
def iP : FA := ⟨CG, fun i => .leaf ([], []) []⟩
def tO : List ResultVar := [.cell 2 91, .tmp 3]
noncomputable def iB : Code := fB Try.f44
def DO (R : K1) (t2 Xq eB : Value) (w : World) : Prop :=
  aD pg (jU 89 Xq none (some eB) none) w fun t31 w =>
  aD pg (fV 91 [(0, t31)]) w fun t32 w =>
  aD pg (cB 91 t2 t32) w fun _u w =>
  F1 pg 91 t2 w fun r0 => R (.tuple #[r0, (.int .i64 0)]) w
theorem UN (R : K1) (hr : HR tO R Q) (h : DO R (g 2) (g 4) (g 5) w) : aQ pg iP (aA 1 (aA 4 iB)) Q g w :=
  aI (kn := no) (l := []) (by kernel_rfl) h fG hr trivial
def DI (kn : K3) (k0 : K3) (t2 Xq eB : Value) (w : World) : Prop :=
  aD pg (cD 89 Xq eB) w fun t24 w =>
  aD pg (aW 4 t24) w fun t25 w =>
  aD pg (sUn .not t25) w fun t26 w =>
  hH t26
    (aD pg (aN .sub 3 (.tmp 27) (.const (.int .i64 1)) eB (.int .i64 1)) w fun t28 w =>
    kn t2 Xq t28 w)
    (k0 t2 Xq eB w)
theorem U3 (kn : K3) (k0 : K3) (hn : ∀ g w, kn (g 2) (g 4) (g 5) w → Q .normal g w) (h0 : ∀ g w, k0 (g 2) (g 4) (g 5) w → Q (.exit 0) g w) (h : DI kn k0 (g 2) (g 4) (g 5) w) : aQ pg iP (bI (bI (aC 1 (aA 4 iB)))) Q g w :=
  aI (kr := no) (l := [(0, fun g w => k0 (g 2) (g 4) (g 5) w)]) (by kernel_rfl) h hn fG ⟨h0, trivial⟩
def I9 (k0 : K3) (t2 Xq eB : Value) (w : World) : Prop :=
  cV (fun (X : Value → K0) (t : Value) (w : World) => DI (fun _ _ eB w => X eB w) k0 t2 Xq t w) eB w
theorem UW (k0 : K3) (h0 : ∀ g w, k0 (g 2) (g 4) (g 5) w → Q (.exit 0) g w) (h : I9 k0 (g 2) (g 4) (g 5) w) : aQ pg iP (bI (aC 1 (aA 4 iB))) Q g w := by
  refine cR (T := Value) (fun g : eL => g 5) (fun X t w => DI (fun _ _ eB w => X eB w) k0 (g 2) (g 4) t w) _ (by kernel_rfl) h (fun X g1 w1 ha hL => ?_)
  rw [← aO (s := 2) ha (by kernel_rfl)] at hL
  rw [← aO (s := 4) ha (by kernel_rfl)] at hL
  exact (U3 (aX (fun g2 w2 => X ((fun g : eL => g 5) g2) w2) Q) g1 w1 (fun _ _ eB w => X eB w) k0 (fun _ _ h => h) h0 hL)
def ID (kn : K3) (t2 Xq eB : Value) (w : World) : Prop :=
  I9 kn t2 Xq eB w
theorem Vb (kn : K3) (hn : ∀ g w, kn (g 2) (g 4) (g 5) w → Q .normal g w) (h : ID kn (g 2) (g 4) (g 5) w) : aQ pg iP (aC 1 (aA 4 iB)) Q g w :=
  cU 0 _ g w (by kernel_rfl) (UW (rP 0 Q) g w kn hn h)
def DV (R : K1) (t2 Xq eB : Value) (w : World) : Prop :=
  ID (fun t2 Xq eB w => DO R t2 Xq eB w) t2 Xq eB w
theorem UC (R : K1) (hr : HR tO R Q) (h : DV R (g 2) (g 4) (g 5) w) : aQ pg iP (aA 4 iB) Q g w :=
  aL 1 _ g w (by kernel_rfl) (Vb (aX (fun g w => aQ pg iP (aA 1 (aA 4 iB)) Q g w) Q) g w (fun t2 Xq eB w => DO R t2 Xq eB w) (fun g w h => aS (K := fun g w => aQ pg iP (aA 1 (aA 4 iB)) Q g w) (UN Q g w R hr h)) h)
def DT (kn : K3) (R : K1) (uU : Value) (w : World) : Prop :=
  aD pg (hT 91) w fun t2 w =>
  aD pg (aN .eql 9 (.tmp 6) (.const (.string ⟨#[]⟩)) uU (.string ⟨#[]⟩)) w fun t7 w =>
  Gd (dW t7 false) (fun K => K uU w) w fun t9 w =>
  Gd (dW t7 false) (fun K => K uU w) w fun t10 w =>
  Gd (dW t7 false) (fun K => aD pg (iJ .len #[9] 3 [t10]) w K) w fun t11 w =>
  Gd (dW t7 false) (fun K => aD pg (aN .sub 3 (.tmp 11) (.const (.int .i64 1)) t11 (.int .i64 1)) w K) w fun t12 w =>
  Gd (dW t7 false) (fun K => aD pg (Oc 9 t9 t12) w K) w fun t13 w =>
  Gd (dW t7 false) (fun K => aD pg (aN .eql 5 (.tmp 13) (.const (.int .u8 0)) t13 (.int .u8 0)) w K) w fun t14 w =>
  aD pg (fJ t7 (.bool true) t14) w fun t15 w =>
  hH t15
    (aD pg (fV 91 []) w fun t16 w =>
    aD pg (cB 91 t2 t16) w fun _u w =>
    F1 pg 91 t2 w fun r0 => R (.tuple #[r0, (.int .i64 11)]) w)
    (cC pg Ba #[uU] w fun t18 w =>
    aD pg (iJ .len #[89] 3 [t18]) w fun t20 w =>
    aD pg (aN .sub 3 (.tmp 20) (.const (.int .i64 1)) t20 (.int .i64 1)) w fun t21 w =>
    kn t2 t18 t21 w)
theorem Vd (kn : K3) (R : K1) (hn : ∀ g w, kn (g 2) (g 4) (g 5) w → Q .normal g w) (hr : HR tO R Q) (h : DT kn R (g 0) w) : aQ pg iP (aC 4 iB) Q g w :=
  aI (l := []) (by kernel_rfl) h hn hr trivial
def DW (R : K1) (uU : Value) (w : World) : Prop :=
  DT (fun t2 Xq eB w => DV R t2 Xq eB w) R uU w
theorem Uq (R : K1) (hr : HR tO R Q) (h : DW R (g 0) w) : aQ pg iP iB Q g w :=
  aL 4 _ g w (by kernel_rfl) (Vd (aX (fun g w => aQ pg iP (aA 4 iB) Q g w) Q) g w (fun t2 Xq eB w => DV R t2 Xq eB w) R (fun g w h => aS (K := fun g w => aQ pg iP (aA 4 iB) Q g w) (UC Q g w R hr h)) hr h)
def Sg (a0 : Value) (w : World) (R : K1) : Prop :=
  DW R a0 w
theorem KU {a0 : Value} {w : World} {R : K1} (h : Sg a0 w R) : cC pg CG #[a0] w R := by
  refine bQ (ann := iP) (fn := Try.f44) (c := iB) (args := [a0]) (rs := tO) (N := 33) TryM.mixed (by kernel_rfl) Try.func44 (by kernel_rfl) (by kernel_rfl) (by kernel_rfl) (of_decide_eq_true (by kernel_rfl)) (by kernel_rfl) ?_
  exact (Uq (jT pg tO R) (gE [a0]) w R (fun _ _ h => h) h)
def aF : FA := ⟨B1, fun i => match Nat.beq i 46 with | true => .leaf ([5, 11], [(0, 5), (1, 5)]) [(false, []), (false, []), (false, []), (false, []), (false, []), (true, [3, 4]), (false, []), (false, []), (false, []), (false, []), (false, []), (true, [])] | false => .leaf ([], []) []⟩
def eQ : List ResultVar := [.cell 2 96, .tmp 3]
noncomputable def aE : Code := fB Try.f45
def yV (R : K1) (t2 t6 : Value) (w : World) : Prop :=
  aD pg (aW 96 t6) w fun t184 w =>
  aD pg (cB 96 t2 t184) w fun _u w =>
  F1 pg 96 t2 w fun r0 => R (.tuple #[r0, (.int .i64 0)]) w
theorem O3 (R : K1) (hr : HR eQ R Q) (h : yV R (g 2) (g 6) w) : aQ pg aF (aA 1 (aA 1 (aA 1 (aA 1 (aA 1 (aA 1 (aA 1 (aA 5 aE)))))))) Q g w :=
  aI (kn := no) (l := []) (by kernel_rfl) h fG hr trivial
def sR (kn : K6) (bT t2 eB t6 cH iA : Value) (w : World) : Prop :=
  aD pg (aN .add 3 (.tmp 120) (.const (.int .i64 1)) iA (.int .i64 1)) w fun t121 w =>
  kn bT t2 eB t6 cH t121 w
theorem Pr (kn : K6) (hn : ∀ g w, kn (g 1) (g 2) (g 5) (g 6) (g 14) (g 15) w → Q .normal g w) (h : sR kn (g 1) (g 2) (g 5) (g 6) (g 14) (g 15) w) : aQ pg aF (aA 1 (aA 1 (bI (bI (aA 1 (aC 1 (aA 1 (aA 1 (aA 1 (aA 1 (aA 1 (aA 1 (aA 5 aE))))))))))))) Q g w :=
  aI (kr := no) (l := []) (by kernel_rfl) h hn fG trivial
def A7 (kn : K6) (bT t2 eB t6 cH iA H0 iY : Value) (w : World) : Prop :=
  aD pg (bA 96 t6 1) w fun t167 w =>
  aD pg (aW 94 t167) w fun t168 w =>
  aD pg (cD 94 t168 iA) w fun t171 w =>
  aD pg (bA 103 t171 1) w fun t172 w =>
  aD pg (cB 3 t172 iY) w fun _u w =>
  aD pg (bA 96 t6 1) (dr w) fun t173 w_ => w_ = (dr w) ∧
  aD pg (aW 94 t173) (dr w) fun t174 w_ => w_ = (dr w) ∧
  (dr w) = (dr w) ∧
  (dr w) = (dr w) ∧
  (dr w) = (dr w) ∧
  cC pg iE #[iY] (dr w) fun t178 Hz =>
  (gZ pg (aW 94 t173) t174 Hz ∧ gZ pg (bA 96 t6 1) t173 Hz ∧ True) ∧
  aD pg (aN .mul 3 (.tmp 176) (.tmp 178) H0 t178) Hz fun t179 w_ => w_ = Hz ∧
  Hz = Hz ∧
  aD pg (aN .sub 3 (.tmp 179) (.tmp 180) t179 eB) Hz fun t181 w_ => w_ = Hz ∧
  aD pg (cD 94 t174 iA) Hz fun t182 w_ => w_ = Hz ∧
  aD pg (bA 103 t182 2) Hz fun t183 w_ => w_ = Hz ∧
  aD pg (cB 3 t183 t181) Hz fun _u11 ahM =>
  kn bT t2 eB t6 cH iA ahM
theorem Q0 (kn : K6) (hn : ∀ g w, kn (g 1) (g 2) (g 5) (g 6) (g 14) (g 15) w → Q .normal g w) (h : A7 kn (g 1) (g 2) (g 5) (g 6) (g 14) (g 15) (g 18) (g 19) w) : aQ pg aF (aA 1 (aA 3 (aA 2 (aA 2 (bI (aC 1 (aA 1 (bI (bI (aA 1 (aC 1 (aA 1 (aA 1 (aA 1 (aA 1 (aA 1 (aA 1 (aA 5 aE)))))))))))))))))) Q g w :=
  aI (kr := no) (l := []) (by kernel_rfl) h hn fG trivial
def zW (kn : K8) (k12 : K8) (bT t2 eB t6 cH iA H0 iY : Value) (w : World) : Prop :=
  aD pg (bA 86 bT 0) w fun t157 w =>
  aD pg (aW 3 t157) w fun t158 w =>
  aD pg (aN .sub 3 (.tmp 158) (.tmp 159) t158 iY) w fun t160 w =>
  aD pg (aN .add 3 (.tmp 160) (.const (.int .i64 1)) t160 (.int .i64 1)) w fun t161 w =>
  cC pg iE #[t161] w fun t162 w =>
  aD pg (aN .leq 3 (.tmp 162) (.tmp 163) t162 H0) w fun t164 w =>
  hH t164
    (aD pg (aN .sub 3 (.tmp 165) (.const (.int .i64 1)) iY (.int .i64 1)) w fun t166 w =>
    kn bT t2 eB t6 cH iA H0 t166 w)
    (k12 bT t2 eB t6 cH iA H0 iY w)
theorem Qq (kn : K8) (k12 : K8) (hn : ∀ g w, kn (g 1) (g 2) (g 5) (g 6) (g 14) (g 15) (g 18) (g 19) w → Q .normal g w) (h12 : ∀ g w, k12 (g 1) (g 2) (g 5) (g 6) (g 14) (g 15) (g 18) (g 19) w → Q (.exit 12) g w) (h : zW kn k12 (g 1) (g 2) (g 5) (g 6) (g 14) (g 15) (g 18) (g 19) w) : aQ pg aF (bI (bI (aC 1 (aA 3 (aA 2 (aA 2 (bI (aC 1 (aA 1 (bI (bI (aA 1 (aC 1 (aA 1 (aA 1 (aA 1 (aA 1 (aA 1 (aA 1 (aA 5 aE)))))))))))))))))))) Q g w :=
  aI (kr := no) (l := [(12, fun g w => k12 (g 1) (g 2) (g 5) (g 6) (g 14) (g 15) (g 18) (g 19) w)]) (by kernel_rfl) h hn fG ⟨h12, trivial⟩
def AU (k12 : K8) (bT t2 eB t6 cH iA H0 iY : Value) (w : World) : Prop :=
  cV (fun (X : Value → K0) (t : Value) (w : World) => zW (fun _ _ _ _ _ _ _ iY w => X iY w) k12 bT t2 eB t6 cH iA H0 t w) iY w
theorem PZ (k12 : K8) (h12 : ∀ g w, k12 (g 1) (g 2) (g 5) (g 6) (g 14) (g 15) (g 18) (g 19) w → Q (.exit 12) g w) (h : AU k12 (g 1) (g 2) (g 5) (g 6) (g 14) (g 15) (g 18) (g 19) w) : aQ pg aF (bI (aC 1 (aA 3 (aA 2 (aA 2 (bI (aC 1 (aA 1 (bI (bI (aA 1 (aC 1 (aA 1 (aA 1 (aA 1 (aA 1 (aA 1 (aA 1 (aA 5 aE))))))))))))))))))) Q g w := by
  refine cR (T := Value) (fun g : eL => g 19) (fun X t w => zW (fun _ _ _ _ _ _ _ iY w => X iY w) k12 (g 1) (g 2) (g 5) (g 6) (g 14) (g 15) (g 18) t w) _ (by kernel_rfl) h (fun X g1 w1 ha hL => ?_)
  rw [← aO (s := 1) ha (by kernel_rfl)] at hL
  rw [← aO (s := 2) ha (by kernel_rfl)] at hL
  rw [← aO (s := 5) ha (by kernel_rfl)] at hL
  rw [← aO (s := 6) ha (by kernel_rfl)] at hL
  rw [← aO (s := 14) ha (by kernel_rfl)] at hL
  rw [← aO (s := 15) ha (by kernel_rfl)] at hL
  rw [← aO (s := 18) ha (by kernel_rfl)] at hL
  exact (Qq (aX (fun g2 w2 => X ((fun g : eL => g 19) g2) w2) Q) g1 w1 (fun _ _ _ _ _ _ _ iY w => X iY w) k12 (fun _ _ h => h) h12 hL)
def FG (kn : K8) (bT t2 eB t6 cH iA H0 iY : Value) (w : World) : Prop :=
  AU kn bT t2 eB t6 cH iA H0 iY w
theorem Pb (kn : K8) (hn : ∀ g w, kn (g 1) (g 2) (g 5) (g 6) (g 14) (g 15) (g 18) (g 19) w → Q .normal g w) (h : FG kn (g 1) (g 2) (g 5) (g 6) (g 14) (g 15) (g 18) (g 19) w) : aQ pg aF (aC 1 (aA 3 (aA 2 (aA 2 (bI (aC 1 (aA 1 (bI (bI (aA 1 (aC 1 (aA 1 (aA 1 (aA 1 (aA 1 (aA 1 (aA 1 (aA 5 aE)))))))))))))))))) Q g w :=
  cU 12 _ g w (by kernel_rfl) (PZ (rP 12 Q) g w kn hn h)
def AF (kn : K6) (bT t2 eB t6 cH iA H0 iY : Value) (w : World) : Prop :=
  FG (fun bT t2 eB t6 cH iA H0 iY w => A7 kn bT t2 eB t6 cH iA H0 iY w) bT t2 eB t6 cH iA H0 iY w
theorem PN (kn : K6) (hn : ∀ g w, kn (g 1) (g 2) (g 5) (g 6) (g 14) (g 15) w → Q .normal g w) (h : AF kn (g 1) (g 2) (g 5) (g 6) (g 14) (g 15) (g 18) (g 19) w) : aQ pg aF (aA 3 (aA 2 (aA 2 (bI (aC 1 (aA 1 (bI (bI (aA 1 (aC 1 (aA 1 (aA 1 (aA 1 (aA 1 (aA 1 (aA 1 (aA 5 aE))))))))))))))))) Q g w :=
  aL 1 _ g w (by kernel_rfl) (Pb (aX (fun g w => aQ pg aF (aA 1 (aA 3 (aA 2 (aA 2 (bI (aC 1 (aA 1 (bI (bI (aA 1 (aC 1 (aA 1 (aA 1 (aA 1 (aA 1 (aA 1 (aA 1 (aA 5 aE)))))))))))))))))) Q g w) Q) g w (fun bT t2 eB t6 cH iA H0 iY w => A7 kn bT t2 eB t6 cH iA H0 iY w) (fun g w h => aS (K := fun g w => aQ pg aF (aA 1 (aA 3 (aA 2 (aA 2 (bI (aC 1 (aA 1 (bI (bI (aA 1 (aC 1 (aA 1 (aA 1 (aA 1 (aA 1 (aA 1 (aA 1 (aA 5 aE)))))))))))))))))) Q g w) (Q0 Q g w kn hn h)) h)
def Ep (kn : K8) (bT t2 eB t6 cH iA IM ZN : Value) (w : World) : Prop :=
  aD pg (cD 128 cH IM) w fun t146 w =>
  aD pg (aW 3 t146) w fun t147 w =>
  aD pg (aN .add 3 (.tmp 147) (.tmp 148) t147 ZN) w fun t149 w =>
  aD pg (cD 128 cH IM) w fun t151 w =>
  aD pg (aW 3 t151) w fun t152 w =>
  aD pg (aN .add 3 (.tmp 152) (.const (.int .i64 1)) t152 (.int .i64 1)) w fun t153 w =>
  aD pg (cD 128 cH IM) w fun t154 w =>
  aD pg (cB 3 t154 t153) w fun _u w =>
  aD pg (bA 86 bT 0) w fun t155 w =>
  aD pg (aW 3 t155) w fun t156 w =>
  kn bT t2 eB t6 cH iA t149 t156 w
theorem Rn (kn : K8) (hn : ∀ g w, kn (g 1) (g 2) (g 5) (g 6) (g 14) (g 15) (g 18) (g 19) w → Q .normal g w) (h : Ep kn (g 1) (g 2) (g 5) (g 6) (g 14) (g 15) (g 16) (g 17) w) : aQ pg aF (aC 3 (aA 2 (aA 2 (bI (aC 1 (aA 1 (bI (bI (aA 1 (aC 1 (aA 1 (aA 1 (aA 1 (aA 1 (aA 1 (aA 1 (aA 5 aE))))))))))))))))) Q g w :=
  aI (kr := no) (l := []) (by kernel_rfl) h hn fG trivial
def rX (kn : K6) (bT t2 eB t6 cH iA IM ZN : Value) (w : World) : Prop :=
  Ep (fun bT t2 eB t6 cH iA H0 iY w => AF kn bT t2 eB t6 cH iA H0 iY w) bT t2 eB t6 cH iA IM ZN w
theorem Q2 (kn : K6) (hn : ∀ g w, kn (g 1) (g 2) (g 5) (g 6) (g 14) (g 15) w → Q .normal g w) (h : rX kn (g 1) (g 2) (g 5) (g 6) (g 14) (g 15) (g 16) (g 17) w) : aQ pg aF (aA 2 (aA 2 (bI (aC 1 (aA 1 (bI (bI (aA 1 (aC 1 (aA 1 (aA 1 (aA 1 (aA 1 (aA 1 (aA 1 (aA 5 aE)))))))))))))))) Q g w :=
  aL 3 _ g w (by kernel_rfl) (Rn (aX (fun g w => aQ pg aF (aA 3 (aA 2 (aA 2 (bI (aC 1 (aA 1 (bI (bI (aA 1 (aC 1 (aA 1 (aA 1 (aA 1 (aA 1 (aA 1 (aA 1 (aA 5 aE))))))))))))))))) Q g w) Q) g w (fun bT t2 eB t6 cH iA H0 iY w => AF kn bT t2 eB t6 cH iA H0 iY w) (fun g w h => aS (K := fun g w => aQ pg aF (aA 3 (aA 2 (aA 2 (bI (aC 1 (aA 1 (bI (bI (aA 1 (aC 1 (aA 1 (aA 1 (aA 1 (aA 1 (aA 1 (aA 1 (aA 5 aE))))))))))))))))) Q g w) (PN Q g w kn hn h)) h)
def DA (kn : K8) (bT t2 eB t6 cH iA IM : Value) (w : World) : Prop :=
  aD pg (bA 86 bT 1) w fun t138 w =>
  aD pg (aW 62 t138) w fun t139 w =>
  aD pg (cD 62 t139 IM) w fun t141 w =>
  aD pg (aW 3 t141) w fun t142 w =>
  aD pg (aN .lss 3 (.tmp 143) (.const (.int .i64 0)) t142 (.int .i64 0)) w fun t144 w =>
  hH t144
    (kn bT t2 eB t6 cH iA IM (.int .i64 1) w)
    (kn bT t2 eB t6 cH iA IM t142 w)
theorem NF (kn : K8) (hn : ∀ g w, kn (g 1) (g 2) (g 5) (g 6) (g 14) (g 15) (g 16) (g 17) w → Q .normal g w) (h : DA kn (g 1) (g 2) (g 5) (g 6) (g 14) (g 15) (g 16) w) : aQ pg aF (aC 2 (aA 2 (bI (aC 1 (aA 1 (bI (bI (aA 1 (aC 1 (aA 1 (aA 1 (aA 1 (aA 1 (aA 1 (aA 1 (aA 5 aE)))))))))))))))) Q g w :=
  aI (kr := no) (l := []) (by kernel_rfl) h hn fG trivial
def vY (kn : K6) (bT t2 eB t6 cH iA IM : Value) (w : World) : Prop :=
  DA (fun bT t2 eB t6 cH iA IM ZN w => rX kn bT t2 eB t6 cH iA IM ZN w) bT t2 eB t6 cH iA IM w
theorem Oi (kn : K6) (hn : ∀ g w, kn (g 1) (g 2) (g 5) (g 6) (g 14) (g 15) w → Q .normal g w) (h : vY kn (g 1) (g 2) (g 5) (g 6) (g 14) (g 15) (g 16) w) : aQ pg aF (aA 2 (bI (aC 1 (aA 1 (bI (bI (aA 1 (aC 1 (aA 1 (aA 1 (aA 1 (aA 1 (aA 1 (aA 1 (aA 5 aE))))))))))))))) Q g w :=
  aL 2 _ g w (by kernel_rfl) (NF (aX (fun g w => aQ pg aF (aA 2 (aA 2 (bI (aC 1 (aA 1 (bI (bI (aA 1 (aC 1 (aA 1 (aA 1 (aA 1 (aA 1 (aA 1 (aA 1 (aA 5 aE)))))))))))))))) Q g w) Q) g w (fun bT t2 eB t6 cH iA IM ZN w => rX kn bT t2 eB t6 cH iA IM ZN w) (fun g w h => aS (K := fun g w => aQ pg aF (aA 2 (aA 2 (bI (aC 1 (aA 1 (bI (bI (aA 1 (aC 1 (aA 1 (aA 1 (aA 1 (aA 1 (aA 1 (aA 1 (aA 5 aE)))))))))))))))) Q g w) (Q2 Q g w kn hn h)) h)
def CV (kn : K7) (R : K1) (bT t2 eB t6 cH iA : Value) (w : World) : Prop :=
  aD pg (bA 96 t6 1) w fun t122 w =>
  aD pg (aW 94 t122) w fun t123 w =>
  aD pg (cD 94 t123 iA) w fun t125 w =>
  aD pg (bA 103 t125 0) w fun t126 w =>
  aD pg (aW 3 t126) w fun t127 w =>
  aD pg (aN .lss 3 (.tmp 128) (.const (.int .i64 0)) t127 (.int .i64 0)) w fun t129 w =>
  Gd (dW t129 false) (fun K => K t127 w) w fun t131 w =>
  Gd (dW t129 false) (fun K => aD pg (bA 86 bT 1) w K) w fun t132 w =>
  Gd (dW t129 false) (fun K => aD pg (aW 62 t132) w K) w fun t133 w =>
  Gd (dW t129 false) (fun K => aD pg (iJ .len #[62] 3 [t133]) w K) w fun t134 w =>
  Gd (dW t129 false) (fun K => aD pg (aN .geq 3 (.tmp 131) (.tmp 134) t131 t134) w K) w fun t135 w =>
  aD pg (fJ t129 (.bool true) t135) w fun t136 w =>
  hH t136
    (aD pg (fV 96 []) w fun t137 w =>
    aD pg (cB 96 t2 t137) w fun _u w =>
    F1 pg 96 t2 w fun r0 => R (.tuple #[r0, (.int .i64 1)]) w)
    (kn bT t2 eB t6 cH iA t127 w)
theorem ND (kn : K7) (R : K1) (hn : ∀ g w, kn (g 1) (g 2) (g 5) (g 6) (g 14) (g 15) (g 16) w → Q .normal g w) (hr : HR eQ R Q) (h : CV kn R (g 1) (g 2) (g 5) (g 6) (g 14) (g 15) w) : aQ pg aF (aC 2 (bI (aC 1 (aA 1 (bI (bI (aA 1 (aC 1 (aA 1 (aA 1 (aA 1 (aA 1 (aA 1 (aA 1 (aA 5 aE))))))))))))))) Q g w :=
  aI (l := []) (by kernel_rfl) h hn hr trivial
def Dd (kn : K6) (R : K1) (bT t2 eB t6 cH iA : Value) (w : World) : Prop :=
  CV (fun bT t2 eB t6 cH iA IM w => vY kn bT t2 eB t6 cH iA IM w) R bT t2 eB t6 cH iA w
theorem N7 (kn : K6) (R : K1) (hn : ∀ g w, kn (g 1) (g 2) (g 5) (g 6) (g 14) (g 15) w → Q .normal g w) (hr : HR eQ R Q) (h : Dd kn R (g 1) (g 2) (g 5) (g 6) (g 14) (g 15) w) : aQ pg aF (bI (aC 1 (aA 1 (bI (bI (aA 1 (aC 1 (aA 1 (aA 1 (aA 1 (aA 1 (aA 1 (aA 1 (aA 5 aE)))))))))))))) Q g w :=
  aL 2 _ g w (by kernel_rfl) (ND (aX (fun g w => aQ pg aF (aA 2 (bI (aC 1 (aA 1 (bI (bI (aA 1 (aC 1 (aA 1 (aA 1 (aA 1 (aA 1 (aA 1 (aA 1 (aA 5 aE))))))))))))))) Q g w) Q) g w (fun bT t2 eB t6 cH iA IM w => vY kn bT t2 eB t6 cH iA IM w) R (fun g w h => aS (K := fun g w => aQ pg aF (aA 2 (bI (aC 1 (aA 1 (bI (bI (aA 1 (aC 1 (aA 1 (aA 1 (aA 1 (aA 1 (aA 1 (aA 1 (aA 5 aE))))))))))))))) Q g w) (Oi Q g w kn hn h)) hr h)
def CS (kn : K6) (R : K1) (bT t2 eB t6 cH iA : Value) (w : World) : Prop :=
  Dd kn R bT t2 eB t6 cH iA w
theorem NQ (kn : K6) (R : K1) (hn : ∀ g w, kn (g 1) (g 2) (g 5) (g 6) (g 14) (g 15) w → Q .normal g w) (hr : HR eQ R Q) (h : CS kn R (g 1) (g 2) (g 5) (g 6) (g 14) (g 15) w) : aQ pg aF (aC 1 (aA 1 (bI (bI (aA 1 (aC 1 (aA 1 (aA 1 (aA 1 (aA 1 (aA 1 (aA 1 (aA 5 aE))))))))))))) Q g w :=
  cU 11 _ g w (by kernel_rfl) (N7 (rP 11 Q) g w kn R hn hr h)
def pZ (kn : K6) (R : K1) (bT t2 eB t6 cH iA : Value) (w : World) : Prop :=
  CS (fun bT t2 eB t6 cH iA w => sR kn bT t2 eB t6 cH iA w) R bT t2 eB t6 cH iA w
theorem Ny (kn : K6) (R : K1) (hn : ∀ g w, kn (g 1) (g 2) (g 5) (g 6) (g 14) (g 15) w → Q .normal g w) (hr : HR eQ R Q) (h : pZ kn R (g 1) (g 2) (g 5) (g 6) (g 14) (g 15) w) : aQ pg aF (aA 1 (bI (bI (aA 1 (aC 1 (aA 1 (aA 1 (aA 1 (aA 1 (aA 1 (aA 1 (aA 5 aE)))))))))))) Q g w :=
  aL 1 _ g w (by kernel_rfl) (NQ (aX (fun g w => aQ pg aF (aA 1 (aA 1 (bI (bI (aA 1 (aC 1 (aA 1 (aA 1 (aA 1 (aA 1 (aA 1 (aA 1 (aA 5 aE))))))))))))) Q g w) Q) g w (fun bT t2 eB t6 cH iA w => sR kn bT t2 eB t6 cH iA w) R (fun g w h => aS (K := fun g w => aQ pg aF (aA 1 (aA 1 (bI (bI (aA 1 (aC 1 (aA 1 (aA 1 (aA 1 (aA 1 (aA 1 (aA 1 (aA 5 aE))))))))))))) Q g w) (Pr Q g w kn hn h)) hr h)
def De (kn : K6) (k10 : K2) (bT t2 eB t6 cH iA : Value) (w : World) : Prop :=
  aD pg (aN .lss 3 (.tmp 117) (.tmp 118) iA eB) w fun t119 w =>
  hH t119
    (kn bT t2 eB t6 cH iA w)
    (k10 t2 t6 w)
theorem OM (kn : K6) (k10 : K2) (hn : ∀ g w, kn (g 1) (g 2) (g 5) (g 6) (g 14) (g 15) w → Q .normal g w) (h10 : ∀ g w, k10 (g 2) (g 6) w → Q (.exit 10) g w) (h : De kn k10 (g 1) (g 2) (g 5) (g 6) (g 14) (g 15) w) : aQ pg aF (aC 1 (bI (bI (aA 1 (aC 1 (aA 1 (aA 1 (aA 1 (aA 1 (aA 1 (aA 1 (aA 5 aE)))))))))))) Q g w :=
  aI (kr := no) (l := [(10, fun g w => k10 (g 2) (g 6) w)]) (by kernel_rfl) h hn fG ⟨h10, trivial⟩
def vT (kn : K6) (k10 : K2) (R : K1) (bT t2 eB t6 cH iA : Value) (w : World) : Prop :=
  De (fun bT t2 eB t6 cH iA w => pZ kn R bT t2 eB t6 cH iA w) k10 bT t2 eB t6 cH iA w
theorem OF (kn : K6) (k10 : K2) (R : K1) (hn : ∀ g w, kn (g 1) (g 2) (g 5) (g 6) (g 14) (g 15) w → Q .normal g w) (h10 : ∀ g w, k10 (g 2) (g 6) w → Q (.exit 10) g w) (hr : HR eQ R Q) (h : vT kn k10 R (g 1) (g 2) (g 5) (g 6) (g 14) (g 15) w) : aQ pg aF (bI (bI (aA 1 (aC 1 (aA 1 (aA 1 (aA 1 (aA 1 (aA 1 (aA 1 (aA 5 aE))))))))))) Q g w :=
  aL 1 _ g w (by kernel_rfl) (OM (aX (fun g w => aQ pg aF (aA 1 (bI (bI (aA 1 (aC 1 (aA 1 (aA 1 (aA 1 (aA 1 (aA 1 (aA 1 (aA 5 aE)))))))))))) Q g w) Q) g w (fun bT t2 eB t6 cH iA w => pZ kn R bT t2 eB t6 cH iA w) k10 (fun g w h => aS (K := fun g w => aQ pg aF (aA 1 (bI (bI (aA 1 (aC 1 (aA 1 (aA 1 (aA 1 (aA 1 (aA 1 (aA 1 (aA 5 aE)))))))))))) Q g w) (Ny Q g w kn R hn hr h)) h10 h)
def CO (k10 : K2) (R : K1) (bT t2 eB t6 cH iA : Value) (w : World) : Prop :=
  cV (fun (X : Value → K0) (t : Value) (w : World) => vT (fun _ _ _ _ _ iA w => X iA w) k10 R bT t2 eB t6 cH t w) iA w
theorem NL (k10 : K2) (R : K1) (h10 : ∀ g w, k10 (g 2) (g 6) w → Q (.exit 10) g w) (hr : HR eQ R Q) (h : CO k10 R (g 1) (g 2) (g 5) (g 6) (g 14) (g 15) w) : aQ pg aF (bI (aA 1 (aC 1 (aA 1 (aA 1 (aA 1 (aA 1 (aA 1 (aA 1 (aA 5 aE)))))))))) Q g w := by
  refine cR (T := Value) (fun g : eL => g 15) (fun X t w => vT (fun _ _ _ _ _ iA w => X iA w) k10 R (g 1) (g 2) (g 5) (g 6) (g 14) t w) _ (by kernel_rfl) h (fun X g1 w1 ha hL => ?_)
  rw [← aO (s := 1) ha (by kernel_rfl)] at hL
  rw [← aO (s := 2) ha (by kernel_rfl)] at hL
  rw [← aO (s := 5) ha (by kernel_rfl)] at hL
  rw [← aO (s := 6) ha (by kernel_rfl)] at hL
  rw [← aO (s := 14) ha (by kernel_rfl)] at hL
  exact (OF (aX (fun g2 w2 => X ((fun g : eL => g 15) g2) w2) Q) g1 w1 (fun _ _ _ _ _ iA w => X iA w) k10 R (fun _ _ h => h) h10 hr hL)
def wD (kn : K2) (R : K1) (bT t2 eB t6 cH iA : Value) (w : World) : Prop :=
  CO kn R bT t2 eB t6 cH iA w
theorem NN (kn : K2) (R : K1) (hn : ∀ g w, kn (g 2) (g 6) w → Q .normal g w) (hr : HR eQ R Q) (h : wD kn R (g 1) (g 2) (g 5) (g 6) (g 14) (g 15) w) : aQ pg aF (aA 1 (aC 1 (aA 1 (aA 1 (aA 1 (aA 1 (aA 1 (aA 1 (aA 5 aE))))))))) Q g w :=
  cU 10 _ g w (by kernel_rfl) (NL (rP 10 Q) g w kn R hn hr h)
def C0 (kn : K6) (bT t2 eB t6 cH : Value) (w : World) : Prop :=
  kn bT t2 eB t6 cH (.int .i64 0) w
theorem Oq (kn : K6) (hn : ∀ g w, kn (g 1) (g 2) (g 5) (g 6) (g 14) (g 15) w → Q .normal g w) (h : C0 kn (g 1) (g 2) (g 5) (g 6) (g 14) w) : aQ pg aF (aC 1 (aC 1 (aA 1 (aA 1 (aA 1 (aA 1 (aA 1 (aA 1 (aA 5 aE))))))))) Q g w :=
  aI (kr := no) (l := []) (by kernel_rfl) h hn fG trivial
def Di (kn : K2) (R : K1) (bT t2 eB t6 cH : Value) (w : World) : Prop :=
  C0 (fun bT t2 eB t6 cH iA w => wD kn R bT t2 eB t6 cH iA w) bT t2 eB t6 cH w
theorem Na (kn : K2) (R : K1) (hn : ∀ g w, kn (g 2) (g 6) w → Q .normal g w) (hr : HR eQ R Q) (h : Di kn R (g 1) (g 2) (g 5) (g 6) (g 14) w) : aQ pg aF (aC 1 (aA 1 (aA 1 (aA 1 (aA 1 (aA 1 (aA 1 (aA 5 aE)))))))) Q g w :=
  aL 1 _ g w (by kernel_rfl) (Oq (aX (fun g w => aQ pg aF (aA 1 (aC 1 (aA 1 (aA 1 (aA 1 (aA 1 (aA 1 (aA 1 (aA 5 aE))))))))) Q g w) Q) g w (fun bT t2 eB t6 cH iA w => wD kn R bT t2 eB t6 cH iA w) (fun g w h => aS (K := fun g w => aQ pg aF (aA 1 (aC 1 (aA 1 (aA 1 (aA 1 (aA 1 (aA 1 (aA 1 (aA 5 aE))))))))) Q g w) (NN Q g w kn R hn hr h)) h)
def wP (R : K1) (bT t2 eB t6 cH : Value) (w : World) : Prop :=
  Di (fun t2 t6 w => yV R t2 t6 w) R bT t2 eB t6 cH w
theorem N3 (R : K1) (hr : HR eQ R Q) (h : wP R (g 1) (g 2) (g 5) (g 6) (g 14) w) : aQ pg aF (aA 1 (aA 1 (aA 1 (aA 1 (aA 1 (aA 1 (aA 5 aE))))))) Q g w :=
  aL 1 _ g w (by kernel_rfl) (Na (aX (fun g w => aQ pg aF (aA 1 (aA 1 (aA 1 (aA 1 (aA 1 (aA 1 (aA 1 (aA 5 aE)))))))) Q g w) Q) g w (fun t2 t6 w => yV R t2 t6 w) R (fun g w h => aS (K := fun g w => aQ pg aF (aA 1 (aA 1 (aA 1 (aA 1 (aA 1 (aA 1 (aA 1 (aA 5 aE)))))))) Q g w) (O3 Q g w R hr h)) hr h)
def Dt (kn : K5) (bT t2 eB t6 : Value) (w : World) : Prop :=
  aD pg (hT 128) w fun cH w =>
  kn bT t2 eB t6 cH w
theorem NE (kn : K5) (hn : ∀ g w, kn (g 1) (g 2) (g 5) (g 6) (g 14) w → Q .normal g w) (h : Dt kn (g 1) (g 2) (g 5) (g 6) w) : aQ pg aF (aC 1 (aA 1 (aA 1 (aA 1 (aA 1 (aA 1 (aA 5 aE))))))) Q g w :=
  aI (kr := no) (l := []) (by kernel_rfl) h hn fG trivial
def pU (R : K1) (bT t2 eB t6 : Value) (w : World) : Prop :=
  Dt (fun bT t2 eB t6 cH w => wP R bT t2 eB t6 cH w) bT t2 eB t6 w
theorem Nn (R : K1) (hr : HR eQ R Q) (h : pU R (g 1) (g 2) (g 5) (g 6) w) : aQ pg aF (aA 1 (aA 1 (aA 1 (aA 1 (aA 1 (aA 5 aE)))))) Q g w :=
  aL 1 _ g w (by kernel_rfl) (NE (aX (fun g w => aQ pg aF (aA 1 (aA 1 (aA 1 (aA 1 (aA 1 (aA 1 (aA 5 aE))))))) Q g w) Q) g w (fun bT t2 eB t6 cH w => wP R bT t2 eB t6 cH w) (fun g w h => aS (K := fun g w => aQ pg aF (aA 1 (aA 1 (aA 1 (aA 1 (aA 1 (aA 1 (aA 5 aE))))))) Q g w) (N3 Q g w R hr h)) h)
def xA (kn : K7) (bT t2 eB t6 t8 dF hJ : Value) (w : World) : Prop :=
  aD pg (aN .add 3 (.tmp 70) (.const (.int .i64 1)) hJ (.int .i64 1)) w fun t71 w =>
  kn bT t2 eB t6 t8 dF t71 w
theorem Ox (kn : K7) (hn : ∀ g w, kn (g 1) (g 2) (g 5) (g 6) (g 8) (g 10) (g 11) w → Q .normal g w) (h : xA kn (g 1) (g 2) (g 5) (g 6) (g 8) (g 10) (g 11) w) : aQ pg aF (aA 1 (aA 1 (bI (bI (aA 1 (aC 1 (aA 1 (aA 1 (aA 1 (aA 1 (aA 5 aE))))))))))) Q g w :=
  aI (kr := no) (l := []) (by kernel_rfl) h hn fG trivial
def wA (kn : K8) (bT t2 eB t6 t8 dF hJ lO : Value) (w : World) : Prop :=
  aD pg (aN .add 3 (.tmp 79) (.const (.int .i64 1)) lO (.int .i64 1)) w fun t80 w =>
  kn bT t2 eB t6 t8 dF hJ t80 w
theorem NK (kn : K8) (hn : ∀ g w, kn (g 1) (g 2) (g 5) (g 6) (g 8) (g 10) (g 11) (g 12) w → Q .normal g w) (h : wA kn (g 1) (g 2) (g 5) (g 6) (g 8) (g 10) (g 11) (g 12) w) : aQ pg aF (aA 1 (aA 1 (bI (bI (aA 1 (bI (aC 1 (aA 1 (bI (bI (aA 1 (aC 1 (aA 1 (aA 1 (aA 1 (aA 1 (aA 5 aE))))))))))))))))) Q g w :=
  aI (kr := no) (l := []) (by kernel_rfl) h hn fG trivial
def wB (kn : K9) (k8 : K8) (bT t2 eB t6 t8 dF hJ lO L1 : Value) (w : World) : Prop :=
  aD pg (aN .lss 3 (.tmp 97) (.tmp 98) L1 eB) w fun t99 w =>
  Gd (dW t99 true) (fun K => K dF w) w fun t101 w =>
  Gd (dW t99 true) (fun K => K t8 w) w fun t102 w =>
  Gd (dW t99 true) (fun K => aD pg (aN .gtr 3 (.tmp 101) (.tmp 102) t101 t102) w K) w fun t103 w =>
  aD pg (fJ t99 t103 (.bool false)) w fun t104 w =>
  hH t104
    (aD pg (aN .quo 3 (.tmp 108) (.const (.int .i64 2)) eB (.int .i64 2)) w fun t109 w =>
    aD pg (aN .add 3 (.tmp 107) (.tmp 109) dF t109) w fun t110 w =>
    aD pg (aN .quo 3 (.tmp 111) (.const (.int .i64 8)) eB (.int .i64 8)) w fun t112 w =>
    aD pg (aN .add 3 (.tmp 110) (.tmp 112) t110 t112) w fun t113 w =>
    aD pg (aN .add 3 (.tmp 113) (.const (.int .i64 3)) t113 (.int .i64 3)) w fun t114 w =>
    aD pg (aN .rem 3 (.tmp 114) (.tmp 115) t114 eB) w fun t116 w =>
    aD pg (aN .add 3 (.tmp 105) (.const (.int .i64 1)) L1 (.int .i64 1)) w fun t106 w =>
    kn bT t2 eB t6 t8 t116 hJ lO t106 w)
    (k8 bT t2 eB t6 t8 dF hJ lO w)
theorem Nq (kn : K9) (k8 : K8) (hn : ∀ g w, kn (g 1) (g 2) (g 5) (g 6) (g 8) (g 10) (g 11) (g 12) (g 13) w → Q .normal g w) (h8 : ∀ g w, k8 (g 1) (g 2) (g 5) (g 6) (g 8) (g 10) (g 11) (g 12) w → Q (.exit 8) g w) (h : wB kn k8 (g 1) (g 2) (g 5) (g 6) (g 8) (g 10) (g 11) (g 12) (g 13) w) : aQ pg aF (bI (bI (aA 3 (bI (aC 1 (aA 1 (bI (bI (aA 1 (bI (aC 1 (aA 1 (bI (bI (aA 1 (aC 1 (aA 1 (aA 1 (aA 1 (aA 1 (aA 5 aE))))))))))))))))))))) Q g w :=
  aI (kr := no) (l := [(8, fun g w => k8 (g 1) (g 2) (g 5) (g 6) (g 8) (g 10) (g 11) (g 12) w)]) (by kernel_rfl) h hn fG ⟨h8, trivial⟩
def vJ (k8 : K8) (bT t2 eB t6 t8 dF hJ lO L1 : Value) (w : World) : Prop :=
  cV (fun (X : (Value × Value) → K0) (t : Value × Value) (w : World) => wB (fun _ _ _ _ _ dF _ _ L1 w => X (dF, L1) w) k8 bT t2 eB t6 t8 t.1 hJ lO t.2 w) (dF, L1) w
theorem Ne (k8 : K8) (h8 : ∀ g w, k8 (g 1) (g 2) (g 5) (g 6) (g 8) (g 10) (g 11) (g 12) w → Q (.exit 8) g w) (h : vJ k8 (g 1) (g 2) (g 5) (g 6) (g 8) (g 10) (g 11) (g 12) (g 13) w) : aQ pg aF (bI (aA 3 (bI (aC 1 (aA 1 (bI (bI (aA 1 (bI (aC 1 (aA 1 (bI (bI (aA 1 (aC 1 (aA 1 (aA 1 (aA 1 (aA 1 (aA 5 aE)))))))))))))))))))) Q g w := by
  refine cR (T := Value × Value) (fun g : eL => (g 10, g 13)) (fun X t w => wB (fun _ _ _ _ _ dF _ _ L1 w => X (dF, L1) w) k8 (g 1) (g 2) (g 5) (g 6) (g 8) t.1 (g 11) (g 12) t.2 w) _ (by kernel_rfl) h (fun X g1 w1 ha hL => ?_)
  rw [← aO (s := 1) ha (by kernel_rfl)] at hL
  rw [← aO (s := 2) ha (by kernel_rfl)] at hL
  rw [← aO (s := 5) ha (by kernel_rfl)] at hL
  rw [← aO (s := 6) ha (by kernel_rfl)] at hL
  rw [← aO (s := 8) ha (by kernel_rfl)] at hL
  rw [← aO (s := 11) ha (by kernel_rfl)] at hL
  rw [← aO (s := 12) ha (by kernel_rfl)] at hL
  exact (Nq (aX (fun g2 w2 => X ((fun g : eL => (g 10, g 13)) g2) w2) Q) g1 w1 (fun _ _ _ _ _ dF _ _ L1 w => X (dF, L1) w) k8 (fun _ _ h => h) h8 hL)
def vP (kn : K8) (bT t2 eB t6 t8 dF hJ lO L1 : Value) (w : World) : Prop :=
  vJ kn bT t2 eB t6 t8 dF hJ lO L1 w
theorem M5 (kn : K8) (hn : ∀ g w, kn (g 1) (g 2) (g 5) (g 6) (g 8) (g 10) (g 11) (g 12) w → Q .normal g w) (h : vP kn (g 1) (g 2) (g 5) (g 6) (g 8) (g 10) (g 11) (g 12) (g 13) w) : aQ pg aF (aA 3 (bI (aC 1 (aA 1 (bI (bI (aA 1 (bI (aC 1 (aA 1 (bI (bI (aA 1 (aC 1 (aA 1 (aA 1 (aA 1 (aA 1 (aA 5 aE))))))))))))))))))) Q g w :=
  cU 8 _ g w (by kernel_rfl) (Ne (rP 8 Q) g w kn hn h)
def Df (kn : K9) (bT t2 eB t6 t8 dF hJ lO : Value) (w : World) : Prop :=
  aD pg (bA 96 t6 1) w fun t81 w =>
  aD pg (aW 94 t81) w fun t82 w =>
  aD pg (cD 94 t82 dF) w fun t85 w =>
  aD pg (bA 103 t85 0) w fun t86 w =>
  aD pg (cB 3 t86 hJ) w fun _u w =>
  aD pg (aN .quo 3 (.tmp 88) (.const (.int .i64 2)) eB (.int .i64 2)) w fun t89 w =>
  aD pg (aN .add 3 (.tmp 87) (.tmp 89) dF t89) w fun t90 w =>
  aD pg (aN .quo 3 (.tmp 91) (.const (.int .i64 8)) eB (.int .i64 8)) w fun t92 w =>
  aD pg (aN .add 3 (.tmp 90) (.tmp 92) t90 t92) w fun t93 w =>
  aD pg (aN .add 3 (.tmp 93) (.const (.int .i64 3)) t93 (.int .i64 3)) w fun t94 w =>
  aD pg (aN .rem 3 (.tmp 94) (.tmp 95) t94 eB) w fun t96 w =>
  kn bT t2 eB t6 t8 t96 hJ lO (.int .i64 0) w
theorem OB (kn : K9) (hn : ∀ g w, kn (g 1) (g 2) (g 5) (g 6) (g 8) (g 10) (g 11) (g 12) (g 13) w → Q .normal g w) (h : Df kn (g 1) (g 2) (g 5) (g 6) (g 8) (g 10) (g 11) (g 12) w) : aQ pg aF (aC 3 (bI (aC 1 (aA 1 (bI (bI (aA 1 (bI (aC 1 (aA 1 (bI (bI (aA 1 (aC 1 (aA 1 (aA 1 (aA 1 (aA 1 (aA 5 aE))))))))))))))))))) Q g w :=
  aI (kr := no) (l := []) (by kernel_rfl) h hn fG trivial
def DC (kn : K8) (bT t2 eB t6 t8 dF hJ lO : Value) (w : World) : Prop :=
  Df (fun bT t2 eB t6 t8 dF hJ lO L1 w => vP kn bT t2 eB t6 t8 dF hJ lO L1 w) bT t2 eB t6 t8 dF hJ lO w
theorem OJ (kn : K8) (hn : ∀ g w, kn (g 1) (g 2) (g 5) (g 6) (g 8) (g 10) (g 11) (g 12) w → Q .normal g w) (h : DC kn (g 1) (g 2) (g 5) (g 6) (g 8) (g 10) (g 11) (g 12) w) : aQ pg aF (bI (aC 1 (aA 1 (bI (bI (aA 1 (bI (aC 1 (aA 1 (bI (bI (aA 1 (aC 1 (aA 1 (aA 1 (aA 1 (aA 1 (aA 5 aE)))))))))))))))))) Q g w :=
  aL 3 _ g w (by kernel_rfl) (OB (aX (fun g w => aQ pg aF (aA 3 (bI (aC 1 (aA 1 (bI (bI (aA 1 (bI (aC 1 (aA 1 (bI (bI (aA 1 (aC 1 (aA 1 (aA 1 (aA 1 (aA 1 (aA 5 aE))))))))))))))))))) Q g w) Q) g w (fun bT t2 eB t6 t8 dF hJ lO L1 w => vP kn bT t2 eB t6 t8 dF hJ lO L1 w) (fun g w h => aS (K := fun g w => aQ pg aF (aA 3 (bI (aC 1 (aA 1 (bI (bI (aA 1 (bI (aC 1 (aA 1 (bI (bI (aA 1 (aC 1 (aA 1 (aA 1 (aA 1 (aA 1 (aA 5 aE))))))))))))))))))) Q g w) (M5 Q g w kn hn h)) h)
def CW (kn : K8) (bT t2 eB t6 t8 dF hJ lO : Value) (w : World) : Prop :=
  DC kn bT t2 eB t6 t8 dF hJ lO w
theorem NM (kn : K8) (hn : ∀ g w, kn (g 1) (g 2) (g 5) (g 6) (g 8) (g 10) (g 11) (g 12) w → Q .normal g w) (h : CW kn (g 1) (g 2) (g 5) (g 6) (g 8) (g 10) (g 11) (g 12) w) : aQ pg aF (aC 1 (aA 1 (bI (bI (aA 1 (bI (aC 1 (aA 1 (bI (bI (aA 1 (aC 1 (aA 1 (aA 1 (aA 1 (aA 1 (aA 5 aE))))))))))))))))) Q g w :=
  cU 7 _ g w (by kernel_rfl) (OJ (rP 7 Q) g w kn hn h)
def vZ (kn : K8) (bT t2 eB t6 t8 dF hJ lO : Value) (w : World) : Prop :=
  CW (fun bT t2 eB t6 t8 dF hJ lO w => wA kn bT t2 eB t6 t8 dF hJ lO w) bT t2 eB t6 t8 dF hJ lO w
theorem N2 (kn : K8) (hn : ∀ g w, kn (g 1) (g 2) (g 5) (g 6) (g 8) (g 10) (g 11) (g 12) w → Q .normal g w) (h : vZ kn (g 1) (g 2) (g 5) (g 6) (g 8) (g 10) (g 11) (g 12) w) : aQ pg aF (aA 1 (bI (bI (aA 1 (bI (aC 1 (aA 1 (bI (bI (aA 1 (aC 1 (aA 1 (aA 1 (aA 1 (aA 1 (aA 5 aE)))))))))))))))) Q g w :=
  aL 1 _ g w (by kernel_rfl) (NM (aX (fun g w => aQ pg aF (aA 1 (aA 1 (bI (bI (aA 1 (bI (aC 1 (aA 1 (bI (bI (aA 1 (aC 1 (aA 1 (aA 1 (aA 1 (aA 1 (aA 5 aE))))))))))))))))) Q g w) Q) g w (fun bT t2 eB t6 t8 dF hJ lO w => wA kn bT t2 eB t6 t8 dF hJ lO w) (fun g w h => aS (K := fun g w => aQ pg aF (aA 1 (aA 1 (bI (bI (aA 1 (bI (aC 1 (aA 1 (bI (bI (aA 1 (aC 1 (aA 1 (aA 1 (aA 1 (aA 1 (aA 5 aE))))))))))))))))) Q g w) (NK Q g w kn hn h)) h)
def Dh (kn : K8) (k6 : K7) (bT t2 eB t6 t8 dF hJ lO : Value) (w : World) : Prop :=
  aD pg (bA 86 bT 1) w fun t73 w =>
  aD pg (aW 62 t73) w fun t74 w =>
  aD pg (cD 62 t74 hJ) w fun t76 w =>
  aD pg (aW 3 t76) w fun t77 w =>
  aD pg (aN .lss 3 (.tmp 72) (.tmp 77) lO t77) w fun t78 w =>
  hH t78
    (kn bT t2 eB t6 t8 dF hJ lO w)
    (k6 bT t2 eB t6 t8 dF hJ w)
theorem N8 (kn : K8) (k6 : K7) (hn : ∀ g w, kn (g 1) (g 2) (g 5) (g 6) (g 8) (g 10) (g 11) (g 12) w → Q .normal g w) (h6 : ∀ g w, k6 (g 1) (g 2) (g 5) (g 6) (g 8) (g 10) (g 11) w → Q (.exit 6) g w) (h : Dh kn k6 (g 1) (g 2) (g 5) (g 6) (g 8) (g 10) (g 11) (g 12) w) : aQ pg aF (aC 1 (bI (bI (aA 1 (bI (aC 1 (aA 1 (bI (bI (aA 1 (aC 1 (aA 1 (aA 1 (aA 1 (aA 1 (aA 5 aE)))))))))))))))) Q g w :=
  aI (kr := no) (l := [(6, fun g w => k6 (g 1) (g 2) (g 5) (g 6) (g 8) (g 10) (g 11) w)]) (by kernel_rfl) h hn fG ⟨h6, trivial⟩
def wI (kn : K8) (k6 : K7) (bT t2 eB t6 t8 dF hJ lO : Value) (w : World) : Prop :=
  Dh (fun bT t2 eB t6 t8 dF hJ lO w => vZ kn bT t2 eB t6 t8 dF hJ lO w) k6 bT t2 eB t6 t8 dF hJ lO w
theorem Nh (kn : K8) (k6 : K7) (hn : ∀ g w, kn (g 1) (g 2) (g 5) (g 6) (g 8) (g 10) (g 11) (g 12) w → Q .normal g w) (h6 : ∀ g w, k6 (g 1) (g 2) (g 5) (g 6) (g 8) (g 10) (g 11) w → Q (.exit 6) g w) (h : wI kn k6 (g 1) (g 2) (g 5) (g 6) (g 8) (g 10) (g 11) (g 12) w) : aQ pg aF (bI (bI (aA 1 (bI (aC 1 (aA 1 (bI (bI (aA 1 (aC 1 (aA 1 (aA 1 (aA 1 (aA 1 (aA 5 aE))))))))))))))) Q g w :=
  aL 1 _ g w (by kernel_rfl) (N8 (aX (fun g w => aQ pg aF (aA 1 (bI (bI (aA 1 (bI (aC 1 (aA 1 (bI (bI (aA 1 (aC 1 (aA 1 (aA 1 (aA 1 (aA 1 (aA 5 aE)))))))))))))))) Q g w) Q) g w (fun bT t2 eB t6 t8 dF hJ lO w => vZ kn bT t2 eB t6 t8 dF hJ lO w) k6 (fun g w h => aS (K := fun g w => aQ pg aF (aA 1 (bI (bI (aA 1 (bI (aC 1 (aA 1 (bI (bI (aA 1 (aC 1 (aA 1 (aA 1 (aA 1 (aA 1 (aA 5 aE)))))))))))))))) Q g w) (N2 Q g w kn hn h)) h6 h)
def CQ (k6 : K7) (bT t2 eB t6 t8 dF hJ lO : Value) (w : World) : Prop :=
  cV (fun (X : (Value × Value) → K0) (t : Value × Value) (w : World) => wI (fun _ _ _ _ _ dF _ lO w => X (dF, lO) w) k6 bT t2 eB t6 t8 t.1 hJ t.2 w) (dF, lO) w
theorem Og (k6 : K7) (h6 : ∀ g w, k6 (g 1) (g 2) (g 5) (g 6) (g 8) (g 10) (g 11) w → Q (.exit 6) g w) (h : CQ k6 (g 1) (g 2) (g 5) (g 6) (g 8) (g 10) (g 11) (g 12) w) : aQ pg aF (bI (aA 1 (bI (aC 1 (aA 1 (bI (bI (aA 1 (aC 1 (aA 1 (aA 1 (aA 1 (aA 1 (aA 5 aE)))))))))))))) Q g w := by
  refine cR (T := Value × Value) (fun g : eL => (g 10, g 12)) (fun X t w => wI (fun _ _ _ _ _ dF _ lO w => X (dF, lO) w) k6 (g 1) (g 2) (g 5) (g 6) (g 8) t.1 (g 11) t.2 w) _ (by kernel_rfl) h (fun X g1 w1 ha hL => ?_)
  rw [← aO (s := 1) ha (by kernel_rfl)] at hL
  rw [← aO (s := 2) ha (by kernel_rfl)] at hL
  rw [← aO (s := 5) ha (by kernel_rfl)] at hL
  rw [← aO (s := 6) ha (by kernel_rfl)] at hL
  rw [← aO (s := 8) ha (by kernel_rfl)] at hL
  rw [← aO (s := 11) ha (by kernel_rfl)] at hL
  exact (Nh (aX (fun g2 w2 => X ((fun g : eL => (g 10, g 12)) g2) w2) Q) g1 w1 (fun _ _ _ _ _ dF _ lO w => X (dF, lO) w) k6 (fun _ _ h => h) h6 hL)
def wM (kn : K7) (bT t2 eB t6 t8 dF hJ lO : Value) (w : World) : Prop :=
  CQ kn bT t2 eB t6 t8 dF hJ lO w
theorem M0 (kn : K7) (hn : ∀ g w, kn (g 1) (g 2) (g 5) (g 6) (g 8) (g 10) (g 11) w → Q .normal g w) (h : wM kn (g 1) (g 2) (g 5) (g 6) (g 8) (g 10) (g 11) (g 12) w) : aQ pg aF (aA 1 (bI (aC 1 (aA 1 (bI (bI (aA 1 (aC 1 (aA 1 (aA 1 (aA 1 (aA 1 (aA 5 aE))))))))))))) Q g w :=
  cU 6 _ g w (by kernel_rfl) (Og (rP 6 Q) g w kn hn h)
def Dn (kn : K8) (bT t2 eB t6 t8 dF hJ : Value) (w : World) : Prop :=
  kn bT t2 eB t6 t8 dF hJ (.int .i64 0) w
theorem Oy (kn : K8) (hn : ∀ g w, kn (g 1) (g 2) (g 5) (g 6) (g 8) (g 10) (g 11) (g 12) w → Q .normal g w) (h : Dn kn (g 1) (g 2) (g 5) (g 6) (g 8) (g 10) (g 11) w) : aQ pg aF (aC 1 (bI (aC 1 (aA 1 (bI (bI (aA 1 (aC 1 (aA 1 (aA 1 (aA 1 (aA 1 (aA 5 aE))))))))))))) Q g w :=
  aI (kr := no) (l := []) (by kernel_rfl) h hn fG trivial
def Db (kn : K7) (bT t2 eB t6 t8 dF hJ : Value) (w : World) : Prop :=
  Dn (fun bT t2 eB t6 t8 dF hJ lO w => wM kn bT t2 eB t6 t8 dF hJ lO w) bT t2 eB t6 t8 dF hJ w
theorem Nf (kn : K7) (hn : ∀ g w, kn (g 1) (g 2) (g 5) (g 6) (g 8) (g 10) (g 11) w → Q .normal g w) (h : Db kn (g 1) (g 2) (g 5) (g 6) (g 8) (g 10) (g 11) w) : aQ pg aF (bI (aC 1 (aA 1 (bI (bI (aA 1 (aC 1 (aA 1 (aA 1 (aA 1 (aA 1 (aA 5 aE)))))))))))) Q g w :=
  aL 1 _ g w (by kernel_rfl) (Oy (aX (fun g w => aQ pg aF (aA 1 (bI (aC 1 (aA 1 (bI (bI (aA 1 (aC 1 (aA 1 (aA 1 (aA 1 (aA 1 (aA 5 aE))))))))))))) Q g w) Q) g w (fun bT t2 eB t6 t8 dF hJ lO w => wM kn bT t2 eB t6 t8 dF hJ lO w) (fun g w h => aS (K := fun g w => aQ pg aF (aA 1 (bI (aC 1 (aA 1 (bI (bI (aA 1 (aC 1 (aA 1 (aA 1 (aA 1 (aA 1 (aA 5 aE))))))))))))) Q g w) (M0 Q g w kn hn h)) h)
def Da (kn : K7) (bT t2 eB t6 t8 dF hJ : Value) (w : World) : Prop :=
  Db kn bT t2 eB t6 t8 dF hJ w
theorem Ns (kn : K7) (hn : ∀ g w, kn (g 1) (g 2) (g 5) (g 6) (g 8) (g 10) (g 11) w → Q .normal g w) (h : Da kn (g 1) (g 2) (g 5) (g 6) (g 8) (g 10) (g 11) w) : aQ pg aF (aC 1 (aA 1 (bI (bI (aA 1 (aC 1 (aA 1 (aA 1 (aA 1 (aA 1 (aA 5 aE))))))))))) Q g w :=
  cU 5 _ g w (by kernel_rfl) (Nf (rP 5 Q) g w kn hn h)
def wK (kn : K7) (bT t2 eB t6 t8 dF hJ : Value) (w : World) : Prop :=
  Da (fun bT t2 eB t6 t8 dF hJ w => xA kn bT t2 eB t6 t8 dF hJ w) bT t2 eB t6 t8 dF hJ w
theorem Ow (kn : K7) (hn : ∀ g w, kn (g 1) (g 2) (g 5) (g 6) (g 8) (g 10) (g 11) w → Q .normal g w) (h : wK kn (g 1) (g 2) (g 5) (g 6) (g 8) (g 10) (g 11) w) : aQ pg aF (aA 1 (bI (bI (aA 1 (aC 1 (aA 1 (aA 1 (aA 1 (aA 1 (aA 5 aE)))))))))) Q g w :=
  aL 1 _ g w (by kernel_rfl) (Ns (aX (fun g w => aQ pg aF (aA 1 (aA 1 (bI (bI (aA 1 (aC 1 (aA 1 (aA 1 (aA 1 (aA 1 (aA 5 aE))))))))))) Q g w) Q) g w (fun bT t2 eB t6 t8 dF hJ w => xA kn bT t2 eB t6 t8 dF hJ w) (fun g w h => aS (K := fun g w => aQ pg aF (aA 1 (aA 1 (bI (bI (aA 1 (aC 1 (aA 1 (aA 1 (aA 1 (aA 1 (aA 5 aE))))))))))) Q g w) (Ox Q g w kn hn h)) h)
def CX (kn : K7) (k4 : K4) (bT t2 eB t6 t8 dF hJ : Value) (w : World) : Prop :=
  aD pg (bA 86 bT 1) w fun t66 w =>
  aD pg (aW 62 t66) w fun t67 w =>
  aD pg (iJ .len #[62] 3 [t67]) w fun t68 w =>
  aD pg (aN .lss 3 (.tmp 65) (.tmp 68) hJ t68) w fun t69 w =>
  hH t69
    (kn bT t2 eB t6 t8 dF hJ w)
    (k4 bT t2 eB t6 w)
theorem Od (kn : K7) (k4 : K4) (hn : ∀ g w, kn (g 1) (g 2) (g 5) (g 6) (g 8) (g 10) (g 11) w → Q .normal g w) (h4 : ∀ g w, k4 (g 1) (g 2) (g 5) (g 6) w → Q (.exit 4) g w) (h : CX kn k4 (g 1) (g 2) (g 5) (g 6) (g 8) (g 10) (g 11) w) : aQ pg aF (aC 1 (bI (bI (aA 1 (aC 1 (aA 1 (aA 1 (aA 1 (aA 1 (aA 5 aE)))))))))) Q g w :=
  aI (kr := no) (l := [(4, fun g w => k4 (g 1) (g 2) (g 5) (g 6) w)]) (by kernel_rfl) h hn fG ⟨h4, trivial⟩
def wQ (kn : K7) (k4 : K4) (bT t2 eB t6 t8 dF hJ : Value) (w : World) : Prop :=
  CX (fun bT t2 eB t6 t8 dF hJ w => wK kn bT t2 eB t6 t8 dF hJ w) k4 bT t2 eB t6 t8 dF hJ w
theorem NA (kn : K7) (k4 : K4) (hn : ∀ g w, kn (g 1) (g 2) (g 5) (g 6) (g 8) (g 10) (g 11) w → Q .normal g w) (h4 : ∀ g w, k4 (g 1) (g 2) (g 5) (g 6) w → Q (.exit 4) g w) (h : wQ kn k4 (g 1) (g 2) (g 5) (g 6) (g 8) (g 10) (g 11) w) : aQ pg aF (bI (bI (aA 1 (aC 1 (aA 1 (aA 1 (aA 1 (aA 1 (aA 5 aE))))))))) Q g w :=
  aL 1 _ g w (by kernel_rfl) (Od (aX (fun g w => aQ pg aF (aA 1 (bI (bI (aA 1 (aC 1 (aA 1 (aA 1 (aA 1 (aA 1 (aA 5 aE)))))))))) Q g w) Q) g w (fun bT t2 eB t6 t8 dF hJ w => wK kn bT t2 eB t6 t8 dF hJ w) k4 (fun g w h => aS (K := fun g w => aQ pg aF (aA 1 (bI (bI (aA 1 (aC 1 (aA 1 (aA 1 (aA 1 (aA 1 (aA 5 aE)))))))))) Q g w) (Ow Q g w kn hn h)) h4 h)
def wE (k4 : K4) (bT t2 eB t6 t8 dF hJ : Value) (w : World) : Prop :=
  cV (fun (X : (Value × Value) → K0) (t : Value × Value) (w : World) => wQ (fun _ _ _ _ _ dF hJ w => X (dF, hJ) w) k4 bT t2 eB t6 t8 t.1 t.2 w) (dF, hJ) w
theorem Nx (k4 : K4) (h4 : ∀ g w, k4 (g 1) (g 2) (g 5) (g 6) w → Q (.exit 4) g w) (h : wE k4 (g 1) (g 2) (g 5) (g 6) (g 8) (g 10) (g 11) w) : aQ pg aF (bI (aA 1 (aC 1 (aA 1 (aA 1 (aA 1 (aA 1 (aA 5 aE)))))))) Q g w := by
  refine cR (T := Value × Value) (fun g : eL => (g 10, g 11)) (fun X t w => wQ (fun _ _ _ _ _ dF hJ w => X (dF, hJ) w) k4 (g 1) (g 2) (g 5) (g 6) (g 8) t.1 t.2 w) _ (by kernel_rfl) h (fun X g1 w1 ha hL => ?_)
  rw [← aO (s := 1) ha (by kernel_rfl)] at hL
  rw [← aO (s := 2) ha (by kernel_rfl)] at hL
  rw [← aO (s := 5) ha (by kernel_rfl)] at hL
  rw [← aO (s := 6) ha (by kernel_rfl)] at hL
  rw [← aO (s := 8) ha (by kernel_rfl)] at hL
  exact (NA (aX (fun g2 w2 => X ((fun g : eL => (g 10, g 11)) g2) w2) Q) g1 w1 (fun _ _ _ _ _ dF hJ w => X (dF, hJ) w) k4 (fun _ _ h => h) h4 hL)
def wS (kn : K4) (bT t2 eB t6 t8 dF hJ : Value) (w : World) : Prop :=
  wE kn bT t2 eB t6 t8 dF hJ w
theorem Ng (kn : K4) (hn : ∀ g w, kn (g 1) (g 2) (g 5) (g 6) w → Q .normal g w) (h : wS kn (g 1) (g 2) (g 5) (g 6) (g 8) (g 10) (g 11) w) : aQ pg aF (aA 1 (aC 1 (aA 1 (aA 1 (aA 1 (aA 1 (aA 5 aE))))))) Q g w :=
  cU 4 _ g w (by kernel_rfl) (Nx (rP 4 Q) g w kn hn h)
def Dq (kn : K7) (bT t2 eB t6 t8 dF : Value) (w : World) : Prop :=
  kn bT t2 eB t6 t8 dF (.int .i64 0) w
theorem Or (kn : K7) (hn : ∀ g w, kn (g 1) (g 2) (g 5) (g 6) (g 8) (g 10) (g 11) w → Q .normal g w) (h : Dq kn (g 1) (g 2) (g 5) (g 6) (g 8) (g 10) w) : aQ pg aF (aC 1 (aC 1 (aA 1 (aA 1 (aA 1 (aA 1 (aA 5 aE))))))) Q g w :=
  aI (kr := no) (l := []) (by kernel_rfl) h hn fG trivial
def Dc (kn : K4) (bT t2 eB t6 t8 dF : Value) (w : World) : Prop :=
  Dq (fun bT t2 eB t6 t8 dF hJ w => wS kn bT t2 eB t6 t8 dF hJ w) bT t2 eB t6 t8 dF w
theorem Ov (kn : K4) (hn : ∀ g w, kn (g 1) (g 2) (g 5) (g 6) w → Q .normal g w) (h : Dc kn (g 1) (g 2) (g 5) (g 6) (g 8) (g 10) w) : aQ pg aF (aC 1 (aA 1 (aA 1 (aA 1 (aA 1 (aA 5 aE)))))) Q g w :=
  aL 1 _ g w (by kernel_rfl) (Or (aX (fun g w => aQ pg aF (aA 1 (aC 1 (aA 1 (aA 1 (aA 1 (aA 1 (aA 5 aE))))))) Q g w) Q) g w (fun bT t2 eB t6 t8 dF hJ w => wS kn bT t2 eB t6 t8 dF hJ w) (fun g w h => aS (K := fun g w => aQ pg aF (aA 1 (aC 1 (aA 1 (aA 1 (aA 1 (aA 1 (aA 5 aE))))))) Q g w) (Ng Q g w kn hn h)) h)
def vO (R : K1) (bT t2 eB t6 t8 dF : Value) (w : World) : Prop :=
  Dc (fun bT t2 eB t6 w => pU R bT t2 eB t6 w) bT t2 eB t6 t8 dF w
theorem Nb (R : K1) (hr : HR eQ R Q) (h : vO R (g 1) (g 2) (g 5) (g 6) (g 8) (g 10) w) : aQ pg aF (aA 1 (aA 1 (aA 1 (aA 1 (aA 5 aE))))) Q g w :=
  aL 1 _ g w (by kernel_rfl) (Ov (aX (fun g w => aQ pg aF (aA 1 (aA 1 (aA 1 (aA 1 (aA 1 (aA 5 aE)))))) Q g w) Q) g w (fun bT t2 eB t6 w => pU R bT t2 eB t6 w) (fun g w h => aS (K := fun g w => aQ pg aF (aA 1 (aA 1 (aA 1 (aA 1 (aA 1 (aA 5 aE)))))) Q g w) (Nn Q g w R hr h)) h)
def CZ (kn : K6) (bT t2 eB t6 t8 : Value) (w : World) : Prop :=
  kn bT t2 eB t6 t8 (.int .i64 0) w
theorem M6 (kn : K6) (hn : ∀ g w, kn (g 1) (g 2) (g 5) (g 6) (g 8) (g 10) w → Q .normal g w) (h : CZ kn (g 1) (g 2) (g 5) (g 6) (g 8) w) : aQ pg aF (aC 1 (aA 1 (aA 1 (aA 1 (aA 5 aE))))) Q g w :=
  aI (kr := no) (l := []) (by kernel_rfl) h hn fG trivial
def vS (R : K1) (bT t2 eB t6 t8 : Value) (w : World) : Prop :=
  CZ (fun bT t2 eB t6 t8 dF w => vO R bT t2 eB t6 t8 dF w) bT t2 eB t6 t8 w
theorem Nd (R : K1) (hr : HR eQ R Q) (h : vS R (g 1) (g 2) (g 5) (g 6) (g 8) w) : aQ pg aF (aA 1 (aA 1 (aA 1 (aA 5 aE)))) Q g w :=
  aL 1 _ g w (by kernel_rfl) (M6 (aX (fun g w => aQ pg aF (aA 1 (aA 1 (aA 1 (aA 1 (aA 5 aE))))) Q g w) Q) g w (fun bT t2 eB t6 t8 dF w => vO R bT t2 eB t6 t8 dF w) (fun g w h => aS (K := fun g w => aQ pg aF (aA 1 (aA 1 (aA 1 (aA 1 (aA 5 aE))))) Q g w) (Nb Q g w R hr h)) h)
def qF (kn : K6) (bT t2 eB t6 t8 pI : Value) (w : World) : Prop :=
  aD pg (aN .add 3 (.tmp 49) (.const (.int .i64 1)) pI (.int .i64 1)) w fun t50 w =>
  kn bT t2 eB t6 t8 t50 w
theorem Nl (kn : K6) (hn : ∀ g w, kn (g 1) (g 2) (g 5) (g 6) (g 8) (g 9) w → Q .normal g w) (h : qF kn (g 1) (g 2) (g 5) (g 6) (g 8) (g 9) w) : aQ pg aF (aA 2 (bI (bI (aA 1 (aC 1 (aA 1 (aA 1 (aA 5 aE)))))))) Q g w :=
  aI (kr := no) (l := []) (by kernel_rfl) h hn fG trivial
def Do (kn : K6) (k2 : K5) (bT t2 eB t6 t8 pI : Value) (w : World) : Prop :=
  aD pg (bA 86 bT 1) w fun t45 w =>
  aD pg (aW 62 t45) w fun t46 w =>
  aD pg (iJ .len #[62] 3 [t46]) w fun t47 w =>
  aD pg (aN .lss 3 (.tmp 44) (.tmp 47) pI t47) w fun t48 w =>
  hH t48
    (aD pg (bA 86 bT 1) w fun t51 w =>
    aD pg (aW 62 t51) w fun t52 w =>
    aD pg (cD 62 t52 pI) w fun t54 w =>
    aD pg (aW 3 t54) w fun t55 w =>
    aD pg (aN .lss 3 (.tmp 55) (.const (.int .i64 0)) t55 (.int .i64 0)) w fun t56 w =>
    hH t56
      (aD pg (bA 96 t6 1) w fun t57 w =>
      aD pg (aW 94 t57) w fun t58 w =>
      aD pg (cD 94 t58 t8) w fun t61 w =>
      aD pg (bA 103 t61 0) w fun t62 w =>
      aD pg (cB 3 t62 pI) w fun _u w =>
      aD pg (aN .sub 3 (.tmp 63) (.const (.int .i64 1)) t8 (.int .i64 1)) w fun t64 w =>
      kn bT t2 eB t6 t64 pI w)
      (kn bT t2 eB t6 t8 pI w))
    (k2 bT t2 eB t6 t8 w)
theorem Nw (kn : K6) (k2 : K5) (hn : ∀ g w, kn (g 1) (g 2) (g 5) (g 6) (g 8) (g 9) w → Q .normal g w) (h2 : ∀ g w, k2 (g 1) (g 2) (g 5) (g 6) (g 8) w → Q (.exit 2) g w) (h : Do kn k2 (g 1) (g 2) (g 5) (g 6) (g 8) (g 9) w) : aQ pg aF (aC 2 (bI (bI (aA 1 (aC 1 (aA 1 (aA 1 (aA 5 aE)))))))) Q g w :=
  aI (kr := no) (l := [(2, fun g w => k2 (g 1) (g 2) (g 5) (g 6) (g 8) w)]) (by kernel_rfl) h hn fG ⟨h2, trivial⟩
def vL (kn : K6) (k2 : K5) (bT t2 eB t6 t8 pI : Value) (w : World) : Prop :=
  Do (fun bT t2 eB t6 t8 pI w => qF kn bT t2 eB t6 t8 pI w) k2 bT t2 eB t6 t8 pI w
theorem OL (kn : K6) (k2 : K5) (hn : ∀ g w, kn (g 1) (g 2) (g 5) (g 6) (g 8) (g 9) w → Q .normal g w) (h2 : ∀ g w, k2 (g 1) (g 2) (g 5) (g 6) (g 8) w → Q (.exit 2) g w) (h : vL kn k2 (g 1) (g 2) (g 5) (g 6) (g 8) (g 9) w) : aQ pg aF (bI (bI (aA 1 (aC 1 (aA 1 (aA 1 (aA 5 aE))))))) Q g w :=
  aL 2 _ g w (by kernel_rfl) (Nw (aX (fun g w => aQ pg aF (aA 2 (bI (bI (aA 1 (aC 1 (aA 1 (aA 1 (aA 5 aE)))))))) Q g w) Q) g w (fun bT t2 eB t6 t8 pI w => qF kn bT t2 eB t6 t8 pI w) k2 (fun g w h => aS (K := fun g w => aQ pg aF (aA 2 (bI (bI (aA 1 (aC 1 (aA 1 (aA 1 (aA 5 aE)))))))) Q g w) (Nl Q g w kn hn h)) h2 h)
def wO (k2 : K5) (bT t2 eB t6 t8 pI : Value) (w : World) : Prop :=
  cV (fun (X : (Value × Value) → K0) (t : Value × Value) (w : World) => vL (fun _ _ _ _ t8 pI w => X (t8, pI) w) k2 bT t2 eB t6 t.1 t.2 w) (t8, pI) w
theorem Ol (k2 : K5) (h2 : ∀ g w, k2 (g 1) (g 2) (g 5) (g 6) (g 8) w → Q (.exit 2) g w) (h : wO k2 (g 1) (g 2) (g 5) (g 6) (g 8) (g 9) w) : aQ pg aF (bI (aA 1 (aC 1 (aA 1 (aA 1 (aA 5 aE)))))) Q g w := by
  refine cR (T := Value × Value) (fun g : eL => (g 8, g 9)) (fun X t w => vL (fun _ _ _ _ t8 pI w => X (t8, pI) w) k2 (g 1) (g 2) (g 5) (g 6) t.1 t.2 w) _ (by kernel_rfl) h (fun X g1 w1 ha hL => ?_)
  rw [← aO (s := 1) ha (by kernel_rfl)] at hL
  rw [← aO (s := 2) ha (by kernel_rfl)] at hL
  rw [← aO (s := 5) ha (by kernel_rfl)] at hL
  rw [← aO (s := 6) ha (by kernel_rfl)] at hL
  exact (OL (aX (fun g2 w2 => X ((fun g : eL => (g 8, g 9)) g2) w2) Q) g1 w1 (fun _ _ _ _ t8 pI w => X (t8, pI) w) k2 (fun _ _ h => h) h2 hL)
def wX (kn : K5) (bT t2 eB t6 t8 pI : Value) (w : World) : Prop :=
  wO kn bT t2 eB t6 t8 pI w
theorem Oj (kn : K5) (hn : ∀ g w, kn (g 1) (g 2) (g 5) (g 6) (g 8) w → Q .normal g w) (h : wX kn (g 1) (g 2) (g 5) (g 6) (g 8) (g 9) w) : aQ pg aF (aA 1 (aC 1 (aA 1 (aA 1 (aA 5 aE))))) Q g w :=
  cU 2 _ g w (by kernel_rfl) (Ol (rP 2 Q) g w kn hn h)
def Ds (kn : K6) (bT t2 eB t6 t8 : Value) (w : World) : Prop :=
  kn bT t2 eB t6 t8 (.int .i64 0) w
theorem OC (kn : K6) (hn : ∀ g w, kn (g 1) (g 2) (g 5) (g 6) (g 8) (g 9) w → Q .normal g w) (h : Ds kn (g 1) (g 2) (g 5) (g 6) (g 8) w) : aQ pg aF (aC 1 (aC 1 (aA 1 (aA 1 (aA 5 aE))))) Q g w :=
  aI (kr := no) (l := []) (by kernel_rfl) h hn fG trivial
def C8 (kn : K5) (bT t2 eB t6 t8 : Value) (w : World) : Prop :=
  Ds (fun bT t2 eB t6 t8 pI w => wX kn bT t2 eB t6 t8 pI w) bT t2 eB t6 t8 w
theorem No (kn : K5) (hn : ∀ g w, kn (g 1) (g 2) (g 5) (g 6) (g 8) w → Q .normal g w) (h : C8 kn (g 1) (g 2) (g 5) (g 6) (g 8) w) : aQ pg aF (aC 1 (aA 1 (aA 1 (aA 5 aE)))) Q g w :=
  aL 1 _ g w (by kernel_rfl) (OC (aX (fun g w => aQ pg aF (aA 1 (aC 1 (aA 1 (aA 1 (aA 5 aE))))) Q g w) Q) g w (fun bT t2 eB t6 t8 pI w => wX kn bT t2 eB t6 t8 pI w) (fun g w h => aS (K := fun g w => aQ pg aF (aA 1 (aC 1 (aA 1 (aA 1 (aA 5 aE))))) Q g w) (Oj Q g w kn hn h)) h)
def wY (R : K1) (bT t2 eB t6 t8 : Value) (w : World) : Prop :=
  C8 (fun bT t2 eB t6 t8 w => vS R bT t2 eB t6 t8 w) bT t2 eB t6 t8 w
theorem OE (R : K1) (hr : HR eQ R Q) (h : wY R (g 1) (g 2) (g 5) (g 6) (g 8) w) : aQ pg aF (aA 1 (aA 1 (aA 5 aE))) Q g w :=
  aL 1 _ g w (by kernel_rfl) (No (aX (fun g w => aQ pg aF (aA 1 (aA 1 (aA 1 (aA 5 aE)))) Q g w) Q) g w (fun bT t2 eB t6 t8 w => vS R bT t2 eB t6 t8 w) (fun g w h => aS (K := fun g w => aQ pg aF (aA 1 (aA 1 (aA 1 (aA 5 aE)))) Q g w) (Nd Q g w R hr h)) h)
def CR (kn : K5) (bT t2 eB t6 : Value) (w : World) : Prop :=
  aD pg (aN .sub 3 (.tmp 42) (.const (.int .i64 1)) eB (.int .i64 1)) w fun t43 w =>
  kn bT t2 eB t6 t43 w
theorem M4 (kn : K5) (hn : ∀ g w, kn (g 1) (g 2) (g 5) (g 6) (g 8) w → Q .normal g w) (h : CR kn (g 1) (g 2) (g 5) (g 6) w) : aQ pg aF (aC 1 (aA 1 (aA 5 aE))) Q g w :=
  aI (kr := no) (l := []) (by kernel_rfl) h hn fG trivial
def wJ (R : K1) (bT t2 eB t6 : Value) (w : World) : Prop :=
  CR (fun bT t2 eB t6 t8 w => wY R bT t2 eB t6 t8 w) bT t2 eB t6 w
theorem N6 (R : K1) (hr : HR eQ R Q) (h : wJ R (g 1) (g 2) (g 5) (g 6) w) : aQ pg aF (aA 1 (aA 5 aE)) Q g w :=
  aL 1 _ g w (by kernel_rfl) (M4 (aX (fun g w => aQ pg aF (aA 1 (aA 1 (aA 5 aE))) Q g w) Q) g w (fun bT t2 eB t6 t8 w => wY R bT t2 eB t6 t8 w) (fun g w h => aS (K := fun g w => aQ pg aF (aA 1 (aA 1 (aA 5 aE))) Q g w) (OE Q g w R hr h)) h)
def vQ (kn : K5) (k0 : K4) (bT t2 eB t6 FW : Value) (w : World) : Prop :=
  aD pg (aN .lss 3 (.tmp 31) (.tmp 32) FW eB) w fun t33 w =>
  hH t33
    (aD pg (bA 96 t6 1) w fun t36 w =>
    aD pg (aW 94 t36) w fun t37 w =>
    aD pg (fV 103 [(0, (.int .i64 (-1)))]) w fun t38 w =>
    aD pg (cQ 94 1 [(0, t38)]) w fun t39 w =>
    aD pg (iJ .append #[94, 94] 94 [t37, t39]) w fun t40 w =>
    aD pg (bA 96 t6 1) w fun t41 w =>
    aD pg (cB 94 t41 t40) w fun _u w =>
    aD pg (aN .add 3 (.tmp 34) (.const (.int .i64 1)) FW (.int .i64 1)) w fun t35 w =>
    kn bT t2 eB t6 t35 w)
    (k0 bT t2 eB t6 w)
theorem NZ (kn : K5) (k0 : K4) (hn : ∀ g w, kn (g 1) (g 2) (g 5) (g 6) (g 7) w → Q .normal g w) (h0 : ∀ g w, k0 (g 1) (g 2) (g 5) (g 6) w → Q (.exit 0) g w) (h : vQ kn k0 (g 1) (g 2) (g 5) (g 6) (g 7) w) : aQ pg aF (bI (bI (aA 1 (aC 1 (aA 5 aE))))) Q g w :=
  aI (kr := no) (l := [(0, fun g w => k0 (g 1) (g 2) (g 5) (g 6) w)]) (by kernel_rfl) h hn fG ⟨h0, trivial⟩
def wR (k0 : K4) (bT t2 eB t6 FW : Value) (w : World) : Prop :=
  cV (fun (X : Value → K0) (t : Value) (w : World) => vQ (fun _ _ _ _ FW w => X FW w) k0 bT t2 eB t6 t w) FW w
theorem Oe (k0 : K4) (h0 : ∀ g w, k0 (g 1) (g 2) (g 5) (g 6) w → Q (.exit 0) g w) (h : wR k0 (g 1) (g 2) (g 5) (g 6) (g 7) w) : aQ pg aF (bI (aA 1 (aC 1 (aA 5 aE)))) Q g w := by
  refine cR (T := Value) (fun g : eL => g 7) (fun X t w => vQ (fun _ _ _ _ FW w => X FW w) k0 (g 1) (g 2) (g 5) (g 6) t w) _ (by kernel_rfl) h (fun X g1 w1 ha hL => ?_)
  rw [← aO (s := 1) ha (by kernel_rfl)] at hL
  rw [← aO (s := 2) ha (by kernel_rfl)] at hL
  rw [← aO (s := 5) ha (by kernel_rfl)] at hL
  rw [← aO (s := 6) ha (by kernel_rfl)] at hL
  exact (NZ (aX (fun g2 w2 => X ((fun g : eL => g 7) g2) w2) Q) g1 w1 (fun _ _ _ _ FW w => X FW w) k0 (fun _ _ h => h) h0 hL)
def wV (kn : K4) (bT t2 eB t6 FW : Value) (w : World) : Prop :=
  wR kn bT t2 eB t6 FW w
theorem NU (kn : K4) (hn : ∀ g w, kn (g 1) (g 2) (g 5) (g 6) w → Q .normal g w) (h : wV kn (g 1) (g 2) (g 5) (g 6) (g 7) w) : aQ pg aF (aA 1 (aC 1 (aA 5 aE))) Q g w :=
  cU 0 _ g w (by kernel_rfl) (Oe (rP 0 Q) g w kn hn h)
def Du (kn : K5) (bT t2 eB t6 : Value) (w : World) : Prop :=
  kn bT t2 eB t6 (.int .i64 0) w
theorem ON (kn : K5) (hn : ∀ g w, kn (g 1) (g 2) (g 5) (g 6) (g 7) w → Q .normal g w) (h : Du kn (g 1) (g 2) (g 5) (g 6) w) : aQ pg aF (aC 1 (aC 1 (aA 5 aE))) Q g w :=
  aI (kr := no) (l := []) (by kernel_rfl) h hn fG trivial
def C9 (kn : K4) (bT t2 eB t6 : Value) (w : World) : Prop :=
  Du (fun bT t2 eB t6 FW w => wV kn bT t2 eB t6 FW w) bT t2 eB t6 w
theorem MZ (kn : K4) (hn : ∀ g w, kn (g 1) (g 2) (g 5) (g 6) w → Q .normal g w) (h : C9 kn (g 1) (g 2) (g 5) (g 6) w) : aQ pg aF (aC 1 (aA 5 aE)) Q g w :=
  aL 1 _ g w (by kernel_rfl) (ON (aX (fun g w => aQ pg aF (aA 1 (aC 1 (aA 5 aE))) Q g w) Q) g w (fun bT t2 eB t6 FW w => wV kn bT t2 eB t6 FW w) (fun g w h => aS (K := fun g w => aQ pg aF (aA 1 (aC 1 (aA 5 aE))) Q g w) (NU Q g w kn hn h)) h)
def wT (R : K1) (bT t2 eB t6 : Value) (w : World) : Prop :=
  C9 (fun bT t2 eB t6 w => wJ R bT t2 eB t6 w) bT t2 eB t6 w
theorem OO (R : K1) (hr : HR eQ R Q) (h : wT R (g 1) (g 2) (g 5) (g 6) w) : aQ pg aF (aA 5 aE) Q g w :=
  aL 1 _ g w (by kernel_rfl) (MZ (aX (fun g w => aQ pg aF (aA 1 (aA 5 aE)) Q g w) Q) g w (fun bT t2 eB t6 w => wJ R bT t2 eB t6 w) (fun g w h => aS (K := fun g w => aQ pg aF (aA 1 (aA 5 aE)) Q g w) (N6 Q g w R hr h)) h)
def Dp (kn : K4) (R : K1) (VP : Value) (w : World) : Prop :=
  aD pg (Ej 86 VP) w fun bT w =>
  aD pg (hT 96) w fun t2 w =>
  aD pg (aW 86 bT) w fun t20 w =>
  cC pg B8 #[t20, (.int .i64 15)] w fun t21 w =>
  aD pg (aN .neq 24 (.tmp 22) (.const (.int .i64 0)) t21 (.int .i64 0)) w fun t23 w =>
  hH t23
    (aD pg (fV 96 []) w fun t24 w =>
    aD pg (cB 96 t2 t24) w fun _u w =>
    F1 pg 96 t2 w fun r0 => R (.tuple #[r0, (.int .i64 1)]) w)
    (aD pg (bA 86 bT 0) w fun t25 w =>
    aD pg (aW 3 t25) w fun t26 w =>
    cC pg iE #[t26] w fun t27 w =>
    aD pg (bA 86 bT 0) w fun t28 w =>
    aD pg (aW 3 t28) w fun t29 w =>
    aD pg (fV 96 [(0, t29)]) w fun t30 w =>
    aD pg (hT 96) w fun t6 w =>
    aD pg (cB 96 t6 t30) w fun _u w =>
    kn bT t2 t27 t6 w)
theorem NV (kn : K4) (R : K1) (hn : ∀ g w, kn (g 1) (g 2) (g 5) (g 6) w → Q .normal g w) (hr : HR eQ R Q) (h : Dp kn R (g 0) w) : aQ pg aF (aC 5 aE) Q g w :=
  aI (l := []) (by kernel_rfl) h hn hr trivial
def C2 (R : K1) (VP : Value) (w : World) : Prop :=
  Dp (fun bT t2 eB t6 w => wT R bT t2 eB t6 w) R VP w
theorem M1 (R : K1) (hr : HR eQ R Q) (h : C2 R (g 0) w) : aQ pg aF aE Q g w :=
  aL 5 _ g w (by kernel_rfl) (NV (aX (fun g w => aQ pg aF (aA 5 aE) Q g w) Q) g w (fun bT t2 eB t6 w => wT R bT t2 eB t6 w) R (fun g w h => aS (K := fun g w => aQ pg aF (aA 5 aE) Q g w) (OO Q g w R hr h)) hr h)
def Uc (a0 : Value) (w : World) (R : K1) : Prop :=
  C2 R a0 w
theorem S8 {a0 : Value} {w : World} {R : K1} (h : Uc a0 w R) : cC pg B1 #[a0] w R := by
  refine bQ (ann := aF) (fn := Try.f45) (c := aE) (args := [a0]) (rs := eQ) (N := 185) TryM.mixed (by kernel_rfl) Try.func45 (by kernel_rfl) (by kernel_rfl) (by kernel_rfl) (of_decide_eq_true (by kernel_rfl)) (by kernel_rfl) ?_
  exact (M1 (jT pg eQ R) (gE [a0]) w R (fun _ _ h => h) h)
def Jd : FA := ⟨vB, fun i => .leaf ([], []) []⟩
def FI : List ResultVar := [.cell 4 91, .tmp 5]
noncomputable def Hv : Code := fB Try.f46
def E3 (R : K1) (t0 b_1 : Value) (w : World) : Prop :=
  aD pg (Ej 96 t0) w fun t2 w =>
  aD pg (Ej 91 b_1) w fun b_3 w =>
  aD pg (hT 91) w fun t4 w =>
  aD pg (aW 91 b_3) w fun t8 w =>
  aD pg (bA 96 t2 0) w fun t9 w =>
  aD pg (aW 3 t9) w fun t10 w =>
  cC pg Ay #[t8, t10] w fun t11 w =>
  aD pg (dV t11 0) w fun t12 w =>
  aD pg (dV t11 1) w fun t13 w =>
  aD pg (cB 91 b_3 t12) w fun _u w =>
  aD pg (aW 91 b_3) w fun t14 w =>
  aD pg (jH 44 3 t13) w fun t16 w =>
  aD pg (cB 91 t4 t14) w fun _u w =>
  F1 pg 91 t4 w fun r0 => R (.tuple #[r0, t16]) w
theorem RI (R : K1) (hr : HR FI R Q) (h : E3 R (g 0) (g 1) w) : aQ pg Jd Hv Q g w :=
  aI (kn := no) (l := []) (by kernel_rfl) h fG hr trivial
def TO (a0 a1 : Value) (w : World) (R : K1) : Prop :=
  E3 R a0 a1 w
theorem Tu {a0 a1 : Value} {w : World} {R : K1} (h : TO a0 a1 w R) : cC pg vB #[a0, a1] w R := by
  refine bQ (ann := Jd) (fn := Try.f46) (c := Hv) (args := [a0, a1]) (rs := FI) (N := 17) TryM.mixed (by kernel_rfl) Try.func46 (by kernel_rfl) (by kernel_rfl) (by kernel_rfl) (of_decide_eq_true (by kernel_rfl)) (by kernel_rfl) ?_
  exact (RI (jT pg FI R) (gE [a0, a1]) w R (fun _ _ h => h) h)
def LD : FA := ⟨zX, fun i => .leaf ([], []) []⟩
def GR : List ResultVar := [.tmp 2]
noncomputable def Jo : Code := fB Try.f47
def GF (R : K1) (gL : Value) (w : World) : Prop :=
  aD pg (Ej 91 gL) w fun b_1 w =>
  aD pg (bA 91 b_1 0) w fun t3 w =>
  aD pg (aW 89 t3) w fun t4 w =>
  aD pg (iJ .len #[89] 3 [t4]) w fun t5 w =>
  aD pg (bA 91 b_1 1) w fun t6 w =>
  aD pg (aW 3 t6) w fun t7 w =>
  aD pg (aN .sub 3 (.tmp 5) (.tmp 7) t5 t7) w fun t8 w =>
  R t8 w
theorem SY (R : K1) (hr : HR GR R Q) (h : GF R (g 0) w) : aQ pg LD Jo Q g w :=
  aI (kn := no) (l := []) (by kernel_rfl) h fG hr trivial
def Wd (a0 : Value) (w : World) (R : K1) : Prop :=
  GF R a0 w
theorem Uy {a0 : Value} {w : World} {R : K1} (h : Wd a0 w R) : cC pg zX #[a0] w R := by
  refine bQ (ann := LD) (fn := Try.f47) (c := Jo) (args := [a0]) (rs := GR) (N := 9) TryM.mixed (by kernel_rfl) Try.func47 (by kernel_rfl) (by kernel_rfl) (by kernel_rfl) (of_decide_eq_true (by kernel_rfl)) (by kernel_rfl) ?_
  exact (SY (jT pg GR R) (gE [a0]) w R (fun _ _ h => h) h)
end Go.Proofs.Ytoepfjgekpdddaa

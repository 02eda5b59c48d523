/- Parts of the proof of TablesWrites: merged and given short names by a program of ours. -/
import Derived.Orders
import Derived.Below
import Derived.KernelRfl
import Derived.Eval
import Derived.Laws.Sem
import Derived.Scope
import Derived.Test.YtoepfjgekpdddaaDoorRows
namespace Go.En
open Go
abbrev jT := Nat → Value
def put (g : jT) (d : Option Tmp) (v : Value) : jT :=
  match d with
  | some d => fun i => match Nat.beq i d with | true => v | false => g i
  | none => g
def ev (g : jT) : Operand → Value
  | .tmp t => g t
  | .const v => v
  | .global b => .pointer (some ⟨b, 0, none⟩)
  | .func f => .func (.func f) #[] #[]
def Ret (P : Program) (f : FuncId) (args : Array Value) (w : World) (v : Value) (w' : World) : Prop :=
  Calls P f args w fun e w'' => e = .returned v ∧ w'' = w'
def hJ (P : Program) (f : FuncId) (args : Array Value) (w : World) (R : Value → World → Prop) : Prop :=
  ∃ v w', Ret P f args w v w' ∧ R v w'
theorem hJ.mono {P : Program} {f : FuncId} {args : Array Value} {w : World} {R R' : Value → World → Prop} (h : hJ P f args w R)
    (hr : ∀ v w', R v w' → R' v w') : hJ P f args w R' :=
  let ⟨v, w', a, b⟩ := h; ⟨v, w', a, hr _ _ b⟩
def XU (P : Program) (r : Result Next) (K : Value → World → Prop) : Prop :=
  match r with
  | .ok (.value v) w => K v w
  | .ok .skip w => K undef w
  | .ok (.enter f args) w => hJ P f args w K
  | _ => False
theorem aF (P : Program) (v : Value) (w : World) (K : Value → World → Prop) : XU P (.ok (.value v) w) K = K v w := Eq.trans rfl rfl
theorem dO (P : Program) (w : World) (K : Value → World → Prop) : XU P (.ok .skip w) K = K undef w := Eq.trans rfl rfl
def cO (P : Program) (s : Sem Next) (w : World) (K : Value → World → Prop) : Prop := XU P (s.run P w) K
def gY (P : Program) (s : Sem Next) (v : Value) (w : World) : Prop := s.run P w = .ok (.value v) w
def Gd (b : Bool) (s : (Value → World → Prop) → Prop) (w : World) (K : Value → World → Prop) : Prop :=
  match b with
  | true => s K
  | false => K undef w
def asB (v : Value) : Option Bool := match v with | .bool b => some b | _ => none
def kA (v : Value) (want : Bool) : Bool := asB v == some want
def lM (v : Value) (A B : Prop) : Prop :=
  match v with
  | .bool b => (match b with | true => A | false => B)
  | _ => False
def Aa (ops : Array Oper) (j : Nat) : Option Tmp := (ops[j]?).bind (·.dst)
def vK (g : jT) (t : Option Tmp) (want : Bool) : Bool := match t with | some t => kA (g t) want | none => false
def V (s : Sem Value) : Sem Next := do pure (.value (← s))
def U (s : Sem Unit) : Sem Next := do s; pure .skip
def EA (op : BinOp) : Bool := match op with | .eql | .neq => true | _ => false
def eF (op : BinOp) (t : TypeId) (ox oy : Operand) (x y : Value) : Sem Next :=
  match EA op with
  | true => V (do eqGuard op t ox oy x y; binOp op t x y)
  | false => V (binOp op t x y)
def nA (b : Builtin) (ats : Array TypeId) (ty : TypeId) (args : List Value) : Sem Next := builtin b ats ty #[] args.toArray
def iH (t : TypeId) (ps : List (Nat × Value)) : Sem Next := V (Instr.build t ps.toArray)
def iE (t : TypeId) (n : Nat) (ps : List (Nat × Value)) : Sem Next := V (Instr.buildSlice t n ps.toArray)
def Gj (g : jT) (o : Oper) : Sem Next :=
  match o.op with
  | .binOp op t x y _ => eF op t x y (ev g x) (ev g y)
  | .build t ps => iH t (ps.toList.map fun p => (p.1, ev g p.2))
  | .buildSlice t n ps => iE t n (ps.toList.map fun p => (p.1, ev g p.2))
  | .call c => (match c.callee with
    | .builtin b => nA b c.argTypes o.type (c.args.toList.map (ev g))
    | _ => execOp (ev g) o)
  | _ => execOp (ev g) o
def E3 (P : Program) (g : jT) (o : Oper) (w : World) (K : Value → World → Prop) : Prop :=
  match o.op with
  | .move x => K (ev g x) w
  | .assign x => K (ev g x) w
  | .call c => (match c.callee with
    | .value (.func f) => hJ P f (c.args.toList.map (ev g)).toArray w K
    | _ => cO P (Gj g o) w K)
  | _ => cO P (Gj g o) w K
def Dk (P : Program) (ops : Array Oper) (g : jT) (o : Oper) (w : World) (K : Value → World → Prop) : Prop :=
  match o.guard with
  | none => E3 P g o w K
  | some (j, want) => Gd (vK g (Aa ops j) want) (E3 P g o w) w K
def Sv (P : Program) (ops : Array Oper) : List Oper → jT → World → (jT → World → Prop) → Prop
  | [], g, w, K => K g w
  | o :: rest, g, w, K => Dk P ops g o w fun v w' => Sv P ops rest (put g o.dst v) w' K
structure Yk where
  heavy : Bool
  o : Oper
  g : jT
  w : World
  v : Value
def gOf (ops : Array Oper) (o : Oper) (g : jT) : Bool := match o.guard with | none => true | some (j, want) => vK g (Aa ops j) want
def Gs (b : Bool) (p : Prop) : Prop := match b with | true => p | false => True
def KT (P : Program) (ops : Array Oper) (q : Yk) (o : Oper) (g : jT) (w' : World) (v : Value) : Prop :=
  match q.heavy with
  | true => Gs (gOf ops o g) (gY P (Gj g o) v q.w)
  | false => Gs (gOf ops q.o q.g) (gY P (Gj q.g q.o) q.v w')
def SF (i j : Nat) : List (Nat × Nat) → Bool
  | [] => false
  | (a, b) :: r => match Nat.beq a i with
    | true => (match Nat.beq b j with | true => true | false => SF i j r)
    | false => SF i j r
def pH (i : Nat) : List Nat → Bool
  | [] => false
  | a :: r => match Nat.beq a i with | true => true | false => pH i r
def Ur : List Yk → Nat → Option Yk
  | [], _ => none
  | q :: _, 0 => some q
  | _ :: r, n + 1 => Ur r n
def YK (P : Program) (ops : Array Oper) (o : Oper) (g : jT) (w' : World) (v : Value) (hist : List Yk) : List Nat → Prop
  | [] => True
  | k :: ks => (match Ur hist k with
    | some q => KT P ops q o g w' v
    | none => False) ∧ YK P ops o g w' v hist ks
abbrev Wc := List Nat × List (Nat × Nat)
abbrev Uv := List (Bool × List Nat)
def pV (P : Program) (ops : Array Oper) : List Oper → Uv → List Yk → jT → World → (jT → World → Prop) → Prop
  | [], _, _, g, w, K => K g w
  | _ :: _, [], _, _, _, _ => False
  | o :: rest, (hv, ks) :: pl, hist, g, w, K =>
    Dk P ops g o w fun v w' =>
      match hv, ks with
      | true, [] => pV P ops rest pl (⟨true, o, g, w, v⟩ :: hist) (put g o.dst v) w' K
      | true, k :: ks => YK P ops o g w' v hist (k :: ks) ∧ pV P ops rest pl (⟨true, o, g, w, v⟩ :: hist) (put g o.dst v) w' K
      | false, [] => w' = w ∧ pV P ops rest pl (⟨false, o, g, w, v⟩ :: hist) (put g o.dst v) w K
      | false, k :: ks => w' = w ∧ YK P ops o g w v hist (k :: ks) ∧ pV P ops rest pl (⟨false, o, g, w, v⟩ :: hist) (put g o.dst v) w K
def iY {α : Type} (F : (α → World → Prop) → α → World → Prop) (g : α) (w : World) : Prop :=
  ∃ I : Nat → α → World → Prop, (∃ n, I n g w) ∧ ∀ n g w, I n g w → F (fun g' w' => ∃ m, m < n ∧ I m g' w') g w
def fH (K : jT → World → Prop) (Q : Exit → jT → World → Prop) : Exit → jT → World → Prop
  | .normal, g, w => K g w
  | e, g, w => Q e g w
def vI (id : Nat) (Q : Exit → jT → World → Prop) : Exit → jT → World → Prop
  | .exit i, g, w => (match Nat.beq i id with | true => Q .normal g w | false => Q (.exit i) g w)
  | e, g, w => Q e g w
inductive HT where
  | leaf (an : Wc) (pl : Uv)
  | perm (π : List Nat) (es : List (Nat × Nat)) (an : Wc) (pl : Uv)
  | split (a b : Nat) (x y : HT)
structure FA where
  f : FuncId
  t : Nat → HT
def tD : List Nat → Nat → Nat
  | [], _ => 0
  | a :: r, i => match Nat.beq a i with | true => 0 | false => tD r i + 1
def CY (π : List Nat) (i : Nat) : List (Nat × Nat) → List Edge
  | [] => []
  | (a, b) :: r => match Nat.beq b i with | true => ⟨tD π a, .data⟩ :: CY π i r | false => CY π i r
def C8 (π : List Nat) (es : List (Nat × Nat)) (i : Nat) (o : Oper) : Oper :=
  { dst := o.dst, op := o.op, type := o.type, pos := o.pos, after := (o.after.toList.map (fun e => (⟨tD π e.on, e.ground⟩ : Edge)) ++ CY π i es).toArray,
    guard := match o.guard with | none => none | some (j, b) => some (tD π j, b) }
def MK (π : List Nat) (es : List (Nat × Nat)) (l : List Oper) : List Nat → List Oper
  | [] => []
  | i :: r => match l[i]? with | some o => C8 π es i o :: MK π es l r | none => MK π es l r
def oT (π : List Nat) (es : List (Nat × Nat)) (ops : Array Oper) : Array Oper := (MK π es ops.toList π).toArray
def Ud (f : FuncId) (id : Nat) (ops : Array Oper) (a b : Nat) (w : World) : Bool :=
  Nat.ble ((Region.schedule true ops (w.tape w.drawn (.order f id))).idxOf a) ((Region.schedule true ops (w.tape w.drawn (.order f id))).idxOf b)
def Yx (b : Bool) (A B : Prop) : Prop := match b with | true => A | false => B
def Um (P : Program) (f : FuncId) (id : Nat) (ops : Array Oper) : HT → jT → World → World → (jT → World → Prop) → Prop
  | .leaf _ pl, g, _, w, K => pV P ops ops.toList pl [] g w K
  | .perm π es _ pl, g, _, w, K => pV P (oT π es ops) (oT π es ops).toList pl [] g w K
  | .split a b x y, g, w0, w, K => Yx (Ud f id ops a b w0) (Um P f id ops x g w0 w K) (Um P f id ops y g w0 w K)
def eK (P : Program) (ann : FA) : Code → (Exit → jT → World → Prop) → jT → World → Prop
  | .skip, Q, g, w => Q .normal g w
  | .region id ops draw, Q, g, w => match draw with
    | false => Sv P ops ops.toList g w (Q .normal)
    | true => Um P ann.f id ops (ann.t id) g w { w with drawn := w.drawn + 1 } (Q .normal)
  | .seq x y, Q, g, w => eK P ann x (fH (fun g w => eK P ann y Q g w) Q) g w
  | .cond c x y, Q, g, w => lM (ev g c) (eK P ann x Q g w) (eK P ann y Q g w)
  | .block id c, Q, g, w => eK P ann c (vI id Q) g w
  | .loop c, Q, g, w => iY (fun X g w => eK P ann c (fH X Q) g w) g w
  | .scope c, Q, g, w => eK P ann c Q g w
  | .label _, Q, g, w => Q .normal g w
  | .exit id, Q, g, w => Q (.exit id) g w
  | .ret, Q, g, w => Q .ret g w
  | _, _, _, _ => False
def Wf (N : Nat) (o : Oper) : Bool := match o.dst with | some d => Nat.blt d N | none => true
def W8 (b : Array Nat) (i j : Nat) : Bool := (b.getD j 0).testBit i
def QB (ops : Array Oper) (o : Oper) : List Tmp :=
  (o.op.operands.toList.filterMap fun | .tmp t => some t | _ => none) ++ (match o.guard with | some (j, _) => (Aa ops j).toList | none => [])
def Xt (ops : Array Oper) (x y : Oper) : Bool :=
  (match x.dst with | some d => (QB ops y).contains d || y.dst == some d | none => false) ||
  (match y.dst with | some d => (QB ops x).contains d | none => false)
def T8 (o : Oper) : Bool := match o.op with | .select .. => true | _ => false
def Xu (o : Oper) : Bool := match o.op with | .call { callee := .value (.func _), .. } => true | _ => false
def Ia (P : Program) (o : Oper) : Bool :=
  match o.op with
  | .call c => (match c.callee with
    | .value (.func f) => (match P.funcs[f]? with | some fn => fn.body.isSome && !(fn.name == "runtime.NumGoroutine") | none => false)
    | .builtin b => (match b with | .print | .println => false | _ => true)
    | _ => true)
  | _ => true
def Hn (o : Oper) : Bool := match o.op with | .move _ | .assign _ => true | _ => false
def Ij (ops : Array Oper) (b : Array Nat) (an : Wc) (i j : Nat) (x y : Oper) : Bool :=
  W8 b i j ||
  (!Xt ops x y &&
    match pH i an.1, pH j an.1 with
    | true, true => false
    | false, false => true
    | true, false => Hn y || SF i j an.2
    | false, true => Hn x || SF i j an.2)
def UA (ops : Array Oper) (b : Array Nat) (an : Wc) : Bool :=
  (List.range ops.size).all fun j => (List.range j).all fun i =>
    match ops[i]?, ops[j]? with
    | some x, some y => Ij ops b an i j x y
    | _, _ => false
def S4 (ops : Array Oper) : Bool :=
  (List.range ops.size).all fun i => match ops[i]? with
    | some o => o.after.all fun e => !Region.binds .any e || Nat.blt e.on i
    | none => false
def S2 (ops : Array Oper) (b : Array Nat) : Bool :=
  (List.range ops.size).all fun j => (List.range ops.size).all fun i =>
    !W8 b i j || (match ops[j]? with
      | some o => o.after.any fun e => Region.binds .any e && (Nat.beq e.on i || W8 b i e.on)
      | none => false)
def Sh (ops : Array Oper) (an : Wc) : Bool :=
  S4 ops && S2 ops (Region.before ops) && UA ops (Region.before ops) an && (ops.all fun o => !T8 o) &&
    (List.range ops.size).all fun i => match ops[i]? with | some o => !Xu o || pH i an.1 | none => false
def Sf (n : Nat) (an : Wc) (pl : Uv) : Bool :=
  (List.range n).all fun i => match pl[i]? with
    | some (h, ks) => h == pH i an.1 && an.2.all fun p => !Nat.beq p.2 i || (Nat.blt p.1 i && ks.contains (i - 1 - p.1))
    | none => false
def U9 (π : List Nat) (ops : Array Oper) : Bool :=
  Nat.beq π.length ops.size && ((List.range ops.size).all fun k => match π[k]? with | some i => Nat.beq (tD π i) k && Nat.blt i ops.size | none => false) &&
    ((List.range ops.size).all fun i => match π[tD π i]? with | some j => Nat.beq j i | none => false) &&
    ((List.range ops.size).all fun i => match ops[i]? with
      | some o => (o.after.all fun e => Nat.blt e.on ops.size) && (match o.guard with | some (j, _) => Nat.blt j ops.size | none => true)
      | none => false)
def KC (P : Program) (N : Nat) (ops : Array Oper) : List (Nat × Nat) → HT → Bool
  | _, .leaf an pl => Sh ops an && Sf ops.size an pl
  | path, .perm π es an pl => (es.all fun p => SF p.1 p.2 path && Nat.blt p.1 ops.size) && U9 π ops && (oT π es ops).all (Wf N) && (oT π es ops).all (Ia P) &&
      Sh (oT π es ops) an && Sf (oT π es ops).size an pl
  | path, .split a b x y => !Nat.beq a b && KC P N ops ((a, b) :: path) x && KC P N ops ((b, a) :: path) y
def AG (P : Program) (N : Nat) (ann : FA) : Code → Bool
  | .skip | .exit _ | .ret | .label _ => true
  | .scope c => AG P N ann c
  | .region id ops draw => ops.all (Wf N) && ops.all (Ia P) && (!draw || KC P N ops [] (ann.t id))
  | .seq x y => AG P N ann x && AG P N ann y
  | .cond _ x y => AG P N ann x && AG P N ann y
  | .block _ c => AG P N ann c
  | .loop c => AG P N ann c
  | _ => false
end Go.En
namespace Go.En
open Go
theorem Sp (g : jT) (d i : Nat) (v : Value) : put g (some d) v i = if i = d then v else g i := by
  unfold put
  by_cases h : i = d
  · subst h; simp
  · have : Nat.beq i d = false := by
      cases hb : Nat.beq i d
      · rfl
      · exact absurd (Nat.eq_of_beq_eq_true hb) h
    simp [this, h]
def IM (N : Nat) (g : jT) (a : Act) : Prop := a.defers = [] ∧ a.tmps.size = N ∧ ∀ i, a.tmps.getD i undef = g i
theorem IM.ev {N : Nat} {g : jT} {a : Act} (h : IM N g a) (x : Operand) : a.eval x = ev g x := by
  cases x <;> simp [Act.eval, En.ev, ← h.2.2]
theorem IM.evs {N : Nat} {g : jT} {a : Act} (h : IM N g a) : a.eval = En.ev g := funext h.ev
theorem IM.put {N : Nat} {g : jT} {a : Act} (h : IM N g a) (d : Option Tmp) (v : Value) (hd : ∀ t, d = some t → t < N) :
    IM N (put g d v) (a.put d v) := by
  cases d with
  | none => exact h
  | some t =>
    obtain ⟨h1, h2, h3⟩ := h
    have ht := hd t rfl
    refine ⟨h1, by simp [Act.put, h2], fun i => ?_⟩
    rw [Sp, ← h3 i]
    by_cases hi : i = t
    · subst hi; simp [Act.put, h2, ht]
    · have hi' : t ≠ i := fun e => hi e.symm
      simp [Act.put, hi, Array.getElem?_setIfInBounds_ne hi']
theorem IM.wanted {N : Nat} {g : jT} {a : Act} (h : IM N g a) (ops : Array Oper) (o : Oper) :
    Region.wanted o (yielded ops a.tmps) = match o.guard with | none => true | some (j, want) => vK g (Aa ops j) want := by
  unfold Region.wanted
  cases o.guard with
  | none => rfl
  | some p =>
    obtain ⟨j, want⟩ := p
    simp only [yielded, vK, Aa]
    cases (ops[j]?).bind (·.dst) with
    | none => simp
    | some t =>
      have h3 := h.2.2 t
      simp only [Option.bind_some, kA, asB, ← h3]
      simp only [Array.getD_eq_getD_getElem?]
      cases ht : a.tmps[t]? with
      | none => simp [undef]
      | some v => cases v <;> simp
section
variable {P : Program} {ops : Array Oper}
def Ql (P : Program) (ops : Array Oper) (g : jT) (o : Oper) (w : World) (v : Value) (w' : World) : Prop :=
  ∀ K : Value → World → Prop, K v w' → Dk P ops g o w K
theorem VQ {s : Sem Next} {w : World} {K : Value → World → Prop} (h : cO P s w K) :
    ∃ v w', (∀ K' : Value → World → Prop, K' v w' → cO P s w K') ∧ K v w' := by
  unfold cO at *
  generalize s.run P w = r at *
  match r, h with
  | .ok (.value v) w1, h => exact ⟨v, w1, fun _ h' => h', h⟩
  | .ok .skip w1, h => exact ⟨undef, w1, fun _ h' => h', h⟩
  | .ok (.enter f args) w1, h =>
    obtain ⟨v, w', hr, hk⟩ := h
    exact ⟨v, w', fun _ h' => ⟨v, w', hr, h'⟩, hk⟩
theorem SU {g : jT} {o : Oper} {w : World} {K : Value → World → Prop} (h : E3 P g o w K) :
    ∃ v w', (∀ K' : Value → World → Prop, K' v w' → E3 P g o w K') ∧ K v w' := by
  unfold E3 at *
  split at h
  · exact ⟨_, _, fun _ h' => h', h⟩
  · exact ⟨_, _, fun _ h' => h', h⟩
  · split at h
    · obtain ⟨v, w', a, b⟩ := h
      exact ⟨v, w', fun _ h' => ⟨v, w', a, h'⟩, b⟩
    · exact VQ h
  · exact VQ h
theorem Yr (op : BinOp) (t : TypeId) (ox oy : Operand) (x y : Value) : eF op t ox oy x y = V (do eqGuard op t ox oy x y; binOp op t x y) := by
  cases op <;> simp [eF, EA, eqGuard]
theorem Yh {g : jT} {o : Oper} (ho : Ia P o = true) : Gj g o = execOp (ev g) o := by
  unfold Gj
  split
  · rename_i op t x y yt hx
    simp only [execOp, hx, Yr, V]
  · rename_i t ps hx
    have e : (List.map (fun p : Nat × Operand => (p.1, ev g p.2)) ps.toList).toArray = ps.map (fun p => (p.1, ev g p.2)) := by obtain ⟨l⟩ := ps; simp
    simp only [execOp, hx, iH, V, e]
  · rename_i t n ps hx
    have e : (List.map (fun p : Nat × Operand => (p.1, ev g p.2)) ps.toList).toArray = ps.map (fun p => (p.1, ev g p.2)) := by obtain ⟨l⟩ := ps; simp
    simp only [execOp, hx, iE, V, e]
  · rename_i c hx
    split
    · rename_i b hb
      simp only [execOp, hx, resolve, hb, pure_bind, invoke, nA]
      unfold Ia at ho
      simp only [hx, hb] at ho
      have e : (List.map (ev g) c.args.toList).toArray = c.args.map (ev g) := by obtain ⟨l⟩ := c.args; simp
      rw [e]
      cases b <;> first | rfl | (cases ho)
    · rfl
  · rfl
theorem Tv {f : FuncId} {fn : Func} (hf : P.funcs[f]? = some fn) (hb : fn.body.isSome = true) (hn : (fn.name == "runtime.NumGoroutine") = false)
    (args : Array Value) (w : World) : (callFunc f args).run P w = .ok (.enter f args) w := by
  unfold callFunc
  have hb' : fn.body.isNone = false := by cases h : fn.body <;> simp_all
  show Sem.run P (Sem.program fun p => _) w = _
  simp only [Sem.run]
  simp only [bind, Sem.bind, hf, hn, hb', Bool.false_eq_true, if_false]
  rfl
theorem G4 {g : jT} {o : Oper} {w : World} {K : Value → World → Prop} (h : Dk P ops g o w K) :
    ∃ v w', Ql P ops g o w v w' ∧ K v w' := by
  unfold Ql
  unfold Dk at *
  split at h
  · obtain ⟨v, w', h1, h2⟩ := SU h
    exact ⟨v, w', h1, h2⟩
  · rename_i j want hg
    unfold Gd at *
    cases hb : vK g (Aa ops j) want with
    | true =>
      simp only [hb] at h
      obtain ⟨v, w', h1, h2⟩ := SU h
      exact ⟨v, w', fun K hk => h1 K hk, h2⟩
    | false =>
      simp only [hb] at h
      exact ⟨_, _, fun K hk => hk, h⟩
theorem Qt {N i : Nat} {g : jT} {a : Act} {o : Oper} {w w' : World} {v : Value} {Q : Exit → Act → World → Prop} {next : Act → World → Prop}
    (hi : ops[i]? = some o) (hc : Ia P o = true) (hr : IM N g a) (hy : Ql P ops g o w v w') (hn : next (a.put o.dst v) w') : wpOp P ops Q i next a w := by
  have h := hy (fun v2 w2 => v2 = v ∧ w2 = w') ⟨rfl, rfl⟩
  unfold wpOp
  rw [hi]
  simp only [hr.wanted]
  have run : E3 P g o w (fun v2 w2 => v2 = v ∧ w2 = w') → o.wp P a w next Q := by
    intro h
    have stp : cO P (Gj g o) w (fun v2 w2 => v2 = v ∧ w2 = w') → o.upon P a next Q ((execOp (ev g) o).run P w) := by
      intro h
      rw [Yh hc] at h
      unfold cO at h
      generalize (execOp (ev g) o).run P w = r at *
      match r, h with
      | .ok (.value v) w1, h => obtain ⟨rfl, rfl⟩ := h; exact hn
      | .ok .skip w1, h => obtain ⟨rfl, rfl⟩ := h; exact hn
      | .ok (.enter f args) w1, h =>
        obtain ⟨v2, w2, hret, rfl, rfl⟩ := h
        simp only [Oper.upon_enter]
        refine Calls.mono hret ?_
        rintro e w'' ⟨rfl, rfl⟩
        exact hn
    unfold Oper.wp
    rw [hr.evs]
    unfold E3 at h
    split at h
    · rename_i x hx
      obtain ⟨rfl, rfl⟩ := h
      simp only [execOp, hx]; exact hn
    · rename_i x hx
      obtain ⟨rfl, rfl⟩ := h
      simp only [execOp, hx]; exact hn
    · rename_i c hx
      split at h
      · rename_i f hcal
        obtain ⟨v2, w2, hret, rfl, rfl⟩ := h
        have e : (execOp (ev g) o).run P w = .ok (.enter f (List.map (ev g) c.args.toList).toArray) w := by
          unfold Ia at hc
          simp only [hx, hcal] at hc
          cases hfn : P.funcs[f]? with
          | none => rw [hfn] at hc; cases hc
          | some fn =>
            rw [hfn] at hc
            simp only [Bool.and_eq_true, Bool.not_eq_true'] at hc
            have ea : (List.map (ev g) c.args.toList).toArray = c.args.map (ev g) := by obtain ⟨l⟩ := c.args; simp
            rw [ea]
            simp only [execOp, hx, resolve, hcal, ev, Deferred.ofValue, pure_bind, invoke]
            simp only [Array.empty_append, Array.append_empty]
            exact Tv hfn hc.1 hc.2 _ w
        rw [e]
        simp only [Oper.upon_enter]
        refine Calls.mono hret ?_
        rintro e w'' ⟨rfl, rfl⟩
        exact hn
      · exact stp h
    · exact stp h
  unfold Dk at h
  cases hg : o.guard with
  | none =>
    rw [hg] at h
    simp only [if_true]
    exact .inl (run h)
  | some p =>
    obtain ⟨j, want⟩ := p
    simp only [hg] at h
    simp only
    by_cases hb : vK g (Aa ops j) want = true
    · rw [if_pos hb]
      simp only [hb, Gd] at h
      exact .inl (run h)
    · rw [if_neg hb]
      have hb' : vK g (Aa ops j) want = false := by simpa using hb
      simp only [hb', Gd] at h
      obtain ⟨rfl, rfl⟩ := h
      exact hn
def R4 (N : Nat) (ops : Array Oper) : Prop := ∀ (i : Nat) (o : Oper), ops[i]? = some o → ∀ t, o.dst = some t → t < N
def Nl (P : Program) (ops : Array Oper) : Prop := ∀ (i : Nat) (o : Oper), ops[i]? = some o → Ia P o = true
theorem Wo {N : Nat} (hd : R4 N ops) (hca : Nl P ops) {Q : Exit → Act → World → Prop} {K : jT → World → Prop}
    (hQ : ∀ g a w, IM N g a → K g w → Q .normal a w) :
    ∀ (l : List Oper) (k : Nat) (g : jT) (a : Act) (w : World), (∀ j, l[j]? = ops[k + j]?) → IM N g a → Sv P ops l g w K →
      wpOps P ops Q (List.range' k l.length) a w := by
  intro l
  induction l with
  | nil => intro k g a w _ hr h; exact hQ _ _ _ hr h
  | cons o l ih =>
    intro k g a w hl hr h
    have h0 : ops[k]? = some o := by have := hl 0; simpa using this.symm
    obtain ⟨v, w', hy, hk⟩ := G4 h
    rw [List.length_cons, List.range'_succ, wpOps_cons]
    refine Qt h0 (hca k o h0) hr hy ?_
    refine ih (k + 1) _ _ _ (fun j => ?_) (hr.put _ _ (hd k o h0)) hk
    have := hl (j + 1)
    simp only [List.getElem?_cons_succ] at this
    rw [this]; congr 1; omega
def QI (an : Wc) (O : Nat → Oper) (G : Nat → jT) (W : Nat → World) (V : Nat → Value) (i : Nat) : Yk :=
  ⟨pH i an.1, O i, G i, W i, V i⟩
def V7 (P : Program) (ops : Array Oper) (an : Wc) (O : Nat → Oper) (G : Nat → jT) (W : Nat → World) (V : Nat → Value) (i j : Nat) : Prop :=
  KT P ops (QI an O G W V i) (O j) (G j) (W (j + 1)) (V j)
structure W9 (P : Program) (ops : Array Oper) (an : Wc) (g0 : jT) (w0 : World) (n : Nat) (O : Nat → Oper) (G : Nat → jT) (W : Nat → World) (V : Nat → Value) : Prop where
  g0 : G 0 = g0
  w0 : W 0 = w0
  op : ∀ i, i < n → ops[i]? = some (O i)
  yld : ∀ i, i < n → Ql P ops (G i) (O i) (W i) (V i) (W (i + 1))
  light : ∀ i, i < n → pH i an.1 = false → W (i + 1) = W i
  env : ∀ i, i < n → G (i + 1) = put (G i) (O i).dst (V i)
  chk : ∀ i j, i < j → j < n → SF i j an.2 = true → V7 P ops an O G W V i j
theorem UF {o : Oper} {g : jT} {w' : World} {v : Value} {hist : List Yk} : ∀ {ks : List Nat}, YK P ops o g w' v hist ks → ∀ k ∈ ks, ∃ q, Ur hist k = some q ∧ KT P ops q o g w' v := by
  intro ks
  induction ks with
  | nil => intro _ k hk; cases hk
  | cons a ks ih =>
    rintro ⟨h1, h2⟩ k hk
    rcases List.mem_cons.1 hk with rfl | hk
    · cases hn : Ur hist k with
      | none => rw [hn] at h1; exact h1.elim
      | some q => rw [hn] at h1; exact ⟨q, rfl, h1⟩
    · exact ih h2 k hk
theorem WX {n : Nat} {an : Wc} {pl : Uv} (h : Sf n an pl = true) {i : Nat} (hi : i < n) :
    ∃ ks, pl[i]? = some (pH i an.1, ks) ∧ ∀ j, SF j i an.2 = true → j < i ∧ (i - 1 - j) ∈ ks := by
  have := List.all_eq_true.1 h i (List.mem_range.2 hi)
  cases hp : pl[i]? with
  | none => rw [hp] at this; cases this
  | some p =>
    obtain ⟨hv, ks⟩ := p
    rw [hp] at this
    simp only [Bool.and_eq_true] at this
    obtain ⟨h1, h2⟩ := this
    have h1 : hv = pH i an.1 := by simpa using h1
    refine ⟨ks, by rw [h1], fun j hj => ?_⟩
    have mm : ∀ (l : List (Nat × Nat)), SF j i l = true → (j, i) ∈ l := by
      intro l
      induction l with
      | nil => intro h; cases h
      | cons q r ih =>
        obtain ⟨a, b⟩ := q
        intro h
        unfold SF at h
        cases ha : Nat.beq a j with
        | true =>
          simp only [ha] at h
          cases hb : Nat.beq b i with
          | true =>
            obtain rfl := Nat.eq_of_beq_eq_true ha
            obtain rfl := Nat.eq_of_beq_eq_true hb
            exact List.mem_cons_self
          | false => simp only [hb] at h; exact List.mem_cons_of_mem _ (ih h)
        | false => simp only [ha] at h; exact List.mem_cons_of_mem _ (ih h)
    have := List.all_eq_true.1 h2 (j, i) (mm _ hj)
    simp only [Nat.beq_refl, Bool.not_true, Bool.false_or, Bool.and_eq_true] at this
    refine ⟨?_, by simpa using this.2⟩
    have hlt := this.1
    exact (Nat.blt_eq (x := j) (y := i)) ▸ hlt
theorem UB {an : Wc} {pl : Uv} {g0 : jT} {w0 : World} {K : jT → World → Prop} (hpl : Sf ops.size an pl = true) :
    ∀ (l : List Oper) (m : Nat) (hist : List Yk) (O : Nat → Oper) (G : Nat → jT) (W : Nat → World) (V : Nat → Value),
      (∀ j, l[j]? = ops[m + j]?) → m + l.length = ops.size → W9 P ops an g0 w0 m O G W V → (∀ i, i < m → Ur hist (m - 1 - i) = some (QI an O G W V i)) →
      pV P ops l (pl.drop m) hist (G m) (W m) K →
      ∃ (O : Nat → Oper) (G : Nat → jT) (W : Nat → World) (V : Nat → Value), W9 P ops an g0 w0 (m + l.length) O G W V ∧ K (G (m + l.length)) (W (m + l.length)) := by
  intro l
  induction l with
  | nil => intro m hist O G W V _ _ hr _ h; exact ⟨O, G, W, V, hr, by unfold pV at h; exact h⟩
  | cons o l ih =>
    intro m hist O G W V hl hlen hr hh h
    have h0 : ops[m]? = some o := by have := hl 0; simpa using this.symm
    have hmn : m < ops.size := by rw [List.length_cons] at hlen; omega
    obtain ⟨ks, hk1, hk2⟩ := WX hpl hmn
    have hdrop : pl.drop m = (pH m an.1, ks) :: pl.drop (m + 1) := by
      have hlt : m < pl.length := by
        rcases Nat.lt_or_ge m pl.length with h | h
        · exact h
        · rw [List.getElem?_eq_none h] at hk1; cases hk1
      rw [List.drop_eq_getElem_cons hlt]
      rw [List.getElem?_eq_getElem hlt] at hk1
      rw [Option.some.inj hk1]
    rw [hdrop] at h
    obtain ⟨v, w', hy, hk⟩ := G4 h
    have key : (pH m an.1 = false → w' = W m) ∧ (∀ k ∈ ks, ∃ q, Ur hist k = some q ∧ KT P ops q o (G m) w' v) ∧
        (pV P ops l (pl.drop (m + 1)) (⟨pH m an.1, o, G m, W m, v⟩ :: hist) (put (G m) o.dst v) w' K) := by
      have nil : ∀ w', ∀ k ∈ ([] : List Nat), ∃ q, Ur hist k = some q ∧ KT P ops q o (G m) w' v := fun _ k hk => (by cases hk)
      cases hm : pH m an.1 with
      | true =>
        rw [hm] at hk
        cases ks with
        | nil => exact ⟨fun e => (by cases e), nil _, hk⟩
        | cons k ks => exact ⟨fun e => (by cases e), UF hk.1, hk.2⟩
      | false =>
        rw [hm] at hk
        cases ks with
        | nil => obtain ⟨rfl, hk⟩ := hk; exact ⟨fun _ => rfl, nil _, hk⟩
        | cons k ks => obtain ⟨rfl, hc, hk⟩ := hk; exact ⟨fun _ => rfl, UF hc, hk⟩
    obtain ⟨kl, c1, c2⟩ := key
    let O' : Nat → Oper := fun i => if i = m then o else O i
    let V' : Nat → Value := fun i => if i = m then v else V i
    let G' : Nat → jT := fun i => if i = m + 1 then put (G m) o.dst v else G i
    let W' : Nat → World := fun i => if i = m + 1 then w' else W i
    have eO : ∀ i, i < m → O' i = O i := fun i hi => if_neg (by omega)
    have eV : ∀ i, i < m → V' i = V i := fun i hi => if_neg (by omega)
    have eG : ∀ i, i ≤ m → G' i = G i := fun i hi => if_neg (by omega)
    have eW : ∀ i, i ≤ m → W' i = W i := fun i hi => if_neg (by omega)
    have oO : O' m = o := if_pos rfl
    have oV : V' m = v := if_pos rfl
    have oG : G' (m + 1) = put (G m) o.dst v := if_pos rfl
    have oW : W' (m + 1) = w' := if_pos rfl
    have eR : ∀ i, i < m → QI an O' G' W' V' i = QI an O G W V i := fun i hi => by
      simp only [QI, eO i hi, eV i hi, eG i (by omega), eW i (by omega)]
    have hr' : W9 P ops an g0 w0 (m + 1) O' G' W' V' := by
      refine ⟨by rw [eG 0 (by omega)]; exact hr.g0, by rw [eW 0 (by omega)]; exact hr.w0, fun i hi => ?_, fun i hi => ?_, fun i hi hm => ?_, fun i hi => ?_, fun i j hij hj hm => ?_⟩
      · by_cases hi' : i = m
        · subst hi'; rw [oO]; exact h0
        · rw [eO i (by omega)]; exact hr.op i (by omega)
      · by_cases hi' : i = m
        · subst hi'; rw [oO, oV, oW, eG i (by omega), eW i (by omega)]; exact hy
        · rw [eO i (by omega), eV i (by omega), eG i (by omega), eW i (by omega), eW (i + 1) (by omega)]; exact hr.yld i (by omega)
      · by_cases hi' : i = m
        · subst hi'; rw [oW, eW i (by omega)]; exact kl hm
        · rw [eW i (by omega), eW (i + 1) (by omega)]; exact hr.light i (by omega) hm
      · by_cases hi' : i = m
        · subst hi'; rw [oO, oV, oG, eG i (by omega)]
        · rw [eO i (by omega), eV i (by omega), eG i (by omega), eG (i + 1) (by omega)]; exact hr.env i (by omega)
      · unfold V7
        by_cases hj' : j = m
        · subst hj'
          rw [eR i (by omega), oO, oV, oW, eG j (by omega)]
          obtain ⟨q, hq, hc⟩ := c1 _ (hk2 i hm).2
          rw [hh i hij] at hq
          obtain rfl := Option.some.inj hq
          exact hc
        · rw [eR i (by omega), eO j (by omega), eV j (by omega), eG j (by omega), eW (j + 1) (by omega)]
          exact hr.chk i j hij (by omega) hm
    have := ih (m + 1) (⟨pH m an.1, o, G m, W m, v⟩ :: hist) O' G' W' V' (fun j => by
        have := hl (j + 1)
        simp only [List.getElem?_cons_succ] at this
        rw [this]; congr 1; omega) (by rw [List.length_cons] at hlen; omega) hr' (fun i hi => by
        by_cases hi' : i = m
        · subst hi'
          rw [show i + 1 - 1 - i = 0 from by omega]
          simp only [Ur, QI, oO, oV, eG i (by omega), eW i (by omega)]
        · rw [eR i (by omega), show m + 1 - 1 - i = (m - 1 - i) + 1 from by omega]
          exact hh i (by omega)) (by rw [oG, oW]; exact c2)
    rw [List.length_cons, show m + (l.length + 1) = m + 1 + l.length from by omega]
    exact this
end
end Go.En
namespace Go.En
open Go
section
variable {P : Program} {ops : Array Oper} {an : Wc} {g0 : jT} {w0 : World} {O : Nat → Oper} {G : Nat → jT} {W : Nat → World} {V : Nat → Value}
def He (n : Nat) (O : Nat → Oper) (V : Nat → Value) (g0 : jT) (S : Nat → Prop) (g : jT) : Prop :=
  ∀ s, (∃ j, j < n ∧ S j ∧ (O j).dst = some s ∧ (∀ k, k < n → S k → (O k).dst = some s → k ≤ j) ∧ g s = V j) ∨
    ((∀ j, j < n → S j → (O j).dst ≠ some s) ∧ g s = g0 s)
theorem He.agree {n : Nat} {S T : Nat → Prop} {g g' : jT} (h : He n O V g0 S g) (h' : He n O V g0 T g') (s : Nat)
    (hs : ∀ j, j < n → (O j).dst = some s → (S j ↔ T j)) : g s = g' s := by
  rcases h s with ⟨j, h1, h2, h3, h4, h5⟩ | ⟨h1, h2⟩ <;> rcases h' s with ⟨k, k1, k2, k3, k4, k5⟩ | ⟨k1, k2⟩
  · have a := h4 k k1 ((hs k k1 k3).2 k2) k3
    have b := k4 j h1 ((hs j h1 h3).1 h2) h3
    have : j = k := by omega
    subst this; rw [h5, k5]
  · exact absurd h3 (k1 j h1 ((hs j h1 h3).1 h2))
  · exact absurd k3 (h1 k k1 ((hs k k1 k3).2 k2))
  · rw [h2, k2]
theorem He.step {n : Nat} {S : Nat → Prop} {g : jT} (h : He n O V g0 S g) (i : Nat) (hi : i < n)
    (hw : ∀ s, (O i).dst = some s → ∀ j, j < n → j ≠ i → (O j).dst = some s → S j → j < i) :
    He n O V g0 (fun j => S j ∨ j = i) (put g (O i).dst (V i)) := by
  intro s
  cases hd : (O i).dst with
  | none =>
    rcases h s with ⟨j, h1, h2, h3, h4, h5⟩ | ⟨h1, h2⟩
    · refine .inl ⟨j, h1, .inl h2, h3, fun k k1 k2 k3 => ?_, h5⟩
      rcases k2 with k2 | rfl
      · exact h4 k k1 k2 k3
      · rw [hd] at k3; cases k3
    · refine .inr ⟨fun j h3 h4 h5 => ?_, h2⟩
      rcases h4 with h4 | rfl
      · exact h1 j h3 h4 h5
      · rw [hd] at h5; cases h5
  | some t =>
    rw [Sp]
    by_cases hst : s = t
    · subst hst
      rw [if_pos rfl]
      refine .inl ⟨i, hi, .inr rfl, hd, fun k k1 k2 k3 => ?_, rfl⟩
      rcases k2 with k2 | rfl
      · by_cases hk : k = i
        · omega
        · have := hw s hd k k1 hk k3 k2; omega
      · omega
    · rw [if_neg hst]
      rcases h s with ⟨j, h1, h2, h3, h4, h5⟩ | ⟨h1, h2⟩
      · refine .inl ⟨j, h1, .inl h2, h3, fun k k1 k2 k3 => ?_, h5⟩
        rcases k2 with k2 | rfl
        · exact h4 k k1 k2 k3
        · rw [hd] at k3; exact absurd (Option.some.inj k3).symm hst
      · refine .inr ⟨fun j h3 h4 h5 => ?_, h2⟩
        rcases h4 with h4 | rfl
        · exact h1 j h3 h4 h5
        · rw [hd] at h5; exact absurd (Option.some.inj h5).symm hst
theorem W9.envFor {n : Nat} (r : W9 P ops an g0 w0 n O G W V) : ∀ i, i ≤ n → He n O V g0 (fun j => j < i) (G i) := by
  intro i
  induction i with
  | zero => intro _ s; exact .inr ⟨fun j _ h => absurd h (by omega), by rw [r.g0]⟩
  | succ i ih =>
    intro hi
    have h := ih (by omega)
    have := h.step (V := V) i (by omega) (fun s _ j _ _ _ hj => hj)
    rw [← r.env i (by omega)] at this
    intro s
    rcases this s with ⟨j, h1, h2, h3, h4, h5⟩ | ⟨h1, h2⟩
    · exact .inl ⟨j, h1, by omega, h3, fun k k1 k2 k3 => h4 k k1 (by omega) k3, h5⟩
    · exact .inr ⟨fun j a b => h1 j a (by omega), h2⟩
theorem W9.still {n : Nat} (r : W9 P ops an g0 w0 n O G W V) (i : Nat) : ∀ d, i + d ≤ n → (∀ h, i ≤ h → h < i + d → pH h an.1 = false) → W (i + d) = W i := by
  intro d
  induction d with
  | zero => intro _ _; rfl
  | succ d ih =>
    intro h1 h2
    rw [← Nat.add_assoc, r.light (i + d) (by omega) (h2 _ (by omega) (by omega))]
    exact ih (by omega) (fun h a b => h2 h a (by omega))
theorem W9.still' {n : Nat} (r : W9 P ops an g0 w0 n O G W V) {i k : Nat} (hik : i ≤ k) (hk : k ≤ n) (hh : ∀ h, i ≤ h → h < k → pH h an.1 = false) : W k = W i := by
  have := r.still i (k - i) (by omega) (fun h a b => hh h a (by omega))
  rwa [show i + (k - i) = k from by omega] at this
theorem UL {i k : Nat} : (∃ h, i ≤ h ∧ h < k ∧ pH h an.1 = true) → ∃ h, i ≤ h ∧ h < k ∧ pH h an.1 = true ∧ ∀ h', i ≤ h' → h' < h → pH h' an.1 = false := by
  rintro ⟨h, h1, h2, h3⟩
  induction h using Nat.strongRecOn with
  | _ h ih =>
    by_cases hx : ∃ h', i ≤ h' ∧ h' < h ∧ pH h' an.1 = true
    · obtain ⟨h', a, b, c⟩ := hx
      exact ih h' b a (by omega) c
    · refine ⟨h, h1, h2, h3, fun h' a b => ?_⟩
      cases hm : pH h' an.1
      · rfl
      · exact absurd ⟨h', a, b, hm⟩ hx
theorem Si {i k : Nat} : (∃ h, i ≤ h ∧ h < k ∧ pH h an.1 = true) → ∃ h, i ≤ h ∧ h < k ∧ pH h an.1 = true ∧ ∀ h', h < h' → h' < k → pH h' an.1 = false := by
  rintro ⟨h, h1, h2, h3⟩
  induction hd : k - h using Nat.strongRecOn generalizing h with
  | _ d ih =>
    by_cases hx : ∃ h', h < h' ∧ h' < k ∧ pH h' an.1 = true
    · obtain ⟨h', a, b, c⟩ := hx
      exact ih (k - h') (by omega) h' (by omega) b c rfl
    · refine ⟨h, h1, h2, h3, fun h' a b => ?_⟩
      cases hm : pH h' an.1
      · rfl
      · exact absurd ⟨h', a, b, hm⟩ hx
structure R7 (ops : Array Oper) (an : Wc) (O : Nat → Oper) (b : Array Nat) : Prop where
  back : ∀ i, i < ops.size → ∀ e ∈ (O i).after, Region.binds .any e = true → e.on < i
  closed : ∀ i j, i < ops.size → j < ops.size → W8 b i j = true → ∃ e ∈ (O j).after, Region.binds .any e = true ∧ (e.on = i ∨ W8 b i e.on = true)
  pair : ∀ i j, i < j → j < ops.size → Ij ops b an i j (O i) (O j) = true
  sel : ∀ i, i < ops.size → T8 (O i) = false
  fn : ∀ i, i < ops.size → Xu (O i) = true → pH i an.1 = true
theorem WC (h : Sh ops an = true) (ho : ∀ i, i < ops.size → ops[i]? = some (O i)) : R7 ops an O (Region.before ops) := by
  unfold Sh at h
  simp only [Bool.and_eq_true] at h
  obtain ⟨⟨⟨⟨h1, h2⟩, h3⟩, h5⟩, h6⟩ := h
  refine ⟨fun i hi e he hb => ?_, fun i j hi hj hb => ?_, fun i j hij hj => ?_, fun i hi => ?_, fun i hi hf => ?_⟩
  · unfold S4 at h1
    have := List.all_eq_true.1 h1 i (List.mem_range.2 hi)
    rw [ho i hi] at this
    have := Array.all_eq_true'.1 this e he
    simp only [hb, Bool.not_true, Bool.false_or] at this
    exact (Nat.blt_eq (x := e.on) (y := i)) ▸ this
  · unfold S2 at h2
    have := List.all_eq_true.1 (List.all_eq_true.1 h2 j (List.mem_range.2 hj)) i (List.mem_range.2 hi)
    rw [ho j hj] at this
    simp only [hb, Bool.not_true, Bool.false_or] at this
    obtain ⟨e, he, h⟩ := Array.any_eq_true'.1 this
    simp only [Bool.and_eq_true, Bool.or_eq_true] at h
    refine ⟨e, he, h.1, h.2.imp (fun h => Nat.eq_of_beq_eq_true h) id⟩
  · unfold UA at h3
    have := List.all_eq_true.1 (List.all_eq_true.1 h3 j (List.mem_range.2 hj)) i (List.mem_range.2 hij)
    rw [ho i (by omega), ho j hj] at this
    exact this
  · have := Array.all_eq_true'.1 h5 (O i) (Array.mem_of_getElem? (ho i hi))
    simpa using this
  · have := List.all_eq_true.1 h6 i (List.mem_range.2 hi)
    rw [ho i hi] at this
    simpa [hf] using this
theorem XI {i j : Nat} : ∀ {l : List (Nat × Nat)}, SF i j l = true → (i, j) ∈ l := by
  intro l
  induction l with
  | nil => intro h; cases h
  | cons p r ih =>
    obtain ⟨a, b⟩ := p
    intro h
    unfold SF at h
    cases ha : Nat.beq a i with
    | true =>
      simp only [ha] at h
      cases hb : Nat.beq b j with
      | true =>
        obtain rfl := Nat.eq_of_beq_eq_true ha
        obtain rfl := Nat.eq_of_beq_eq_true hb
        exact List.mem_cons_self
      | false => simp only [hb] at h; exact List.mem_cons_of_mem _ (ih h)
    | false => simp only [ha] at h; exact List.mem_cons_of_mem _ (ih h)
theorem R7.order {b : Array Nat} (st : R7 ops an O b) {S : Nat → Prop} {i : Nat} (hi : i < ops.size)
    (hdown : ∀ j k, j < ops.size → k < ops.size → S k → W8 b j k = true → S j) (hbi : ∀ j, j < ops.size → W8 b j i = true → S j) (hni : ¬ S i)
    {s : Nat} (hs : s ∈ QB ops (O i) ∨ (O i).dst = some s) {j : Nat} (hj : j < ops.size) (hji : j ≠ i) (hd : (O j).dst = some s) : S j ↔ j < i := by
  rcases Nat.lt_or_ge j i with h | h
  · refine ⟨fun _ => h, fun _ => ?_⟩
    have p := st.pair j i h hi
    unfold Ij at p
    simp only [Bool.or_eq_true, Bool.and_eq_true, Bool.not_eq_true'] at p
    rcases p with p | p
    · exact hbi j hj p
    · exfalso
      have p1 := p.1
      unfold Xt at p1
      simp only [hd, Bool.or_eq_false_iff] at p1
      rcases hs with hs | hs
      · have := p1.1.1; simp [hs] at this
      · have := p1.1.2; simp [hs] at this
  · have h' : i < j := by omega
    refine ⟨fun hS => ?_, fun hh => by omega⟩
    exfalso
    have p := st.pair i j h' hj
    unfold Ij at p
    simp only [Bool.or_eq_true, Bool.and_eq_true, Bool.not_eq_true'] at p
    rcases p with p | p
    · exact hni (hdown i j hi hj hS p)
    · have p1 := p.1
      unfold Xt at p1
      simp only [hd, Bool.or_eq_false_iff] at p1
      rcases hs with hs | hs
      · have := p1.2; simp [hs] at this
      · have := p1.1; rw [hs] at this; simp at this
theorem Gf {g g' : jT} {o : Oper} (h : ∀ s ∈ QB ops o, g s = g' s) : ∀ x ∈ o.op.operands, ev g x = ev g' x := by
  intro x hx
  cases x with
  | tmp t => exact h t (List.mem_append_left _ (List.mem_filterMap.2 ⟨.tmp t, by simpa using hx, rfl⟩))
  | _ => rfl
theorem T9 {g g' : jT} {o : Oper} (hs : T8 o = false) (h : ∀ s ∈ QB ops o, g s = g' s) : Gj g o = Gj g' o := by
  have e := execOp_congr o (fun cs b he => by simp [T8, he] at hs) (Gf h)
  have k := Gf h
  unfold Gj
  split
  · rename_i op t x y yt hx
    rw [k x (by simp [hx, Op.operands]), k y (by simp [hx, Op.operands])]
  · rename_i t ps hx
    congr 1
    refine List.map_congr_left fun p hp => ?_
    rw [k p.2 (by simp [hx, Op.operands]; exact ⟨p.1, by simpa using hp⟩)]
  · rename_i t n ps hx
    congr 1
    refine List.map_congr_left fun p hp => ?_
    rw [k p.2 (by simp [hx, Op.operands]; exact ⟨p.1, by simpa using hp⟩)]
  · rename_i c hx
    split
    · rename_i b hb
      congr 1
      refine List.map_congr_left fun p hp => ?_
      exact k p (by simp [hx, Op.operands, Call.operands, hb]; simpa using hp)
    · exact e
  · exact e
theorem SJ {g g' : jT} {o : Oper} {j : Nat} {want : Bool} (hg : o.guard = some (j, want)) (h : ∀ s ∈ QB ops o, g s = g' s) :
    vK g (Aa ops j) want = vK g' (Aa ops j) want := by
  cases hs : Aa ops j with
  | none => rfl
  | some t =>
    have := h t (List.mem_append_right _ (by simp [hg, hs]))
    simp [vK, this]
theorem Nc {g g' : jT} {o : Oper} {w : World} {K : Value → World → Prop} (hs : T8 o = false) (h : ∀ s ∈ QB ops o, g s = g' s)
    (hk : Dk P ops g o w K) : Dk P ops g' o w K := by
  have e := T9 (ops := ops) hs h
  have run : E3 P g o w = E3 P g' o w := by
    funext K
    unfold E3
    split
    · rename_i x hx
      have := Gf (ops := ops) h x (by simp [hx, Op.operands])
      rw [this]
    · rename_i x hx
      have := Gf (ops := ops) h x (by simp [hx, Op.operands])
      rw [this]
    · rename_i c hx
      have k := Gf h
      have : List.map (ev g) c.args.toList = List.map (ev g') c.args.toList := List.map_congr_left fun p hp => k p (by simp [hx, Op.operands, Call.operands]; exact .inr (by simpa using hp))
      rw [this, e]
    · rw [e]
  unfold Dk at *
  cases hg : o.guard with
  | none => rw [hg] at hk; simp only at hk ⊢; rwa [← run]
  | some p =>
    obtain ⟨j, want⟩ := p
    simp only [hg] at hk ⊢
    rw [← run, ← SJ hg h]
    exact hk
theorem UI {n : Nat} (hn : n = ops.size) {b : Array Nat} (r : W9 P ops an g0 w0 n O G W V) (st : R7 ops an O b) {S : Nat → Prop} {i k : Nat} (hi : i < n) (hk : k ≤ n)
    (hdown : ∀ j k, j < ops.size → k < ops.size → S k → W8 b j k = true → S j) (hbi : ∀ j, j < ops.size → W8 b j i = true → S j) (hni : ¬ S i)
    (hS : ∀ h, h < n → pH h an.1 = true → (S h ↔ h < k)) (hl : pH i an.1 = false) :
    Ql P ops (G i) (O i) (W k) (V i) (W k) := by
  subst hn
  have same : Gs (gOf ops (O i) (G i)) (gY P (Gj (G i) (O i)) (V i) (W k)) → Hn (O i) = false → Ql P ops (G i) (O i) (W k) (V i) (W k) := by
    intro hs hm K hK
    have run : gY P (Gj (G i) (O i)) (V i) (W k) → E3 P (G i) (O i) (W k) K := by
      intro hs
      unfold gY at hs
      have stp : cO P (Gj (G i) (O i)) (W k) K := by unfold cO; rw [hs]; exact hK
      unfold E3
      split
      · rename_i x hx; simp [Hn, hx] at hm
      · rename_i x hx; simp [Hn, hx] at hm
      · rename_i c hx
        have hf : Xu (O i) = false := by
          cases hh : Xu (O i)
          · rfl
          · rw [st.fn i hi hh] at hl; cases hl
        obtain ⟨cal, cargs, cats⟩ := c
        cases cal with
        | value f =>
          cases f with
          | func f => simp [Xu, hx] at hf
          | _ => exact stp
        | _ => exact stp
      · exact stp
    have hy := r.yld i hi (fun v _ => v = V i) rfl
    unfold Dk at hy ⊢
    unfold gOf at hs
    cases hg : (O i).guard with
    | none => rw [hg] at hs; exact run hs
    | some p =>
      obtain ⟨j, want⟩ := p
      rw [hg] at hs
      simp only [hg] at hs hy ⊢
      cases hb : vK (G i) (Aa ops j) want with
      | true => rw [hb] at hs; exact run hs
      | false =>
        rw [hb] at hy
        have : undef = V i := hy
        show K undef (W k)
        rw [this]; exact hK
  have moved : Hn (O i) = true → Ql P ops (G i) (O i) (W k) (V i) (W k) := by
    intro hm K hK
    have hy := r.yld i hi (fun v _ => v = V i) rfl
    unfold Dk at hy ⊢
    have mv : ∀ (K' : Value → World → Prop) w, E3 P (G i) (O i) w K' ↔ ∃ x, ((O i).op = .move x ∨ (O i).op = .assign x) ∧ K' (ev (G i) x) w := by
      intro K' w
      unfold E3
      unfold Hn at hm
      split
      · rename_i x hx; constructor
        · intro h; exact ⟨x, .inl hx, h⟩
        · rintro ⟨y, h | h, h'⟩
          · rw [hx] at h; cases h; exact h'
          · rw [hx] at h; cases h
      · rename_i x hx; constructor
        · intro h; exact ⟨x, .inr hx, h⟩
        · rintro ⟨y, h | h, h'⟩
          · rw [hx] at h; cases h
          · rw [hx] at h; cases h; exact h'
      · rename_i c hx; simp [hx] at hm
      · rename_i h1 h2 _; split at hm
        · rename_i x hx; exact absurd hx (h1 x)
        · rename_i x hx; exact absurd hx (h2 x)
        · cases hm
    cases hg : (O i).guard with
    | none =>
      rw [hg] at hy
      simp only at hy ⊢
      rw [mv] at hy ⊢
      obtain ⟨x, hx, h⟩ := hy
      exact ⟨x, hx, h ▸ hK⟩
    | some p =>
      obtain ⟨j, want⟩ := p
      simp only [hg] at hy ⊢
      unfold Gd at *
      cases hb : vK (G i) (Aa ops j) want with
      | true =>
        simp only [hb] at hy ⊢
        rw [mv] at hy ⊢
        obtain ⟨x, hx, h⟩ := hy
        exact ⟨x, hx, h ▸ hK⟩
      | false =>
        simp only [hb] at hy ⊢
        rwa [hy]
  rcases Nat.le_total k i with hki | hki
  · by_cases hx : ∃ h, k ≤ h ∧ h < i ∧ pH h an.1 = true
    · obtain ⟨h, h1, h2, h3, h4⟩ := UL hx
      have e : W h = W k := r.still' h1 (by omega) h4
      have p := st.pair h i h2 hi
      unfold Ij at p
      simp only [Bool.or_eq_true, Bool.and_eq_true, Bool.not_eq_true'] at p
      rcases p with p | p
      · have := hbi h (by omega) p
        have := (hS h (by omega) h3).1 this
        omega
      · have p2 := p.2
        rw [h3, hl] at p2
        simp only [Bool.or_eq_true] at p2
        cases hmv : Hn (O i) with
        | true => exact moved hmv
        | false =>
          rcases p2 with p2 | p2
          · rw [hmv] at p2; cases p2
          · refine same ?_ hmv
            have c := r.chk h i h2 hi p2
            unfold V7 KT QI at c
            simp only [h3] at c
            rw [← e]; exact c
    · have e : W i = W k := r.still' hki (by omega) (fun h a b => by
        cases hm : pH h an.1
        · rfl
        · exact absurd ⟨h, a, b, hm⟩ hx)
      have hy := r.yld i hi
      rw [r.light i hi hl, e] at hy
      exact hy
  · by_cases hx : ∃ h, i ≤ h ∧ h < k ∧ pH h an.1 = true
    · obtain ⟨h, h1, h2, h3, h4⟩ := Si hx
      have hne : h ≠ i := fun e => by rw [e, hl] at h3; cases h3
      have e : W k = W (h + 1) := r.still' (by omega) hk (fun h' a b => h4 h' (by omega) b)
      have p := st.pair i h (by omega) (by omega)
      unfold Ij at p
      simp only [Bool.or_eq_true, Bool.and_eq_true, Bool.not_eq_true'] at p
      rcases p with p | p
      · exact absurd (hdown i h (by omega) (by omega) ((hS h (by omega) h3).2 h2) p) hni
      · have p2 := p.2
        rw [h3, hl] at p2
        simp only [Bool.or_eq_true] at p2
        cases hmv : Hn (O i) with
        | true => exact moved hmv
        | false =>
          rcases p2 with p2 | p2
          · rw [hmv] at p2; cases p2
          · refine same ?_ hmv
            have c := r.chk i h (by omega) (by omega) p2
            unfold V7 KT QI at c
            simp only [hl] at c
            rw [e]; exact c
    · have e : W k = W i := r.still' hki hk (fun h a b => by
        cases hm : pH h an.1
        · rfl
        · exact absurd ⟨h, a, b, hm⟩ hx)
      have hy := r.yld i hi
      rw [r.light i hi hl, ← e] at hy
      exact hy
def mV (listed : Array Bool) (i : Nat) : Prop := listed.getD i false = true
theorem Xp {N n : Nat} (hn : n = ops.size) (hd : R4 N ops) (hca : Nl P ops) {b : Array Nat} (r : W9 P ops an g0 w0 n O G W V) (st : R7 ops an O b)
    {Q : Exit → Act → World → Prop} (hQ : ∀ a, IM N (G n) a → Q .normal a (W n)) :
    ∀ (fuel : Nat) (listed : Array Bool) (g : jT) (a : Act) (k : Nat), listed.size = n → IM N g a → k ≤ n →
      (∀ j, j < n → mV listed j → ∀ e ∈ (O j).after, Region.binds .any e = true → mV listed e.on) →
      He n O V g0 (mV listed) g → (∀ h, h < n → pH h an.1 = true → (mV listed h ↔ h < k)) →
      ((List.range n).filter fun i => !listed.getD i false).length ≤ fuel →
      wpAny P .any ops Q fuel listed a (W k) := by
  subst hn
  have ready_iff : ∀ (listed : Array Bool), listed.size = ops.size → ∀ i, i ∈ Region.ready .any ops listed ↔ (i < ops.size ∧ ¬ mV listed i ∧ ∀ e ∈ (O i).after, Region.binds .any e = true → mV listed e.on) := by
    intro listed hsz i
    unfold Region.ready mV
    rw [List.mem_filter, List.mem_range]
    constructor
    · rintro ⟨h1, h2⟩
      rw [r.op i h1] at h2
      simp only [Bool.and_eq_true, Option.map_some, Option.getD_some] at h2
      refine ⟨h1, ?_, fun e he hb => ?_⟩
      · have := h2.1
        rw [Array.getD_eq_getD_getElem?] at this ⊢
        rw [Array.getElem?_eq_getElem (by omega)] at this ⊢
        simpa using this
      · have := Array.all_eq_true'.1 h2.2 e he
        simpa [hb] using this
    · rintro ⟨h1, h2, h3⟩
      refine ⟨h1, ?_⟩
      rw [r.op i h1]
      simp only [Bool.and_eq_true, Option.map_some, Option.getD_some]
      refine ⟨?_, Array.all_eq_true'.2 fun e he => ?_⟩
      · rw [Array.getD_eq_getD_getElem?] at h2 ⊢
        rw [Array.getElem?_eq_getElem (by omega)] at h2 ⊢
        simpa using h2
      · by_cases hb : Region.binds .any e = true
        · simp [hb, h3 e he hb]
        · simp [hb]
  have none_ready : ∀ (listed : Array Bool), listed.size = ops.size → Region.ready .any ops listed = [] → ∀ i, i < ops.size → mV listed i := by
    intro listed hsz hr i
    induction i using Nat.strongRecOn with
    | _ i ih =>
      intro hi
      refine Classical.byContradiction fun hl => ?_
      have : i ∈ Region.ready .any ops listed := (ready_iff listed hsz i).2 ⟨hi, hl, fun e he hb => by
        have := st.back i hi e he hb
        exact ih e.on this (by omega)⟩
      rw [hr] at this; cases this
  have all_done : ∀ (listed : Array Bool) (g : jT) (a : Act) (k : Nat), IM N g a → k ≤ ops.size → He ops.size O V g0 (mV listed) g →
      (∀ h, h < ops.size → pH h an.1 = true → (mV listed h ↔ h < k)) → (∀ i, i < ops.size → mV listed i) → Q .normal a (W k) := by
    intro listed g a k hr hk he hh hall
    have e : W ops.size = W k := r.still' hk (Nat.le_refl _) (fun h h1 h2 => by
      cases hm : pH h an.1
      · rfl
      · have := (hh h h2 hm).1 (hall h h2); omega)
    have eg : g = G ops.size := funext fun s => he.agree (r.envFor ops.size (Nat.le_refl _)) s (fun j hj _ => ⟨fun _ => hj, fun _ => hall j hj⟩)
    rw [← e]; exact hQ a (eg ▸ hr)
  intro fuel
  induction fuel with
  | zero =>
    intro listed g a k hsz hr hk hdep henv hh hc
    have hall : ∀ i, i < ops.size → mV listed i := by
      intro i hi
      have hnil : ((List.range ops.size).filter fun i => !listed.getD i false) = [] := List.length_eq_zero_iff.1 (by omega)
      have := List.filter_eq_nil_iff.1 hnil i (List.mem_range.2 hi)
      unfold mV; simpa using this
    refine ⟨?_, all_done listed g a k hr hk henv hh hall⟩
    rw [List.eq_nil_iff_forall_not_mem]
    intro i hi
    have := (ready_iff listed hsz i).1 hi
    exact this.2.1 (hall i this.1)
  | succ fuel ih =>
    intro listed g a k hsz hr hk hdep henv hh hc
    refine ⟨fun hn => all_done listed g a k hr hk henv hh (none_ready listed hsz hn), fun i hi => ?_⟩
    obtain ⟨h1, h2, h3⟩ := (ready_iff listed hsz i).1 hi
    have hdown : ∀ k j, j < ops.size → k < ops.size → mV listed k → W8 b j k = true → mV listed j := by
      intro k
      induction k using Nat.strongRecOn with
      | _ k ihk =>
        intro j hj hk hl hb
        obtain ⟨e, he, hbi, h⟩ := st.closed j k hj hk hb
        have hle := hdep k hk hl e he hbi
        rcases h with h | h
        · exact h ▸ hle
        · have hlt := st.back k hk e he hbi
          exact ihk e.on hlt j hj (by omega) hle h
    have hbi : ∀ j, j < ops.size → W8 b j i = true → mV listed j := by
      intro j hj hb
      obtain ⟨e, he, hbi, h⟩ := st.closed j i hj h1 hb
      have hle := h3 e he hbi
      rcases h with h | h
      · exact h ▸ hle
      · have hlt := st.back i h1 e he hbi
        exact hdown e.on j hj (by omega) hle h
    have hdown' : ∀ j k, j < ops.size → k < ops.size → mV listed k → W8 b j k = true → mV listed j := fun j k => hdown k j
    have hlooks : ∀ s ∈ QB ops (O i), (G i) s = g s := fun s hs =>
      (r.envFor i (by omega)).agree henv s (fun j hj hd => by
        by_cases hji : j = i
        · subst hji
          exact ⟨fun h => absurd h (by omega), fun h => absurd h h2⟩
        · exact (st.order h1 hdown' hbi h2 (.inl hs) hj hji hd).symm)
    have hl' : ∀ j, mV (listed.setIfInBounds i true) j ↔ (mV listed j ∨ j = i) := by
      intro j
      unfold mV
      rw [Array.getD_eq_getD_getElem?, Array.getD_eq_getD_getElem?]
      by_cases hji : j = i
      · subst hji
        rw [Array.getElem?_setIfInBounds_self_of_lt (by omega)]
        simp
      · rw [Array.getElem?_setIfInBounds_ne (fun e => hji e.symm)]
        simp [hji]
    have next : ∀ k', k' ≤ ops.size → (∀ h, h < ops.size → pH h an.1 = true → ((mV listed h ∨ h = i) ↔ h < k')) → Ql P ops g (O i) (W k) (V i) (W k') →
        wpOp P ops Q i (wpAny P .any ops Q fuel (listed.setIfInBounds i true)) a (W k) := by
      intro k' hk' hh' hy
      refine Qt (r.op i h1) (hca i _ (r.op i h1)) hr hy ?_
      refine ih _ (put g (O i).dst (V i)) _ k' (by simp [hsz]) (hr.put _ _ (hd i _ (r.op i h1))) hk' ?_ ?_ ?_ ?_
      · intro j hj hlj e he hb
        rw [hl'] at hlj ⊢
        rcases hlj with hlj | rfl
        · exact .inl (hdep j hj hlj e he hb)
        · exact .inl (h3 e he hb)
      · have := henv.step i h1 (fun s hs j hj hji hd hlj => (st.order h1 hdown' hbi h2 (.inr hs) hj hji hd).1 hlj)
        intro s
        rcases this s with ⟨j, j1, j2, j3, j4, j5⟩ | ⟨j1, j2⟩
        · exact .inl ⟨j, j1, (hl' j).2 j2, j3, fun k k1 k2 k3 => j4 k k1 ((hl' k).1 k2) k3, j5⟩
        · exact .inr ⟨fun j a b => j1 j a ((hl' j).1 b), j2⟩
      · intro h a b; rw [hl']; exact hh' h a b
      · have hin : i ∈ (List.range ops.size).filter fun i => !listed.getD i false :=
          List.mem_filter.2 ⟨List.mem_range.2 h1, by unfold mV at h2; simpa using h2⟩
        have e1 : ((List.range ops.size).filter fun j => !(listed.setIfInBounds i true).getD j false) = ((List.range ops.size).filter fun j => !listed.getD j false).filter fun j => j != i := by
          rw [List.filter_filter]
          refine List.filter_congr fun j _ => ?_
          have := hl' j
          unfold mV at this
          by_cases hji : j = i
          · have hh : (listed.setIfInBounds i true).getD j false = true := this.2 (.inr hji)
            rw [hh, hji]; simp
          · have hne : (j != i) = true := by simpa using hji
            rw [hne, Bool.true_and]
            cases ha : listed.getD j false with
            | true => rw [this.2 (.inl ha)]
            | false =>
              cases hb : (listed.setIfInBounds i true).getD j false with
              | false => rfl
              | true => rcases this.1 hb with h | h
                        · rw [ha] at h; cases h
                        · exact absurd h hji
        have hnd : ((List.range ops.size).filter fun j => !listed.getD j false).Nodup := List.nodup_range.filter _
        rw [e1, ← List.Nodup.erase_eq_filter hnd, List.length_erase_of_mem hin]
        omega
    cases hm : pH i an.1 with
    | true =>
      have hS : ∀ h, h < ops.size → pH h an.1 = true → (mV listed h ↔ h < i) := by
        intro h hh1 hhm
        rcases Nat.lt_trichotomy h i with hlt | heq | hgt
        · refine ⟨fun _ => hlt, fun _ => ?_⟩
          have p := st.pair h i hlt h1
          unfold Ij at p
          rw [hhm, hm] at p
          simp only [Bool.or_eq_true, Bool.and_eq_true, Bool.false_eq_true, and_false, or_false] at p
          exact hbi h hh1 p
        · subst heq; exact ⟨fun hh => absurd hh h2, fun hh => absurd hh (by omega)⟩
        · refine ⟨fun hl => ?_, fun hh => absurd hh (by omega)⟩
          have p := st.pair i h hgt hh1
          unfold Ij at p
          rw [hhm, hm] at p
          simp only [Bool.or_eq_true, Bool.and_eq_true, Bool.false_eq_true, and_false, or_false] at p
          exact absurd (hdown h i h1 hh1 hl p) h2
      have eW : W k = W i := by
        rcases Nat.le_total k i with hki | hki
        · exact (r.still' hki (by omega) (fun h a b => by
            cases hx : pH h an.1
            · rfl
            · have := (hh h (by omega) hx).1 ((hS h (by omega) hx).2 b); omega)).symm
        · exact r.still' hki hk (fun h a b => by
            cases hx : pH h an.1
            · rfl
            · have := (hS h (by omega) hx).1 ((hh h (by omega) hx).2 b); omega)
      refine next (i + 1) (by omega) (fun h a b => ?_) ?_
      · rw [hS h a b]; omega
      · rw [eW]
        intro K hK
        exact Nc (ops := ops) (st.sel i h1) hlooks (r.yld i h1 K hK)
    | false =>
      refine next k hk (fun h a b => ?_) ?_
      · rw [← hh h a b]
        constructor
        · rintro (h' | rfl)
          · exact h'
          · rw [hm] at b; cases b
        · exact .inl
      · intro K hK
        exact Nc (ops := ops) (st.sel i h1) hlooks (UI rfl r st h1 hk hdown' hbi h2 hh hm K hK)
end
end Go.En
namespace Go.En
open Go
def U7 (P : Program) (f : FuncId) (c : Code) (Q : Exit → Act → World → Prop) (a : Act) (w : World) : Prop :=
  ∀ (b : Frame) (k : List Item) (cs : List Frame), b.fn = f → ∃ e a' w', Q e a' w' ∧ Arrives P (lone (b.at a (.code c :: k)) cs w) b k cs e a' w'
section
variable {P : Program} {f : FuncId} {Q : Exit → Act → World → Prop} {a : Act} {w : World}
theorem R2 {c : Code} (h : c.wp P Q a w) : U7 P f c Q a w := fun b k cs _ => h b k cs
theorem YR {x y : Code} (h : U7 P f x (Exit.then (U7 P f y Q) Q) a w) : U7 P f (.seq x y) Q a w := by
  intro b k cs hb
  obtain ⟨e, a1, w1, hq, har⟩ := h b (.code y :: k) cs hb
  cases e with
  | normal =>
    obtain ⟨e2, a2, w2, hq2, har2⟩ := hq b k cs hb
    exact ⟨e2, a2, w2, hq2, .of_steps (.head step_seq har) har2⟩
  | _ => exact ⟨_, a1, w1, hq, .of_steps (.one step_seq) (.pass (x := .code y) rfl (fun _ _ => .inl (by simp)) har)⟩
theorem XT {c : Operand} {x y : Code} {t : Bool} (hc : a.eval c = .bool t) (h : U7 P f (if t then x else y) Q a w) : U7 P f (.cond c x y) Q a w :=
  fun b k cs hb => let ⟨e, a1, w1, q, r⟩ := h b k cs hb; ⟨e, a1, w1, q, .of_steps (.one (step_cond hc)) r⟩
theorem W2 {id : Nat} {c : Code} (h : U7 P f c (Exit.inBlock id Q) a w) : U7 P f (.block id c) Q a w := by
  intro b k cs hb
  obtain ⟨e, a1, w1, hq, har⟩ := h b (.inBlock id :: k) cs hb
  cases e with
  | normal => exact ⟨.normal, a1, w1, hq, .head step_block (Steps.trans har (.one step_inBlock))⟩
  | exit i =>
    by_cases hid : i = id
    · simp only [Exit.inBlock, hid, if_true] at hq
      exact ⟨.normal, a1, w1, hq, .head step_block (har k (by simp [exitTo, hid]))⟩
    · simp only [Exit.inBlock, hid, if_false] at hq
      refine ⟨.exit i, a1, w1, hq, fun k' hk => .head step_block (har k' ?_)⟩
      have : (id == i) = false := by simp; exact fun h => hid h.symm
      simp [exitTo, this, hk]
  | goto l => exact ⟨_, a1, w1, hq, fun k' hk => .head step_block (har k' (by simp [gotoIn, hk]))⟩
  | outgrown => exact ⟨_, a1, w1, hq, .of_steps (b := b) (k := k) (cs := cs) (e := .outgrown) (.one step_block) har⟩
  | _ => exact ⟨_, a1, w1, hq, .of_steps (.one step_block) har⟩
theorem Ww {c : Code} (h : U7 P f c (Exit.noGoto Q) a w) : U7 P f (.scope c) Q a w := by
  intro b k cs hb
  obtain ⟨e, a1, w1, hq, har⟩ := h b (.inScope c :: k) cs hb
  cases e with
  | normal => exact ⟨.normal, a1, w1, hq, .head step_scope (Steps.trans har (.one step_inScope))⟩
  | exit id => exact ⟨.exit id, a1, w1, hq, fun k' hk => .head step_scope (har k' (by simp [exitTo, hk]))⟩
  | goto l => exact hq.elim
  | _ => exact ⟨_, a1, w1, hq, .of_steps (.one step_scope) har⟩
theorem XG {c : Code} (I : Act → World → Prop) (μ : Act → World → Nat) (h0 : I a w)
    (round : ∀ a w, I a w → U7 P f c (Exit.then (fun a' w' => I a' w' ∧ μ a' w' < μ a w) Q) a w) : U7 P f (.loop c) Q a w := by
  intro b k cs hb
  have key : ∀ n a w, μ a w = n → I a w →
      ∃ e a' w', Q e a' w' ∧ Arrives P (lone (b.at a (.code c :: .inLoop c :: k)) cs w) b k cs e a' w' := by
    intro n
    induction n using Nat.strongRecOn with
    | _ n ih =>
      intro a w hn hI
      obtain ⟨e, a1, w1, hq, har⟩ := round a w hI b (.inLoop c :: k) cs hb
      cases e with
      | normal =>
        obtain ⟨hI1, hlt⟩ := hq
        obtain ⟨e2, a2, w2, hq2, har2⟩ := ih (μ a1 w1) (hn ▸ hlt) a1 w1 rfl hI1
        exact ⟨e2, a2, w2, hq2, .of_steps (Steps.trans har (.one step_inLoop)) har2⟩
      | _ => exact ⟨_, a1, w1, hq, .pass (x := .inLoop c) rfl (fun _ _ => .inl (by simp)) har⟩
  obtain ⟨e, a', w', hq, har⟩ := key _ a w rfl h0
  exact ⟨e, a', w', hq, .of_steps (.one step_loop) har⟩
theorem QM (hm : P.follows .mixedOrders = true) {id : Nat} {ops : Array Oper}
    (h : wpOps P ops Q (Region.schedule true ops (w.tape w.drawn (.order f id))) a { w with drawn := w.drawn + 1 }) : U7 P f (.region id ops true) Q a w := by
  intro b k cs hb
  obtain ⟨e, a1, w1, q, r⟩ := wp_ops _ a _ h b k cs
  refine ⟨e, a1, w1, q, .of_steps (.one ?_) r⟩
  have := @step_region_draw P b a k cs w ops id
  rw [hm, hb] at this
  exact this
theorem Tz {fn : Func} {c : Code} {args : Array Value} {w : World} {R : Ending → World → Prop}
    (hf : P.funcs[f]? = some fn) (hb : fn.body = some c)
    (h : U7 P f c (bodyPost P fn R) { tmps := args ++ Array.replicate (fn.ntmps - args.size) undef, defers := [] } w) : Calls P f args w R := by
  intro cs
  let b : Frame := { (default : Frame) with fn := f, kind := .normal }
  have henter : Frame.enter P f args .normal = b.at { tmps := args ++ Array.replicate (fn.ntmps - args.size) undef, defers := [] } [.code c] := by
    simp [Frame.enter, Frame.at, hf, hb, b]
  obtain ⟨e, a', w', hq, har⟩ := h b [] cs rfl
  rw [← henter] at har
  cases e with
  | normal =>
    obtain ⟨hd, v, hr, hR⟩ := hq
    exact ⟨.returned v, w', _, hR, Steps.trans har (.one step_end), rfl, rfl, hd, rfl, fn, hf, hr⟩
  | ret =>
    obtain ⟨hd, v, hr, hR⟩ := hq
    obtain ⟨todo, hs⟩ := har
    exact ⟨.returned v, w', _, hR, hs, rfl, rfl, hd, rfl, fn, hf, hr⟩
  | panic chain =>
    obtain ⟨hd, hR⟩ := hq
    obtain ⟨todo, hs⟩ := har
    exact ⟨.panicked chain, w', _, hR, hs, rfl, rfl, hd, fn, hf⟩
  | exit id => exact hq.elim
  | goto l => exact hq.elim
  | outgrown => exact ⟨.outgrown, w', b, hq, har.resolve_left (by simp [b]), rfl, trivial⟩
end
def Tq (ops : Array Oper) : Nat → Array Bool → List Nat → Prop
  | 0, _, L => L = []
  | _ + 1, listed, [] => Region.ready .any ops listed = []
  | n + 1, listed, i :: L => i ∈ Region.ready .any ops listed ∧ Tq ops n (listed.setIfInBounds i true) L
section
variable {P : Program} {ops : Array Oper} {Q : Exit → Act → World → Prop}
theorem Yq : ∀ (fuel t : Nat) (listed : Array Bool), Tq ops fuel listed (Region.linearise.go .any ops fuel t listed []) := by
  intro fuel
  induction fuel with
  | zero => intro t listed; simp [Region.linearise.go, Tq]
  | succ fuel ih =>
    intro t listed
    simp only [Region.linearise.go]
    change Tq ops (fuel + 1) listed (match (Region.ready .any ops listed)[t % (Region.ready .any ops listed).length]? with
      | some i => Region.linearise.go .any ops fuel (t / (Region.ready .any ops listed).length) (listed.setIfInBounds i true) [i]
      | none => [].reverse)
    cases hi : (Region.ready .any ops listed)[t % (Region.ready .any ops listed).length]? with
    | none =>
      have : Region.ready .any ops listed = [] := by
        cases hr : Region.ready .any ops listed with
        | nil => rfl
        | cons x xs =>
          rw [hr] at hi
          have hlt : t % (x :: xs).length < (x :: xs).length := Nat.mod_lt _ (by simp)
          rw [List.getElem?_eq_getElem hlt] at hi
          cases hi
      simpa [Tq] using this
    | some i =>
      simp only []
      rw [linearise_go_acc]
      exact ⟨List.mem_of_getElem? hi, ih _ _⟩
theorem NT : ∀ (fuel : Nat) (listed : Array Bool) (L : List Nat) (a : Act) (w : World), wpAny P .any ops Q fuel listed a w → Tq ops fuel listed L → wpOps P ops Q L a w := by
  intro fuel
  induction fuel with
  | zero => intro listed L a w h hL; obtain rfl : L = [] := hL; exact h.2
  | succ fuel ih =>
    intro listed L a w h hL
    cases L with
    | nil => exact h.1 hL
    | cons i L =>
      rw [wpOps_cons]
      exact wpOp_mono (fun a w hh => ih _ _ a w hh hL.2) (h.2 i hL.1)
end
structure Perm (π : List Nat) (ops : Array Oper) : Prop where
  len : π.length = ops.size
  to : ∀ i, i < ops.size → tD π i < ops.size ∧ π[tD π i]? = some i
  back : ∀ k, k < ops.size → ∃ i, π[k]? = some i ∧ tD π i = k ∧ i < ops.size
  after : ∀ (i : Nat) (o : Oper), ops[i]? = some o → ∀ e ∈ o.after, e.on < ops.size
  guard : ∀ (i : Nat) (o : Oper) (j : Nat) (b : Bool), ops[i]? = some o → o.guard = some (j, b) → j < ops.size
theorem YX {π : List Nat} {ops : Array Oper} (h : U9 π ops = true) : Perm π ops := by
  unfold U9 at h
  simp only [Bool.and_eq_true] at h
  obtain ⟨⟨⟨h1, h2⟩, h3⟩, h4⟩ := h
  have h1 := Nat.eq_of_beq_eq_true h1
  have at4 : ∀ (i : Nat) (o : Oper), ops[i]? = some o → (o.after.all fun e => Nat.blt e.on ops.size) = true ∧ (match o.guard with | some (j, _) => Nat.blt j ops.size | none => true) = true := by
    intro i o ho
    have hi : i < ops.size := by
      rcases Nat.lt_or_ge i ops.size with h | h
      · exact h
      · rw [Array.getElem?_eq_none h] at ho; cases ho
    have := List.all_eq_true.1 h4 i (List.mem_range.2 hi)
    rw [ho] at this
    simp only [Bool.and_eq_true] at this
    refine ⟨this.1, ?_⟩
    have h := this.2
    revert h
    cases o.guard <;> exact id
  refine ⟨h1, fun i hi => ?_, fun k hk => ?_, fun i o ho e he => ?_, fun i o j b ho hg => ?_⟩
  · have := List.all_eq_true.1 h3 i (List.mem_range.2 hi)
    cases hp : π[tD π i]? with
    | none => rw [hp] at this; cases this
    | some j =>
      rw [hp] at this
      obtain rfl := Nat.eq_of_beq_eq_true this
      refine ⟨?_, rfl⟩
      rcases Nat.lt_or_ge (tD π j) π.length with h | h
      · omega
      · rw [List.getElem?_eq_none h] at hp; cases hp
  · have := List.all_eq_true.1 h2 k (List.mem_range.2 hk)
    cases hp : π[k]? with
    | none => rw [hp] at this; cases this
    | some i =>
      rw [hp] at this
      simp only [Bool.and_eq_true] at this
      exact ⟨i, rfl, Nat.eq_of_beq_eq_true this.1, (Nat.blt_eq (x := i) (y := ops.size)) ▸ this.2⟩
  · have := Array.all_eq_true'.1 (at4 i o ho).1 e he
    exact (Nat.blt_eq (x := e.on) (y := ops.size)) ▸ this
  · have := (at4 i o ho).2
    rw [hg] at this
    exact (Nat.blt_eq (x := j) (y := ops.size)) ▸ this
theorem Tg {π : List Nat} {es : List (Nat × Nat)} {l : List Oper} : ∀ (r : List Nat), (∀ i ∈ r, i < l.length) → (MK π es l r).length = r.length ∧ ∀ k i : Nat, r[k]? = some i → (MK π es l r)[k]? = (l[i]?).map (C8 π es i) := by
  intro r
  induction r with
  | nil => intro _; exact ⟨rfl, fun k i h => by simp at h⟩
  | cons j r ih =>
    intro h
    obtain ⟨h1, h2⟩ := ih fun i hi => h i (List.mem_cons_of_mem _ hi)
    have hj : j < l.length := h j (by simp)
    simp only [MK, List.getElem?_eq_getElem hj]
    refine ⟨by simp [h1], fun k i hk => ?_⟩
    cases k with
    | zero => simp at hk; subst hk; simp [List.getElem?_eq_getElem hj]
    | succ k => simp at hk ⊢; exact h2 k i hk
section
variable {P : Program} {ops : Array Oper} {Q : Exit → Act → World → Prop} {π : List Nat} {es : List (Nat × Nat)}
theorem Perm.mem (p : Perm π ops) : ∀ i ∈ π, i < ops.toList.length := by
  intro i hi
  obtain ⟨k, hk, e⟩ := List.getElem_of_mem hi
  obtain ⟨j, h1, _, h2⟩ := p.back k (by rw [← p.len]; exact hk)
  rw [List.getElem?_eq_getElem hk] at h1
  cases h1
  rw [← e]; simpa using h2
theorem Perm.size (p : Perm π ops) : (oT π es ops).size = ops.size := by
  unfold oT
  rw [List.size_toArray, (Tg (es := es) (π := π) π p.mem).1, p.len]
theorem Perm.get (p : Perm π ops) {i : Nat} (hi : i < ops.size) : (oT π es ops)[tD π i]? = (ops[i]?).map (C8 π es i) := by
  unfold oT
  have := (Tg (es := es) (π := π) π p.mem).2 (tD π i) i (p.to i hi).2
  rw [Array.getElem?_toList] at this
  simpa using this
theorem W0 {i : Nat} {o : Oper} {a : Act} {w : World} {K : Act → World → Prop} : (C8 π es i o).wp P a w K Q = o.wp P a w K Q := by
  unfold Oper.wp
  have : execOp a.eval (C8 π es i o) = execOp a.eval o := by
    obtain ⟨d, op, ty, ps, af, g⟩ := o
    cases op <;> rfl
  rw [this]
  generalize (execOp a.eval o).run P w = r
  cases r with
  | ok n w => cases n <;> rfl
  | halt x w => cases x <;> rfl
theorem UE {i : Nat} {o : Oper} {a : Act} {w : World} : (C8 π es i o).asks P a w = o.asks P a w := by
  unfold Oper.asks
  have : execOp a.eval (C8 π es i o) = execOp a.eval o := by
    obtain ⟨d, op, ty, ps, af, g⟩ := o
    cases op <;> rfl
  rw [this]
theorem T5 (p : Perm π ops) {i : Nat} {o : Oper} (ho : ops[i]? = some o) (tmps : Array Value) :
    Region.wanted (C8 π es i o) (yielded (oT π es ops) tmps) = Region.wanted o (yielded ops tmps) := by
  unfold Region.wanted C8
  simp only
  cases hg : o.guard with
  | none => rfl
  | some q =>
    obtain ⟨j, b⟩ := q
    simp only
    have hj := p.guard i o j b ho hg
    have : (oT π es ops)[tD π j]?.bind (·.dst) = (ops[j]?).bind (·.dst) := by
      rw [p.get hj]
      cases ops[j]? <;> rfl
    unfold yielded
    rw [this]
theorem VH (p : Perm π ops) : ∀ (L : List Nat), (∀ i ∈ L, i < ops.size) → ∀ (a : Act) (w : World), wpOps P (oT π es ops) Q (L.map (tD π)) a w → wpOps P ops Q L a w := by
  intro L
  induction L with
  | nil => intro _ a w h; exact h
  | cons i L ih =>
    intro hL a w h
    rw [List.map_cons, wpOps_cons] at h
    rw [wpOps_cons]
    have hi := hL i (by simp)
    have ih := ih fun i hi => hL i (List.mem_cons_of_mem _ hi)
    unfold wpOp at h ⊢
    rw [p.get hi] at h
    rw [Array.getElem?_eq_getElem hi] at h ⊢
    simp only [Option.map_some] at h
    rw [T5 p (Array.getElem?_eq_getElem hi)] at h
    simp only
    split
    · rename_i hw
      rw [if_pos hw, W0, UE] at h
      exact h.imp (Oper.wp_mono fun a w => ih a w) id
    · rename_i hw
      rw [if_neg hw] at h
      exact ih _ _ h
theorem IC {ops : Array Oper} {listed : Array Bool} (hsz : listed.size = ops.size) (i : Nat) :
    i ∈ Region.ready .any ops listed ↔ (i < ops.size ∧ listed.getD i false = false ∧ ∀ o, ops[i]? = some o → ∀ e ∈ o.after, Region.binds .any e = true → listed.getD e.on false = true) := by
  unfold Region.ready
  rw [List.mem_filter, List.mem_range]
  constructor
  · rintro ⟨h1, h2⟩
    rw [Array.getElem?_eq_getElem h1] at h2
    simp only [Bool.and_eq_true, Option.map_some, Option.getD_some] at h2
    refine ⟨h1, ?_, fun o ho e he hb => ?_⟩
    · have := h2.1
      rw [Array.getD_eq_getD_getElem?] at this ⊢
      rw [Array.getElem?_eq_getElem (by omega)] at this ⊢
      simpa using this
    · rw [Array.getElem?_eq_getElem h1] at ho
      cases ho
      have := Array.all_eq_true'.1 h2.2 e he
      simpa [hb] using this
  · rintro ⟨h1, h2, h3⟩
    refine ⟨h1, ?_⟩
    rw [Array.getElem?_eq_getElem h1]
    simp only [Bool.and_eq_true, Option.map_some, Option.getD_some]
    refine ⟨?_, Array.all_eq_true'.2 fun e he => ?_⟩
    · rw [Array.getD_eq_getD_getElem?] at h2 ⊢
      rw [Array.getElem?_eq_getElem (by omega)] at h2 ⊢
      simpa using h2
    · by_cases hb : Region.binds .any e = true
      · simp [hb, h3 _ (Array.getElem?_eq_getElem h1) e he hb]
      · simp [hb]
theorem XA {π : List Nat} {i : Nat} : ∀ {es : List (Nat × Nat)} {e : Edge}, e ∈ CY π i es → ∃ a, (a, i) ∈ es ∧ e.on = tD π a := by
  intro es
  induction es with
  | nil => intro e h; simp [CY] at h
  | cons q r ih =>
    obtain ⟨a, b⟩ := q
    intro e h
    simp only [CY] at h
    cases hb : Nat.beq b i with
    | true =>
      rw [hb] at h
      obtain rfl := Nat.eq_of_beq_eq_true hb
      rcases List.mem_cons.1 h with rfl | h
      · exact ⟨a, by simp, rfl⟩
      · obtain ⟨a, h1, h2⟩ := ih h; exact ⟨a, List.mem_cons_of_mem _ h1, h2⟩
    | false => rw [hb] at h; obtain ⟨a, h1, h2⟩ := ih h; exact ⟨a, List.mem_cons_of_mem _ h1, h2⟩
theorem WR (p : Perm π ops) {L0 : List Nat} (hes : ∀ q ∈ es, L0.idxOf q.1 ≤ L0.idxOf q.2 ∧ q.1 ≠ q.2 ∧ q.1 < ops.size) :
    ∀ (fuel : Nat) (listed listed' : Array Bool) (pre L : List Nat), L0 = pre ++ L → listed.size = ops.size → listed'.size = ops.size →
      (∀ j, j < ops.size → listed'.getD (tD π j) false = listed.getD j false) → (∀ j ∈ pre, listed.getD j false = true) → (∀ j, listed.getD j false = true → j ∈ pre) →
      Tq ops fuel listed L → Tq (oT π es ops) fuel listed' (L.map (tD π)) ∧ ∀ i ∈ L, i < ops.size := by
  intro fuel
  induction fuel with
  | zero => intro listed listed' pre L _ _ _ _ _ _ h; obtain rfl : L = [] := h; exact ⟨rfl, by simp⟩
  | succ fuel ih =>
    intro listed listed' pre L hL0 hs hs' hrel hpre hpre' h
    have hsz : (oT π es ops).size = ops.size := p.size
    cases L with
    | nil =>
      refine ⟨?_, by simp⟩
      show Region.ready .any (oT π es ops) listed' = []
      rw [List.eq_nil_iff_forall_not_mem]
      intro k hk
      obtain ⟨h1, h2, h3⟩ := (IC (by omega) k).1 hk
      obtain ⟨i, hi1, hi2, hi3⟩ := p.back k (by omega)
      have : i ∈ Region.ready .any ops listed := by
        refine (IC hs i).2 ⟨hi3, ?_, fun o ho e he hb => ?_⟩
        · rw [← hrel i hi3, hi2]; exact h2
        · have g := p.get (es := es) hi3
          rw [hi2, ho] at g
          have hon := p.after i o ho e he
          have := h3 _ g ⟨tD π e.on, e.ground⟩ (by
            simp only [C8, List.mem_toArray, List.mem_append, List.mem_map]
            exact .inl ⟨e, by simpa using he, rfl⟩) (by unfold Region.binds at hb ⊢; exact hb)
          rw [← hrel e.on hon]; exact this
      rw [show Region.ready .any ops listed = [] from h] at this
      cases this
    | cons i L =>
      obtain ⟨h1, h2⟩ := h
      obtain ⟨r1, r2, r3⟩ := (IC hs i).1 h1
      have hnot : i ∉ pre := fun hm => by rw [hpre i hm] at r2; cases r2
      have hidx : L0.idxOf i = pre.length := by
        rw [hL0, List.idxOf_append, if_neg hnot]; simp
      have ready' : tD π i ∈ Region.ready .any (oT π es ops) listed' := by
        refine (IC (by omega) _).2 ⟨by rw [hsz]; exact (p.to i r1).1, by rw [hrel i r1]; exact r2, fun o' ho' e' he' hb => ?_⟩
        rw [p.get r1, Array.getElem?_eq_getElem r1] at ho'
        simp only [Option.map_some, Option.some.injEq] at ho'
        subst ho'
        simp only [C8, List.mem_toArray, List.mem_append, List.mem_map] at he'
        rcases he' with ⟨e, he, rfl⟩ | he'
        · have ho := Array.getElem?_eq_getElem r1
          have he2 : e ∈ ops[i].after := by simpa using he
          rw [hrel e.on (p.after i _ ho e he2)]
          exact r3 _ ho e he2 (by unfold Region.binds at hb ⊢; exact hb)
        · obtain ⟨a, ha, hon⟩ := XA he'
          obtain ⟨q1, q2, q3⟩ := hes _ ha
          simp only at q1 q2 q3
          rw [hon, hrel a q3]
          refine hpre a ?_
          rw [hidx] at q1
          rw [hL0, List.idxOf_append] at q1
          by_cases hm : a ∈ pre
          · exact hm
          · rw [if_neg hm] at q1
            exfalso
            have hz : (i :: L).idxOf a = 0 := by omega
            rw [List.idxOf_cons] at hz
            cases hb : (i == a) with
            | true => exact q2 (by simpa using (beq_iff_eq.1 hb).symm)
            | false => rw [hb] at hz; simp at hz
      have hlen' : listed'.size = ops.size := hs'
      obtain ⟨k1, k2⟩ := ih (listed.setIfInBounds i true) (listed'.setIfInBounds (tD π i) true) (pre ++ [i]) L (by rw [hL0]; simp) (by simp [hs]) (by simp [hs'])
        (fun j hj => by
          by_cases hji : j = i
          · subst hji
            rw [Array.getD_eq_getD_getElem?, Array.getD_eq_getD_getElem?, Array.getElem?_setIfInBounds_self_of_lt (by rw [hs']; exact (p.to j hj).1), Array.getElem?_setIfInBounds_self_of_lt (by omega)]
          · have hne : tD π i ≠ tD π j := fun e => by
              have a1 := (p.to i r1).2
              have a2 := (p.to j hj).2
              rw [e] at a1
              rw [a1] at a2
              exact hji (Option.some.inj a2).symm
            have := hrel j hj
            rw [Array.getD_eq_getD_getElem?, Array.getD_eq_getD_getElem?] at this ⊢
            rw [Array.getElem?_setIfInBounds_ne hne, Array.getElem?_setIfInBounds_ne (fun e => hji e.symm)]
            exact this)
        (fun j hj => by
          rw [Array.getD_eq_getD_getElem?]
          rcases List.mem_append.1 hj with hj | hj
          · by_cases hji : j = i
            · subst hji; rw [Array.getElem?_setIfInBounds_self_of_lt (by omega)] <;> rfl
            · rw [Array.getElem?_setIfInBounds_ne (fun e => hji e.symm), ← Array.getD_eq_getD_getElem?]; exact hpre j hj
          · have : j = i := by simpa using hj
            subst this
            rw [Array.getElem?_setIfInBounds_self_of_lt (by omega)] <;> rfl)
        (fun j hj => by
          by_cases hji : j = i
          · subst hji; simp
          · rw [Array.getD_eq_getD_getElem?, Array.getElem?_setIfInBounds_ne (fun e => hji e.symm), ← Array.getD_eq_getD_getElem?] at hj
            exact List.mem_append_left _ (hpre' j hj))
        h2
      exact ⟨⟨ready', k1⟩, fun j hj => (List.mem_cons.1 hj).elim (fun e => e ▸ r1) (k2 j)⟩
end
section
variable {P : Program} {ops : Array Oper}
theorem Qj {N : Nat} {an : Wc} {pl : Uv} (hok : Sh ops an = true) (hpl : Sf ops.size an pl = true) (hd : R4 N ops) (hca : Nl P ops)
    {K : jT → World → Prop} {Q : Exit → Act → World → Prop} (hQ : ∀ g a w, IM N g a → K g w → Q .normal a w) {g : jT} {a : Act} {w : World} (hr : IM N g a)
    (h : pV P ops ops.toList pl [] g w K) : wpAny P .any ops Q ops.size (Array.replicate ops.size false) a w := by
  have r0 : W9 P ops an g w 0 (fun _ => default) (fun _ => g) (fun _ => w) (fun _ => undef) :=
    ⟨rfl, rfl, fun i hi => by omega, fun i hi => by omega, fun i hi => by omega, fun i hi => by omega, fun i j _ hj => by omega⟩
  obtain ⟨O, G, W, V, r, hk⟩ := UB hpl ops.toList 0 [] _ _ _ _ (fun j => by simp) (by simp) r0 (fun i hi => by omega) h
  simp only [Nat.zero_add, Array.length_toList] at r hk
  have st := WC hok r.op
  have := Xp (Q := Q) (n := ops.size) rfl hd hca r st (fun a hra => hQ _ a _ hra hk) ops.size (Array.replicate ops.size false) g a 0 (by simp) hr (by omega)
    (fun j hj hl => by unfold mV at hl; simp [Array.getD_eq_getD_getElem?, hj] at hl)
    (fun s => .inr ⟨fun j hj hl => by unfold mV at hl; simp [Array.getD_eq_getD_getElem?, hj] at hl, rfl⟩)
    (fun h hh _ => ⟨fun hl => by unfold mV at hl; simp [Array.getD_eq_getD_getElem?, hh] at hl, fun hl => by omega⟩)
    (Nat.le_trans (List.length_filter_le _ _) (by simp))
  rw [r.w0] at this
  exact this
theorem Tb {N : Nat} {ops : Array Oper} (h : ops.all (Wf N) = true) : R4 N ops := by
  intro i o ho t ht
  have := Array.all_eq_true'.1 h o (Array.mem_of_getElem? ho)
  unfold Wf at this
  rw [ht] at this
  exact (Nat.blt_eq (x := t) (y := N)) ▸ this
theorem RN {ops : Array Oper} (h : ops.all (Ia P) = true) : Nl P ops :=
  fun _ o ho => Array.all_eq_true'.1 h o (Array.mem_of_getElem? ho)
theorem Vn {N : Nat} {f : FuncId} {id : Nat} (hd : R4 N ops) (hca : Nl P ops)
    {K : jT → World → Prop} {Q : Exit → Act → World → Prop} (hQ : ∀ g a w, IM N g a → K g w → Q .normal a w) {g : jT} {a : Act} {w0 w : World} (hr : IM N g a) :
    ∀ (T : HT) (path : List (Nat × Nat)), KC P N ops path T = true →
      (∀ q ∈ path, (Region.schedule true ops (w0.tape w0.drawn (.order f id))).idxOf q.1 ≤ (Region.schedule true ops (w0.tape w0.drawn (.order f id))).idxOf q.2 ∧ q.1 ≠ q.2) →
      Um P f id ops T g w0 w K → wpOps P ops Q (Region.schedule true ops (w0.tape w0.drawn (.order f id))) a w := by
  have lin : Tq ops ops.size (Array.replicate ops.size false) (Region.schedule true ops (w0.tape w0.drawn (.order f id))) := by
    unfold Region.schedule
    simp only [Bool.true_or, if_true]
    exact Yq _ _ _
  generalize hL : Region.schedule true ops (w0.tape w0.drawn (.order f id)) = L at lin ⊢
  intro T
  induction T with
  | leaf an pl =>
    intro path hok _ h
    simp only [KC, Bool.and_eq_true] at hok
    exact NT _ _ _ _ _ (Qj hok.1 hok.2 hd hca hQ hr h) lin
  | perm π es an pl =>
    intro path hok hpath h
    simp only [KC, Bool.and_eq_true] at hok
    obtain ⟨⟨⟨⟨⟨h1, h2⟩, h3⟩, h4⟩, h5⟩, h6⟩ := hok
    have p := YX h2
    have hes : ∀ q ∈ es, L.idxOf q.1 ≤ L.idxOf q.2 ∧ q.1 ≠ q.2 ∧ q.1 < ops.size := fun q hq => by
      have := List.all_eq_true.1 h1 q hq
      simp only [Bool.and_eq_true] at this
      have hp := hpath q (XI this.1)
      exact ⟨hp.1, hp.2, (Nat.blt_eq (x := q.1) (y := ops.size)) ▸ this.2⟩
    obtain ⟨k1, k2⟩ := WR (es := es) p hes ops.size (Array.replicate ops.size false) (Array.replicate ops.size false) [] L rfl (by simp) (by simp)
      (fun j hj => by simp [Array.getD_eq_getD_getElem?, hj, (p.to j hj).1]) (by simp)
      (fun j hj => by rw [Array.getD_eq_getD_getElem?] at hj; by_cases hh : j < ops.size <;> simp [hh] at hj) lin
    have hw := Qj h5 h6 (Tb h3) (RN h4) hQ hr h
    rw [p.size] at hw
    exact VH (es := es) p L k2 a w (NT _ _ _ _ _ hw k1)
  | split x y A B ihA ihB =>
    intro path hok hpath h
    simp only [KC, Bool.and_eq_true] at hok
    have hne : x ≠ y := by
      intro e
      have := hok.1.1
      rw [e] at this
      simp at this
    simp only [Um] at h
    unfold Yx Ud at h
    rw [hL] at h
    cases hb : Nat.ble (L.idxOf x) (L.idxOf y) with
    | true =>
      rw [hb] at h
      refine ihA _ hok.1.2 (fun q hq => ?_) h
      rcases List.mem_cons.1 hq with rfl | hq
      · exact ⟨Nat.le_of_ble_eq_true hb, hne⟩
      · exact hpath q hq
    | false =>
      rw [hb] at h
      refine ihB _ hok.2 (fun q hq => ?_) h
      rcases List.mem_cons.1 hq with rfl | hq
      · refine ⟨?_, hne.symm⟩
        simp only
        rcases Nat.lt_or_ge (L.idxOf y) (L.idxOf x) with hh | hh
        · omega
        · have := Nat.ble_eq_true_of_le hh; rw [this] at hb; cases hb
      · exact hpath q hq
end
end Go.En
namespace Go.En
open Go
section
variable {P : Program} {ann : FA}
def nV : List Oper → List Nat
  | [] => []
  | o :: r => match o.dst with | some d => d :: nV r | none => nV r
def O7 : Code → List Nat
  | .region _ ops _ => nV ops.toList
  | .seq x y => O7 x ++ O7 y
  | .cond _ x y => O7 x ++ O7 y
  | .block _ c => O7 c
  | .scope c => O7 c
  | .loop c => O7 c
  | _ => []
def nN (l : List Nat) (g g' : jT) : Prop := ∀ s, s ∉ l → g' s = g s
theorem nN.refl (l : List Nat) (g : jT) : nN l g g := fun _ _ => rfl
theorem nN.trans {l l1 l2 : List Nat} {a b c : jT} (h : nN l1 a b) (k : nN l2 b c) (h1 : ∀ s, s ∈ l1 → s ∈ l) (h2 : ∀ s, s ∈ l2 → s ∈ l) : nN l a c :=
  fun s hs => (k s fun h => hs (h2 s h)).trans (h s fun h => hs (h1 s h))
theorem nN.mono {l l1 : List Nat} {a b : jT} (h : nN l1 a b) (h1 : ∀ s, s ∈ l1 → s ∈ l) : nN l a b := fun s hs => h s fun hh => hs (h1 s hh)
theorem nN.put {l : List Nat} {a : jT} (d : Option Tmp) (v : Value) (h : ∀ t, d = some t → t ∈ l) : nN l a (put a d v) := by
  intro s hs
  cases d with
  | none => rfl
  | some t =>
    rw [Sp, if_neg (fun e => hs (by rw [e]; exact h t rfl))]
theorem UZ {ops : Array Oper} {K : jT → World → Prop} : ∀ (l : List Oper) (g : jT) (w : World), Sv P ops l g w K →
    ∃ g' w', K g' w' ∧ nN (nV l) g g' ∧ ∀ K' : jT → World → Prop, K' g' w' → Sv P ops l g w K' := by
  intro l
  induction l with
  | nil => intro g w h; exact ⟨g, w, h, nN.refl _ _, fun _ h => h⟩
  | cons o l ih =>
    intro g w h
    obtain ⟨v, w1, hy, h1⟩ := G4 h
    obtain ⟨g', w', hk, ha, hall⟩ := ih _ _ h1
    refine ⟨g', w', hk, ?_, fun K' hk' => hy _ (hall K' hk')⟩
    refine nN.trans (nN.put o.dst v (l := nV (o :: l)) fun t ht => by simp [nV, ht]) ha (fun _ h => h) (fun s hs => ?_)
    unfold nV
    split
    · exact List.mem_cons_of_mem _ hs
    · exact hs
theorem Qm {ops : Array Oper} {K : jT → World → Prop} : ∀ (l : List Oper) (pl : Uv) (hist : List Yk) (g : jT) (w : World), pV P ops l pl hist g w K →
    ∃ g' w', K g' w' ∧ nN (nV l) g g' ∧ ∀ K' : jT → World → Prop, K' g' w' → pV P ops l pl hist g w K' := by
  intro l
  induction l with
  | nil => intro pl hist g w h; unfold pV at h; exact ⟨g, w, h, nN.refl _ _, fun _ h => (by unfold pV; exact h)⟩
  | cons o l ih =>
    intro pl hist g w h
    cases pl with
    | nil => exact h.elim
    | cons p pl =>
      obtain ⟨hv, ks⟩ := p
      obtain ⟨v, w1, hy, h1⟩ := G4 h
      have tail : ∀ (w2 : World) (hist' : List Yk), pV P ops l pl hist' (put g o.dst v) w2 K →
          ∃ g' w', K g' w' ∧ nN (nV (o :: l)) g g' ∧ ∀ K' : jT → World → Prop, K' g' w' → pV P ops l pl hist' (put g o.dst v) w2 K' := by
        intro w2 hist' c2
        obtain ⟨g', w', hk, ha, hall⟩ := ih _ _ _ _ c2
        refine ⟨g', w', hk, ?_, hall⟩
        refine nN.trans (nN.put o.dst v (l := nV (o :: l)) fun t ht => by simp [nV, ht]) ha (fun _ h => h) (fun s hs => ?_)
        unfold nV
        split
        · exact List.mem_cons_of_mem _ hs
        · exact hs
      cases hv with
      | true =>
        cases ks with
        | nil =>
          obtain ⟨g', w', hk, ha, hall⟩ := tail w1 _ h1
          exact ⟨g', w', hk, ha, fun K' hk' => hy _ (hall K' hk')⟩
        | cons k ks =>
          obtain ⟨hc, h1⟩ := h1
          obtain ⟨g', w', hk, ha, hall⟩ := tail w1 _ h1
          exact ⟨g', w', hk, ha, fun K' hk' => hy _ ⟨hc, hall K' hk'⟩⟩
      | false =>
        cases ks with
        | nil =>
          obtain ⟨rfl, h1⟩ := h1
          obtain ⟨g', w', hk, ha, hall⟩ := tail w1 _ h1
          exact ⟨g', w', hk, ha, fun K' hk' => hy _ ⟨rfl, hall K' hk'⟩⟩
        | cons k ks =>
          obtain ⟨rfl, hc, h1⟩ := h1
          obtain ⟨g', w', hk, ha, hall⟩ := tail w1 _ h1
          exact ⟨g', w', hk, ha, fun K' hk' => hy _ ⟨rfl, hc, hall K' hk'⟩⟩
theorem Ie {l : List Oper} {s : Nat} : s ∈ nV l ↔ ∃ o ∈ l, o.dst = some s := by
  induction l with
  | nil => simp [nV]
  | cons o l ih =>
    unfold nV
    cases hd : o.dst with
    | none => simp [ih, hd]
    | some d => simp [ih, hd, eq_comm]
theorem U8 {π : List Nat} {es : List (Nat × Nat)} {l : List Oper} {s : Nat} : ∀ (r : List Nat), s ∈ nV (MK π es l r) → s ∈ nV l := by
  intro r
  induction r with
  | nil => intro h; simp [MK, nV] at h
  | cons i r ih =>
    intro h
    simp only [MK] at h
    cases ho : l[i]? with
    | none => rw [ho] at h; exact ih h
    | some o =>
      rw [ho] at h
      obtain ⟨o', h1, h2⟩ := Ie.1 h
      rcases List.mem_cons.1 h1 with rfl | h1
      · exact Ie.2 ⟨o, List.mem_of_getElem? ho, h2⟩
      · exact ih (Ie.2 ⟨o', h1, h2⟩)
theorem XN {f : FuncId} {id : Nat} {ops : Array Oper} {K : jT → World → Prop} {g : jT} {w0 : World} : ∀ (T : HT) (w : World), Um P f id ops T g w0 w K →
    ∃ g' w', K g' w' ∧ nN (nV ops.toList) g g' ∧ ∀ K' : jT → World → Prop, K' g' w' → Um P f id ops T g w0 w K' := by
  intro T
  induction T with
  | leaf an pl => intro w h; exact Qm _ _ _ _ _ h
  | perm π es an pl =>
    intro w h
    obtain ⟨g', w', a, b, c⟩ := Qm _ _ _ _ _ h
    exact ⟨g', w', a, b.mono (fun s hs => U8 π (by simpa [oT] using hs)), c⟩
  | split x y A B ihA ihB =>
    intro w h
    simp only [Um, Yx] at h ⊢
    cases hb : Ud f id ops x y w0 with
    | true => rw [hb] at h; exact ihA w h
    | false => rw [hb] at h; exact ihB w h
theorem iY.head {α : Type} {F : (α → World → Prop) → α → World → Prop} (hmono : ∀ X Y g w, (∀ g w, X g w → Y g w) → F X g w → F Y g w)
    {g : α} {w : World} (h : F (fun g' w' => iY F g' w') g w) (hdet : ∃ g' w', iY F g' w' ∧ ∀ X : α → World → Prop, X g' w' → F X g w) : iY F g w := by
  obtain ⟨g1, w1, ⟨I, ⟨n1, h1⟩, hI⟩, hF⟩ := hdet
  refine ⟨fun n g' w' => I n g' w' ∨ (n = n1 + 1 ∧ g' = g ∧ w' = w), ⟨n1 + 1, .inr ⟨rfl, rfl, rfl⟩⟩, ?_⟩
  rintro n g' w' (h | ⟨rfl, rfl, rfl⟩)
  · exact hmono _ _ _ _ (fun _ _ ⟨m, hm, hh⟩ => ⟨m, hm, .inl hh⟩) (hI _ _ _ h)
  · exact hF _ ⟨n1, by omega, .inl h1⟩
theorem VU : ∀ (c : Code) (Q : Exit → jT → World → Prop) (g : jT) (w : World), eK P ann c Q g w →
    ∃ e g' w', Q e g' w' ∧ nN (O7 c) g g' ∧ ∀ Q' : Exit → jT → World → Prop, Q' e g' w' → eK P ann c Q' g w := by
  intro c
  induction c with
  | skip => intro Q g w h; exact ⟨_, _, _, h, nN.refl _ _, fun _ h => h⟩
  | region id ops draw =>
    intro Q g w h
    cases draw with
    | false =>
      obtain ⟨g', w', a, b, c⟩ := UZ _ _ _ h
      exact ⟨.normal, g', w', a, b, fun Q' h => c _ h⟩
    | true =>
      obtain ⟨g', w', a, b, c⟩ := XN _ _ h
      exact ⟨.normal, g', w', a, b, fun Q' h => c _ h⟩
  | seq x y ihx ihy =>
    intro Q g w h
    obtain ⟨e, g1, w1, a, b, c⟩ := ihx _ _ _ h
    cases e with
    | normal =>
      obtain ⟨e2, g2, w2, a2, b2, c2⟩ := ihy _ _ _ a
      exact ⟨e2, g2, w2, a2, b.trans b2 (fun s h => List.mem_append_left _ h) (fun s h => List.mem_append_right _ h), fun Q' h => c _ (c2 _ h)⟩
    | _ => exact ⟨_, g1, w1, a, b.mono (fun s h => List.mem_append_left _ h), fun Q' h => c _ h⟩
  | cond c x y ihx ihy =>
    intro Q g w h
    simp only [eK] at h ⊢
    unfold lM at h ⊢
    cases hc : ev g c with
    | bool b =>
      rw [hc] at h
      cases b with
      | true =>
        obtain ⟨e, g', w', a, b, c⟩ := ihx _ _ _ h
        exact ⟨e, g', w', a, b.mono (fun s h => List.mem_append_left _ h), c⟩
      | false =>
        obtain ⟨e, g', w', a, b, c⟩ := ihy _ _ _ h
        exact ⟨e, g', w', a, b.mono (fun s h => List.mem_append_right _ h), c⟩
    | _ => rw [hc] at h; exact h.elim
  | block id c ih =>
    intro Q g w h
    obtain ⟨e, g', w', a, b, c⟩ := ih _ _ _ h
    cases e with
    | exit i =>
      simp only [vI] at a
      cases hb : Nat.beq i id with
      | true =>
        simp only [hb] at a
        refine ⟨.normal, g', w', a, b, fun Q' h => c _ ?_⟩
        simp only [vI, hb]; exact h
      | false =>
        simp only [hb] at a
        refine ⟨.exit i, g', w', a, b, fun Q' h => c _ ?_⟩
        simp only [vI, hb]; exact h
    | _ => exact ⟨_, g', w', a, b, fun Q' h => c _ h⟩
  | loop c ih =>
    intro Q g w h
    have hmono : ∀ (Q : Exit → jT → World → Prop) (X Y : jT → World → Prop) g w, (∀ g w, X g w → Y g w) → eK P ann c (fH X Q) g w → eK P ann c (fH Y Q) g w := by
      intro Q X Y g w hxy h
      obtain ⟨e, g', w', a, _, k⟩ := ih _ _ _ h
      refine k _ ?_
      cases e with
      | normal => exact hxy _ _ a
      | _ => exact a
    obtain ⟨I, ⟨n, h0⟩, hI⟩ := h
    have key : ∀ n g w, I n g w → ∃ e g' w', Q e g' w' ∧ nN (O7 c) g g' ∧ ∀ Q' : Exit → jT → World → Prop, Q' e g' w' → iY (fun X g w => eK P ann c (fH X Q') g w) g w := by
      intro n
      induction n using Nat.strongRecOn with
      | _ n ih2 =>
        intro g w hg
        obtain ⟨e, g1, w1, a, b, k⟩ := ih _ _ _ (hI n g w hg)
        have once : ∀ (Q' : Exit → jT → World → Prop), (∀ X : jT → World → Prop, eK P ann c (fH X Q') g w) → iY (fun X g w => eK P ann c (fH X Q') g w) g w := by
          intro Q' h
          refine ⟨fun n g' w' => g' = g ∧ w' = w, ⟨0, rfl, rfl⟩, ?_⟩
          rintro _ g' w' ⟨rfl, rfl⟩
          exact h _
        cases e with
        | normal =>
          obtain ⟨m, hm, hIm⟩ := a
          obtain ⟨e2, g2, w2, a2, b2, k2⟩ := ih2 m hm g1 w1 hIm
          refine ⟨e2, g2, w2, a2, b.trans b2 (fun _ h => h) (fun _ h => h), fun Q' h => ?_⟩
          have hl := k2 Q' h
          exact iY.head (hmono Q') (k _ hl) ⟨g1, w1, hl, fun X hx => k _ hx⟩
        | _ => exact ⟨_, g1, w1, a, b, fun Q' h => once Q' fun X => k _ h⟩
    exact key n g w h0
  | exit id => intro Q g w h; exact ⟨_, _, _, h, nN.refl _ _, fun _ h => h⟩
  | label l => intro Q g w h; exact ⟨_, _, _, h, nN.refl _ _, fun _ h => h⟩
  | scope c ih => intro Q g w h; exact ih Q g w h
  | ret => intro Q g w h; exact ⟨_, _, _, h, nN.refl _ _, fun _ h => h⟩
  | _ => intro Q g w h; exact h.elim
theorem DX {c : Code} {Q Q' : Exit → jT → World → Prop} {g : jT} {w : World} (h : eK P ann c Q g w)
    (hq : ∀ e g' w', nN (O7 c) g g' → Q e g' w' → Q' e g' w') : eK P ann c Q' g w :=
  let ⟨_, _, _, a, b, k⟩ := VU c Q g w h
  k _ (hq _ _ _ b a)
def ZR (Q : Exit → jT → World → Prop) : Exit → jT → World → Prop
  | .goto _, _, _ => False
  | e, g, w => Q e g w
theorem Vc : ∀ (c : Code) (Q : Exit → jT → World → Prop) (g : jT) (w : World), eK P ann c Q g w → eK P ann c (ZR Q) g w := by
  intro c
  induction c with
  | skip => intro Q g w h; exact h
  | region id ops draw => intro Q g w h; cases draw <;> exact h
  | seq x y ihx ihy =>
    intro Q g w h
    show eK P ann x (fH (fun g w => eK P ann y (ZR Q) g w) (ZR Q)) g w
    refine DX (ihx _ _ _ h) (fun e g' w' _ hq => ?_)
    cases e with
    | normal => exact ihy _ _ _ hq
    | goto l => exact hq.elim
    | _ => exact hq
  | cond c x y ihx ihy =>
    intro Q g w h
    simp only [eK] at h ⊢
    unfold lM at h ⊢
    cases hc : ev g c with
    | bool b =>
      rw [hc] at h
      cases b with
      | true => exact ihx _ _ _ h
      | false => exact ihy _ _ _ h
    | _ => rw [hc] at h; exact h.elim
  | block id c ih =>
    intro Q g w h
    show eK P ann c (vI id (ZR Q)) g w
    refine DX (ih _ _ _ h) (fun e g' w' _ hq => ?_)
    cases e with
    | exit i =>
      simp only [ZR, vI] at hq ⊢
      cases hb : Nat.beq i id with
      | true => rw [hb] at hq; exact hq
      | false => rw [hb] at hq; exact hq
    | goto l => exact hq.elim
    | _ => exact hq
  | loop c ih =>
    intro Q g w h
    obtain ⟨I, h0, hI⟩ := h
    refine ⟨I, h0, fun n g w hi => ?_⟩
    refine DX (ih _ _ _ (hI n g w hi)) (fun e g' w' _ hq => ?_)
    cases e with
    | normal => exact hq
    | goto l => exact hq.elim
    | _ => exact hq
  | exit id => intro Q g w h; exact h
  | label l => intro Q g w h; exact h
  | scope c ih => intro Q g w h; exact ih Q g w h
  | ret => intro Q g w h; exact h
  | _ => intro Q g w h; exact h.elim
theorem WE {N : Nat} (hm : P.follows .mixedOrders = true) : ∀ (c : Code), AG P N ann c = true →
    ∀ (Q : Exit → jT → World → Prop) (QA : Exit → Act → World → Prop) (g : jT) (a : Act) (w : World), IM N g a →
      (∀ e g a w, IM N g a → Q e g w → QA e a w) → eK P ann c Q g w → U7 P ann.f c QA a w := by
  intro c
  induction c with
  | skip => intro _ Q QA g a w hr hq h; exact R2 (wp_skip (hq _ _ _ _ hr h))
  | region id ops draw =>
    intro hok Q QA g a w hr hq h
    simp only [AG, Bool.and_eq_true, Bool.or_eq_true, Bool.not_eq_true'] at hok
    have hd := Tb hok.1.1
    have hca := RN hok.1.2
    cases draw with
    | false =>
      refine R2 (wp_region ?_)
      have := Wo hd hca (P := P) (Q := QA) (K := Q .normal) (fun g a w => hq .normal g a w) ops.toList 0 g a w (fun j => by simp) hr h
      rw [List.range_eq_range']
      simpa using this
    | true =>
      rcases hok.2 with h1 | h1
      · cases h1
      · exact QM hm (Vn hd hca (fun g a w => hq .normal g a w) hr _ [] h1 (by simp) h)
  | seq x y ihx ihy =>
    intro hok Q QA g a w hr hq h
    simp only [AG, Bool.and_eq_true] at hok
    refine YR (ihx hok.1 _ _ g a w hr (fun e g a w hr h => ?_) h)
    cases e with
    | normal => exact ihy hok.2 _ _ g a w hr hq h
    | _ => exact hq _ _ _ _ hr h
  | cond c x y ihx ihy =>
    intro hok Q QA g a w hr hq h
    simp only [AG, Bool.and_eq_true] at hok
    simp only [eK] at h
    unfold lM at h
    have he := hr.ev c
    cases hc : ev g c with
    | bool b =>
      rw [hc] at h he
      refine XT he ?_
      cases b with
      | true => exact ihx hok.1 _ _ g a w hr hq h
      | false => exact ihy hok.2 _ _ g a w hr hq h
    | _ => rw [hc] at h; exact h.elim
  | block id c ih =>
    intro hok Q QA g a w hr hq h
    refine W2 (ih hok _ _ g a w hr (fun e g a w hr h => ?_) h)
    cases e with
    | exit i =>
      unfold Exit.inBlock
      simp only [vI] at h
      by_cases hi : i = id
      · subst hi
        simp only [if_true]
        simp only [Nat.beq_refl] at h
        exact hq _ _ _ _ hr h
      · simp only [hi, if_false]
        have : Nat.beq i id = false := by
          cases hb : Nat.beq i id
          · rfl
          · exact absurd (Nat.eq_of_beq_eq_true hb) hi
        simp only [this] at h
        exact hq _ _ _ _ hr h
    | _ => exact hq _ _ _ _ hr h
  | loop c ih =>
    intro hok Q QA g a w hr hq h
    obtain ⟨I, h0, hround⟩ := h
    have hex : ∀ a w, (∃ n g, IM N g a ∧ I n g w) → ∃ n, (∃ g, IM N g a ∧ I n g w) ∧ ∀ m, (∃ g, IM N g a ∧ I m g w) → n ≤ m := by
      rintro a w ⟨n, hn⟩
      induction n using Nat.strongRecOn with
      | _ n ih2 =>
        by_cases hx : ∃ m, m < n ∧ ∃ g, IM N g a ∧ I m g w
        · obtain ⟨m, hm, h⟩ := hx; exact ih2 m hm h
        · exact ⟨n, hn, fun m hm => Nat.le_of_not_lt fun hlt => hx ⟨m, hlt, hm⟩⟩
    have hdec : ∀ a w, Decidable (∃ n g, IM N g a ∧ I n g w) := fun a w => Classical.propDecidable _
    let μ : Act → World → Nat := fun a w => if hh : ∃ n g, IM N g a ∧ I n g w then Classical.choose (hex a w hh) else 0
    have hμ : ∀ a w n g, IM N g a → I n g w → μ a w ≤ n ∧ ∃ g, IM N g a ∧ I (μ a w) g w := by
      intro a w n g hr hI
      have hh : ∃ n g, IM N g a ∧ I n g w := ⟨n, g, hr, hI⟩
      have e : μ a w = Classical.choose (hex a w hh) := dif_pos hh
      have s := Classical.choose_spec (hex a w hh)
      rw [e]
      exact ⟨s.2 n ⟨g, hr, hI⟩, s.1⟩
    obtain ⟨n0, h0⟩ := h0
    refine XG (fun a w => ∃ n g, IM N g a ∧ I n g w) μ ⟨n0, g, hr, h0⟩ ?_
    rintro a w ⟨n, g, hr, hI⟩
    obtain ⟨_, g', hr', hI'⟩ := hμ a w n g hr hI
    refine ih hok _ _ g' a w hr' (fun e g1 a1 w1 hr1 h => ?_) (hround _ _ _ hI')
    cases e with
    | normal =>
      obtain ⟨m, hm, hIm⟩ := h
      have := hμ a1 w1 m g1 hr1 hIm
      exact ⟨⟨m, g1, hr1, hIm⟩, by omega⟩
    | _ => exact hq _ _ _ _ hr1 h
  | label l => intro _ Q QA g a w hr hq h; exact R2 (wp_label (hq _ _ _ _ hr h))
  | scope c ih =>
    intro hok Q QA g a w hr hq h
    refine Ww (ih hok (ZR Q) _ g a w hr (fun e g a w hr h => ?_) (Vc c _ g w h))
    cases e with
    | goto l => exact h.elim
    | _ => exact hq _ _ _ _ hr h
  | exit id => intro _ Q QA g a w hr hq h; exact R2 (wp_exit (hq _ _ _ _ hr h))
  | ret => intro _ Q QA g a w hr hq h; exact R2 (wp_ret (hq _ _ _ _ hr h))
  | _ => intro hok; simp [AG] at hok
def vG (P : Program) : List ResultVar → jT → World → (List Value → Prop) → Prop
  | [], _, _, K => K []
  | .tmp t :: r, g, w, K => vG P r g w fun vs => K (g t :: vs)
  | .cell a t :: r, g, w, K => ∃ v, (do loadVar t (← asAddr (g a)) : Sem Value).run P w = .ok v w ∧ vG P r g w fun vs => K (v :: vs)
def Yo : List Value → Value
  | [v] => v
  | vs => .tuple vs.toArray
def nK (P : Program) (rs : List ResultVar) (R : Value → World → Prop) : Exit → jT → World → Prop
  | .normal, g, w => vG P rs g w fun vs => R (Yo vs) w
  | .ret, g, w => vG P rs g w fun vs => R (Yo vs) w
  | _, _, _ => False
theorem T7 {N : Nat} {g : jT} {a : Act} {w : World} (hr : IM N g a) : ∀ (rs : List ResultVar) (K : List Value → Prop), vG P rs g w K →
    ∃ vs, K vs ∧ (rs.mapM fun | .tmp t => pure (a.tmps.getD t undef) | .cell b t => do loadVar t (← asAddr (a.tmps.getD b undef)) : Sem (List Value)).run P w = .ok vs w := by
  intro rs
  induction rs with
  | nil => intro K h; exact ⟨[], h, by simp⟩
  | cons r rs ih =>
    intro K h
    cases r with
    | tmp t =>
      obtain ⟨vs, h1, h2⟩ := ih _ h
      refine ⟨_, h1, ?_⟩
      rw [List.mapM_cons]
      rw [pure_bind, Sem.run_bind]
      simp only [h2, Result.andThen, Sem.run_pure, hr.2.2 t]
    | cell b t =>
      obtain ⟨v, hv, h⟩ := h
      obtain ⟨vs, h1, h2⟩ := ih _ h
      refine ⟨_, h1, ?_⟩
      rw [List.mapM_cons]
      rw [← hr.2.2 b] at hv
      rw [Sem.run_bind]
      simp only [hv, Result.andThen]
      rw [Sem.run_bind]
      simp only [h2, Result.andThen]
      rfl
theorem Zs (vs : Array Value) : (if h : vs.size = 1 then vs[0] else Value.tuple vs) = Yo vs.toList := by
  obtain ⟨l⟩ := vs
  match l with
  | [] => rfl
  | [v] => rfl
  | a :: b :: r => simp [Yo]
theorem Ux {N : Nat} {g : jT} {a : Act} {w : World} (fn : Func) {rs : List ResultVar} (hrs : fn.results = rs.toArray) (hr : IM N g a) {R : Value → World → Prop}
    (h : vG P rs g w fun vs => R (Yo vs) w) : ∃ v, (results fn a.tmps).run P w = .ok v w ∧ R v w := by
  obtain ⟨vs, h1, h2⟩ := T7 hr rs _ h
  refine ⟨Yo vs, ?_, h1⟩
  unfold results
  rw [hrs, Array.mapM_eq_mapM_toList, List.toList_toArray]
  simp only [bind_assoc, map_eq_pure_bind]
  rw [Sem.run_bind]
  refine Eq.trans (congrArg (fun r => Result.andThen r _) h2) ?_
  simp only [Result.andThen]
  simp only [pure_bind, Sem.run_pure, Zs]
def lI (args : List Value) : jT := fun i => args.getD i undef
theorem gJ {f : FuncId} {fn : Func} {c : Code} {args : List Value} {w : World} {rs : List ResultVar} {R : Value → World → Prop} (hm : P.follows .mixedOrders = true) (hAf : ann.f = f)
    (hf : P.funcs[f]? = some fn) (hb : fn.body = some c) (hrs : fn.results = rs.toArray) {N : Nat} (hN : fn.ntmps = N) (hle : args.length ≤ N)
    (hok : AG P N ann c = true) (h : eK P ann c (nK P rs R) (lI args) w) : hJ P f args.toArray w R := by
  obtain ⟨e, g', w', hq, _, hall⟩ := VU _ _ _ _ h
  have hrv : vG P rs g' w' fun vs => R (Yo vs) w' := by cases e <;> first | exact hq | exact hq.elim
  have hex : ∃ v, R v w' ∧ ∀ R' : Value → World → Prop, R' v w' → vG P rs g' w' fun vs => R' (Yo vs) w' := by
    have gen : ∀ (rs : List ResultVar) (K : List Value → Prop), vG P rs g' w' K → ∃ vs, K vs ∧ ∀ K' : List Value → Prop, K' vs → vG P rs g' w' K' := by
      intro rs
      induction rs with
      | nil => intro K h; exact ⟨_, h, fun _ h => h⟩
      | cons r rs ih =>
        intro K h
        cases r with
        | tmp t =>
          obtain ⟨vs, a, b⟩ := ih _ h
          exact ⟨_, a, fun K' h => b _ h⟩
        | cell b t =>
          obtain ⟨v, hv, h⟩ := h
          obtain ⟨vs, a, b⟩ := ih _ h
          exact ⟨_, a, fun K' h => ⟨v, hv, b _ h⟩⟩
    obtain ⟨vs, a, b⟩ := gen _ _ hrv
    exact ⟨_, a, fun R' h => b _ h⟩
  obtain ⟨v, hv, hrest⟩ := hex
  refine ⟨v, w', ?_, hv⟩
  have hrel : IM N (lI args) { tmps := args.toArray ++ Array.replicate (fn.ntmps - args.toArray.size) undef, defers := [] } := by
    refine ⟨rfl, by simp [hN]; omega, fun i => ?_⟩
    simp only [lI, Array.getD_eq_getD_getElem?, List.getD_eq_getElem?_getD]
    by_cases hi : i < args.length
    · simp [Array.getElem?_append, hi]
    · simp only [Array.getElem?_append, List.size_toArray, hi, if_false, Array.getElem?_replicate]
      rw [List.getElem?_eq_none (by omega)]
      split <;> rfl
  refine Tz (f := f) hf hb ?_
  refine hAf ▸ WE hm c hok (nK P rs fun v2 w2 => v2 = v ∧ w2 = w') _ _ _ _ hrel ?_ (hall _ ?_)
  · intro e g a w hr h
    have hx : ∀ {w}, (vG P rs g w fun vs => Yo vs = v ∧ w = w') → a.defers = [] ∧ ∃ v2, (results fn a.tmps).run P w = .ok v2 w ∧ (Ending.returned v2 = .returned v ∧ w = w') := by
      intro w h
      obtain ⟨v2, h1, rfl, h3⟩ := Ux fn hrs hr (R := fun v2 w2 => v2 = v ∧ w2 = w') h
      exact ⟨hr.1, v2, h1, rfl, h3⟩
    cases e with
    | normal => exact hx h
    | ret => exact hx h
    | _ => exact h.elim
  · have := hrest (fun v2 w2 => v2 = v ∧ w2 = w') ⟨rfl, rfl⟩
    cases e <;> first | exact this | exact hq.elim
theorem SI {f : FuncId} {args : Array Value} {w : World} {R : Value → World → Prop} (h : hJ P f args w R) :
    Calls P f args w fun e w' => ∃ v, e = .returned v ∧ R v w' := by
  obtain ⟨v, w', hr, hR⟩ := h
  refine Calls.mono hr ?_
  rintro e w'' ⟨rfl, rfl⟩
  exact ⟨v, rfl, hR⟩
end
end Go.En
namespace Go.En
open Go
def sA : Code → Code | .seq a _ => a | c => c
def cT : Code → Code | .cond _ a _ => a | c => c
def cE : Code → Code | .cond _ _ b => b | c => c
def bI : Code → Code | .block _ c => c | .loop c => c | .scope c => c | c => c
def kJ (f : Func) : Code := match f.body with | some c => c | none => .skip
def bJ : Nat → Code → Code
  | 0, c => c
  | 1, c => sA c
  | n + 1, .seq a b => .seq a (bJ n b)
  | _, c => c
def aA : Nat → Code → Code
  | 0, c => c
  | n + 1, .seq _ b => aA n b
  | _, c => c
def VI : Nat → Code → Bool
  | 1, .seq _ _ => true
  | n + 1, .seq _ b => VI n b
  | _, _ => false
def dr (w : World) : World := { w with drawn := w.drawn + 1 }
def qB (P : Program) (t : TypeId) (a : Value) (w : World) (K : Value → Prop) : Prop := ∃ v, (do loadVar t (← asAddr a) : Sem Value).run P w = .ok v w ∧ K v
def exL : List (Nat × (jT → World → Prop)) → Nat → jT → World → Prop
  | [], _, _, _ => False
  | (j, k) :: r, i, g, w => match Nat.beq i j with | true => k g w | false => exL r i g w
def exQ (kn kr : jT → World → Prop) (l : List (Nat × (jT → World → Prop))) : Exit → jT → World → Prop
  | .normal, g, w => kn g w
  | .ret, g, w => kr g w
  | .exit i, g, w => exL l i g w
  | _, _, _ => False
def X9 (Q : Exit → jT → World → Prop) : List (Nat × (jT → World → Prop)) → Prop
  | [] => True
  | (i, k) :: r => (∀ g w, k g w → Q (.exit i) g w) ∧ X9 Q r
def kL (c a b : Value) : Sem Next := do pure (.value (if ← asBool c then a else b))
def jB (t : TypeId) : Sem Next := V (Instr.alloc t true (.tuple #[]))
def FZ (t : TypeId) (x : Value) : Sem Next := V (Instr.box t x)
def eQ (t : TypeId) (a : Value) : Sem Next := V (Instr.loadAt t a)
def fG (t : TypeId) (a x : Value) : Sem Next := U (Instr.storeAt t a x)
def Et (x : Value) : Sem Next := execOp (fun _ => x) ⟨none, .nilCheck (.tmp 0), 0, default, #[], none⟩
def V6 (op : UnOp) (x : Value) : Sem Next := V (Op.unary op x)
def mL (s d : TypeId) (x : Value) : Sem Next := V (convert s d x)
def sI (t : TypeId) (l c : Value) : Sem Next := V (Instr.makeSlice t l c)
def mM (t : TypeId) (x : Value) (lo hi mx : Option Value) : Sem Next := V (Instr.sliceAt t x lo hi mx)
def fF (t : TypeId) (x : Value) (f : Nat) : Sem Next := V (Instr.fieldAt t x f)
def iF (t : TypeId) (x i : Value) : Sem Next := V (Instr.indexAt t x i)
def UO (t : TypeId) (x i : Value) : Sem Next := V (Instr.index t x i)
def jC (t : Value) (i : Nat) : Sem Next := V (Instr.extract t i)
section
variable {P : Program} {ann : FA}
theorem Zx {Q : Exit → jT → World → Prop} : ∀ {l : List (Nat × (jT → World → Prop))}, X9 Q l → ∀ {i : Nat} {g : jT} {w : World}, exL l i g w → Q (.exit i) g w := by
  intro l
  induction l with
  | nil => intro _ i g w h; exact h.elim
  | cons p r ih =>
    obtain ⟨j, k⟩ := p
    rintro ⟨h1, h2⟩ i g w h
    simp only [exL] at h
    cases hb : Nat.beq i j with
    | true =>
      simp only [hb] at h
      obtain rfl := Nat.eq_of_beq_eq_true hb
      exact h1 _ _ h
    | false => simp only [hb] at h; exact ih h2 h
theorem dU {c : Code} {kn kr : jT → World → Prop} {l : List (Nat × (jT → World → Prop))} {Q : Exit → jT → World → Prop} {g : jT} {w : World} {A : Prop}
    (e : A = eK P ann c (exQ kn kr l) g w) (h : A) (hn : ∀ g w, kn g w → Q .normal g w) (hr : ∀ g w, kr g w → Q .ret g w) (hl : X9 Q l) : eK P ann c Q g w := by
  rw [e] at h
  refine DX h (fun e g' w' _ hq => ?_)
  cases e with
  | normal => exact hn _ _ hq
  | ret => exact hr _ _ hq
  | exit i => exact Zx hl hq
  | _ => exact hq.elim
theorem WB {x y z : Code} {Q : Exit → jT → World → Prop} {g : jT} {w : World} (h : eK P ann (.seq (.seq x y) z) Q g w) : eK P ann (.seq x (.seq y z)) Q g w := by
  show eK P ann x (fH (fun g w => eK P ann y (fH (fun g w => eK P ann z Q g w) Q) g w) Q) g w
  have h : eK P ann x (fH (fun g w => eK P ann y (fH (fun g w => eK P ann z Q g w) Q) g w) (fH (fun g w => eK P ann z Q g w) Q)) g w := h
  refine DX h (fun e g' w' _ hq => ?_)
  cases e <;> exact hq
theorem eN {K : jT → World → Prop} {Q : Exit → jT → World → Prop} {g : jT} {w : World} (h : K g w) : fH K Q .normal g w := h
theorem WT {Q : Exit → jT → World → Prop} : ∀ (n : Nat) (c : Code) (g : jT) (w : World), VI n c = true → eK P ann (.seq (bJ n c) (aA n c)) Q g w → eK P ann c Q g w := by
  intro n
  induction n with
  | zero => intro c g w h; simp [VI] at h
  | succ n ih =>
    intro c g w h hd
    cases c with
    | seq a b =>
      cases n with
      | zero => exact hd
      | succ n =>
        have hb : VI (n + 1) b = true := by simpa [VI] using h
        have hd' : eK P ann (.seq (.seq a (bJ (n + 1) b)) (aA (n + 1) b)) Q g w := hd
        have := WB hd'
        show eK P ann a (fH (fun g w => eK P ann b Q g w) Q) g w
        have h2 : eK P ann a (fH (fun g w => eK P ann (.seq (bJ (n + 1) b) (aA (n + 1) b)) Q g w) Q) g w := this
        refine DX h2 (fun e g' w' _ hq => ?_)
        cases e with
        | normal => exact ih b g' w' hb hq
        | _ => exact hq
    | _ => cases n <;> simp [VI] at h
theorem dX {Q : Exit → jT → World → Prop} (n : Nat) (c : Code) (g : jT) (w : World) (h : VI n c = true)
    (hd : eK P ann (bJ n c) (fH (fun g w => eK P ann (aA n c) Q g w) Q) g w) : eK P ann c Q g w := WT n c g w h hd
def ZV (id : Nat) : Code → Bool | .block i _ => Nat.beq i id | _ => false
def ZD : Code → Bool | .loop _ => true | _ => false
def ZL : Code → Option Operand | .cond o _ _ => some o | _ => none
theorem iU {Q : Exit → jT → World → Prop} (id : Nat) (c : Code) (g : jT) (w : World) (h : ZV id c = true) (hd : eK P ann (bI c) (vI id Q) g w) : eK P ann c Q g w := by
  cases c with
  | block i c =>
    obtain rfl := Nat.eq_of_beq_eq_true (show Nat.beq i id = true from h)
    exact hd
  | _ => cases h
def ZU : Code → Bool | .scope _ => true | _ => false
theorem VW {Q : Exit → jT → World → Prop} (c : Code) (g : jT) (w : World) (h : ZU c = true) (hd : eK P ann (bI c) Q g w) : eK P ann c Q g w := by
  cases c with
  | scope c => exact hd
  | _ => cases h
theorem Y3 {Q : Exit → jT → World → Prop} (o : Operand) (c : Code) (g : jT) (w : World) (h : ZL c = some o)
    (hd : lM (ev g o) (eK P ann (cT c) Q g w) (eK P ann (cE c) Q g w)) : eK P ann c Q g w := by
  cases c with
  | cond o' a b => obtain rfl := Option.some.inj h; exact hd
  | _ => cases h
theorem Xv {v : Value} {A B A' B' : Prop} (ha : A → A') (hb : B → B') (h : lM v A B) : lM v A' B' := by
  unfold lM at *
  cases v with
  | bool b => cases b <;> first | exact ha h | exact hb h
  | _ => exact h
theorem Xg {T : Type} (proj : jT → T) (F : (T → World → Prop) → T → World → Prop) {c : Code} {Q : Exit → jT → World → Prop} {g : jT} {w : World}
    (hF : ∀ (X : T → World → Prop) g' w', nN (O7 c) g g' → F X (proj g') w' → eK P ann c (fH (fun g'' w'' => X (proj g'') w'') Q) g' w')
    (h : iY F (proj g) w) : eK P ann (.loop c) Q g w := by
  obtain ⟨I, ⟨n, h0⟩, hI⟩ := h
  refine ⟨fun n g' w' => nN (O7 c) g g' ∧ I n (proj g') w', ⟨n, nN.refl _ _, h0⟩, ?_⟩
  rintro n g' w' ⟨ha, hi⟩
  have := hF _ g' w' ha (hI n _ _ hi)
  refine DX this (fun e g2 w2 ha2 hq => ?_)
  cases e with
  | normal =>
    obtain ⟨m, hm, hh⟩ := hq
    exact ⟨m, hm, ha.trans ha2 (fun _ h => h) (fun _ h => h), hh⟩
  | _ => exact hq
theorem iV {T : Type} (proj : jT → T) (F : (T → World → Prop) → T → World → Prop) (c : Code) {Q : Exit → jT → World → Prop} {g : jT} {w : World} (hl : ZD c = true)
    (h : iY F (proj g) w)
    (hF : ∀ (X : T → World → Prop) g' w', nN (O7 (bI c)) g g' → F X (proj g') w' → eK P ann (bI c) (fH (fun g'' w'' => X (proj g'') w'') Q) g' w') : eK P ann c Q g w := by
  cases c with
  | loop c => exact Xg proj F hF h
  | _ => cases hl
theorem Vk {l : List Nat} {s : Nat} (hs : pH s l = false) : s ∉ l := by
  induction l with
  | nil => simp
  | cons a r ih =>
    unfold pH at hs
    cases hb : Nat.beq a s with
    | true => simp only [hb] at hs; cases hs
    | false =>
      simp only [hb] at hs
      intro hm
      rcases List.mem_cons.1 hm with e | hm
      · subst e; simp at hb
      · exact ih hs hm
theorem dW {l : List Nat} {g g' : jT} (h : nN l g g') {s : Nat} (hs : pH s l = false) : g' s = g s := h s (Vk hs)
def EW (id : Nat) : Code → Array Oper
  | .region i ops _ => match Nat.beq i id with | true => ops | false => #[]
  | .seq a b => match (EW id a).size with | 0 => EW id b | _ + 1 => EW id a
  | .cond _ a b => match (EW id a).size with | 0 => EW id b | _ + 1 => EW id a
  | .block _ c => EW id c
  | .loop c => EW id c
  | .scope c => EW id c
  | _ => #[]
theorem H4 {b : Bool} {A B : Prop} (ha : A) (hb : B) : Yx b A B := by cases b <;> assumption
theorem iY.rule {α : Type} {F : (α → World → Prop) → α → World → Prop} (I : Nat → α → World → Prop) {g : α} {w : World} (n : Nat) (h0 : I n g w)
    (hr : ∀ n g w, I n g w → F (fun g' w' => ∃ m, m < n ∧ I m g' w') g w) : iY F g w := ⟨I, ⟨n, h0⟩, hr⟩
theorem dA (A B : Prop) : lM (.bool true) A B = A := Eq.trans rfl rfl
theorem cQ (A B : Prop) : lM (.bool false) A B = B := Eq.trans rfl rfl
theorem dZ (s : (Value → World → Prop) → Prop) (w : World) (K : Value → World → Prop) : Gd true s w K = s K := Eq.trans rfl rfl
theorem dV (s : (Value → World → Prop) → Prop) (w : World) (K : Value → World → Prop) : Gd false s w K = K undef w := Eq.trans rfl rfl
theorem eU (p : Prop) : Gs true p = p := Eq.trans rfl rfl
theorem eC (p : Prop) : Gs false p = True := Eq.trans rfl rfl
theorem fK : kA (.bool true) true = true := Eq.trans rfl rfl
theorem fD : kA (.bool true) false = false := Eq.trans rfl rfl
theorem fM : kA (.bool false) true = false := Eq.trans rfl rfl
theorem eZ : kA (.bool false) false = true := Eq.trans rfl rfl
end
end Go.En
namespace Go.Proofs.YtoepfjgekpdddaaDoor
open Go Go.En
noncomputable abbrev pg : Program := Tryd.prog
theorem TrydM.mixed : pg.follows .mixedOrders = true := Tryd.checked.mixed
abbrev K0 := World → Prop
abbrev K1 := Value → K0
abbrev K2 := Value → K1
abbrev K3 := Value → K2
abbrev K4 := Value → K3
abbrev K5 := Value → K4
abbrev K6 := Value → K5
abbrev K7 := Value → K6
abbrev K8 := Value → K7
abbrev K9 := Value → K8
abbrev Br := Value → K9
abbrev K11 := Value → Br
abbrev HR (rs : List ResultVar) (R : K1) (Q : Exit → jT → World → Prop) : Prop := ∀ g w, (vG pg rs g w fun vs => R (Yo vs) w) → Q .ret g w
abbrev no : jT → World → Prop := fun _ _ => False
theorem kT {Q : jT → World → Prop} : ∀ g w, no g w → Q g w := fun _ _ h => h.elim
abbrev sH : FuncId := 5
abbrev A1 : FuncId := 6
abbrev oA : FuncId := 7
abbrev A5 : FuncId := 8
abbrev nH : FuncId := 9
abbrev sS : FuncId := 10
abbrev CD : FuncId := 11
abbrev CP : FuncId := 12
abbrev vN : FuncId := 13
abbrev nE : FuncId := 14
abbrev pN : FuncId := 15
abbrev sD : FuncId := 16
abbrev zI : FuncId := 17
abbrev Ah : FuncId := 18
abbrev A2 : FuncId := 19
abbrev wR : FuncId := 20
abbrev xD : FuncId := 21
abbrev vW : FuncId := 22
abbrev EP : FuncId := 23
abbrev CB : FuncId := 24
abbrev CX : FuncId := 25
abbrev uK : FuncId := 26
abbrev zG : FuncId := 27
abbrev zJ : FuncId := 28
abbrev pG : FuncId := 29
abbrev E2 : FuncId := 30
abbrev rV : FuncId := 31
abbrev mB : FuncId := 32
abbrev zN : FuncId := 33
abbrev oE : FuncId := 34
abbrev tJ : FuncId := 35
abbrev pW : FuncId := 36
abbrev zQ : FuncId := 37
abbrev tP : FuncId := 38
abbrev kW : FuncId := 39
abbrev rT : FuncId := 40
abbrev Bo : FuncId := 41
abbrev CQ : FuncId := 42
abbrev qE : FuncId := 43
abbrev nC : FuncId := 44
abbrev CV : FuncId := 45
abbrev CG : FuncId := 46
abbrev AL : FuncId := 47
abbrev LZ : FuncId := 48
abbrev rQ : FuncId := 49
abbrev nM : FuncId := 50
abbrev ES : FuncId := 51
abbrev zF : FuncId := 52
abbrev AN : FuncId := 53
abbrev EQ : FuncId := 54
end Go.Proofs.YtoepfjgekpdddaaDoor
namespace Go.Proofs.YtoepfjgekpdddaaDoor
open Go Go.En
set_option linter.unusedVariables false
set_option maxRecDepth 20000
attribute [local irreducible] Go.En.eK
variable (Q : Exit → jT → World → Prop) (g : jT) (w : World)
def dP : FA := ⟨sH, fun i => match Nat.beq i 14 with | true => .leaf ([], []) [(false, []), (false, []), (false, []), (false, []), (false, []), (false, []), (false, []), (false, []), (false, []), (false, []), (false, []), (false, [])] | false => match Nat.beq i 18 with | true => .leaf ([18, 20], [(18, 19)]) [(false, []), (false, []), (false, []), (false, []), (false, []), (false, []), (false, []), (false, []), (false, []), (false, []), (false, []), (false, []), (false, []), (false, []), (false, []), (false, []), (false, []), (false, []), (true, []), (false, [0]), (true, []), (false, []), (false, []), (false, []), (false, []), (false, []), (false, []), (false, []), (false, []), (false, []), (false, [])] | false => match Nat.beq i 27 with | true => .leaf ([], []) [(false, []), (false, []), (false, []), (false, []), (false, []), (false, []), (false, []), (false, []), (false, []), (false, []), (false, []), (false, []), (false, []), (false, []), (false, []), (false, [])] | false => .leaf ([], []) []⟩
def hH : List ResultVar := [.tmp 4]
noncomputable def dK : Code := kJ Tryd.f5
def oU (R : K1)  (w : World) : Prop :=
  R (.bool true) w
theorem FB (R : K1) (hr : HR hH R Q) (h : oU R w) : eK pg dP (aA 1 (aA 1 (aA 2 (aA 1 (aA 8 dK))))) Q g w :=
  dU (kn := no) (l := []) (by kernel_rfl) h kT hr trivial
def oQ (kn : K3) (kB t6 mK : Value) (w : World) : Prop :=
  cO pg (eF .add 3 (.tmp 137) (.const (.int .i64 1)) mK (.int .i64 1)) w fun t138 w =>
  kn kB t6 t138 w
theorem FT (kn : K3) (hn : ∀ g w, kn (g 1) (g 6) (g 17) w → Q .normal g w) (h : oQ kn (g 1) (g 6) (g 17) w) : eK pg dP (aA 1 (aA 1 (bI (bI (aA 1 (bJ 1 (aA 1 (aA 2 (aA 1 (aA 8 dK)))))))))) Q g w :=
  dU (kr := no) (l := []) (by kernel_rfl) h hn kT trivial
def pA (kn : K3) (R : K1) (kB t6 mK kQ : Value) (w : World) : Prop :=
  cO pg (V6 .not kQ) w fun t162 w =>
  lM t162
    (R (.bool false) w)
    (kn kB t6 mK w)
theorem Fw (kn : K3) (R : K1) (hn : ∀ g w, kn (g 1) (g 6) (g 17) w → Q .normal g w) (hr : HR hH R Q) (h : pA kn R (g 1) (g 6) (g 17) (g 18) w) : eK pg dP (aA 1 (aA 1 (bI (bJ 1 (aA 1 (bI (bI (aA 1 (bJ 1 (aA 1 (aA 2 (aA 1 (aA 8 dK))))))))))))) Q g w :=
  dU (l := []) (by kernel_rfl) h hn hr trivial
def oZ (kn : K5) (k4 : K4) (kB t6 mK kQ H0 : Value) (w : World) : Prop :=
  cO pg (fF 26 t6 1) w fun t140 w =>
  cO pg (eQ 24 t140) w fun t141 w =>
  cO pg (nA .len #[24] 3 [t141]) w fun t142 w =>
  cO pg (eF .lss 3 (.tmp 139) (.tmp 142) H0 t142) w fun t143 w =>
  lM t143
    ((dr w) = (dr w) ∧
    (dr w) = (dr w) ∧
    Gd (kA kQ false) (fun K => cO pg (fF 26 t6 1) (dr w) K) (dr w) fun t148 w_ => w_ = (dr w) ∧
    Gd (kA kQ false) (fun K => cO pg (eQ 24 t148) (dr w) K) (dr w) fun t149 w_ => w_ = (dr w) ∧
    Gd (kA kQ false) (fun K => K H0 (dr w)) (dr w) fun t150 w_ => w_ = (dr w) ∧
    Gd (kA kQ false) (fun K => cO pg (iF 24 t149 t150) (dr w) K) (dr w) fun t151 w_ => w_ = (dr w) ∧
    Gd (kA kQ false) (fun K => cO pg (fF 32 t151 0) (dr w) K) (dr w) fun t152 w_ => w_ = (dr w) ∧
    Gd (kA kQ false) (fun K => cO pg (eQ 5 t152) (dr w) K) (dr w) fun t153 w_ => w_ = (dr w) ∧
    Gd (kA kQ false) (fun K => cO pg (mL 5 3 t153) (dr w) K) (dr w) fun t154 w_ => w_ = (dr w) ∧
    Gd (kA kQ false) (fun K => K kB (dr w)) (dr w) fun t155 w_ => w_ = (dr w) ∧
    Gd (kA kQ false) (fun K => K mK (dr w)) (dr w) fun t156 w_ => w_ = (dr w) ∧
    Gd (kA kQ false) (fun K => cO pg (iF 30 t155 t156) (dr w) K) (dr w) fun t157 w_ => w_ = (dr w) ∧
    Gd (kA kQ false) (fun K => cO pg (eQ 3 t157) (dr w) K) (dr w) fun t158 w_ => w_ = (dr w) ∧
    Gd (kA kQ false) (fun K => cO pg (eF .eql 3 (.tmp 154) (.tmp 158) t154 t158) (dr w) K) (dr w) fun t159 w_ => w_ = (dr w) ∧
    cO pg (kL kQ (.bool true) t159) (dr w) fun t160 w_ => w_ = (dr w) ∧
    (dr w) = (dr w) ∧
    cO pg (eF .add 3 (.tmp 144) (.const (.int .i64 1)) H0 (.int .i64 1)) (dr w) fun t145 w =>
    kn kB t6 mK t160 t145 w)
    (k4 kB t6 mK kQ w)
theorem FF (kn : K5) (k4 : K4) (hn : ∀ g w, kn (g 1) (g 6) (g 17) (g 18) (g 19) w → Q .normal g w) (h4 : ∀ g w, k4 (g 1) (g 6) (g 17) (g 18) w → Q (.exit 4) g w) (h : oZ kn k4 (g 1) (g 6) (g 17) (g 18) (g 19) w) : eK pg dP (bI (bI (aA 1 (bJ 1 (aA 1 (bI (bJ 1 (aA 1 (bI (bI (aA 1 (bJ 1 (aA 1 (aA 2 (aA 1 (aA 8 dK)))))))))))))))) Q g w :=
  dU (kr := no) (l := [(4, fun g w => k4 (g 1) (g 6) (g 17) (g 18) w)]) (by kernel_rfl) h hn kT ⟨h4, trivial⟩
def rN (k4 : K4) (kB t6 mK kQ H0 : Value) (w : World) : Prop :=
  iY (fun (X : (Value × Value) → K0) (t : Value × Value) (w : World) => oZ (fun _ _ _ kQ H0 w => X (kQ, H0) w) k4 kB t6 mK t.1 t.2 w) (kQ, H0) w
theorem FU (k4 : K4) (h4 : ∀ g w, k4 (g 1) (g 6) (g 17) (g 18) w → Q (.exit 4) g w) (h : rN k4 (g 1) (g 6) (g 17) (g 18) (g 19) w) : eK pg dP (bI (aA 1 (bJ 1 (aA 1 (bI (bJ 1 (aA 1 (bI (bI (aA 1 (bJ 1 (aA 1 (aA 2 (aA 1 (aA 8 dK))))))))))))))) Q g w := by
  refine iV (T := Value × Value) (fun g : jT => (g 18, g 19)) (fun X t w => oZ (fun _ _ _ kQ H0 w => X (kQ, H0) w) k4 (g 1) (g 6) (g 17) t.1 t.2 w) _ (by kernel_rfl) h (fun X g1 w1 ha hL => ?_)
  rw [← dW (s := 1) ha (by kernel_rfl)] at hL
  rw [← dW (s := 6) ha (by kernel_rfl)] at hL
  rw [← dW (s := 17) ha (by kernel_rfl)] at hL
  exact (FF (fH (fun g2 w2 => X ((fun g : jT => (g 18, g 19)) g2) w2) Q) g1 w1 (fun _ _ _ kQ H0 w => X (kQ, H0) w) k4 (fun _ _ h => h) h4 hL)
def oP (kn : K4) (kB t6 mK kQ H0 : Value) (w : World) : Prop :=
  rN kn kB t6 mK kQ H0 w
theorem FI (kn : K4) (hn : ∀ g w, kn (g 1) (g 6) (g 17) (g 18) w → Q .normal g w) (h : oP kn (g 1) (g 6) (g 17) (g 18) (g 19) w) : eK pg dP (aA 1 (bJ 1 (aA 1 (bI (bJ 1 (aA 1 (bI (bI (aA 1 (bJ 1 (aA 1 (aA 2 (aA 1 (aA 8 dK)))))))))))))) Q g w :=
  iU 4 _ g w (by kernel_rfl) (FU (vI 4 Q) g w kn hn h)
def rO (kn : K5) (kB t6 mK kQ : Value) (w : World) : Prop :=
  kn kB t6 mK kQ (.int .i64 0) w
theorem Fo (kn : K5) (hn : ∀ g w, kn (g 1) (g 6) (g 17) (g 18) (g 19) w → Q .normal g w) (h : rO kn (g 1) (g 6) (g 17) (g 18) w) : eK pg dP (bJ 1 (bJ 1 (aA 1 (bI (bJ 1 (aA 1 (bI (bI (aA 1 (bJ 1 (aA 1 (aA 2 (aA 1 (aA 8 dK)))))))))))))) Q g w :=
  dU (kr := no) (l := []) (by kernel_rfl) h hn kT trivial
def oS (kn : K4) (kB t6 mK kQ : Value) (w : World) : Prop :=
  rO (fun kB t6 mK kQ H0 w => oP kn kB t6 mK kQ H0 w) kB t6 mK kQ w
theorem Ga (kn : K4) (hn : ∀ g w, kn (g 1) (g 6) (g 17) (g 18) w → Q .normal g w) (h : oS kn (g 1) (g 6) (g 17) (g 18) w) : eK pg dP (bJ 1 (aA 1 (bI (bJ 1 (aA 1 (bI (bI (aA 1 (bJ 1 (aA 1 (aA 2 (aA 1 (aA 8 dK))))))))))))) Q g w :=
  dX 1 _ g w (by kernel_rfl) (Fo (fH (fun g w => eK pg dP (aA 1 (bJ 1 (aA 1 (bI (bJ 1 (aA 1 (bI (bI (aA 1 (bJ 1 (aA 1 (aA 2 (aA 1 (aA 8 dK)))))))))))))) Q g w) Q) g w (fun kB t6 mK kQ H0 w => oP kn kB t6 mK kQ H0 w) (fun g w h => eN (K := fun g w => eK pg dP (aA 1 (bJ 1 (aA 1 (bI (bJ 1 (aA 1 (bI (bI (aA 1 (bJ 1 (aA 1 (aA 2 (aA 1 (aA 8 dK)))))))))))))) Q g w) (FI Q g w kn hn h)) h)
def oR (kn : K3) (R : K1) (kB t6 mK kQ : Value) (w : World) : Prop :=
  oS (fun kB t6 mK kQ w => pA kn R kB t6 mK kQ w) kB t6 mK kQ w
theorem FX (kn : K3) (R : K1) (hn : ∀ g w, kn (g 1) (g 6) (g 17) w → Q .normal g w) (hr : HR hH R Q) (h : oR kn R (g 1) (g 6) (g 17) (g 18) w) : eK pg dP (aA 1 (bI (bJ 1 (aA 1 (bI (bI (aA 1 (bJ 1 (aA 1 (aA 2 (aA 1 (aA 8 dK)))))))))))) Q g w :=
  dX 1 _ g w (by kernel_rfl) (Ga (fH (fun g w => eK pg dP (aA 1 (aA 1 (bI (bJ 1 (aA 1 (bI (bI (aA 1 (bJ 1 (aA 1 (aA 2 (aA 1 (aA 8 dK))))))))))))) Q g w) Q) g w (fun kB t6 mK kQ w => pA kn R kB t6 mK kQ w) (fun g w h => eN (K := fun g w => eK pg dP (aA 1 (aA 1 (bI (bJ 1 (aA 1 (bI (bI (aA 1 (bJ 1 (aA 1 (aA 2 (aA 1 (aA 8 dK))))))))))))) Q g w) (Fw Q g w kn R hn hr h)) h)
def qD (kn : K4) (kB t6 mK : Value) (w : World) : Prop :=
  kn kB t6 mK (.bool false) w
theorem EJ (kn : K4) (hn : ∀ g w, kn (g 1) (g 6) (g 17) (g 18) w → Q .normal g w) (h : qD kn (g 1) (g 6) (g 17) w) : eK pg dP (bJ 1 (bI (bJ 1 (aA 1 (bI (bI (aA 1 (bJ 1 (aA 1 (aA 2 (aA 1 (aA 8 dK)))))))))))) Q g w :=
  dU (kr := no) (l := []) (by kernel_rfl) h hn kT trivial
def qJ (kn : K3) (R : K1) (kB t6 mK : Value) (w : World) : Prop :=
  qD (fun kB t6 mK kQ w => oR kn R kB t6 mK kQ w) kB t6 mK w
theorem Eo (kn : K3) (R : K1) (hn : ∀ g w, kn (g 1) (g 6) (g 17) w → Q .normal g w) (hr : HR hH R Q) (h : qJ kn R (g 1) (g 6) (g 17) w) : eK pg dP (bI (bJ 1 (aA 1 (bI (bI (aA 1 (bJ 1 (aA 1 (aA 2 (aA 1 (aA 8 dK))))))))))) Q g w :=
  dX 1 _ g w (by kernel_rfl) (EJ (fH (fun g w => eK pg dP (aA 1 (bI (bJ 1 (aA 1 (bI (bI (aA 1 (bJ 1 (aA 1 (aA 2 (aA 1 (aA 8 dK)))))))))))) Q g w) Q) g w (fun kB t6 mK kQ w => oR kn R kB t6 mK kQ w) (fun g w h => eN (K := fun g w => eK pg dP (aA 1 (bI (bJ 1 (aA 1 (bI (bI (aA 1 (bJ 1 (aA 1 (aA 2 (aA 1 (aA 8 dK)))))))))))) Q g w) (FX Q g w kn R hn hr h)) h)
def qG (kn : K3) (R : K1) (kB t6 mK : Value) (w : World) : Prop :=
  qJ kn R kB t6 mK w
theorem EF (kn : K3) (R : K1) (hn : ∀ g w, kn (g 1) (g 6) (g 17) w → Q .normal g w) (hr : HR hH R Q) (h : qG kn R (g 1) (g 6) (g 17) w) : eK pg dP (bJ 1 (aA 1 (bI (bI (aA 1 (bJ 1 (aA 1 (aA 2 (aA 1 (aA 8 dK)))))))))) Q g w :=
  iU 3 _ g w (by kernel_rfl) (Eo (vI 3 Q) g w kn R hn hr h)
def nW (kn : K3) (R : K1) (kB t6 mK : Value) (w : World) : Prop :=
  qG (fun kB t6 mK w => oQ kn kB t6 mK w) R kB t6 mK w
theorem Em (kn : K3) (R : K1) (hn : ∀ g w, kn (g 1) (g 6) (g 17) w → Q .normal g w) (hr : HR hH R Q) (h : nW kn R (g 1) (g 6) (g 17) w) : eK pg dP (aA 1 (bI (bI (aA 1 (bJ 1 (aA 1 (aA 2 (aA 1 (aA 8 dK))))))))) Q g w :=
  dX 1 _ g w (by kernel_rfl) (EF (fH (fun g w => eK pg dP (aA 1 (aA 1 (bI (bI (aA 1 (bJ 1 (aA 1 (aA 2 (aA 1 (aA 8 dK)))))))))) Q g w) Q) g w (fun kB t6 mK w => oQ kn kB t6 mK w) R (fun g w h => eN (K := fun g w => eK pg dP (aA 1 (aA 1 (bI (bI (aA 1 (bJ 1 (aA 1 (aA 2 (aA 1 (aA 8 dK)))))))))) Q g w) (FT Q g w kn hn h)) hr h)
def qC (kn : K3) (k2 : K0) (kB t6 mK : Value) (w : World) : Prop :=
  cO pg (nA .len #[30] 3 [kB]) w fun t135 w =>
  cO pg (eF .lss 3 (.tmp 133) (.tmp 135) mK t135) w fun t136 w =>
  lM t136
    (kn kB t6 mK w)
    (k2 w)
theorem EI (kn : K3) (k2 : K0) (hn : ∀ g w, kn (g 1) (g 6) (g 17) w → Q .normal g w) (h2 : ∀ g w, k2 w → Q (.exit 2) g w) (h : qC kn k2 (g 1) (g 6) (g 17) w) : eK pg dP (bJ 1 (bI (bI (aA 1 (bJ 1 (aA 1 (aA 2 (aA 1 (aA 8 dK))))))))) Q g w :=
  dU (kr := no) (l := [(2, fun g w => k2 w)]) (by kernel_rfl) h hn kT ⟨h2, trivial⟩
def nS (kn : K3) (k2 : K0) (R : K1) (kB t6 mK : Value) (w : World) : Prop :=
  qC (fun kB t6 mK w => nW kn R kB t6 mK w) k2 kB t6 mK w
theorem El (kn : K3) (k2 : K0) (R : K1) (hn : ∀ g w, kn (g 1) (g 6) (g 17) w → Q .normal g w) (h2 : ∀ g w, k2 w → Q (.exit 2) g w) (hr : HR hH R Q) (h : nS kn k2 R (g 1) (g 6) (g 17) w) : eK pg dP (bI (bI (aA 1 (bJ 1 (aA 1 (aA 2 (aA 1 (aA 8 dK)))))))) Q g w :=
  dX 1 _ g w (by kernel_rfl) (EI (fH (fun g w => eK pg dP (aA 1 (bI (bI (aA 1 (bJ 1 (aA 1 (aA 2 (aA 1 (aA 8 dK))))))))) Q g w) Q) g w (fun kB t6 mK w => nW kn R kB t6 mK w) k2 (fun g w h => eN (K := fun g w => eK pg dP (aA 1 (bI (bI (aA 1 (bJ 1 (aA 1 (aA 2 (aA 1 (aA 8 dK))))))))) Q g w) (Em Q g w kn R hn hr h)) h2 h)
def qR (k2 : K0) (R : K1) (kB t6 mK : Value) (w : World) : Prop :=
  iY (fun (X : Value → K0) (t : Value) (w : World) => nS (fun _ _ mK w => X mK w) k2 R kB t6 t w) mK w
theorem Er (k2 : K0) (R : K1) (h2 : ∀ g w, k2 w → Q (.exit 2) g w) (hr : HR hH R Q) (h : qR k2 R (g 1) (g 6) (g 17) w) : eK pg dP (bI (aA 1 (bJ 1 (aA 1 (aA 2 (aA 1 (aA 8 dK))))))) Q g w := by
  refine iV (T := Value) (fun g : jT => g 17) (fun X t w => nS (fun _ _ mK w => X mK w) k2 R (g 1) (g 6) t w) _ (by kernel_rfl) h (fun X g1 w1 ha hL => ?_)
  rw [← dW (s := 1) ha (by kernel_rfl)] at hL
  rw [← dW (s := 6) ha (by kernel_rfl)] at hL
  exact (El (fH (fun g2 w2 => X ((fun g : jT => g 17) g2) w2) Q) g1 w1 (fun _ _ mK w => X mK w) k2 R (fun _ _ h => h) h2 hr hL)
def nP (kn : K0) (R : K1) (kB t6 mK : Value) (w : World) : Prop :=
  qR kn R kB t6 mK w
theorem EC (kn : K0) (R : K1) (hn : ∀ g w, kn w → Q .normal g w) (hr : HR hH R Q) (h : nP kn R (g 1) (g 6) (g 17) w) : eK pg dP (aA 1 (bJ 1 (aA 1 (aA 2 (aA 1 (aA 8 dK)))))) Q g w :=
  iU 2 _ g w (by kernel_rfl) (Er (vI 2 Q) g w kn R hn hr h)
def qO (kn : K3) (kB t6 : Value) (w : World) : Prop :=
  kn kB t6 (.int .i64 0) w
theorem ED (kn : K3) (hn : ∀ g w, kn (g 1) (g 6) (g 17) w → Q .normal g w) (h : qO kn (g 1) (g 6) w) : eK pg dP (bJ 1 (bJ 1 (aA 1 (aA 2 (aA 1 (aA 8 dK)))))) Q g w :=
  dU (kr := no) (l := []) (by kernel_rfl) h hn kT trivial
def qQ (kn : K0) (R : K1) (kB t6 : Value) (w : World) : Prop :=
  qO (fun kB t6 mK w => nP kn R kB t6 mK w) kB t6 w
theorem EB (kn : K0) (R : K1) (hn : ∀ g w, kn w → Q .normal g w) (hr : HR hH R Q) (h : qQ kn R (g 1) (g 6) w) : eK pg dP (bJ 1 (aA 1 (aA 2 (aA 1 (aA 8 dK))))) Q g w :=
  dX 1 _ g w (by kernel_rfl) (ED (fH (fun g w => eK pg dP (aA 1 (bJ 1 (aA 1 (aA 2 (aA 1 (aA 8 dK)))))) Q g w) Q) g w (fun kB t6 mK w => nP kn R kB t6 mK w) (fun g w h => eN (K := fun g w => eK pg dP (aA 1 (bJ 1 (aA 1 (aA 2 (aA 1 (aA 8 dK)))))) Q g w) (EC Q g w kn R hn hr h)) h)
def mR (R : K1) (kB t6 : Value) (w : World) : Prop :=
  qQ (fun  w => oU R w) R kB t6 w
theorem EN (R : K1) (hr : HR hH R Q) (h : mR R (g 1) (g 6) w) : eK pg dP (aA 1 (aA 2 (aA 1 (aA 8 dK)))) Q g w :=
  dX 1 _ g w (by kernel_rfl) (EB (fH (fun g w => eK pg dP (aA 1 (aA 1 (aA 2 (aA 1 (aA 8 dK))))) Q g w) Q) g w (fun  w => oU R w) R (fun g w h => eN (K := fun g w => eK pg dP (aA 1 (aA 1 (aA 2 (aA 1 (aA 8 dK))))) Q g w) (FB Q g w R hr h)) hr h)
def qT (kn : K2) (R : K1) (kB t6 lR GP HH kI Sc Vj VG : Value) (w : World) : Prop :=
  (dr w) = (dr w) ∧
  cO pg (eF .neq 27 (.tmp 102) (.const (.int .i64 0)) HH (.int .i64 0)) (dr w) fun t103 w_ => w_ = (dr w) ∧
  (dr w) = (dr w) ∧
  Gd (kA t103 false) (fun K => K VG (dr w)) (dr w) fun t105 w_ => w_ = (dr w) ∧
  Gd (kA t103 false) (fun K => cO pg (eF .neq 27 (.tmp 105) (.const (.int .i64 0)) t105 (.int .i64 0)) (dr w) K) (dr w) fun t106 w_ => w_ = (dr w) ∧
  cO pg (kL t103 (.bool true) t106) (dr w) fun t107 w_ => w_ = (dr w) ∧
  (dr w) = (dr w) ∧
  Gd (kA t107 false) (fun K => K Vj (dr w)) (dr w) fun t109 w_ => w_ = (dr w) ∧
  Gd (kA t107 false) (fun K => K GP (dr w)) (dr w) fun t110 w_ => w_ = (dr w) ∧
  Gd (kA t107 false) (fun K => cO pg (nA .len #[22] 3 [t110]) (dr w) K) (dr w) fun t111 w_ => w_ = (dr w) ∧
  Gd (kA t107 false) (fun K => cO pg (eF .neq 3 (.tmp 109) (.tmp 111) t109 t111) (dr w) K) (dr w) fun t112 w_ => w_ = (dr w) ∧
  cO pg (kL t107 (.bool true) t112) (dr w) fun t113 w_ => w_ = (dr w) ∧
  (dr w) = (dr w) ∧
  Gd (kA t113 false) (fun K => K lR (dr w)) (dr w) fun t115 w_ => w_ = (dr w) ∧
  Gd (kA t113 false) (fun K => cO pg (eF .eql 3 (.tmp 115) (.const (.int .i64 3)) t115 (.int .i64 3)) (dr w) K) (dr w) fun t116 w_ => w_ = (dr w) ∧
  cO pg (kL t113 (.bool true) t116) (dr w) fun t117 w_ => w_ = (dr w) ∧
  (dr w) = (dr w) ∧
  Gd (kA t117 false) (fun K => cO pg (eQ 26 t6) (dr w) K) (dr w) fun t119 w_ => w_ = (dr w) ∧
  Gd (kA t117 false) (fun K => hJ pg vN #[t119] (dr w) K) (dr w) fun t120 RL =>
  Gd (kA t117 false) (fun K => cO pg (eQ 42 Sc) RL K) RL fun t121 w_ => w_ = RL ∧
  (Gs (kA t117 false) (gY pg (eQ 42 Sc) t121 (dr w)) ∧ True) ∧
  Gd (kA t117 false) (fun K => hJ pg CP #[t120, t121] RL K) RL fun t122 mU =>
  Gd (kA t117 false) (fun K => cO pg (V6 .not t122) mU K) mU fun t123 w_ => w_ = mU ∧
  cO pg (kL t117 (.bool true) t123) mU fun t124 w_ => w_ = mU ∧
  mU = mU ∧
  Gd (kA t124 false) (fun K => K kI mU) mU fun t126 w_ => w_ = mU ∧
  Gd (kA t124 false) (fun K => K t126 mU) mU fun t127 w_ => w_ = mU ∧
  Gd (kA t127 true) (fun K => K GP mU) mU fun t128 w_ => w_ = mU ∧
  Gd (kA t127 true) (fun K => cO pg (nA .len #[22] 3 [t128]) mU K) mU fun t129 w_ => w_ = mU ∧
  Gd (kA t127 true) (fun K => cO pg (eF .gtr 3 (.tmp 129) (.const (.int .i64 1)) t129 (.int .i64 1)) mU K) mU fun t130 w_ => w_ = mU ∧
  Gd (kA t124 false) (fun K => cO pg (kL t127 t130 (.bool false)) mU K) mU fun t131 w_ => w_ = mU ∧
  cO pg (kL t124 (.bool true) t131) mU fun t132 w_ => w_ = mU ∧
  lM t132
    (R (.bool false) mU)
    (kn kB t6 mU)
theorem Ev (kn : K2) (R : K1) (hn : ∀ g w, kn (g 1) (g 6) w → Q .normal g w) (hr : HR hH R Q) (h : qT kn R (g 1) (g 6) (g 7) (g 8) (g 9) (g 12) (g 14) (g 15) (g 16) w) : eK pg dP (bJ 1 (aA 2 (aA 1 (aA 8 dK)))) Q g w :=
  dU (l := []) (by kernel_rfl) h hn hr trivial
def nT (R : K1) (kB t6 lR GP HH kI Sc Vj VG : Value) (w : World) : Prop :=
  qT (fun kB t6 w => mR R kB t6 w) R kB t6 lR GP HH kI Sc Vj VG w
theorem EE (R : K1) (hr : HR hH R Q) (h : nT R (g 1) (g 6) (g 7) (g 8) (g 9) (g 12) (g 14) (g 15) (g 16) w) : eK pg dP (aA 2 (aA 1 (aA 8 dK))) Q g w :=
  dX 1 _ g w (by kernel_rfl) (Ev (fH (fun g w => eK pg dP (aA 1 (aA 2 (aA 1 (aA 8 dK)))) Q g w) Q) g w (fun kB t6 w => mR R kB t6 w) R (fun g w h => eN (K := fun g w => eK pg dP (aA 1 (aA 2 (aA 1 (aA 8 dK)))) Q g w) (EN Q g w R hr h)) hr h)
def nX (kn : K9) (R : K1) (eM kB t6 lR GP HH lH kI : Value) (w : World) : Prop :=
  cO pg (V6 .not lH) w fun t78 w =>
  lM t78
    (cO pg (eF .eql 27 (.tmp 79) (.const (.int .i64 1)) HH (.int .i64 1)) w fun t80 w =>
    Gd (kA t80 true) (fun K => cO pg (fF 26 t6 1) w K) w fun t82 w =>
    Gd (kA t80 true) (fun K => cO pg (eQ 24 t82) w K) w fun t83 w =>
    Gd (kA t80 true) (fun K => cO pg (nA .len #[24] 3 [t83]) w K) w fun t84 w =>
    Gd (kA t80 true) (fun K => cO pg (eF .eql 3 (.tmp 84) (.const (.int .i64 0)) t84 (.int .i64 0)) w K) w fun t85 w =>
    cO pg (kL t80 t85 (.bool false)) w fun t86 w =>
    Gd (kA t86 true) (fun K => K GP w) w fun t88 w =>
    Gd (kA t86 true) (fun K => cO pg (nA .len #[22] 3 [t88]) w K) w fun t89 w =>
    Gd (kA t86 true) (fun K => cO pg (eF .eql 3 (.tmp 89) (.const (.int .i64 0)) t89 (.int .i64 0)) w K) w fun t90 w =>
    cO pg (kL t86 t90 (.bool false)) w fun t91 w =>
    R t91 w)
    (cO pg (mL 22 9 GP) w fun t96 w =>
    cO pg (iH 42 []) w fun t97 w =>
    hJ pg CD #[eM, lR, t96, t97] w fun t98 w =>
    cO pg (jC t98 0) w fun t99 w =>
    cO pg (jC t98 1) w fun t100 w =>
    cO pg (jC t98 2) w fun t101 w =>
    cO pg (jB 42) w fun Sc w =>
    cO pg (fG 42 Sc t99) w fun _u w =>
    kn kB t6 lR GP HH kI Sc t100 t101 w)
theorem EM (kn : K9) (R : K1) (hn : ∀ g w, kn (g 1) (g 6) (g 7) (g 8) (g 9) (g 12) (g 14) (g 15) (g 16) w → Q .normal g w) (hr : HR hH R Q) (h : nX kn R (g 0) (g 1) (g 6) (g 7) (g 8) (g 9) (g 11) (g 12) w) : eK pg dP (bJ 2 (aA 1 (aA 8 dK))) Q g w :=
  dU (l := []) (by kernel_rfl) h hn hr trivial
def mT (R : K1) (eM kB t6 lR GP HH lH kI : Value) (w : World) : Prop :=
  nX (fun kB t6 lR GP HH kI Sc Vj VG w => nT R kB t6 lR GP HH kI Sc Vj VG w) R eM kB t6 lR GP HH lH kI w
theorem EG (R : K1) (hr : HR hH R Q) (h : mT R (g 0) (g 1) (g 6) (g 7) (g 8) (g 9) (g 11) (g 12) w) : eK pg dP (aA 1 (aA 8 dK)) Q g w :=
  dX 2 _ g w (by kernel_rfl) (EM (fH (fun g w => eK pg dP (aA 2 (aA 1 (aA 8 dK))) Q g w) Q) g w (fun kB t6 lR GP HH kI Sc Vj VG w => nT R kB t6 lR GP HH kI Sc Vj VG w) R (fun g w h => eN (K := fun g w => eK pg dP (aA 2 (aA 1 (aA 8 dK))) Q g w) (EE Q g w R hr h)) hr h)
def nQ (kn : Br) (k0 : K8) (eM kB t6 lR GP HH Gi lH kI Hb : Value) (w : World) : Prop :=
  cO pg (nA .len #[30] 3 [kB]) w fun t46 w =>
  cO pg (eF .lss 3 (.tmp 44) (.tmp 46) Hb t46) w fun t47 w =>
  lM t47
    (Gd (kA lH true) (fun K => K kB w) w fun t52 w =>
    Gd (kA lH true) (fun K => K Hb w) w fun t53 w =>
    Gd (kA lH true) (fun K => cO pg (iF 30 t52 t53) w K) w fun t54 w =>
    Gd (kA lH true) (fun K => cO pg (eQ 3 t54) w K) w fun t55 w =>
    Gd (kA lH true) (fun K => cO pg (eF .geq 3 (.tmp 55) (.const (.int .i64 0)) t55 (.int .i64 0)) w K) w fun t56 w =>
    cO pg (kL lH t56 (.bool false)) w fun t57 w =>
    Gd (kA t57 true) (fun K => K kB w) w fun t59 w =>
    Gd (kA t57 true) (fun K => K Hb w) w fun t60 w =>
    Gd (kA t57 true) (fun K => cO pg (iF 30 t59 t60) w K) w fun t61 w =>
    Gd (kA t57 true) (fun K => cO pg (eQ 3 t61) w K) w fun t62 w =>
    Gd (kA t57 true) (fun K => K Gi w) w fun t63 w =>
    Gd (kA t57 true) (fun K => cO pg (eF .lss 3 (.tmp 62) (.tmp 63) t62 t63) w K) w fun t64 w =>
    cO pg (kL t57 t64 (.bool false)) w fun t65 w =>
    (dr w) = (dr w) ∧
    (dr w) = (dr w) ∧
    Gd (kA kI true) (fun K => K kB (dr w)) (dr w) fun t68 w_ => w_ = (dr w) ∧
    Gd (kA kI true) (fun K => K Hb (dr w)) (dr w) fun t69 w_ => w_ = (dr w) ∧
    Gd (kA kI true) (fun K => cO pg (iF 30 t68 t69) (dr w) K) (dr w) fun t70 w_ => w_ = (dr w) ∧
    Gd (kA kI true) (fun K => cO pg (eQ 3 t70) (dr w) K) (dr w) fun t71 w_ => w_ = (dr w) ∧
    Gd (kA kI true) (fun K => K kB (dr w)) (dr w) fun t72 w_ => w_ = (dr w) ∧
    Gd (kA kI true) (fun K => cO pg (iF 30 t72 (.int .i64 0)) (dr w) K) (dr w) fun t73 w_ => w_ = (dr w) ∧
    Gd (kA kI true) (fun K => cO pg (eQ 3 t73) (dr w) K) (dr w) fun t74 w_ => w_ = (dr w) ∧
    Gd (kA kI true) (fun K => cO pg (eF .eql 3 (.tmp 71) (.tmp 74) t71 t74) (dr w) K) (dr w) fun t75 w_ => w_ = (dr w) ∧
    cO pg (kL kI t75 (.bool false)) (dr w) fun t76 w_ => w_ = (dr w) ∧
    (dr w) = (dr w) ∧
    cO pg (eF .add 3 (.tmp 48) (.const (.int .i64 1)) Hb (.int .i64 1)) (dr w) fun t49 w =>
    kn eM kB t6 lR GP HH Gi t65 t76 t49 w)
    (k0 eM kB t6 lR GP HH lH kI w)
theorem EK (kn : Br) (k0 : K8) (hn : ∀ g w, kn (g 0) (g 1) (g 6) (g 7) (g 8) (g 9) (g 10) (g 11) (g 12) (g 13) w → Q .normal g w) (h0 : ∀ g w, k0 (g 0) (g 1) (g 6) (g 7) (g 8) (g 9) (g 11) (g 12) w → Q (.exit 0) g w) (h : nQ kn k0 (g 0) (g 1) (g 6) (g 7) (g 8) (g 9) (g 10) (g 11) (g 12) (g 13) w) : eK pg dP (bI (bI (aA 1 (bJ 1 (aA 8 dK))))) Q g w :=
  dU (kr := no) (l := [(0, fun g w => k0 (g 0) (g 1) (g 6) (g 7) (g 8) (g 9) (g 11) (g 12) w)]) (by kernel_rfl) h hn kT ⟨h0, trivial⟩
def qI (k0 : K8) (eM kB t6 lR GP HH Gi lH kI Hb : Value) (w : World) : Prop :=
  iY (fun (X : (Value × Value × Value) → K0) (t : Value × Value × Value) (w : World) => nQ (fun _ _ _ _ _ _ _ lH kI Hb w => X (lH, kI, Hb) w) k0 eM kB t6 lR GP HH Gi t.1 t.2.1 t.2.2 w) (lH, kI, Hb) w
theorem Eu (k0 : K8) (h0 : ∀ g w, k0 (g 0) (g 1) (g 6) (g 7) (g 8) (g 9) (g 11) (g 12) w → Q (.exit 0) g w) (h : qI k0 (g 0) (g 1) (g 6) (g 7) (g 8) (g 9) (g 10) (g 11) (g 12) (g 13) w) : eK pg dP (bI (aA 1 (bJ 1 (aA 8 dK)))) Q g w := by
  refine iV (T := Value × Value × Value) (fun g : jT => (g 11, g 12, g 13)) (fun X t w => nQ (fun _ _ _ _ _ _ _ lH kI Hb w => X (lH, kI, Hb) w) k0 (g 0) (g 1) (g 6) (g 7) (g 8) (g 9) (g 10) t.1 t.2.1 t.2.2 w) _ (by kernel_rfl) h (fun X g1 w1 ha hL => ?_)
  rw [← dW (s := 0) ha (by kernel_rfl)] at hL
  rw [← dW (s := 1) ha (by kernel_rfl)] at hL
  rw [← dW (s := 6) ha (by kernel_rfl)] at hL
  rw [← dW (s := 7) ha (by kernel_rfl)] at hL
  rw [← dW (s := 8) ha (by kernel_rfl)] at hL
  rw [← dW (s := 9) ha (by kernel_rfl)] at hL
  rw [← dW (s := 10) ha (by kernel_rfl)] at hL
  exact (EK (fH (fun g2 w2 => X ((fun g : jT => (g 11, g 12, g 13)) g2) w2) Q) g1 w1 (fun _ _ _ _ _ _ _ lH kI Hb w => X (lH, kI, Hb) w) k0 (fun _ _ h => h) h0 hL)
def nU (kn : K8) (eM kB t6 lR GP HH Gi lH kI Hb : Value) (w : World) : Prop :=
  qI kn eM kB t6 lR GP HH Gi lH kI Hb w
theorem Ez (kn : K8) (hn : ∀ g w, kn (g 0) (g 1) (g 6) (g 7) (g 8) (g 9) (g 11) (g 12) w → Q .normal g w) (h : nU kn (g 0) (g 1) (g 6) (g 7) (g 8) (g 9) (g 10) (g 11) (g 12) (g 13) w) : eK pg dP (aA 1 (bJ 1 (aA 8 dK))) Q g w :=
  iU 0 _ g w (by kernel_rfl) (Eu (vI 0 Q) g w kn hn h)
def qM (kn : Br) (eM kB t6 lR GP HH Gi lH kI : Value) (w : World) : Prop :=
  kn eM kB t6 lR GP HH Gi lH kI (.int .i64 0) w
theorem EH (kn : Br) (hn : ∀ g w, kn (g 0) (g 1) (g 6) (g 7) (g 8) (g 9) (g 10) (g 11) (g 12) (g 13) w → Q .normal g w) (h : qM kn (g 0) (g 1) (g 6) (g 7) (g 8) (g 9) (g 10) (g 11) (g 12) w) : eK pg dP (bJ 1 (bJ 1 (aA 8 dK))) Q g w :=
  dU (kr := no) (l := []) (by kernel_rfl) h hn kT trivial
def nO (kn : K8) (eM kB t6 lR GP HH Gi lH kI : Value) (w : World) : Prop :=
  qM (fun eM kB t6 lR GP HH Gi lH kI Hb w => nU kn eM kB t6 lR GP HH Gi lH kI Hb w) eM kB t6 lR GP HH Gi lH kI w
theorem Ey (kn : K8) (hn : ∀ g w, kn (g 0) (g 1) (g 6) (g 7) (g 8) (g 9) (g 11) (g 12) w → Q .normal g w) (h : nO kn (g 0) (g 1) (g 6) (g 7) (g 8) (g 9) (g 10) (g 11) (g 12) w) : eK pg dP (bJ 1 (aA 8 dK)) Q g w :=
  dX 1 _ g w (by kernel_rfl) (EH (fH (fun g w => eK pg dP (aA 1 (bJ 1 (aA 8 dK))) Q g w) Q) g w (fun eM kB t6 lR GP HH Gi lH kI Hb w => nU kn eM kB t6 lR GP HH Gi lH kI Hb w) (fun g w h => eN (K := fun g w => eK pg dP (aA 1 (bJ 1 (aA 8 dK))) Q g w) (Ez Q g w kn hn h)) h)
def mA (R : K1) (eM kB t6 lR GP HH Gi lH kI : Value) (w : World) : Prop :=
  nO (fun eM kB t6 lR GP HH lH kI w => mT R eM kB t6 lR GP HH lH kI w) eM kB t6 lR GP HH Gi lH kI w
theorem Ew (R : K1) (hr : HR hH R Q) (h : mA R (g 0) (g 1) (g 6) (g 7) (g 8) (g 9) (g 10) (g 11) (g 12) w) : eK pg dP (aA 8 dK) Q g w :=
  dX 1 _ g w (by kernel_rfl) (Ey (fH (fun g w => eK pg dP (aA 1 (aA 8 dK)) Q g w) Q) g w (fun eM kB t6 lR GP HH lH kI w => mT R eM kB t6 lR GP HH lH kI w) (fun g w h => eN (K := fun g w => eK pg dP (aA 1 (aA 8 dK)) Q g w) (EG Q g w R hr h)) h)
def qL (kn : K9) (R : K1) (eM kB : Value) (w : World) : Prop :=
  hJ pg A1 #[] w fun t20 w =>
  cO pg (V6 .not t20) w fun t22 w =>
  lM t22
    (R (.bool false) w)
    (cO pg (nA .len #[30] 3 [kB]) w fun t24 w =>
    cO pg (eF .gtr 3 (.tmp 24) (.const (.int .i64 300)) t24 (.int .i64 300)) w fun t25 w =>
    lM t25
      (R (.bool true) w)
      (hJ pg nH #[eM, kB] w fun t29 w =>
      cO pg (jC t29 0) w fun t30 w =>
      cO pg (jC t29 1) w fun t31 w =>
      cO pg (jC t29 2) w fun t32 w =>
      cO pg (jC t29 3) w fun t33 w =>
      cO pg (jB 26) w fun t6 w =>
      cO pg (fG 26 t6 t30) w fun _u w =>
      hJ pg sS #[eM] w fun t35 w =>
      cO pg (nA .len #[38] 3 [t35]) w fun t36 w =>
      cO pg (eF .gtr 3 (.tmp 37) (.const (.int .i64 0)) t36 (.int .i64 0)) w fun t38 w =>
      Gd (kA t38 true) (fun K => K kB w) w fun t40 w =>
      Gd (kA t38 true) (fun K => cO pg (nA .len #[30] 3 [t40]) w K) w fun t41 w =>
      Gd (kA t38 true) (fun K => cO pg (eF .gtr 3 (.tmp 41) (.const (.int .i64 0)) t41 (.int .i64 0)) w K) w fun t42 w =>
      cO pg (kL t38 t42 (.bool false)) w fun t43 w =>
      kn eM kB t6 t31 t32 t33 t36 t43 (.bool true) w))
theorem Ex (kn : K9) (R : K1) (hn : ∀ g w, kn (g 0) (g 1) (g 6) (g 7) (g 8) (g 9) (g 10) (g 11) (g 12) w → Q .normal g w) (hr : HR hH R Q) (h : qL kn R (g 0) (g 1) w) : eK pg dP (bJ 8 dK) Q g w :=
  dU (l := []) (by kernel_rfl) h hn hr trivial
def qH (R : K1) (eM kB : Value) (w : World) : Prop :=
  qL (fun eM kB t6 lR GP HH Gi lH kI w => mA R eM kB t6 lR GP HH Gi lH kI w) R eM kB w
theorem EL (R : K1) (hr : HR hH R Q) (h : qH R (g 0) (g 1) w) : eK pg dP dK Q g w :=
  dX 8 _ g w (by kernel_rfl) (Ex (fH (fun g w => eK pg dP (aA 8 dK) Q g w) Q) g w (fun eM kB t6 lR GP HH Gi lH kI w => mA R eM kB t6 lR GP HH Gi lH kI w) R (fun g w h => eN (K := fun g w => eK pg dP (aA 8 dK) Q g w) (Ew Q g w R hr h)) hr h)
def DF (a0 a1 : Value) (w : World) (R : K1) : Prop :=
  qH R a0 a1 w
theorem Gp {a0 a1 : Value} {w : World} {R : K1} (h : DF a0 a1 w R) : hJ pg sH #[a0, a1] w R := by
  refine gJ (ann := dP) (fn := Tryd.f5) (c := dK) (args := [a0, a1]) (rs := hH) (N := 163) TrydM.mixed (by kernel_rfl) Tryd.func5 (by kernel_rfl) (by kernel_rfl) (by kernel_rfl) (of_decide_eq_true (by kernel_rfl)) (by kernel_rfl) ?_
  exact (EL (nK pg hH R) (lI [a0, a1]) w R (fun _ _ h => h) h)
def eX : FA := ⟨nH, fun i => match Nat.beq i 18 with | true => .split 4 9 (.split 9 10 (.perm [0, 1, 2, 3, 4, 5, 6, 7, 8, 9, 10, 11, 12, 13] [(9, 10), (4, 9)] ([4, 9, 10], [(4, 6), (4, 7), (4, 8)]) [(false, []), (false, []), (false, []), (false, []), (true, []), (false, []), (false, [1]), (false, [2]), (false, [3]), (true, []), (true, []), (false, []), (false, []), (false, [])]) (.perm [0, 1, 2, 3, 4, 5, 6, 7, 8, 10, 9, 11, 12, 13] [(10, 9), (4, 9)] ([4, 9, 10], [(4, 6), (4, 7), (4, 8), (6, 9), (7, 9), (8, 9)]) [(false, []), (false, []), (false, []), (false, []), (true, []), (false, []), (false, [1]), (false, [2]), (false, [3]), (true, [0, 1, 2]), (true, []), (false, []), (false, []), (false, [])])) (.perm [0, 1, 2, 3, 5, 6, 7, 8, 9, 4, 10, 11, 12, 13] [(9, 4)] ([8, 9, 10], [(1, 8), (2, 8), (3, 8)]) [(false, []), (false, []), (false, []), (false, []), (false, []), (false, []), (false, []), (false, []), (true, [4, 5, 6]), (true, []), (true, []), (false, []), (false, []), (false, [])]) | false => match Nat.beq i 22 with | true => .split 4 9 (.split 5 9 (.perm [0, 1, 2, 3, 4, 5, 6, 7, 8, 9, 10, 11] [(5, 9), (4, 9)] ([4, 5, 9, 10], [(1, 4), (2, 4), (7, 9), (8, 9), (8, 10)]) [(false, []), (false, []), (false, []), (false, []), (true, [1, 2]), (true, []), (false, []), (false, []), (false, []), (true, [0, 1]), (true, [1]), (false, [])]) (.perm [0, 1, 2, 3, 4, 9, 5, 6, 7, 8, 10, 11] [(9, 5), (4, 9)] ([4, 5, 6, 10], [(1, 4), (1, 5), (2, 4), (2, 5), (9, 10)]) [(false, []), (false, []), (false, []), (false, []), (true, [1, 2]), (true, [2, 3]), (true, []), (false, []), (false, []), (false, []), (true, [0]), (false, [])])) (.perm [0, 1, 2, 3, 9, 4, 5, 6, 7, 8, 10, 11] [(9, 4)] ([4, 5, 6, 10], [(1, 4), (1, 5), (2, 4), (2, 5), (9, 10)]) [(false, []), (false, []), (false, []), (false, []), (true, [1, 2]), (true, [2, 3]), (true, []), (false, []), (false, []), (false, []), (true, [0]), (false, [])]) | false => .leaf ([], []) []⟩
def iL : List ResultVar := [.cell 4 26, .tmp 5, .tmp 6, .tmp 7]
noncomputable def eH : Code := kJ Tryd.f9
def qV (R : K1) (t4 LJ WY : Value) (w : World) : Prop :=
  cO pg (eF .neq 27 (.tmp 107) (.const (.int .i64 0)) WY (.int .i64 0)) w fun t108 w =>
  lM t108
    (cO pg (iH 26 []) w fun t109 w =>
    cO pg (fG 26 t4 t109) w fun _u w =>
    qB pg 26 t4 w fun r0 => R (.tuple #[r0, (.int .i64 0), (.slice none 0 0), WY]) w)
    (cO pg (eQ 51 LJ) w fun t112 w =>
    hJ pg xD #[t112] w fun t113 w =>
    cO pg (jC t113 0) w fun t114 w =>
    cO pg (jC t113 1) w fun t115 w =>
    cO pg (eF .neq 27 (.tmp 116) (.const (.int .i64 0)) t115 (.int .i64 0)) w fun t117 w =>
    lM t117
      (cO pg (iH 26 []) w fun t118 w =>
      cO pg (fG 26 t4 t118) w fun _u w =>
      qB pg 26 t4 w fun r0 => R (.tuple #[r0, (.int .i64 0), (.slice none 0 0), t115]) w)
      (cO pg (eQ 51 LJ) w fun t121 w =>
      hJ pg pN #[t121] w fun t122 w =>
      cO pg (jC t122 0) w fun t123 w =>
      cO pg (jC t122 1) w fun t124 w =>
      cO pg (jB 26) w fun t20 w =>
      cO pg (fG 26 t20 t123) w fun _u w =>
      cO pg (eQ 26 t20) w fun t125 w =>
      cO pg (fG 26 t4 t125) w fun _u w =>
      qB pg 26 t4 w fun r0 => R (.tuple #[r0, (.int .i64 2), t114, t124]) w))
theorem Le (R : K1) (hr : HR iL R Q) (h : qV R (g 4) (g 17) (g 18) w) : eK pg eX (aA 1 (aA 1 (aA 1 (aA 1 (aA 5 eH))))) Q g w :=
  dU (kn := no) (l := []) (by kernel_rfl) h kT hr trivial
def Cu (kn : K3) (eM t4 gA eE : Value) (w : World) : Prop :=
  Yx (Ud nH 22 (EW 22 eH) 4 9 w)
    (Yx (Ud nH 22 (EW 22 eH) 5 9 w)
      ((dr w) = (dr w) ∧
      cO pg (eF .add 3 (.tmp 99) (.const (.int .i64 1)) eE (.int .i64 1)) (dr w) fun t100 w_ => w_ = (dr w) ∧
      cO pg (mM 57 gA none (some t100) none) (dr w) fun t101 w_ => w_ = (dr w) ∧
      (dr w) = (dr w) ∧
      hJ pg nE #[eM] (dr w) fun t103 HP =>
      (gY pg (mM 57 gA none (some t100) none) t101 HP ∧ gY pg (eF .add 3 (.tmp 99) (.const (.int .i64 1)) eE (.int .i64 1)) t100 HP ∧ True) ∧
      hJ pg wR #[t101, t103] HP fun t104 Dy =>
      Dy = Dy ∧
      cO pg (jC t104 0) Dy fun t105 w_ => w_ = Dy ∧
      cO pg (jC t104 1) Dy fun t106 w_ => w_ = Dy ∧
      cO pg (jB 51) Dy fun LJ Xo =>
      (gY pg (jC t104 1) t106 Xo ∧ gY pg (jC t104 0) t105 Xo ∧ True) ∧
      cO pg (fG 51 LJ t105) Xo fun _u10 zA =>
      (gY pg (jC t104 1) t106 zA ∧ True) ∧
      zA = zA ∧
      kn t4 LJ t106 zA)
      ((dr w) = (dr w) ∧
      cO pg (eF .add 3 (.tmp 99) (.const (.int .i64 1)) eE (.int .i64 1)) (dr w) fun t100 w_ => w_ = (dr w) ∧
      cO pg (mM 57 gA none (some t100) none) (dr w) fun t101 w_ => w_ = (dr w) ∧
      (dr w) = (dr w) ∧
      hJ pg nE #[eM] (dr w) fun t103 HP =>
      (gY pg (mM 57 gA none (some t100) none) t101 HP ∧ gY pg (eF .add 3 (.tmp 99) (.const (.int .i64 1)) eE (.int .i64 1)) t100 HP ∧ True) ∧
      cO pg (jB 51) HP fun LJ Dy =>
      (gY pg (mM 57 gA none (some t100) none) t101 Dy ∧ gY pg (eF .add 3 (.tmp 99) (.const (.int .i64 1)) eE (.int .i64 1)) t100 Dy ∧ True) ∧
      hJ pg wR #[t101, t103] Dy fun t104 DD =>
      DD = DD ∧
      cO pg (jC t104 0) DD fun t105 w_ => w_ = DD ∧
      cO pg (jC t104 1) DD fun t106 w_ => w_ = DD ∧
      cO pg (fG 51 LJ t105) DD fun _u10 zA =>
      (gY pg (jC t104 1) t106 zA ∧ True) ∧
      zA = zA ∧
      kn t4 LJ t106 zA))
    ((dr w) = (dr w) ∧
    cO pg (eF .add 3 (.tmp 99) (.const (.int .i64 1)) eE (.int .i64 1)) (dr w) fun t100 w_ => w_ = (dr w) ∧
    cO pg (mM 57 gA none (some t100) none) (dr w) fun t101 w_ => w_ = (dr w) ∧
    (dr w) = (dr w) ∧
    cO pg (jB 51) (dr w) fun LJ HP =>
    (gY pg (mM 57 gA none (some t100) none) t101 HP ∧ gY pg (eF .add 3 (.tmp 99) (.const (.int .i64 1)) eE (.int .i64 1)) t100 HP ∧ True) ∧
    hJ pg nE #[eM] HP fun t103 Dy =>
    (gY pg (mM 57 gA none (some t100) none) t101 Dy ∧ gY pg (eF .add 3 (.tmp 99) (.const (.int .i64 1)) eE (.int .i64 1)) t100 Dy ∧ True) ∧
    hJ pg wR #[t101, t103] Dy fun t104 DD =>
    DD = DD ∧
    cO pg (jC t104 0) DD fun t105 w_ => w_ = DD ∧
    cO pg (jC t104 1) DD fun t106 w_ => w_ = DD ∧
    cO pg (fG 51 LJ t105) DD fun _u10 zA =>
    (gY pg (jC t104 1) t106 zA ∧ True) ∧
    zA = zA ∧
    kn t4 LJ t106 zA)
theorem LI (kn : K3) (hn : ∀ g w, kn (g 4) (g 17) (g 18) w → Q .normal g w) (h : Cu kn (g 0) (g 4) (g 9) (g 11) w) : eK pg eX (bJ 1 (aA 1 (aA 1 (aA 1 (aA 5 eH))))) Q g w :=
  dU (kr := no) (l := []) (by kernel_rfl) h hn kT trivial
def pC (R : K1) (eM t4 gA eE : Value) (w : World) : Prop :=
  Cu (fun t4 LJ WY w => qV R t4 LJ WY w) eM t4 gA eE w
theorem Li (R : K1) (hr : HR iL R Q) (h : pC R (g 0) (g 4) (g 9) (g 11) w) : eK pg eX (aA 1 (aA 1 (aA 1 (aA 5 eH)))) Q g w :=
  dX 1 _ g w (by kernel_rfl) (LI (fH (fun g w => eK pg eX (aA 1 (aA 1 (aA 1 (aA 1 (aA 5 eH))))) Q g w) Q) g w (fun t4 LJ WY w => qV R t4 LJ WY w) (fun g w h => eN (K := fun g w => eK pg eX (aA 1 (aA 1 (aA 1 (aA 1 (aA 5 eH))))) Q g w) (Le Q g w R hr h)) h)
def rD (R : K1) (t4 t5 t6 t7 : Value) (w : World) : Prop :=
  qB pg 26 t4 w fun r0 => R (.tuple #[r0, t5, t6, t7]) w
theorem LN (R : K1) (hr : HR iL R Q) (h : rD R (g 4) (g 5) (g 6) (g 7) w) : eK pg eX (aA 1 (cT (aA 1 (bI (bJ 1 (aA 1 (aA 1 (aA 5 eH)))))))) Q g w :=
  dU (kn := no) (l := []) (by kernel_rfl) h kT hr trivial
def Cq (kn : K4) (kB t4 : Value) (w : World) : Prop :=
  Yx (Ud nH 18 (EW 18 eH) 4 9 w)
    (Yx (Ud nH 18 (EW 18 eH) 9 10 w)
      ((dr w) = (dr w) ∧
      cO pg (iF 30 kB (.int .i64 0)) (dr w) fun t71 w_ => w_ = (dr w) ∧
      cO pg (eQ 3 t71) (dr w) fun t72 w_ => w_ = (dr w) ∧
      cO pg (mL 3 5 t72) (dr w) fun t73 w_ => w_ = (dr w) ∧
      hJ pg Ah #[t73] (dr w) fun t74 zP =>
      zP = zP ∧
      cO pg (iF 30 kB (.int .i64 0)) zP fun t76 w_ => w_ = zP ∧
      (gY pg (iF 30 kB (.int .i64 0)) t76 (dr w) ∧ True) ∧
      cO pg (eQ 3 t76) zP fun t77 w_ => w_ = zP ∧
      (gY pg (eQ 3 t76) t77 (dr w) ∧ True) ∧
      cO pg (mL 3 5 t77) zP fun t78 w_ => w_ = zP ∧
      (gY pg (mL 3 5 t77) t78 (dr w) ∧ True) ∧
      cO pg (iE 22 1 [(0, t78)]) zP fun t79 Qs =>
      cO pg (fG 26 t4 t74) Qs fun _u10 oJ =>
      oJ = oJ ∧
      oJ = oJ ∧
      oJ = oJ ∧
      kn t4 (.int .i64 1) t79 (.int .i64 0) oJ)
      ((dr w) = (dr w) ∧
      cO pg (iF 30 kB (.int .i64 0)) (dr w) fun t71 w_ => w_ = (dr w) ∧
      cO pg (eQ 3 t71) (dr w) fun t72 w_ => w_ = (dr w) ∧
      cO pg (mL 3 5 t72) (dr w) fun t73 w_ => w_ = (dr w) ∧
      hJ pg Ah #[t73] (dr w) fun t74 zP =>
      zP = zP ∧
      cO pg (iF 30 kB (.int .i64 0)) zP fun t76 w_ => w_ = zP ∧
      (gY pg (iF 30 kB (.int .i64 0)) t76 (dr w) ∧ True) ∧
      cO pg (eQ 3 t76) zP fun t77 w_ => w_ = zP ∧
      (gY pg (eQ 3 t76) t77 (dr w) ∧ True) ∧
      cO pg (mL 3 5 t77) zP fun t78 w_ => w_ = zP ∧
      (gY pg (mL 3 5 t77) t78 (dr w) ∧ True) ∧
      cO pg (fG 26 t4 t74) zP fun _u9 Qs =>
      (gY pg (mL 3 5 t77) t78 Qs ∧ gY pg (eQ 3 t76) t77 Qs ∧ gY pg (iF 30 kB (.int .i64 0)) t76 Qs ∧ True) ∧
      cO pg (iE 22 1 [(0, t78)]) Qs fun t79 oJ =>
      oJ = oJ ∧
      oJ = oJ ∧
      oJ = oJ ∧
      kn t4 (.int .i64 1) t79 (.int .i64 0) oJ))
    ((dr w) = (dr w) ∧
    cO pg (iF 30 kB (.int .i64 0)) (dr w) fun t71 w_ => w_ = (dr w) ∧
    cO pg (eQ 3 t71) (dr w) fun t72 w_ => w_ = (dr w) ∧
    cO pg (mL 3 5 t72) (dr w) fun t73 w_ => w_ = (dr w) ∧
    (dr w) = (dr w) ∧
    cO pg (iF 30 kB (.int .i64 0)) (dr w) fun t76 w_ => w_ = (dr w) ∧
    cO pg (eQ 3 t76) (dr w) fun t77 w_ => w_ = (dr w) ∧
    cO pg (mL 3 5 t77) (dr w) fun t78 w_ => w_ = (dr w) ∧
    cO pg (iE 22 1 [(0, t78)]) (dr w) fun t79 V9 =>
    (gY pg (mL 3 5 t72) t73 V9 ∧ gY pg (eQ 3 t71) t72 V9 ∧ gY pg (iF 30 kB (.int .i64 0)) t71 V9 ∧ True) ∧
    hJ pg Ah #[t73] V9 fun t74 Qs =>
    cO pg (fG 26 t4 t74) Qs fun _u10 oJ =>
    oJ = oJ ∧
    oJ = oJ ∧
    oJ = oJ ∧
    kn t4 (.int .i64 1) t79 (.int .i64 0) oJ)
theorem LD (kn : K4) (hn : ∀ g w, kn (g 4) (g 5) (g 6) (g 7) w → Q .normal g w) (h : Cq kn (g 1) (g 4) w) : eK pg eX (bJ 1 (cT (aA 1 (bI (bJ 1 (aA 1 (aA 1 (aA 5 eH)))))))) Q g w :=
  dU (kr := no) (l := []) (by kernel_rfl) h hn kT trivial
def vC (R : K1) (kB t4 : Value) (w : World) : Prop :=
  Cq (fun t4 t5 t6 t7 w => rD R t4 t5 t6 t7 w) kB t4 w
theorem KG (R : K1) (hr : HR iL R Q) (h : vC R (g 1) (g 4) w) : eK pg eX (cT (aA 1 (bI (bJ 1 (aA 1 (aA 1 (aA 5 eH))))))) Q g w :=
  dX 1 _ g w (by kernel_rfl) (LD (fH (fun g w => eK pg eX (aA 1 (cT (aA 1 (bI (bJ 1 (aA 1 (aA 1 (aA 5 eH)))))))) Q g w) Q) g w (fun t4 t5 t6 t7 w => rD R t4 t5 t6 t7 w) (fun g w h => eN (K := fun g w => eK pg eX (aA 1 (cT (aA 1 (bI (bJ 1 (aA 1 (aA 1 (aA 5 eH)))))))) Q g w) (LN Q g w R hr h)) h)
def B4 (kn : K4) (R : K1) (eM kB t4 gA eE Ee : Value) (w : World) : Prop :=
  cO pg (nA .len #[30] 3 [kB]) w fun t82 w =>
  cO pg (eF .lss 3 (.tmp 82) (.const (.int .i64 64)) t82 (.int .i64 64)) w fun t83 w =>
  Gd (kA t83 true) (fun K => K eE w) w fun t85 w =>
  Gd (kA t83 true) (fun K => cO pg (fF 51 Ee 1) w K) w fun t86 w =>
  Gd (kA t83 true) (fun K => cO pg (eQ 30 t86) w K) w fun t87 w =>
  Gd (kA t83 true) (fun K => cO pg (nA .len #[30] 3 [t87]) w K) w fun t88 w =>
  Gd (kA t83 true) (fun K => cO pg (eF .lss 3 (.tmp 85) (.tmp 88) t85 t88) w K) w fun t89 w =>
  cO pg (kL t83 t89 (.bool false)) w fun t90 w =>
  lM t90
    (cO pg (eQ 51 Ee) w fun t92 w =>
    hJ pg pN #[t92] w fun t93 w =>
    cO pg (jC t93 0) w fun t94 w =>
    cO pg (jC t93 1) w fun t95 w =>
    cO pg (jB 26) w fun t15 w =>
    cO pg (fG 26 t15 t94) w fun _u w =>
    cO pg (eQ 26 t15) w fun t96 w =>
    cO pg (fG 26 t4 t96) w fun _u w =>
    qB pg 26 t4 w fun r0 => R (.tuple #[r0, (.int .i64 0), (.slice none 0 0), t95]) w)
    (kn eM t4 gA eE w)
theorem JY (kn : K4) (R : K1) (hn : ∀ g w, kn (g 0) (g 4) (g 9) (g 11) w → Q .normal g w) (hr : HR iL R Q) (h : B4 kn R (g 0) (g 1) (g 4) (g 9) (g 11) (g 14) w) : eK pg eX (cE (aA 1 (bI (bJ 1 (aA 1 (aA 1 (aA 5 eH))))))) Q g w :=
  dU (l := []) (by kernel_rfl) h hn hr trivial
def uX (kn : K4) (R : K1) (eM kB t4 gA eE Ee t67 : Value) (w : World) : Prop :=
  lM t67 (vC R kB t4 w) (B4 kn R eM kB t4 gA eE Ee w)
theorem La (kn : K4) (R : K1) (hn : ∀ g w, kn (g 0) (g 4) (g 9) (g 11) w → Q .normal g w) (hr : HR iL R Q) (h : uX kn R (g 0) (g 1) (g 4) (g 9) (g 11) (g 14) (g 67) w) : eK pg eX (aA 1 (bI (bJ 1 (aA 1 (aA 1 (aA 5 eH)))))) Q g w := by
  refine Y3 (.tmp 67) _ g w (by kernel_rfl) ?_
  exact Xv (fun h => (KG Q g w R hr h)) (fun h => (JY Q g w kn R hn hr h)) h
def BS (kn : K7) (eM kB t4 gA t10 eE Ee : Value) (w : World) : Prop :=
  cO pg (eF .eql 3 (.tmp 68) (.const (.int .i64 1)) t10 (.int .i64 1)) w fun t69 w =>
  kn eM kB t4 gA eE Ee t69 w
theorem J4 (kn : K7) (hn : ∀ g w, kn (g 0) (g 1) (g 4) (g 9) (g 11) (g 14) (g 67) w → Q .normal g w) (h : BS kn (g 0) (g 1) (g 4) (g 9) (g 10) (g 11) (g 14) w) : eK pg eX (bJ 1 (bI (bJ 1 (aA 1 (aA 1 (aA 5 eH)))))) Q g w :=
  dU (kr := no) (l := []) (by kernel_rfl) h hn kT trivial
def Al (kn : K4) (R : K1) (eM kB t4 gA t10 eE Ee : Value) (w : World) : Prop :=
  BS (fun eM kB t4 gA eE Ee t67 w => uX kn R eM kB t4 gA eE Ee t67 w) eM kB t4 gA t10 eE Ee w
theorem Jw (kn : K4) (R : K1) (hn : ∀ g w, kn (g 0) (g 4) (g 9) (g 11) w → Q .normal g w) (hr : HR iL R Q) (h : Al kn R (g 0) (g 1) (g 4) (g 9) (g 10) (g 11) (g 14) w) : eK pg eX (bI (bJ 1 (aA 1 (aA 1 (aA 5 eH))))) Q g w :=
  dX 1 _ g w (by kernel_rfl) (J4 (fH (fun g w => eK pg eX (aA 1 (bI (bJ 1 (aA 1 (aA 1 (aA 5 eH)))))) Q g w) Q) g w (fun eM kB t4 gA eE Ee t67 w => uX kn R eM kB t4 gA eE Ee t67 w) (fun g w h => eN (K := fun g w => eK pg eX (aA 1 (bI (bJ 1 (aA 1 (aA 1 (aA 5 eH)))))) Q g w) (La Q g w kn R hn hr h)) h)
def AB (kn : K4) (R : K1) (eM kB t4 gA t10 eE Ee : Value) (w : World) : Prop :=
  Al kn R eM kB t4 gA t10 eE Ee w
theorem IX (kn : K4) (R : K1) (hn : ∀ g w, kn (g 0) (g 4) (g 9) (g 11) w → Q .normal g w) (hr : HR iL R Q) (h : AB kn R (g 0) (g 1) (g 4) (g 9) (g 10) (g 11) (g 14) w) : eK pg eX (bJ 1 (aA 1 (aA 1 (aA 5 eH)))) Q g w :=
  iU 2 _ g w (by kernel_rfl) (Jw (vI 2 Q) g w kn R hn hr h)
def uC (R : K1) (eM kB t4 gA t10 eE Ee : Value) (w : World) : Prop :=
  AB (fun eM t4 gA eE w => pC R eM t4 gA eE w) R eM kB t4 gA t10 eE Ee w
theorem JH (R : K1) (hr : HR iL R Q) (h : uC R (g 0) (g 1) (g 4) (g 9) (g 10) (g 11) (g 14) w) : eK pg eX (aA 1 (aA 1 (aA 5 eH))) Q g w :=
  dX 1 _ g w (by kernel_rfl) (IX (fH (fun g w => eK pg eX (aA 1 (aA 1 (aA 1 (aA 5 eH)))) Q g w) Q) g w (fun eM t4 gA eE w => pC R eM t4 gA eE w) R (fun g w h => eN (K := fun g w => eK pg eX (aA 1 (aA 1 (aA 1 (aA 5 eH)))) Q g w) (Li Q g w R hr h)) hr h)
def AH (kn : K7) (eM kB t4 gA t10 eE : Value) (w : World) : Prop :=
  hJ pg sD #[eM] w fun t66 w =>
  cO pg (jB 51) w fun Ee w =>
  cO pg (fG 51 Ee t66) w fun _u w =>
  kn eM kB t4 gA t10 eE Ee w
theorem I1 (kn : K7) (hn : ∀ g w, kn (g 0) (g 1) (g 4) (g 9) (g 10) (g 11) (g 14) w → Q .normal g w) (h : AH kn (g 0) (g 1) (g 4) (g 9) (g 10) (g 11) w) : eK pg eX (bJ 1 (aA 1 (aA 5 eH))) Q g w :=
  dU (kr := no) (l := []) (by kernel_rfl) h hn kT trivial
def tO (R : K1) (eM kB t4 gA t10 eE : Value) (w : World) : Prop :=
  AH (fun eM kB t4 gA t10 eE Ee w => uC R eM kB t4 gA t10 eE Ee w) eM kB t4 gA t10 eE w
theorem IP (R : K1) (hr : HR iL R Q) (h : tO R (g 0) (g 1) (g 4) (g 9) (g 10) (g 11) w) : eK pg eX (aA 1 (aA 5 eH)) Q g w :=
  dX 1 _ g w (by kernel_rfl) (I1 (fH (fun g w => eK pg eX (aA 1 (aA 1 (aA 5 eH))) Q g w) Q) g w (fun eM kB t4 gA t10 eE Ee w => uC R eM kB t4 gA t10 eE Ee w) (fun g w h => eN (K := fun g w => eK pg eX (aA 1 (aA 1 (aA 5 eH))) Q g w) (JH Q g w R hr h)) h)
def tW (kn : Br) (eM kB t4 gX gA t10 eE t36 t37 t38 : Value) (w : World) : Prop :=
  cO pg (eF .add 3 (.tmp 38) (.const (.int .i64 1)) t38 (.int .i64 1)) w fun t64 w =>
  kn eM kB t4 gX gA t10 eE t36 t37 t64 w
theorem Ja (kn : Br) (hn : ∀ g w, kn (g 0) (g 1) (g 4) (g 8) (g 9) (g 10) (g 11) (g 36) (g 37) (g 38) w → Q .normal g w) (h : tW kn (g 0) (g 1) (g 4) (g 8) (g 9) (g 10) (g 11) (g 36) (g 37) (g 38) w) : eK pg eX (aA 1 (aA 2 (bI (bI (aA 1 (bJ 1 (aA 5 eH))))))) Q g w :=
  dU (kr := no) (l := []) (by kernel_rfl) h hn kT trivial
def tE (kn : Br) (eM kB t4 gX gA t10 eE XP t36 t37 t38 : Value) (w : World) : Prop :=
  cO pg (nA .max #[3, 3] 3 [eE, XP]) w fun t63 w =>
  kn eM kB t4 gX gA t10 t63 t36 t37 t38 w
theorem Jj (kn : Br) (hn : ∀ g w, kn (g 0) (g 1) (g 4) (g 8) (g 9) (g 10) (g 11) (g 36) (g 37) (g 38) w → Q .normal g w) (h : tE kn (g 0) (g 1) (g 4) (g 8) (g 9) (g 10) (g 11) (g 13) (g 36) (g 37) (g 38) w) : eK pg eX (aA 3 (bI (bJ 1 (aA 2 (bI (bI (aA 1 (bJ 1 (aA 5 eH))))))))) Q g w :=
  dU (kr := no) (l := []) (by kernel_rfl) h hn kT trivial
def Ax (kn : K11) (R : K1) (eM kB t4 gX gA t10 eE t36 t37 t38 : Value) (w : World) : Prop :=
  cO pg (iF 30 t36 t38) w fun t40 w =>
  cO pg (eQ 3 t40) w fun t41 w =>
  cO pg (eF .lss 3 (.tmp 42) (.const (.int .i64 0)) t41 (.int .i64 0)) w fun t43 w =>
  Gd (kA t43 false) (fun K => K t41 w) w fun t45 w =>
  Gd (kA t43 false) (fun K => K gX w) w fun t46 w =>
  Gd (kA t43 false) (fun K => cO pg (eF .gtr 3 (.tmp 45) (.tmp 46) t45 t46) w K) w fun t47 w =>
  cO pg (kL t43 (.bool true) t47) w fun t48 w =>
  lM t48
    (cO pg (iH 26 []) w fun t49 w =>
    cO pg (fG 26 t4 t49) w fun _u w =>
    qB pg 26 t4 w fun r0 => R (.tuple #[r0, (.int .i64 0), (.slice none 0 0), (.int .i64 1)]) w)
    (cO pg (iF 57 gA t41) w fun t51 w =>
    cO pg (eQ 56 t51) w fun t52 w =>
    cO pg (eF .add 56 (.tmp 52) (.const (.int .u32 1)) t52 (.int .u32 1)) w fun t53 w =>
    cO pg (iF 57 gA t41) w fun t54 w =>
    cO pg (fG 56 t54 t53) w fun _u w =>
    cO pg (iF 57 gA t41) w fun t56 w =>
    cO pg (eQ 56 t56) w fun t57 w =>
    cO pg (eF .eql 56 (.tmp 57) (.const (.int .u32 1)) t57 (.int .u32 1)) w fun t58 w =>
    lM t58
      (cO pg (eF .add 3 (.tmp 59) (.const (.int .i64 1)) t10 (.int .i64 1)) w fun t60 w =>
      kn eM kB t4 gX gA t60 eE t41 t36 t37 t38 w)
      (kn eM kB t4 gX gA t10 eE t41 t36 t37 t38 w))
theorem Jc (kn : K11) (R : K1) (hn : ∀ g w, kn (g 0) (g 1) (g 4) (g 8) (g 9) (g 10) (g 11) (g 13) (g 36) (g 37) (g 38) w → Q .normal g w) (hr : HR iL R Q) (h : Ax kn R (g 0) (g 1) (g 4) (g 8) (g 9) (g 10) (g 11) (g 36) (g 37) (g 38) w) : eK pg eX (bJ 3 (bI (bJ 1 (aA 2 (bI (bI (aA 1 (bJ 1 (aA 5 eH))))))))) Q g w :=
  dU (l := []) (by kernel_rfl) h hn hr trivial
def Ac (kn : Br) (R : K1) (eM kB t4 gX gA t10 eE t36 t37 t38 : Value) (w : World) : Prop :=
  Ax (fun eM kB t4 gX gA t10 eE XP t36 t37 t38 w => tE kn eM kB t4 gX gA t10 eE XP t36 t37 t38 w) R eM kB t4 gX gA t10 eE t36 t37 t38 w
theorem Jk (kn : Br) (R : K1) (hn : ∀ g w, kn (g 0) (g 1) (g 4) (g 8) (g 9) (g 10) (g 11) (g 36) (g 37) (g 38) w → Q .normal g w) (hr : HR iL R Q) (h : Ac kn R (g 0) (g 1) (g 4) (g 8) (g 9) (g 10) (g 11) (g 36) (g 37) (g 38) w) : eK pg eX (bI (bJ 1 (aA 2 (bI (bI (aA 1 (bJ 1 (aA 5 eH)))))))) Q g w :=
  dX 3 _ g w (by kernel_rfl) (Jc (fH (fun g w => eK pg eX (aA 3 (bI (bJ 1 (aA 2 (bI (bI (aA 1 (bJ 1 (aA 5 eH))))))))) Q g w) Q) g w (fun eM kB t4 gX gA t10 eE XP t36 t37 t38 w => tE kn eM kB t4 gX gA t10 eE XP t36 t37 t38 w) R (fun g w h => eN (K := fun g w => eK pg eX (aA 3 (bI (bJ 1 (aA 2 (bI (bI (aA 1 (bJ 1 (aA 5 eH))))))))) Q g w) (Jj Q g w kn hn h)) hr h)
def Av (kn : Br) (R : K1) (eM kB t4 gX gA t10 eE t36 t37 t38 : Value) (w : World) : Prop :=
  Ac kn R eM kB t4 gX gA t10 eE t36 t37 t38 w
theorem Ju (kn : Br) (R : K1) (hn : ∀ g w, kn (g 0) (g 1) (g 4) (g 8) (g 9) (g 10) (g 11) (g 36) (g 37) (g 38) w → Q .normal g w) (hr : HR iL R Q) (h : Av kn R (g 0) (g 1) (g 4) (g 8) (g 9) (g 10) (g 11) (g 36) (g 37) (g 38) w) : eK pg eX (bJ 1 (aA 2 (bI (bI (aA 1 (bJ 1 (aA 5 eH))))))) Q g w :=
  iU 1 _ g w (by kernel_rfl) (Jk (vI 1 Q) g w kn R hn hr h)
def tH (kn : Br) (R : K1) (eM kB t4 gX gA t10 eE t36 t37 t38 : Value) (w : World) : Prop :=
  Av (fun eM kB t4 gX gA t10 eE t36 t37 t38 w => tW kn eM kB t4 gX gA t10 eE t36 t37 t38 w) R eM kB t4 gX gA t10 eE t36 t37 t38 w
theorem Jq (kn : Br) (R : K1) (hn : ∀ g w, kn (g 0) (g 1) (g 4) (g 8) (g 9) (g 10) (g 11) (g 36) (g 37) (g 38) w → Q .normal g w) (hr : HR iL R Q) (h : tH kn R (g 0) (g 1) (g 4) (g 8) (g 9) (g 10) (g 11) (g 36) (g 37) (g 38) w) : eK pg eX (aA 2 (bI (bI (aA 1 (bJ 1 (aA 5 eH)))))) Q g w :=
  dX 1 _ g w (by kernel_rfl) (Ju (fH (fun g w => eK pg eX (aA 1 (aA 2 (bI (bI (aA 1 (bJ 1 (aA 5 eH))))))) Q g w) Q) g w (fun eM kB t4 gX gA t10 eE t36 t37 t38 w => tW kn eM kB t4 gX gA t10 eE t36 t37 t38 w) R (fun g w h => eN (K := fun g w => eK pg eX (aA 1 (aA 2 (bI (bI (aA 1 (bJ 1 (aA 5 eH))))))) Q g w) (Ja Q g w kn hn h)) hr h)
def As (kn : Br) (k0 : K6) (eM kB t4 gX gA t10 eE t36 t37 t38 : Value) (w : World) : Prop :=
  cO pg (eF .lss 3 (.tmp 38) (.tmp 37) t38 t37) w fun t39 w =>
  lM t39
    (kn eM kB t4 gX gA t10 eE t36 t37 t38 w)
    (k0 eM kB t4 gA t10 eE w)
theorem JD (kn : Br) (k0 : K6) (hn : ∀ g w, kn (g 0) (g 1) (g 4) (g 8) (g 9) (g 10) (g 11) (g 36) (g 37) (g 38) w → Q .normal g w) (h0 : ∀ g w, k0 (g 0) (g 1) (g 4) (g 9) (g 10) (g 11) w → Q (.exit 0) g w) (h : As kn k0 (g 0) (g 1) (g 4) (g 8) (g 9) (g 10) (g 11) (g 36) (g 37) (g 38) w) : eK pg eX (bJ 2 (bI (bI (aA 1 (bJ 1 (aA 5 eH)))))) Q g w :=
  dU (kr := no) (l := [(0, fun g w => k0 (g 0) (g 1) (g 4) (g 9) (g 10) (g 11) w)]) (by kernel_rfl) h hn kT ⟨h0, trivial⟩
def tK (kn : Br) (k0 : K6) (R : K1) (eM kB t4 gX gA t10 eE t36 t37 t38 : Value) (w : World) : Prop :=
  As (fun eM kB t4 gX gA t10 eE t36 t37 t38 w => tH kn R eM kB t4 gX gA t10 eE t36 t37 t38 w) k0 eM kB t4 gX gA t10 eE t36 t37 t38 w
theorem IW (kn : Br) (k0 : K6) (R : K1) (hn : ∀ g w, kn (g 0) (g 1) (g 4) (g 8) (g 9) (g 10) (g 11) (g 36) (g 37) (g 38) w → Q .normal g w) (h0 : ∀ g w, k0 (g 0) (g 1) (g 4) (g 9) (g 10) (g 11) w → Q (.exit 0) g w) (hr : HR iL R Q) (h : tK kn k0 R (g 0) (g 1) (g 4) (g 8) (g 9) (g 10) (g 11) (g 36) (g 37) (g 38) w) : eK pg eX (bI (bI (aA 1 (bJ 1 (aA 5 eH))))) Q g w :=
  dX 2 _ g w (by kernel_rfl) (JD (fH (fun g w => eK pg eX (aA 2 (bI (bI (aA 1 (bJ 1 (aA 5 eH)))))) Q g w) Q) g w (fun eM kB t4 gX gA t10 eE t36 t37 t38 w => tH kn R eM kB t4 gX gA t10 eE t36 t37 t38 w) k0 (fun g w h => eN (K := fun g w => eK pg eX (aA 2 (bI (bI (aA 1 (bJ 1 (aA 5 eH)))))) Q g w) (Jq Q g w kn R hn hr h)) h0 h)
def zW (k0 : K6) (R : K1) (eM kB t4 gX gA t10 eE t36 t37 t38 : Value) (w : World) : Prop :=
  iY (fun (X : (Value × Value × Value) → K0) (t : Value × Value × Value) (w : World) => tK (fun _ _ _ _ _ t10 eE _ _ t38 w => X (t10, eE, t38) w) k0 R eM kB t4 gX gA t.1 t.2.1 t36 t37 t.2.2 w) (t10, eE, t38) w
theorem Jv (k0 : K6) (R : K1) (h0 : ∀ g w, k0 (g 0) (g 1) (g 4) (g 9) (g 10) (g 11) w → Q (.exit 0) g w) (hr : HR iL R Q) (h : zW k0 R (g 0) (g 1) (g 4) (g 8) (g 9) (g 10) (g 11) (g 36) (g 37) (g 38) w) : eK pg eX (bI (aA 1 (bJ 1 (aA 5 eH)))) Q g w := by
  refine iV (T := Value × Value × Value) (fun g : jT => (g 10, g 11, g 38)) (fun X t w => tK (fun _ _ _ _ _ t10 eE _ _ t38 w => X (t10, eE, t38) w) k0 R (g 0) (g 1) (g 4) (g 8) (g 9) t.1 t.2.1 (g 36) (g 37) t.2.2 w) _ (by kernel_rfl) h (fun X g1 w1 ha hL => ?_)
  rw [← dW (s := 0) ha (by kernel_rfl)] at hL
  rw [← dW (s := 1) ha (by kernel_rfl)] at hL
  rw [← dW (s := 4) ha (by kernel_rfl)] at hL
  rw [← dW (s := 8) ha (by kernel_rfl)] at hL
  rw [← dW (s := 9) ha (by kernel_rfl)] at hL
  rw [← dW (s := 36) ha (by kernel_rfl)] at hL
  rw [← dW (s := 37) ha (by kernel_rfl)] at hL
  exact (IW (fH (fun g2 w2 => X ((fun g : jT => (g 10, g 11, g 38)) g2) w2) Q) g1 w1 (fun _ _ _ _ _ t10 eE _ _ t38 w => X (t10, eE, t38) w) k0 R (fun _ _ h => h) h0 hr hL)
def uD (kn : K6) (R : K1) (eM kB t4 gX gA t10 eE t36 t37 t38 : Value) (w : World) : Prop :=
  zW kn R eM kB t4 gX gA t10 eE t36 t37 t38 w
theorem IY (kn : K6) (R : K1) (hn : ∀ g w, kn (g 0) (g 1) (g 4) (g 9) (g 10) (g 11) w → Q .normal g w) (hr : HR iL R Q) (h : uD kn R (g 0) (g 1) (g 4) (g 8) (g 9) (g 10) (g 11) (g 36) (g 37) (g 38) w) : eK pg eX (aA 1 (bJ 1 (aA 5 eH))) Q g w :=
  iU 0 _ g w (by kernel_rfl) (Jv (vI 0 Q) g w kn R hn hr h)
def Au (kn : Br) (eM kB t4 gX gA t10 eE : Value) (w : World) : Prop :=
  cO pg (nA .len #[30] 3 [kB]) w fun t37 w =>
  kn eM kB t4 gX gA t10 eE kB t37 (.int .i64 0) w
theorem Jm (kn : Br) (hn : ∀ g w, kn (g 0) (g 1) (g 4) (g 8) (g 9) (g 10) (g 11) (g 36) (g 37) (g 38) w → Q .normal g w) (h : Au kn (g 0) (g 1) (g 4) (g 8) (g 9) (g 10) (g 11) w) : eK pg eX (bJ 1 (bJ 1 (aA 5 eH))) Q g w :=
  dU (kr := no) (l := []) (by kernel_rfl) h hn kT trivial
def tN (kn : K6) (R : K1) (eM kB t4 gX gA t10 eE : Value) (w : World) : Prop :=
  Au (fun eM kB t4 gX gA t10 eE t36 t37 t38 w => uD kn R eM kB t4 gX gA t10 eE t36 t37 t38 w) eM kB t4 gX gA t10 eE w
theorem Ji (kn : K6) (R : K1) (hn : ∀ g w, kn (g 0) (g 1) (g 4) (g 9) (g 10) (g 11) w → Q .normal g w) (hr : HR iL R Q) (h : tN kn R (g 0) (g 1) (g 4) (g 8) (g 9) (g 10) (g 11) w) : eK pg eX (bJ 1 (aA 5 eH)) Q g w :=
  dX 1 _ g w (by kernel_rfl) (Jm (fH (fun g w => eK pg eX (aA 1 (bJ 1 (aA 5 eH))) Q g w) Q) g w (fun eM kB t4 gX gA t10 eE t36 t37 t38 w => uD kn R eM kB t4 gX gA t10 eE t36 t37 t38 w) (fun g w h => eN (K := fun g w => eK pg eX (aA 1 (bJ 1 (aA 5 eH))) Q g w) (IY Q g w kn R hn hr h)) h)
def tV (R : K1) (eM kB t4 gX gA t10 eE : Value) (w : World) : Prop :=
  tN (fun eM kB t4 gA t10 eE w => tO R eM kB t4 gA t10 eE w) R eM kB t4 gX gA t10 eE w
theorem Jl (R : K1) (hr : HR iL R Q) (h : tV R (g 0) (g 1) (g 4) (g 8) (g 9) (g 10) (g 11) w) : eK pg eX (aA 5 eH) Q g w :=
  dX 1 _ g w (by kernel_rfl) (Ji (fH (fun g w => eK pg eX (aA 1 (aA 5 eH)) Q g w) Q) g w (fun eM kB t4 gA t10 eE w => tO R eM kB t4 gA t10 eE w) R (fun g w h => eN (K := fun g w => eK pg eX (aA 1 (aA 5 eH)) Q g w) (IP Q g w R hr h)) hr h)
def An (kn : K7) (R : K1) (eM kB : Value) (w : World) : Prop :=
  cO pg (jB 26) w fun t4 w =>
  hJ pg zI #[eM] w fun t22 w =>
  cO pg (eF .lss 3 (.tmp 23) (.const (.int .i64 0)) t22 (.int .i64 0)) w fun t24 w =>
  Gd (kA t24 false) (fun K => K kB w) w fun t26 w =>
  Gd (kA t24 false) (fun K => cO pg (nA .len #[30] 3 [t26]) w K) w fun t27 w =>
  Gd (kA t24 false) (fun K => cO pg (eF .eql 3 (.tmp 27) (.const (.int .i64 0)) t27 (.int .i64 0)) w K) w fun t28 w =>
  cO pg (kL t24 (.bool true) t28) w fun t29 w =>
  Gd (kA t29 false) (fun K => K kB w) w fun t31 w =>
  Gd (kA t29 false) (fun K => cO pg (nA .len #[30] 3 [t31]) w K) w fun t32 w =>
  Gd (kA t29 false) (fun K => cO pg (eF .gtr 3 (.tmp 32) (.const (.int .i64 131072)) t32 (.int .i64 131072)) w K) w fun t33 w =>
  cO pg (kL t29 (.bool true) t33) w fun t34 w =>
  lM t34
    (cO pg (iH 26 []) w fun t35 w =>
    cO pg (fG 26 t4 t35) w fun _u w =>
    qB pg 26 t4 w fun r0 => R (.tuple #[r0, (.int .i64 0), (.slice none 0 0), (.int .i64 1)]) w)
    (cO pg (jB 57) w fun gA w =>
    kn eM kB t4 t22 gA (.int .i64 0) (.int .i64 0) w)
theorem Jh (kn : K7) (R : K1) (hn : ∀ g w, kn (g 0) (g 1) (g 4) (g 8) (g 9) (g 10) (g 11) w → Q .normal g w) (hr : HR iL R Q) (h : An kn R (g 0) (g 1) w) : eK pg eX (bJ 5 eH) Q g w :=
  dU (l := []) (by kernel_rfl) h hn hr trivial
def AA (R : K1) (eM kB : Value) (w : World) : Prop :=
  An (fun eM kB t4 gX gA t10 eE w => tV R eM kB t4 gX gA t10 eE w) R eM kB w
theorem JB (R : K1) (hr : HR iL R Q) (h : AA R (g 0) (g 1) w) : eK pg eX eH Q g w :=
  dX 5 _ g w (by kernel_rfl) (Jh (fH (fun g w => eK pg eX (aA 5 eH) Q g w) Q) g w (fun eM kB t4 gX gA t10 eE w => tV R eM kB t4 gX gA t10 eE w) R (fun g w h => eN (K := fun g w => eK pg eX (aA 5 eH) Q g w) (Jl Q g w R hr h)) hr h)
def NX (a0 a1 : Value) (w : World) (R : K1) : Prop :=
  AA R a0 a1 w
theorem Ob {a0 a1 : Value} {w : World} {R : K1} (h : NX a0 a1 w R) : hJ pg nH #[a0, a1] w R := by
  refine gJ (ann := eX) (fn := Tryd.f9) (c := eH) (args := [a0, a1]) (rs := iL) (N := 128) TrydM.mixed (by kernel_rfl) Tryd.func9 (by kernel_rfl) (by kernel_rfl) (by kernel_rfl) (of_decide_eq_true (by kernel_rfl)) (by kernel_rfl) ?_
  exact (JB (nK pg iL R) (lI [a0, a1]) w R (fun _ _ h => h) h)
def jO : FA := ⟨sS, fun i => .leaf ([], []) []⟩
def pD : List ResultVar := [.tmp 2]
noncomputable def jG : Code := kJ Tryd.f10
def rB (R : K1) (gZ : Value) (w : World) : Prop :=
  R gZ w
theorem KE (R : K1) (hr : HR pD R Q) (h : rB R (g 3) w) : eK pg jO (aA 1 (aA 5 jG)) Q g w :=
  dU (kn := no) (l := []) (by kernel_rfl) h kT hr trivial
def rF (kn : K4) (k0 : K1) (eM gZ Qy H8 : Value) (w : World) : Prop :=
  cO pg (eF .lss 3 (.tmp 12) (.const (.int .i64 32)) H8 (.int .i64 32)) w fun t13 w =>
  Gd (kA t13 true) (fun K => K eM w) w fun t15 w =>
  Gd (kA t13 true) (fun K => cO pg (eF .eql 3 (.tmp 15) (.const (.int .i64 1)) t15 (.int .i64 1)) w K) w fun t16 w =>
  cO pg (kL t13 t16 (.bool false)) w fun t17 w =>
  lM t17
    (cO pg (iE 38 1 [(0, Qy)]) w fun t22 w =>
    cO pg (nA .append #[38, 38] 38 [gZ, t22]) w fun t23 w =>
    cO pg (eF .mul 56 (.tmp 24) (.const (.int .u32 2)) Qy (.int .u32 2)) w fun t25 w =>
    cO pg (eF .add 3 (.tmp 18) (.const (.int .i64 1)) H8 (.int .i64 1)) w fun t19 w =>
    kn eM t23 t25 t19 w)
    (k0 gZ w)
theorem KL (kn : K4) (k0 : K1) (hn : ∀ g w, kn (g 0) (g 3) (g 4) (g 5) w → Q .normal g w) (h0 : ∀ g w, k0 (g 3) w → Q (.exit 0) g w) (h : rF kn k0 (g 0) (g 3) (g 4) (g 5) w) : eK pg jO (bI (bI (aA 1 (bJ 1 (aA 5 jG))))) Q g w :=
  dU (kr := no) (l := [(0, fun g w => k0 (g 3) w)]) (by kernel_rfl) h hn kT ⟨h0, trivial⟩
def Cj (k0 : K1) (eM gZ Qy H8 : Value) (w : World) : Prop :=
  iY (fun (X : (Value × Value × Value) → K0) (t : Value × Value × Value) (w : World) => rF (fun _ gZ Qy H8 w => X (gZ, Qy, H8) w) k0 eM t.1 t.2.1 t.2.2 w) (gZ, Qy, H8) w
theorem LR (k0 : K1) (h0 : ∀ g w, k0 (g 3) w → Q (.exit 0) g w) (h : Cj k0 (g 0) (g 3) (g 4) (g 5) w) : eK pg jO (bI (aA 1 (bJ 1 (aA 5 jG)))) Q g w := by
  refine iV (T := Value × Value × Value) (fun g : jT => (g 3, g 4, g 5)) (fun X t w => rF (fun _ gZ Qy H8 w => X (gZ, Qy, H8) w) k0 (g 0) t.1 t.2.1 t.2.2 w) _ (by kernel_rfl) h (fun X g1 w1 ha hL => ?_)
  rw [← dW (s := 0) ha (by kernel_rfl)] at hL
  exact (KL (fH (fun g2 w2 => X ((fun g : jT => (g 3, g 4, g 5)) g2) w2) Q) g1 w1 (fun _ gZ Qy H8 w => X (gZ, Qy, H8) w) k0 (fun _ _ h => h) h0 hL)
def vR (kn : K1) (eM gZ Qy H8 : Value) (w : World) : Prop :=
  Cj kn eM gZ Qy H8 w
theorem Kd (kn : K1) (hn : ∀ g w, kn (g 3) w → Q .normal g w) (h : vR kn (g 0) (g 3) (g 4) (g 5) w) : eK pg jO (aA 1 (bJ 1 (aA 5 jG))) Q g w :=
  iU 0 _ g w (by kernel_rfl) (LR (vI 0 Q) g w kn hn h)
def BZ (kn : K4) (eM gZ Qy : Value) (w : World) : Prop :=
  kn eM gZ Qy (.int .i64 0) w
theorem Lh (kn : K4) (hn : ∀ g w, kn (g 0) (g 3) (g 4) (g 5) w → Q .normal g w) (h : BZ kn (g 0) (g 3) (g 4) w) : eK pg jO (bJ 1 (bJ 1 (aA 5 jG))) Q g w :=
  dU (kr := no) (l := []) (by kernel_rfl) h hn kT trivial
def BN (kn : K1) (eM gZ Qy : Value) (w : World) : Prop :=
  BZ (fun eM gZ Qy H8 w => vR kn eM gZ Qy H8 w) eM gZ Qy w
theorem LS (kn : K1) (hn : ∀ g w, kn (g 3) w → Q .normal g w) (h : BN kn (g 0) (g 3) (g 4) w) : eK pg jO (bJ 1 (aA 5 jG)) Q g w :=
  dX 1 _ g w (by kernel_rfl) (Lh (fH (fun g w => eK pg jO (aA 1 (bJ 1 (aA 5 jG))) Q g w) Q) g w (fun eM gZ Qy H8 w => vR kn eM gZ Qy H8 w) (fun g w h => eN (K := fun g w => eK pg jO (aA 1 (bJ 1 (aA 5 jG))) Q g w) (Kd Q g w kn hn h)) h)
def uQ (R : K1) (eM gZ Qy : Value) (w : World) : Prop :=
  BN (fun gZ w => rB R gZ w) eM gZ Qy w
theorem LT (R : K1) (hr : HR pD R Q) (h : uQ R (g 0) (g 3) (g 4) w) : eK pg jO (aA 5 jG) Q g w :=
  dX 1 _ g w (by kernel_rfl) (LS (fH (fun g w => eK pg jO (aA 1 (aA 5 jG)) Q g w) Q) g w (fun gZ w => rB R gZ w) (fun g w h => eN (K := fun g w => eK pg jO (aA 1 (aA 5 jG)) Q g w) (KE Q g w R hr h)) h)
def Cf (kn : K3) (R : K1) (eM : Value) (w : World) : Prop :=
  cO pg (eF .eql 3 (.tmp 6) (.const (.int .i64 0)) eM (.int .i64 0)) w fun t7 w =>
  lM t7
    (cO pg (iE 38 36 [(0, (.int .u32 0)), (1, (.int .u32 1)), (2, (.int .u32 2)), (3, (.int .u32 3)), (4, (.int .u32 4)), (5, (.int .u32 5)), (6, (.int .u32 6)), (7, (.int .u32 7)), (8, (.int .u32 8)), (9, (.int .u32 9)), (10, (.int .u32 10)), (11, (.int .u32 11)), (12, (.int .u32 12)), (13, (.int .u32 13)), (14, (.int .u32 14)), (15, (.int .u32 15)), (16, (.int .u32 16)), (17, (.int .u32 18)), (18, (.int .u32 20)), (19, (.int .u32 22)), (20, (.int .u32 24)), (21, (.int .u32 28)), (22, (.int .u32 32)), (23, (.int .u32 40)), (24, (.int .u32 48)), (25, (.int .u32 64)), (26, (.int .u32 128)), (27, (.int .u32 256)), (28, (.int .u32 512)), (29, (.int .u32 1024)), (30, (.int .u32 2048)), (31, (.int .u32 4096)), (32, (.int .u32 8192)), (33, (.int .u32 16384)), (34, (.int .u32 32768)), (35, (.int .u32 65536))]) w fun t8 w =>
    R t8 w)
    (cO pg (eF .eql 3 (.tmp 9) (.const (.int .i64 2)) eM (.int .i64 2)) w fun t10 w =>
    lM t10
      (cO pg (iE 38 53 [(0, (.int .u32 3)), (1, (.int .u32 4)), (2, (.int .u32 5)), (3, (.int .u32 6)), (4, (.int .u32 7)), (5, (.int .u32 8)), (6, (.int .u32 9)), (7, (.int .u32 10)), (8, (.int .u32 11)), (9, (.int .u32 12)), (10, (.int .u32 13)), (11, (.int .u32 14)), (12, (.int .u32 15)), (13, (.int .u32 16)), (14, (.int .u32 17)), (15, (.int .u32 18)), (16, (.int .u32 19)), (17, (.int .u32 20)), (18, (.int .u32 21)), (19, (.int .u32 22)), (20, (.int .u32 23)), (21, (.int .u32 24)), (22, (.int .u32 25)), (23, (.int .u32 26)), (24, (.int .u32 27)), (25, (.int .u32 28)), (26, (.int .u32 29)), (27, (.int .u32 30)), (28, (.int .u32 31)), (29, (.int .u32 32)), (30, (.int .u32 33)), (31, (.int .u32 34)), (32, (.int .u32 35)), (33, (.int .u32 37)), (34, (.int .u32 39)), (35, (.int .u32 41)), (36, (.int .u32 43)), (37, (.int .u32 47)), (38, (.int .u32 51)), (39, (.int .u32 59)), (40, (.int .u32 67)), (41, (.int .u32 83)), (42, (.int .u32 99)), (43, (.int .u32 131)), (44, (.int .u32 259)), (45, (.int .u32 515)), (46, (.int .u32 1027)), (47, (.int .u32 2051)), (48, (.int .u32 4099)), (49, (.int .u32 8195)), (50, (.int .u32 16387)), (51, (.int .u32 32771)), (52, (.int .u32 65539))]) w fun t11 w =>
      R t11 w)
      (kn eM (.slice none 0 0) (.int .u32 1) w))
theorem Lz (kn : K3) (R : K1) (hn : ∀ g w, kn (g 0) (g 3) (g 4) w → Q .normal g w) (hr : HR pD R Q) (h : Cf kn R (g 0) w) : eK pg jO (bJ 5 jG) Q g w :=
  dU (l := []) (by kernel_rfl) h hn hr trivial
def B8 (R : K1) (eM : Value) (w : World) : Prop :=
  Cf (fun eM gZ Qy w => uQ R eM gZ Qy w) R eM w
theorem LK (R : K1) (hr : HR pD R Q) (h : B8 R (g 0) w) : eK pg jO jG Q g w :=
  dX 5 _ g w (by kernel_rfl) (Lz (fH (fun g w => eK pg jO (aA 5 jG) Q g w) Q) g w (fun eM gZ Qy w => uQ R eM gZ Qy w) R (fun g w h => eN (K := fun g w => eK pg jO (aA 5 jG) Q g w) (LT Q g w R hr h)) hr h)
def M4 (a0 : Value) (w : World) (R : K1) : Prop :=
  B8 R a0 w
theorem MF {a0 : Value} {w : World} {R : K1} (h : M4 a0 w R) : hJ pg sS #[a0] w R := by
  refine gJ (ann := jO) (fn := Tryd.f10) (c := jG) (args := [a0]) (rs := pD) (N := 27) TrydM.mixed (by kernel_rfl) Tryd.func10 (by kernel_rfl) (by kernel_rfl) (by kernel_rfl) (of_decide_eq_true (by kernel_rfl)) (by kernel_rfl) ?_
  exact (LK (nK pg pD R) (lI [a0]) w R (fun _ _ h => h) h)
def HN : FA := ⟨CD, fun i => .leaf ([], []) []⟩
def E9 : List ResultVar := [.cell 8 42, .tmp 9, .tmp 10]
noncomputable def Hv : Code := kJ Tryd.f11
def FH (R : K1) (eM DI YD X6 : Value) (w : World) : Prop :=
  cO pg (FZ 42 X6) w fun Uj w =>
  cO pg (jB 42) w fun t8 w =>
  hJ pg sS #[eM] w fun t19 w =>
  cO pg (nA .len #[38] 3 [t19]) w fun t20 w =>
  cO pg (eF .eql 3 (.tmp 21) (.const (.int .i64 0)) t20 (.int .i64 0)) w fun t22 w =>
  Gd (kA t22 false) (fun K => K DI w) w fun t24 w =>
  Gd (kA t22 false) (fun K => cO pg (eF .lss 3 (.tmp 24) (.const (.int .i64 0)) t24 (.int .i64 0)) w K) w fun t25 w =>
  cO pg (kL t22 (.bool true) t25) w fun t26 w =>
  Gd (kA t26 false) (fun K => K DI w) w fun t28 w =>
  Gd (kA t26 false) (fun K => cO pg (eF .gtr 3 (.tmp 28) (.const (.int .i64 3)) t28 (.int .i64 3)) w K) w fun t29 w =>
  cO pg (kL t26 (.bool true) t29) w fun t30 w =>
  lM t30
    (cO pg (iH 42 []) w fun t31 w =>
    cO pg (fG 42 t8 t31) w fun _u w =>
    qB pg 42 t8 w fun r0 => R (.tuple #[r0, (.int .i64 0), (.int .i64 1)]) w)
    (cO pg (eF .eql 3 (.tmp 32) (.const (.int .i64 0)) DI (.int .i64 0)) w fun t33 w =>
    lM t33
      (hJ pg vW #[eM] w fun t36 w =>
      cO pg (jC t36 0) w fun t37 w =>
      cO pg (jC t36 1) w fun t38 w =>
      cO pg (jB 42) w fun t12 w =>
      cO pg (fG 42 t12 t37) w fun _u w =>
      cO pg (eQ 42 t12) w fun t39 w =>
      cO pg (fG 42 t8 t39) w fun _u w =>
      qB pg 42 t8 w fun r0 => R (.tuple #[r0, (.int .i64 0), t38]) w)
      (cO pg (eF .eql 3 (.tmp 41) (.const (.int .i64 1)) DI (.int .i64 1)) w fun t42 w =>
      lM t42
        (cO pg (eF .eql 9 (.tmp 43) (.const (.string ⟨#[]⟩)) YD (.string ⟨#[]⟩)) w fun t44 w =>
        lM t44
          (cO pg (iH 42 []) w fun t45 w =>
          cO pg (fG 42 t8 t45) w fun _u w =>
          qB pg 42 t8 w fun r0 => R (.tuple #[r0, (.int .i64 0), (.int .i64 10)]) w)
          (cO pg (UO 9 YD (.int .i64 0)) w fun t47 w =>
          cO pg (mL 5 3 t47) w fun t48 w =>
          cO pg (eF .geq 3 (.tmp 48) (.tmp 49) t48 t20) w fun t50 w =>
          lM t50
            (cO pg (iH 42 []) w fun t51 w =>
            cO pg (fG 42 t8 t51) w fun _u w =>
            qB pg 42 t8 w fun r0 => R (.tuple #[r0, (.int .i64 0), (.int .i64 11)]) w)
            (cO pg (UO 9 YD (.int .i64 0)) w fun t53 w =>
            cO pg (mL 5 3 t53) w fun t54 w =>
            hJ pg EP #[t54] w fun t55 w =>
            cO pg (fG 42 t8 t55) w fun _u w =>
            qB pg 42 t8 w fun r0 => R (.tuple #[r0, (.int .i64 1), (.int .i64 0)]) w)))
        (cO pg (eF .eql 3 (.tmp 56) (.const (.int .i64 3)) DI (.int .i64 3)) w fun t57 w =>
        lM t57
          (cO pg (fF 42 Uj 1) w fun t58 w =>
          cO pg (eQ 40 t58) w fun t59 w =>
          cO pg (nA .len #[40] 3 [t59]) w fun t60 w =>
          cO pg (eF .eql 3 (.tmp 60) (.const (.int .i64 0)) t60 (.int .i64 0)) w fun t61 w =>
          lM t61
            (cO pg (iH 42 []) w fun t62 w =>
            cO pg (fG 42 t8 t62) w fun _u w =>
            qB pg 42 t8 w fun r0 => R (.tuple #[r0, (.int .i64 0), (.int .i64 11)]) w)
            (cO pg (eQ 42 Uj) w fun t63 w =>
            cO pg (fG 42 t8 t63) w fun _u w =>
            qB pg 42 t8 w fun r0 => R (.tuple #[r0, (.int .i64 0), (.int .i64 0)]) w))
          (hJ pg CX #[eM] w fun t67 w =>
          hJ pg CB #[YD, t67, t20] w fun t69 w =>
          cO pg (jC t69 0) w fun t70 w =>
          cO pg (jC t69 1) w fun t71 w =>
          cO pg (jC t69 2) w fun t72 w =>
          cO pg (jB 65) w fun X2 w =>
          cO pg (fG 65 X2 t70) w fun _u w =>
          cO pg (eF .neq 27 (.tmp 73) (.const (.int .i64 0)) t72 (.int .i64 0)) w fun t74 w =>
          lM t74
            (cO pg (iH 42 []) w fun t75 w =>
            cO pg (fG 42 t8 t75) w fun _u w =>
            qB pg 42 t8 w fun r0 => R (.tuple #[r0, (.int .i64 0), t72]) w)
            (cO pg (eQ 65 X2) w fun t78 w =>
            hJ pg uK #[t78] w fun t79 w =>
            cO pg (jC t79 0) w fun t80 w =>
            cO pg (jC t79 1) w fun t81 w =>
            cO pg (jB 42) w fun t17 w =>
            cO pg (fG 42 t17 t80) w fun _u w =>
            cO pg (eF .neq 27 (.tmp 82) (.const (.int .i64 0)) t81 (.int .i64 0)) w fun t83 w =>
            lM t83
              (cO pg (iH 42 []) w fun t84 w =>
              cO pg (fG 42 t8 t84) w fun _u w =>
              qB pg 42 t8 w fun r0 => R (.tuple #[r0, (.int .i64 0), t81]) w)
              (cO pg (eQ 42 t17) w fun t86 w =>
              cO pg (fG 42 t8 t86) w fun _u w =>
              qB pg 42 t8 w fun r0 => R (.tuple #[r0, t71, (.int .i64 0)]) w))))))
theorem PV (R : K1) (hr : HR E9 R Q) (h : FH R (g 0) (g 1) (g 2) (g 3) w) : eK pg HN Hv Q g w :=
  dU (kn := no) (l := []) (by kernel_rfl) h kT hr trivial
def R9 (a0 a1 a2 a3 : Value) (w : World) (R : K1) : Prop :=
  FH R a0 a1 a2 a3 w
theorem Ri {a0 a1 a2 a3 : Value} {w : World} {R : K1} (h : R9 a0 a1 a2 a3 w R) : hJ pg CD #[a0, a1, a2, a3] w R := by
  refine gJ (ann := HN) (fn := Tryd.f11) (c := Hv) (args := [a0, a1, a2, a3]) (rs := E9) (N := 88) TrydM.mixed (by kernel_rfl) Tryd.func11 (by kernel_rfl) (by kernel_rfl) (by kernel_rfl) (of_decide_eq_true (by kernel_rfl)) (by kernel_rfl) ?_
  exact (PV (nK pg E9 R) (lI [a0, a1, a2, a3]) w R (fun _ _ h => h) h)
def kH : FA := ⟨CP, fun i => match Nat.beq i 6 with | true => .leaf ([], []) [(false, []), (false, []), (false, []), (false, []), (false, []), (false, []), (false, []), (false, []), (false, []), (false, []), (false, [])] | false => .leaf ([], []) []⟩
def mP : List ResultVar := [.tmp 4]
noncomputable def jV : Code := kJ Tryd.f12
def Ba (R : K1)  (w : World) : Prop :=
  R (.bool true) w
theorem OU (R : K1) (hr : HR mP R Q) (h : Ba R w) : eK pg kH (aA 1 (aA 2 jV)) Q g w :=
  dU (kn := no) (l := []) (by kernel_rfl) h kT hr trivial
def Bn (kn : K3) (k0 : K0) (R : K1) (QK RK H8 : Value) (w : World) : Prop :=
  cO pg (fF 42 QK 1) w fun t21 w =>
  cO pg (eQ 40 t21) w fun t22 w =>
  cO pg (nA .len #[40] 3 [t22]) w fun t23 w =>
  cO pg (eF .lss 3 (.tmp 20) (.tmp 23) H8 t23) w fun t24 w =>
  lM t24
    (cO pg (fF 42 QK 1) (dr w) fun t27 w_ => w_ = (dr w) ∧
    cO pg (eQ 40 t27) (dr w) fun t28 w_ => w_ = (dr w) ∧
    (dr w) = (dr w) ∧
    cO pg (iF 40 t28 H8) (dr w) fun t30 w_ => w_ = (dr w) ∧
    cO pg (eQ 70 t30) (dr w) fun t31 w_ => w_ = (dr w) ∧
    cO pg (fF 42 RK 1) (dr w) fun t32 w_ => w_ = (dr w) ∧
    cO pg (eQ 40 t32) (dr w) fun t33 w_ => w_ = (dr w) ∧
    (dr w) = (dr w) ∧
    cO pg (iF 40 t33 H8) (dr w) fun t35 w_ => w_ = (dr w) ∧
    cO pg (eQ 70 t35) (dr w) fun t36 w_ => w_ = (dr w) ∧
    cO pg (eF .neq 70 (.tmp 31) (.tmp 36) t31 t36) (dr w) fun t37 w_ => w_ = (dr w) ∧
    lM t37
      (R (.bool false) (dr w))
      (cO pg (eF .add 3 (.tmp 25) (.const (.int .i64 1)) H8 (.int .i64 1)) (dr w) fun t26 w =>
      kn QK RK t26 w))
    (k0 w)
theorem OS (kn : K3) (k0 : K0) (R : K1) (hn : ∀ g w, kn (g 2) (g 3) (g 5) w → Q .normal g w) (h0 : ∀ g w, k0 w → Q (.exit 0) g w) (hr : HR mP R Q) (h : Bn kn k0 R (g 2) (g 3) (g 5) w) : eK pg kH (bI (bI (aA 1 (bJ 1 (aA 2 jV))))) Q g w :=
  dU (l := [(0, fun g w => k0 w)]) (by kernel_rfl) h hn hr ⟨h0, trivial⟩
def FE (k0 : K0) (R : K1) (QK RK H8 : Value) (w : World) : Prop :=
  iY (fun (X : Value → K0) (t : Value) (w : World) => Bn (fun _ _ H8 w => X H8 w) k0 R QK RK t w) H8 w
theorem Qi (k0 : K0) (R : K1) (h0 : ∀ g w, k0 w → Q (.exit 0) g w) (hr : HR mP R Q) (h : FE k0 R (g 2) (g 3) (g 5) w) : eK pg kH (bI (aA 1 (bJ 1 (aA 2 jV)))) Q g w := by
  refine iV (T := Value) (fun g : jT => g 5) (fun X t w => Bn (fun _ _ H8 w => X H8 w) k0 R (g 2) (g 3) t w) _ (by kernel_rfl) h (fun X g1 w1 ha hL => ?_)
  rw [← dW (s := 2) ha (by kernel_rfl)] at hL
  rw [← dW (s := 3) ha (by kernel_rfl)] at hL
  exact (OS (fH (fun g2 w2 => X ((fun g : jT => g 5) g2) w2) Q) g1 w1 (fun _ _ H8 w => X H8 w) k0 R (fun _ _ h => h) h0 hr hL)
def AU (kn : K0) (R : K1) (QK RK H8 : Value) (w : World) : Prop :=
  FE kn R QK RK H8 w
theorem OT (kn : K0) (R : K1) (hn : ∀ g w, kn w → Q .normal g w) (hr : HR mP R Q) (h : AU kn R (g 2) (g 3) (g 5) w) : eK pg kH (aA 1 (bJ 1 (aA 2 jV))) Q g w :=
  iU 0 _ g w (by kernel_rfl) (Qi (vI 0 Q) g w kn R hn hr h)
def Fp (kn : K3) (QK RK : Value) (w : World) : Prop :=
  kn QK RK (.int .i64 0) w
theorem ON (kn : K3) (hn : ∀ g w, kn (g 2) (g 3) (g 5) w → Q .normal g w) (h : Fp kn (g 2) (g 3) w) : eK pg kH (bJ 1 (bJ 1 (aA 2 jV))) Q g w :=
  dU (kr := no) (l := []) (by kernel_rfl) h hn kT trivial
def FG (kn : K0) (R : K1) (QK RK : Value) (w : World) : Prop :=
  Fp (fun QK RK H8 w => AU kn R QK RK H8 w) QK RK w
theorem PI (kn : K0) (R : K1) (hn : ∀ g w, kn w → Q .normal g w) (hr : HR mP R Q) (h : FG kn R (g 2) (g 3) w) : eK pg kH (bJ 1 (aA 2 jV)) Q g w :=
  dX 1 _ g w (by kernel_rfl) (ON (fH (fun g w => eK pg kH (aA 1 (bJ 1 (aA 2 jV))) Q g w) Q) g w (fun QK RK H8 w => AU kn R QK RK H8 w) (fun g w h => eN (K := fun g w => eK pg kH (aA 1 (bJ 1 (aA 2 jV))) Q g w) (OT Q g w kn R hn hr h)) h)
def AZ (R : K1) (QK RK : Value) (w : World) : Prop :=
  FG (fun  w => Ba R w) R QK RK w
theorem PR (R : K1) (hr : HR mP R Q) (h : AZ R (g 2) (g 3) w) : eK pg kH (aA 2 jV) Q g w :=
  dX 1 _ g w (by kernel_rfl) (PI (fH (fun g w => eK pg kH (aA 1 (aA 2 jV)) Q g w) Q) g w (fun  w => Ba R w) R (fun g w h => eN (K := fun g w => eK pg kH (aA 1 (aA 2 jV)) Q g w) (OU Q g w R hr h)) hr h)
def Fs (kn : K2) (R : K1) (a_0 b_1 : Value) (w : World) : Prop :=
  cO pg (FZ 42 a_0) w fun QK w =>
  cO pg (FZ 42 b_1) w fun RK w =>
  cO pg (fF 42 QK 0) w fun t6 w =>
  cO pg (eQ 3 t6) w fun t7 w =>
  cO pg (fF 42 RK 0) w fun t8 w =>
  cO pg (eQ 3 t8) w fun t9 w =>
  cO pg (eF .neq 3 (.tmp 7) (.tmp 9) t7 t9) w fun t10 w =>
  Gd (kA t10 false) (fun K => cO pg (fF 42 QK 1) w K) w fun t12 w =>
  Gd (kA t10 false) (fun K => cO pg (eQ 40 t12) w K) w fun t13 w =>
  Gd (kA t10 false) (fun K => cO pg (nA .len #[40] 3 [t13]) w K) w fun t14 w =>
  Gd (kA t10 false) (fun K => cO pg (fF 42 RK 1) w K) w fun t15 w =>
  Gd (kA t10 false) (fun K => cO pg (eQ 40 t15) w K) w fun t16 w =>
  Gd (kA t10 false) (fun K => cO pg (nA .len #[40] 3 [t16]) w K) w fun t17 w =>
  Gd (kA t10 false) (fun K => cO pg (eF .neq 3 (.tmp 14) (.tmp 17) t14 t17) w K) w fun t18 w =>
  cO pg (kL t10 (.bool true) t18) w fun t19 w =>
  lM t19
    (R (.bool false) w)
    (kn QK RK w)
theorem Qh (kn : K2) (R : K1) (hn : ∀ g w, kn (g 2) (g 3) w → Q .normal g w) (hr : HR mP R Q) (h : Fs kn R (g 0) (g 1) w) : eK pg kH (bJ 2 jV) Q g w :=
  dU (l := []) (by kernel_rfl) h hn hr trivial
def E6 (R : K1) (a_0 b_1 : Value) (w : World) : Prop :=
  Fs (fun QK RK w => AZ R QK RK w) R a_0 b_1 w
theorem OP (R : K1) (hr : HR mP R Q) (h : E6 R (g 0) (g 1) w) : eK pg kH jV Q g w :=
  dX 2 _ g w (by kernel_rfl) (Qh (fH (fun g w => eK pg kH (aA 2 jV) Q g w) Q) g w (fun QK RK w => AZ R QK RK w) R (fun g w h => eN (K := fun g w => eK pg kH (aA 2 jV) Q g w) (PR Q g w R hr h)) hr h)
def RP (a0 a1 : Value) (w : World) (R : K1) : Prop :=
  E6 R a0 a1 w
theorem Rn {a0 a1 : Value} {w : World} {R : K1} (h : RP a0 a1 w R) : hJ pg CP #[a0, a1] w R := by
  refine gJ (ann := kH) (fn := Tryd.f12) (c := jV) (args := [a0, a1]) (rs := mP) (N := 38) TrydM.mixed (by kernel_rfl) Tryd.func12 (by kernel_rfl) (by kernel_rfl) (by kernel_rfl) (of_decide_eq_true (by kernel_rfl)) (by kernel_rfl) ?_
  exact (OP (nK pg mP R) (lI [a0, a1]) w R (fun _ _ h => h) h)
def jH : FA := ⟨vN, fun i => .leaf ([], []) []⟩
def qA : List ResultVar := [.cell 2 42]
noncomputable def iZ : Code := kJ Tryd.f13
def uA (R : K1) (t2 gZ : Value) (w : World) : Prop :=
  cO pg (eQ 42 gZ) w fun t34 w =>
  cO pg (fG 42 t2 t34) w fun _u w =>
  qB pg 42 t2 w fun r0 => R r0 w
theorem IU (R : K1) (hr : HR qA R Q) (h : uA R (g 2) (g 3) w) : eK pg jH (aA 1 (aA 2 iZ)) Q g w :=
  dU (kn := no) (l := []) (by kernel_rfl) h kT hr trivial
def tL (kn : K4) (k0 : K2) (t1 t2 gZ lO : Value) (w : World) : Prop :=
  cO pg (fF 26 t1 1) w fun t10 w =>
  cO pg (eQ 24 t10) w fun t11 w =>
  cO pg (nA .len #[24] 3 [t11]) w fun t12 w =>
  cO pg (eF .lss 3 (.tmp 9) (.tmp 12) lO t12) w fun t13 w =>
  lM t13
    (cO pg (fF 26 t1 1) w fun t16 w =>
    cO pg (eQ 24 t16) w fun t17 w =>
    cO pg (iF 24 t17 lO) w fun t19 w =>
    cO pg (eQ 32 t19) w fun t20 w =>
    cO pg (jB 32) w fun x_5 w =>
    cO pg (fG 32 x_5 t20) w fun _u w =>
    cO pg (fF 42 gZ 1) w fun t21 w =>
    cO pg (eQ 40 t21) w fun t22 w =>
    cO pg (fF 32 x_5 0) w fun t23 w =>
    cO pg (eQ 5 t23) w fun t24 w =>
    cO pg (mL 5 3 t24) w fun t25 w =>
    cO pg (fF 32 x_5 1) w fun t26 w =>
    cO pg (eQ 3 t26) w fun t27 w =>
    cO pg (fF 32 x_5 2) w fun t28 w =>
    cO pg (eQ 3 t28) w fun t29 w =>
    cO pg (iH 70 [(0, t25), (1, t27), (2, t29)]) w fun t30 w =>
    cO pg (iE 40 1 [(0, t30)]) w fun t31 w =>
    cO pg (nA .append #[40, 40] 40 [t22, t31]) w fun t32 w =>
    cO pg (fF 42 gZ 1) w fun t33 w =>
    cO pg (fG 40 t33 t32) w fun _u w =>
    cO pg (eF .add 3 (.tmp 14) (.const (.int .i64 1)) lO (.int .i64 1)) w fun t15 w =>
    kn t1 t2 gZ t15 w)
    (k0 t2 gZ w)
theorem Jp (kn : K4) (k0 : K2) (hn : ∀ g w, kn (g 1) (g 2) (g 3) (g 4) w → Q .normal g w) (h0 : ∀ g w, k0 (g 2) (g 3) w → Q (.exit 0) g w) (h : tL kn k0 (g 1) (g 2) (g 3) (g 4) w) : eK pg jH (bI (bI (aA 1 (bJ 1 (aA 2 iZ))))) Q g w :=
  dU (kr := no) (l := [(0, fun g w => k0 (g 2) (g 3) w)]) (by kernel_rfl) h hn kT ⟨h0, trivial⟩
def Ay (k0 : K2) (t1 t2 gZ lO : Value) (w : World) : Prop :=
  iY (fun (X : Value → K0) (t : Value) (w : World) => tL (fun _ _ _ lO w => X lO w) k0 t1 t2 gZ t w) lO w
theorem JG (k0 : K2) (h0 : ∀ g w, k0 (g 2) (g 3) w → Q (.exit 0) g w) (h : Ay k0 (g 1) (g 2) (g 3) (g 4) w) : eK pg jH (bI (aA 1 (bJ 1 (aA 2 iZ)))) Q g w := by
  refine iV (T := Value) (fun g : jT => g 4) (fun X t w => tL (fun _ _ _ lO w => X lO w) k0 (g 1) (g 2) (g 3) t w) _ (by kernel_rfl) h (fun X g1 w1 ha hL => ?_)
  rw [← dW (s := 1) ha (by kernel_rfl)] at hL
  rw [← dW (s := 2) ha (by kernel_rfl)] at hL
  rw [← dW (s := 3) ha (by kernel_rfl)] at hL
  exact (Jp (fH (fun g2 w2 => X ((fun g : jT => g 4) g2) w2) Q) g1 w1 (fun _ _ _ lO w => X lO w) k0 (fun _ _ h => h) h0 hL)
def tZ (kn : K2) (t1 t2 gZ lO : Value) (w : World) : Prop :=
  Ay kn t1 t2 gZ lO w
theorem I0 (kn : K2) (hn : ∀ g w, kn (g 2) (g 3) w → Q .normal g w) (h : tZ kn (g 1) (g 2) (g 3) (g 4) w) : eK pg jH (aA 1 (bJ 1 (aA 2 iZ))) Q g w :=
  iU 0 _ g w (by kernel_rfl) (JG (vI 0 Q) g w kn hn h)
def Aq (kn : K4) (t1 t2 gZ : Value) (w : World) : Prop :=
  kn t1 t2 gZ (.int .i64 0) w
theorem Jf (kn : K4) (hn : ∀ g w, kn (g 1) (g 2) (g 3) (g 4) w → Q .normal g w) (h : Aq kn (g 1) (g 2) (g 3) w) : eK pg jH (bJ 1 (bJ 1 (aA 2 iZ))) Q g w :=
  dU (kr := no) (l := []) (by kernel_rfl) h hn kT trivial
def Af (kn : K2) (t1 t2 gZ : Value) (w : World) : Prop :=
  Aq (fun t1 t2 gZ lO w => tZ kn t1 t2 gZ lO w) t1 t2 gZ w
theorem IR (kn : K2) (hn : ∀ g w, kn (g 2) (g 3) w → Q .normal g w) (h : Af kn (g 1) (g 2) (g 3) w) : eK pg jH (bJ 1 (aA 2 iZ)) Q g w :=
  dX 1 _ g w (by kernel_rfl) (Jf (fH (fun g w => eK pg jH (aA 1 (bJ 1 (aA 2 iZ))) Q g w) Q) g w (fun t1 t2 gZ lO w => tZ kn t1 t2 gZ lO w) (fun g w h => eN (K := fun g w => eK pg jH (aA 1 (bJ 1 (aA 2 iZ))) Q g w) (I0 Q g w kn hn h)) h)
def tM (R : K1) (t1 t2 gZ : Value) (w : World) : Prop :=
  Af (fun t2 gZ w => uA R t2 gZ w) t1 t2 gZ w
theorem IV (R : K1) (hr : HR qA R Q) (h : tM R (g 1) (g 2) (g 3) w) : eK pg jH (aA 2 iZ) Q g w :=
  dX 1 _ g w (by kernel_rfl) (IR (fH (fun g w => eK pg jH (aA 1 (aA 2 iZ)) Q g w) Q) g w (fun t2 gZ w => uA R t2 gZ w) (fun g w h => eN (K := fun g w => eK pg jH (aA 1 (aA 2 iZ)) Q g w) (IU Q g w R hr h)) h)
def Aj (kn : K3) (t0 : Value) (w : World) : Prop :=
  cO pg (FZ 26 t0) w fun t1 w =>
  cO pg (jB 42) w fun t2 w =>
  cO pg (fF 26 t1 0) w fun t6 w =>
  cO pg (eQ 3 t6) w fun t7 w =>
  cO pg (iH 42 [(0, t7)]) w fun t8 w =>
  cO pg (jB 42) w fun gZ w =>
  cO pg (fG 42 gZ t8) w fun _u w =>
  kn t1 t2 gZ w
theorem JI (kn : K3) (hn : ∀ g w, kn (g 1) (g 2) (g 3) w → Q .normal g w) (h : Aj kn (g 0) w) : eK pg jH (bJ 2 iZ) Q g w :=
  dU (kr := no) (l := []) (by kernel_rfl) h hn kT trivial
def Am (R : K1) (t0 : Value) (w : World) : Prop :=
  Aj (fun t1 t2 gZ w => tM R t1 t2 gZ w) t0 w
theorem Js (R : K1) (hr : HR qA R Q) (h : Am R (g 0) w) : eK pg jH iZ Q g w :=
  dX 2 _ g w (by kernel_rfl) (JI (fH (fun g w => eK pg jH (aA 2 iZ) Q g w) Q) g w (fun t1 t2 gZ w => tM R t1 t2 gZ w) (fun g w h => eN (K := fun g w => eK pg jH (aA 2 iZ) Q g w) (IV Q g w R hr h)) h)
def JP (a0 : Value) (w : World) (R : K1) : Prop :=
  Am R a0 w
theorem Kj {a0 : Value} {w : World} {R : K1} (h : JP a0 w R) : hJ pg vN #[a0] w R := by
  refine gJ (ann := jH) (fn := Tryd.f13) (c := iZ) (args := [a0]) (rs := qA) (N := 35) TrydM.mixed (by kernel_rfl) Tryd.func13 (by kernel_rfl) (by kernel_rfl) (by kernel_rfl) (of_decide_eq_true (by kernel_rfl)) (by kernel_rfl) ?_
  exact (Js (nK pg qA R) (lI [a0]) w R (fun _ _ h => h) h)
def iT : FA := ⟨A2, fun i => match Nat.beq i 25 with | true => .leaf ([2, 3], [(0, 2)]) [(false, []), (false, []), (true, [1]), (true, []), (false, []), (false, [])] | false => .leaf ([], []) []⟩
def lB : List ResultVar := [.cell 6 51, .tmp 7, .tmp 8]
noncomputable def iM : Code := kJ Tryd.f19
def yZ (R : K1) (t6 lX iG : Value) (w : World) : Prop :=
  cO pg (eQ 51 iG) (dr w) fun t101 w_ => w_ = (dr w) ∧
  (dr w) = (dr w) ∧
  hJ pg pW #[lX] (dr w) fun t103 Y6 =>
  (gY pg (eQ 51 iG) t101 Y6 ∧ True) ∧
  cO pg (fG 51 t6 t101) Y6 fun _u3 S6 =>
  S6 = S6 ∧
  S6 = S6 ∧
  qB pg 51 t6 S6 fun r0 => R (.tuple #[r0, t103, (.int .i64 0)]) S6
theorem N1 (R : K1) (hr : HR lB R Q) (h : yZ R (g 6) (g 9) (g 12) w) : eK pg iT (aA 1 (aA 7 iM)) Q g w :=
  dU (kn := no) (l := []) (by kernel_rfl) h kT hr trivial
def sE (kn : K5) (R : K1) (dY t6 lX iG fA : Value) (w : World) : Prop :=
  cO pg (fF 51 iG 1) w fun t91 w =>
  cO pg (eQ 30 t91) w fun t92 w =>
  cO pg (nA .len #[30] 3 [t92]) w fun t93 w =>
  cO pg (eF .gtr 3 (.tmp 93) (.tmp 94) t93 dY) w fun t95 w =>
  Gd (kA t95 false) (fun K => K fA w) w fun t97 w =>
  Gd (kA t95 false) (fun K => cO pg (eF .lss 3 (.tmp 97) (.const (.int .i64 0)) t97 (.int .i64 0)) w K) w fun t98 w =>
  cO pg (kL t95 (.bool true) t98) w fun t99 w =>
  lM t99
    (cO pg (iH 51 []) w fun t100 w =>
    cO pg (fG 51 t6 t100) w fun _u w =>
    qB pg 51 t6 w fun r0 => R (.tuple #[r0, (.int .i64 0), (.int .i64 11)]) w)
    (kn dY t6 lX iG fA w)
theorem N8 (kn : K5) (R : K1) (hn : ∀ g w, kn (g 2) (g 6) (g 9) (g 12) (g 13) w → Q .normal g w) (hr : HR lB R Q) (h : sE kn R (g 2) (g 6) (g 9) (g 12) (g 13) w) : eK pg iT (aA 6 (bI (aA 1 (bI (bI (bJ 1 (aA 7 iM))))))) Q g w :=
  dU (l := []) (by kernel_rfl) h hn hr trivial
def DW (kn : K5) (R : K1) (dY t6 lX iG fA : Value) (w : World) : Prop :=
  hJ pg zN #[lX, fA] w fun t52 w =>
  cO pg (jC t52 0) w fun t53 w =>
  cO pg (jC t52 1) w fun t54 w =>
  cO pg (eF .neq 27 (.tmp 55) (.const (.int .i64 0)) t54 (.int .i64 0)) w fun t56 w =>
  lM t56
    (cO pg (iH 51 []) w fun t57 w =>
    cO pg (fG 51 t6 t57) w fun _u w =>
    qB pg 51 t6 w fun r0 => R (.tuple #[r0, (.int .i64 0), t54]) w)
    (cO pg (eF .sub 3 (.tmp 59) (.const (.int .i64 1)) t53 (.int .i64 1)) w fun t60 w =>
    hJ pg oE #[t60] w fun t63 w =>
    cO pg (eF .sub 3 (.tmp 61) (.tmp 63) fA t63) w fun t64 w =>
    cO pg (fF 51 iG 1) w fun t65 w =>
    cO pg (eQ 30 t65) w fun t66 w =>
    cO pg (iE 30 1 [(0, t60)]) w fun t68 w =>
    cO pg (nA .append #[30, 30] 30 [t66, t68]) w fun t69 w =>
    cO pg (fF 51 iG 1) w fun t70 w =>
    cO pg (fG 30 t70 t69) w fun _u w =>
    cO pg (eF .eql 3 (.tmp 71) (.const (.int .i64 0)) t60 (.int .i64 0)) w fun t72 w =>
    lM t72
      (hJ pg tJ #[lX] w fun t75 w =>
      cO pg (jC t75 0) w fun t76 w =>
      cO pg (jC t75 1) w fun t77 w =>
      cO pg (eF .neq 27 (.tmp 78) (.const (.int .i64 0)) t77 (.int .i64 0)) w fun t79 w =>
      lM t79
        (cO pg (iH 51 []) w fun t80 w =>
        cO pg (fG 51 t6 t80) w fun _u w =>
        qB pg 51 t6 w fun r0 => R (.tuple #[r0, (.int .i64 0), t77]) w)
        (cO pg (eF .gtr 3 (.tmp 82) (.tmp 83) t76 dY) w fun t84 w =>
        lM t84
          (cO pg (iH 51 []) w fun t85 w =>
          cO pg (fG 51 t6 t85) w fun _u w =>
          qB pg 51 t6 w fun r0 => R (.tuple #[r0, (.int .i64 0), (.int .i64 11)]) w)
          (cO pg (fF 51 iG 1) w fun t86 w =>
          cO pg (eQ 30 t86) w fun t87 w =>
          cO pg (nA .append #[30, 3] 30 [t87, t76]) w fun t89 w =>
          cO pg (fF 51 iG 1) w fun t90 w =>
          cO pg (fG 30 t90 t89) w fun _u w =>
          kn dY t6 lX iG t64 w)))
      (kn dY t6 lX iG t64 w))
theorem Ms (kn : K5) (R : K1) (hn : ∀ g w, kn (g 2) (g 6) (g 9) (g 12) (g 13) w → Q .normal g w) (hr : HR lB R Q) (h : DW kn R (g 2) (g 6) (g 9) (g 12) (g 13) w) : eK pg iT (bJ 6 (bI (aA 1 (bI (bI (bJ 1 (aA 7 iM))))))) Q g w :=
  dU (l := []) (by kernel_rfl) h hn hr trivial
def C1 (kn : K5) (R : K1) (dY t6 lX iG fA : Value) (w : World) : Prop :=
  DW (fun dY t6 lX iG fA w => sE kn R dY t6 lX iG fA w) R dY t6 lX iG fA w
theorem Ns (kn : K5) (R : K1) (hn : ∀ g w, kn (g 2) (g 6) (g 9) (g 12) (g 13) w → Q .normal g w) (hr : HR lB R Q) (h : C1 kn R (g 2) (g 6) (g 9) (g 12) (g 13) w) : eK pg iT (bI (aA 1 (bI (bI (bJ 1 (aA 7 iM)))))) Q g w :=
  dX 6 _ g w (by kernel_rfl) (Ms (fH (fun g w => eK pg iT (aA 6 (bI (aA 1 (bI (bI (bJ 1 (aA 7 iM))))))) Q g w) Q) g w (fun dY t6 lX iG fA w => sE kn R dY t6 lX iG fA w) R (fun g w h => eN (K := fun g w => eK pg iT (aA 6 (bI (aA 1 (bI (bI (bJ 1 (aA 7 iM))))))) Q g w) (N8 Q g w kn R hn hr h)) hr h)
def yL (kn : K5) (R : K1) (dY t6 lX iG fA : Value) (w : World) : Prop :=
  C1 kn R dY t6 lX iG fA w
theorem N9 (kn : K5) (R : K1) (hn : ∀ g w, kn (g 2) (g 6) (g 9) (g 12) (g 13) w → Q .normal g w) (hr : HR lB R Q) (h : yL kn R (g 2) (g 6) (g 9) (g 12) (g 13) w) : eK pg iT (aA 1 (bI (bI (bJ 1 (aA 7 iM))))) Q g w :=
  iU 1 _ g w (by kernel_rfl) (Ns (vI 1 Q) g w kn R hn hr h)
def D6 (kn : K5) (k0 : K3) (dY t6 lX iG fA : Value) (w : World) : Prop :=
  cO pg (eF .gtr 3 (.tmp 47) (.const (.int .i64 0)) fA (.int .i64 0)) w fun t48 w =>
  lM t48
    (kn dY t6 lX iG fA w)
    (k0 t6 lX iG w)
theorem Ne (kn : K5) (k0 : K3) (hn : ∀ g w, kn (g 2) (g 6) (g 9) (g 12) (g 13) w → Q .normal g w) (h0 : ∀ g w, k0 (g 6) (g 9) (g 12) w → Q (.exit 0) g w) (h : D6 kn k0 (g 2) (g 6) (g 9) (g 12) (g 13) w) : eK pg iT (bJ 1 (bI (bI (bJ 1 (aA 7 iM))))) Q g w :=
  dU (kr := no) (l := [(0, fun g w => k0 (g 6) (g 9) (g 12) w)]) (by kernel_rfl) h hn kT ⟨h0, trivial⟩
def xX (kn : K5) (k0 : K3) (R : K1) (dY t6 lX iG fA : Value) (w : World) : Prop :=
  D6 (fun dY t6 lX iG fA w => yL kn R dY t6 lX iG fA w) k0 dY t6 lX iG fA w
theorem NY (kn : K5) (k0 : K3) (R : K1) (hn : ∀ g w, kn (g 2) (g 6) (g 9) (g 12) (g 13) w → Q .normal g w) (h0 : ∀ g w, k0 (g 6) (g 9) (g 12) w → Q (.exit 0) g w) (hr : HR lB R Q) (h : xX kn k0 R (g 2) (g 6) (g 9) (g 12) (g 13) w) : eK pg iT (bI (bI (bJ 1 (aA 7 iM)))) Q g w :=
  dX 1 _ g w (by kernel_rfl) (Ne (fH (fun g w => eK pg iT (aA 1 (bI (bI (bJ 1 (aA 7 iM))))) Q g w) Q) g w (fun dY t6 lX iG fA w => yL kn R dY t6 lX iG fA w) k0 (fun g w h => eN (K := fun g w => eK pg iT (aA 1 (bI (bI (bJ 1 (aA 7 iM))))) Q g w) (N9 Q g w kn R hn hr h)) h0 h)
def DT (k0 : K3) (R : K1) (dY t6 lX iG fA : Value) (w : World) : Prop :=
  iY (fun (X : Value → K0) (t : Value) (w : World) => xX (fun _ _ _ _ fA w => X fA w) k0 R dY t6 lX iG t w) fA w
theorem NK (k0 : K3) (R : K1) (h0 : ∀ g w, k0 (g 6) (g 9) (g 12) w → Q (.exit 0) g w) (hr : HR lB R Q) (h : DT k0 R (g 2) (g 6) (g 9) (g 12) (g 13) w) : eK pg iT (bI (bJ 1 (aA 7 iM))) Q g w := by
  refine iV (T := Value) (fun g : jT => g 13) (fun X t w => xX (fun _ _ _ _ fA w => X fA w) k0 R (g 2) (g 6) (g 9) (g 12) t w) _ (by kernel_rfl) h (fun X g1 w1 ha hL => ?_)
  rw [← dW (s := 2) ha (by kernel_rfl)] at hL
  rw [← dW (s := 6) ha (by kernel_rfl)] at hL
  rw [← dW (s := 9) ha (by kernel_rfl)] at hL
  rw [← dW (s := 12) ha (by kernel_rfl)] at hL
  exact (NY (fH (fun g2 w2 => X ((fun g : jT => g 13) g2) w2) Q) g1 w1 (fun _ _ _ _ fA w => X fA w) k0 R (fun _ _ h => h) h0 hr hL)
def Eb (kn : K3) (R : K1) (dY t6 lX iG fA : Value) (w : World) : Prop :=
  DT kn R dY t6 lX iG fA w
theorem Mm (kn : K3) (R : K1) (hn : ∀ g w, kn (g 6) (g 9) (g 12) w → Q .normal g w) (hr : HR lB R Q) (h : Eb kn R (g 2) (g 6) (g 9) (g 12) (g 13) w) : eK pg iT (bJ 1 (aA 7 iM)) Q g w :=
  iU 0 _ g w (by kernel_rfl) (NK (vI 0 Q) g w kn R hn hr h)
def rH (R : K1) (dY t6 lX iG fA : Value) (w : World) : Prop :=
  Eb (fun t6 lX iG w => yZ R t6 lX iG w) R dY t6 lX iG fA w
theorem JZ (R : K1) (hr : HR lB R Q) (h : rH R (g 2) (g 6) (g 9) (g 12) (g 13) w) : eK pg iT (aA 7 iM) Q g w :=
  dX 1 _ g w (by kernel_rfl) (Mm (fH (fun g w => eK pg iT (aA 1 (aA 7 iM)) Q g w) Q) g w (fun t6 lX iG w => yZ R t6 lX iG w) R (fun g w h => eN (K := fun g w => eK pg iT (aA 1 (aA 7 iM)) Q g w) (N1 Q g w R hr h)) hr h)
def BU (kn : K5) (R : K1) (IK C2 dY : Value) (w : World) : Prop :=
  cO pg (jB 51) w fun t6 w =>
  hJ pg rV #[IK] w fun t20 w =>
  hJ pg mB #[t20, (.int .i64 4)] w fun t23 w =>
  cO pg (jC t23 0) w fun t24 w =>
  cO pg (jC t23 1) w fun t25 w =>
  cO pg (eF .neq 27 (.tmp 26) (.const (.int .i64 0)) t25 (.int .i64 0)) w fun t27 w =>
  lM t27
    (cO pg (iH 51 []) w fun t28 w =>
    cO pg (fG 51 t6 t28) w fun _u w =>
    qB pg 51 t6 w fun r0 => R (.tuple #[r0, (.int .i64 0), t25]) w)
    (cO pg (mL 83 3 t24) w fun t31 w =>
    cO pg (eF .add 3 (.tmp 31) (.const (.int .i64 5)) t31 (.int .i64 5)) w fun t32 w =>
    cO pg (iH 51 [(0, t32)]) w fun t33 w =>
    cO pg (jB 51) w fun iG w =>
    cO pg (fG 51 iG t33) w fun _u w =>
    cO pg (fF 51 iG 0) w fun t34 w =>
    cO pg (eQ 3 t34) w fun t35 w =>
    cO pg (eF .gtr 3 (.tmp 35) (.tmp 36) t35 C2) w fun t37 w =>
    Gd (kA t37 false) (fun K => cO pg (fF 51 iG 0) w K) w fun t39 w =>
    Gd (kA t37 false) (fun K => cO pg (eQ 3 t39) w K) w fun t40 w =>
    Gd (kA t37 false) (fun K => cO pg (eF .gtr 3 (.tmp 40) (.const (.int .i64 15)) t40 (.int .i64 15)) w K) w fun t41 w =>
    cO pg (kL t37 (.bool true) t41) w fun t42 w =>
    lM t42
      (cO pg (iH 51 []) w fun t43 w =>
      cO pg (fG 51 t6 t43) w fun _u w =>
      qB pg 51 t6 w fun r0 => R (.tuple #[r0, (.int .i64 0), (.int .i64 12)]) w)
      (cO pg (fF 51 iG 0) w fun t44 w =>
      cO pg (eQ 3 t44) w fun t45 w =>
      cO pg (eF .shl 3 (.const (.int .i64 1)) (.tmp 45) (.int .i64 1) t45) w fun t46 w =>
      kn dY t6 t20 iG t46 w))
theorem Kk (kn : K5) (R : K1) (hn : ∀ g w, kn (g 2) (g 6) (g 9) (g 12) (g 13) w → Q .normal g w) (hr : HR lB R Q) (h : BU kn R (g 0) (g 1) (g 2) w) : eK pg iT (bJ 7 iM) Q g w :=
  dU (l := []) (by kernel_rfl) h hn hr trivial
def Cm (R : K1) (IK C2 dY : Value) (w : World) : Prop :=
  BU (fun dY t6 lX iG fA w => rH R dY t6 lX iG fA w) R IK C2 dY w
theorem Kf (R : K1) (hr : HR lB R Q) (h : Cm R (g 0) (g 1) (g 2) w) : eK pg iT iM Q g w :=
  dX 7 _ g w (by kernel_rfl) (Kk (fH (fun g w => eK pg iT (aA 7 iM) Q g w) Q) g w (fun dY t6 lX iG fA w => rH R dY t6 lX iG fA w) R (fun g w h => eN (K := fun g w => eK pg iT (aA 7 iM) Q g w) (JZ Q g w R hr h)) hr h)
def Qo (a0 a1 a2 : Value) (w : World) (R : K1) : Prop :=
  Cm R a0 a1 a2 w
theorem Pv {a0 a1 a2 : Value} {w : World} {R : K1} (h : Qo a0 a1 a2 w R) : hJ pg A2 #[a0, a1, a2] w R := by
  refine gJ (ann := iT) (fn := Tryd.f19) (c := iM) (args := [a0, a1, a2]) (rs := lB) (N := 104) TrydM.mixed (by kernel_rfl) Tryd.func19 (by kernel_rfl) (by kernel_rfl) (by kernel_rfl) (of_decide_eq_true (by kernel_rfl)) (by kernel_rfl) ?_
  exact (Kf (nK pg lB R) (lI [a0, a1, a2]) w R (fun _ _ h => h) h)
def gR : FA := ⟨wR, fun i => match Nat.beq i 22 with | true => .leaf ([], []) [(false, []), (false, []), (false, []), (false, []), (false, []), (false, []), (false, []), (false, []), (false, []), (false, []), (false, [])] | false => .leaf ([], []) []⟩
def pO : List ResultVar := [.cell 4 51, .tmp 5]
noncomputable def gE : Code := kJ Tryd.f20
def zK (R : K1) (t4 pS kD hP : Value) (w : World) : Prop :=
  cO pg (fF 51 pS 1) w fun t120 w =>
  cO pg (eQ 30 t120) w fun t121 w =>
  cO pg (iF 30 t121 hP) w fun t123 w =>
  cO pg (eQ 3 t123) w fun t124 w =>
  cO pg (eF .add 3 (.tmp 124) (.tmp 125) t124 kD) w fun t126 w =>
  cO pg (iF 30 t121 hP) w fun t127 w =>
  cO pg (fG 3 t127 t126) w fun _u w =>
  cO pg (eQ 51 pS) w fun t128 w =>
  cO pg (fG 51 t4 t128) w fun _u w =>
  qB pg 51 t4 w fun r0 => R (.tuple #[r0, (.int .i64 0)]) w
theorem RA (R : K1) (hr : HR pO R Q) (h : zK R (g 4) (g 11) (g 12) (g 13) w) : eK pg gR (aA 1 (aA 4 (aA 1 (aA 3 gE)))) Q g w :=
  dU (kn := no) (l := []) (by kernel_rfl) h kT hr trivial
def CU (kn : Br) (jQ t4 jU t7 pS kD hP t78 t79 t80 : Value) (w : World) : Prop :=
  cO pg (eF .add 3 (.tmp 80) (.const (.int .i64 1)) t80 (.int .i64 1)) w fun t119 w =>
  kn jQ t4 jU t7 pS kD hP t78 t79 t119 w
theorem Rb (kn : Br) (hn : ∀ g w, kn (g 1) (g 4) (g 6) (g 7) (g 11) (g 12) (g 13) (g 78) (g 79) (g 80) w → Q .normal g w) (h : CU kn (g 1) (g 4) (g 6) (g 7) (g 11) (g 12) (g 13) (g 78) (g 79) (g 80) w) : eK pg gR (aA 3 (bI (bI (aA 1 (bJ 1 (aA 4 (aA 1 (aA 3 gE)))))))) Q g w :=
  dU (kr := no) (l := []) (by kernel_rfl) h hn kT trivial
def Hg (kn : Br) (k2 : K4) (jQ t4 jU t7 pS kD hP t78 t79 t80 : Value) (w : World) : Prop :=
  cO pg (eF .lss 3 (.tmp 80) (.tmp 79) t80 t79) w fun t81 w =>
  lM t81
    (cO pg (iF 38 t78 t80) w fun t83 w =>
    cO pg (eQ 56 t83) w fun t84 w =>
    cO pg (eF .eql 56 (.tmp 85) (.const (.int .u32 0)) t84 (.int .u32 0)) w fun t86 w =>
    lM t86
      (kn jQ t4 jU t7 pS kD hP t78 t79 t80 w)
      (cO pg (mL 56 83 t84) w fun t88 w =>
      cO pg (eF .shl 3 (.const (.int .i64 1)) (.tmp 89) (.int .i64 1) jQ) w fun t90 w =>
      cO pg (eF .sub 3 (.tmp 90) (.tmp 91) t90 t7) w fun t92 w =>
      cO pg (mL 3 83 t92) w fun t93 w =>
      cO pg (eF .mul 83 (.tmp 88) (.tmp 93) t88 t93) w fun t94 w =>
      cO pg (eF .quo 83 (.tmp 94) (.tmp 95) t94 jU) w fun t96 w =>
      cO pg (mL 83 3 t96) w fun t97 w =>
      cO pg (fF 51 pS 1) w fun t98 w =>
      cO pg (eQ 30 t98) w fun t99 w =>
      cO pg (eF .add 3 (.const (.int .i64 1)) (.tmp 101) (.int .i64 1) t97) w fun t102 w =>
      cO pg (iF 30 t99 t80) w fun t103 w =>
      cO pg (fG 3 t103 t102) w fun _u w =>
      cO pg (eF .sub 3 (.tmp 104) (.tmp 105) kD t97) w fun t106 w =>
      cO pg (fF 51 pS 1) (dr w) fun t107 w_ => w_ = (dr w) ∧
      cO pg (eQ 30 t107) (dr w) fun t108 w_ => w_ = (dr w) ∧
      (dr w) = (dr w) ∧
      cO pg (iF 30 t108 t80) (dr w) fun t110 w_ => w_ = (dr w) ∧
      cO pg (eQ 3 t110) (dr w) fun t111 w_ => w_ = (dr w) ∧
      cO pg (fF 51 pS 1) (dr w) fun t112 w_ => w_ = (dr w) ∧
      cO pg (eQ 30 t112) (dr w) fun t113 w_ => w_ = (dr w) ∧
      (dr w) = (dr w) ∧
      cO pg (iF 30 t113 hP) (dr w) fun t115 w_ => w_ = (dr w) ∧
      cO pg (eQ 3 t115) (dr w) fun t116 w_ => w_ = (dr w) ∧
      cO pg (eF .gtr 3 (.tmp 111) (.tmp 116) t111 t116) (dr w) fun t117 w_ => w_ = (dr w) ∧
      lM t117
        (kn jQ t4 jU t7 pS t106 t80 t78 t79 t80 (dr w))
        (kn jQ t4 jU t7 pS t106 hP t78 t79 t80 (dr w))))
    (k2 t4 pS kD hP w)
theorem Rq (kn : Br) (k2 : K4) (hn : ∀ g w, kn (g 1) (g 4) (g 6) (g 7) (g 11) (g 12) (g 13) (g 78) (g 79) (g 80) w → Q .normal g w) (h2 : ∀ g w, k2 (g 4) (g 11) (g 12) (g 13) w → Q (.exit 2) g w) (h : Hg kn k2 (g 1) (g 4) (g 6) (g 7) (g 11) (g 12) (g 13) (g 78) (g 79) (g 80) w) : eK pg gR (bJ 3 (bI (bI (aA 1 (bJ 1 (aA 4 (aA 1 (aA 3 gE)))))))) Q g w :=
  dU (kr := no) (l := [(2, fun g w => k2 (g 4) (g 11) (g 12) (g 13) w)]) (by kernel_rfl) h hn kT ⟨h2, trivial⟩
def CC (kn : Br) (k2 : K4) (jQ t4 jU t7 pS kD hP t78 t79 t80 : Value) (w : World) : Prop :=
  Hg (fun jQ t4 jU t7 pS kD hP t78 t79 t80 w => CU kn jQ t4 jU t7 pS kD hP t78 t79 t80 w) k2 jQ t4 jU t7 pS kD hP t78 t79 t80 w
theorem Rs (kn : Br) (k2 : K4) (hn : ∀ g w, kn (g 1) (g 4) (g 6) (g 7) (g 11) (g 12) (g 13) (g 78) (g 79) (g 80) w → Q .normal g w) (h2 : ∀ g w, k2 (g 4) (g 11) (g 12) (g 13) w → Q (.exit 2) g w) (h : CC kn k2 (g 1) (g 4) (g 6) (g 7) (g 11) (g 12) (g 13) (g 78) (g 79) (g 80) w) : eK pg gR (bI (bI (aA 1 (bJ 1 (aA 4 (aA 1 (aA 3 gE))))))) Q g w :=
  dX 3 _ g w (by kernel_rfl) (Rq (fH (fun g w => eK pg gR (aA 3 (bI (bI (aA 1 (bJ 1 (aA 4 (aA 1 (aA 3 gE)))))))) Q g w) Q) g w (fun jQ t4 jU t7 pS kD hP t78 t79 t80 w => CU kn jQ t4 jU t7 pS kD hP t78 t79 t80 w) k2 (fun g w h => eN (K := fun g w => eK pg gR (aA 3 (bI (bI (aA 1 (bJ 1 (aA 4 (aA 1 (aA 3 gE)))))))) Q g w) (Rb Q g w kn hn h)) h2 h)
def GT (k2 : K4) (jQ t4 jU t7 pS kD hP t78 t79 t80 : Value) (w : World) : Prop :=
  iY (fun (X : (Value × Value × Value) → K0) (t : Value × Value × Value) (w : World) => CC (fun _ _ _ _ _ kD hP _ _ t80 w => X (kD, hP, t80) w) k2 jQ t4 jU t7 pS t.1 t.2.1 t78 t79 t.2.2 w) (kD, hP, t80) w
theorem Q2 (k2 : K4) (h2 : ∀ g w, k2 (g 4) (g 11) (g 12) (g 13) w → Q (.exit 2) g w) (h : GT k2 (g 1) (g 4) (g 6) (g 7) (g 11) (g 12) (g 13) (g 78) (g 79) (g 80) w) : eK pg gR (bI (aA 1 (bJ 1 (aA 4 (aA 1 (aA 3 gE)))))) Q g w := by
  refine iV (T := Value × Value × Value) (fun g : jT => (g 12, g 13, g 80)) (fun X t w => CC (fun _ _ _ _ _ kD hP _ _ t80 w => X (kD, hP, t80) w) k2 (g 1) (g 4) (g 6) (g 7) (g 11) t.1 t.2.1 (g 78) (g 79) t.2.2 w) _ (by kernel_rfl) h (fun X g1 w1 ha hL => ?_)
  rw [← dW (s := 1) ha (by kernel_rfl)] at hL
  rw [← dW (s := 4) ha (by kernel_rfl)] at hL
  rw [← dW (s := 6) ha (by kernel_rfl)] at hL
  rw [← dW (s := 7) ha (by kernel_rfl)] at hL
  rw [← dW (s := 11) ha (by kernel_rfl)] at hL
  rw [← dW (s := 78) ha (by kernel_rfl)] at hL
  rw [← dW (s := 79) ha (by kernel_rfl)] at hL
  exact (Rs (fH (fun g2 w2 => X ((fun g : jT => (g 12, g 13, g 80)) g2) w2) Q) g1 w1 (fun _ _ _ _ _ kD hP _ _ t80 w => X (kD, hP, t80) w) k2 (fun _ _ h => h) h2 hL)
def CH (kn : K4) (jQ t4 jU t7 pS kD hP t78 t79 t80 : Value) (w : World) : Prop :=
  GT kn jQ t4 jU t7 pS kD hP t78 t79 t80 w
theorem QW (kn : K4) (hn : ∀ g w, kn (g 4) (g 11) (g 12) (g 13) w → Q .normal g w) (h : CH kn (g 1) (g 4) (g 6) (g 7) (g 11) (g 12) (g 13) (g 78) (g 79) (g 80) w) : eK pg gR (aA 1 (bJ 1 (aA 4 (aA 1 (aA 3 gE))))) Q g w :=
  iU 2 _ g w (by kernel_rfl) (Q2 (vI 2 Q) g w kn hn h)
def G0 (kn : Br) (iW jQ t4 jU t7 gX pS kD hP : Value) (w : World) : Prop :=
  cO pg (eF .add 3 (.tmp 76) (.const (.int .i64 1)) gX (.int .i64 1)) w fun t77 w =>
  cO pg (mM 38 iW none (some t77) none) w fun t78 w =>
  cO pg (nA .len #[38] 3 [t78]) w fun t79 w =>
  kn jQ t4 jU t7 pS kD hP t78 t79 (.int .i64 0) w
theorem Re (kn : Br) (hn : ∀ g w, kn (g 1) (g 4) (g 6) (g 7) (g 11) (g 12) (g 13) (g 78) (g 79) (g 80) w → Q .normal g w) (h : G0 kn (g 0) (g 1) (g 4) (g 6) (g 7) (g 8) (g 11) (g 12) (g 13) w) : eK pg gR (bJ 1 (bJ 1 (aA 4 (aA 1 (aA 3 gE))))) Q g w :=
  dU (kr := no) (l := []) (by kernel_rfl) h hn kT trivial
def Hk (kn : K4) (iW jQ t4 jU t7 gX pS kD hP : Value) (w : World) : Prop :=
  G0 (fun jQ t4 jU t7 pS kD hP t78 t79 t80 w => CH kn jQ t4 jU t7 pS kD hP t78 t79 t80 w) iW jQ t4 jU t7 gX pS kD hP w
theorem Ru (kn : K4) (hn : ∀ g w, kn (g 4) (g 11) (g 12) (g 13) w → Q .normal g w) (h : Hk kn (g 0) (g 1) (g 4) (g 6) (g 7) (g 8) (g 11) (g 12) (g 13) w) : eK pg gR (bJ 1 (aA 4 (aA 1 (aA 3 gE)))) Q g w :=
  dX 1 _ g w (by kernel_rfl) (Re (fH (fun g w => eK pg gR (aA 1 (bJ 1 (aA 4 (aA 1 (aA 3 gE))))) Q g w) Q) g w (fun jQ t4 jU t7 pS kD hP t78 t79 t80 w => CH kn jQ t4 jU t7 pS kD hP t78 t79 t80 w) (fun g w h => eN (K := fun g w => eK pg gR (aA 1 (bJ 1 (aA 4 (aA 1 (aA 3 gE))))) Q g w) (QW Q g w kn hn h)) h)
def yM (R : K1) (iW jQ t4 jU t7 gX pS kD hP : Value) (w : World) : Prop :=
  Hk (fun t4 pS kD hP w => zK R t4 pS kD hP w) iW jQ t4 jU t7 gX pS kD hP w
theorem QX (R : K1) (hr : HR pO R Q) (h : yM R (g 0) (g 1) (g 4) (g 6) (g 7) (g 8) (g 11) (g 12) (g 13) w) : eK pg gR (aA 4 (aA 1 (aA 3 gE))) Q g w :=
  dX 1 _ g w (by kernel_rfl) (Ru (fH (fun g w => eK pg gR (aA 1 (aA 4 (aA 1 (aA 3 gE)))) Q g w) Q) g w (fun t4 pS kD hP w => zK R t4 pS kD hP w) (fun g w h => eN (K := fun g w => eK pg gR (aA 1 (aA 4 (aA 1 (aA 3 gE)))) Q g w) (RA Q g w R hr h)) h)
def Fe (kn : K9) (R : K1) (iW jQ t4 jU t7 gX : Value) (w : World) : Prop :=
  cO pg (eF .lss 3 (.tmp 34) (.const (.int .i64 5)) jQ (.int .i64 5)) w fun t35 w =>
  Gd (kA t35 false) (fun K => K jQ w) w fun t37 w =>
  Gd (kA t35 false) (fun K => cO pg (eF .gtr 3 (.tmp 37) (.const (.int .i64 15)) t37 (.int .i64 15)) w K) w fun t38 w =>
  cO pg (kL t35 (.bool true) t38) w fun t39 w =>
  Gd (kA t39 false) (fun K => K iW w) w fun t41 w =>
  Gd (kA t39 false) (fun K => cO pg (nA .len #[38] 3 [t41]) w K) w fun t42 w =>
  Gd (kA t39 false) (fun K => cO pg (eF .lss 3 (.tmp 42) (.const (.int .i64 1)) t42 (.int .i64 1)) w K) w fun t43 w =>
  cO pg (kL t39 (.bool true) t43) w fun t44 w =>
  Gd (kA t44 false) (fun K => K iW w) w fun t46 w =>
  Gd (kA t44 false) (fun K => cO pg (nA .len #[38] 3 [t46]) w K) w fun t47 w =>
  Gd (kA t44 false) (fun K => cO pg (eF .gtr 3 (.tmp 47) (.const (.int .i64 256)) t47 (.int .i64 256)) w K) w fun t48 w =>
  cO pg (kL t44 (.bool true) t48) w fun t49 w =>
  Gd (kA t49 false) (fun K => K t7 w) w fun t51 w =>
  Gd (kA t49 false) (fun K => cO pg (eF .lss 3 (.tmp 51) (.const (.int .i64 2)) t51 (.int .i64 2)) w K) w fun t52 w =>
  cO pg (kL t49 (.bool true) t52) w fun t53 w =>
  Gd (kA t53 false) (fun K => K t7 w) w fun t55 w =>
  Gd (kA t53 false) (fun K => K jQ w) w fun t56 w =>
  Gd (kA t53 false) (fun K => cO pg (eF .shl 3 (.const (.int .i64 1)) (.tmp 56) (.int .i64 1) t56) w K) w fun t57 w =>
  Gd (kA t53 false) (fun K => cO pg (eF .gtr 3 (.tmp 55) (.tmp 57) t55 t57) w K) w fun t58 w =>
  cO pg (kL t53 (.bool true) t58) w fun t59 w =>
  Gd (kA t59 false) (fun K => K jU w) w fun t61 w =>
  Gd (kA t59 false) (fun K => cO pg (eF .gtr 83 (.tmp 61) (.const (.int .u64 2147483647)) t61 (.int .u64 2147483647)) w K) w fun t62 w =>
  cO pg (kL t59 (.bool true) t62) w fun t63 w =>
  lM t63
    (cO pg (iH 51 []) w fun t64 w =>
    cO pg (fG 51 t4 t64) w fun _u w =>
    qB pg 51 t4 w fun r0 => R (.tuple #[r0, (.int .i64 1)]) w)
    (cO pg (eF .add 3 (.tmp 66) (.const (.int .i64 1)) gX (.int .i64 1)) w fun t67 w =>
    cO pg (sI 30 t67 t67) w fun t68 w =>
    cO pg (iH 51 [(0, jQ), (1, t68)]) w fun t69 w =>
    cO pg (jB 51) w fun pS w =>
    cO pg (fG 51 pS t69) w fun _u w =>
    cO pg (eF .shl 3 (.const (.int .i64 1)) (.tmp 70) (.int .i64 1) jQ) w fun t71 w =>
    cO pg (eF .sub 3 (.tmp 71) (.tmp 72) t71 t7) w fun t73 w =>
    kn iW jQ t4 jU t7 gX pS t73 gX w)
theorem OL (kn : K9) (R : K1) (hn : ∀ g w, kn (g 0) (g 1) (g 4) (g 6) (g 7) (g 8) (g 11) (g 12) (g 13) w → Q .normal g w) (hr : HR pO R Q) (h : Fe kn R (g 0) (g 1) (g 4) (g 6) (g 7) (g 8) w) : eK pg gR (bJ 4 (aA 1 (aA 3 gE))) Q g w :=
  dU (l := []) (by kernel_rfl) h hn hr trivial
def uN (R : K1) (iW jQ t4 jU t7 gX : Value) (w : World) : Prop :=
  Fe (fun iW jQ t4 jU t7 gX pS kD hP w => yM R iW jQ t4 jU t7 gX pS kD hP w) R iW jQ t4 jU t7 gX w
theorem PL (R : K1) (hr : HR pO R Q) (h : uN R (g 0) (g 1) (g 4) (g 6) (g 7) (g 8) w) : eK pg gR (aA 1 (aA 3 gE)) Q g w :=
  dX 4 _ g w (by kernel_rfl) (OL (fH (fun g w => eK pg gR (aA 4 (aA 1 (aA 3 gE))) Q g w) Q) g w (fun iW jQ t4 jU t7 gX pS kD hP w => yM R iW jQ t4 jU t7 gX pS kD hP w) R (fun g w h => eN (K := fun g w => eK pg gR (aA 4 (aA 1 (aA 3 gE))) Q g w) (QX Q g w R hr h)) hr h)
def uJ (kn : K9) (iW jQ t4 jU t7 gX t17 t18 t19 : Value) (w : World) : Prop :=
  cO pg (eF .add 3 (.tmp 19) (.const (.int .i64 1)) t19 (.int .i64 1)) w fun t33 w =>
  kn iW jQ t4 jU t7 gX t17 t18 t33 w
theorem Pi (kn : K9) (hn : ∀ g w, kn (g 0) (g 1) (g 4) (g 6) (g 7) (g 8) (g 17) (g 18) (g 19) w → Q .normal g w) (h : uJ kn (g 0) (g 1) (g 4) (g 6) (g 7) (g 8) (g 17) (g 18) (g 19) w) : eK pg gR (aA 3 (bI (bI (aA 1 (bJ 1 (aA 3 gE)))))) Q g w :=
  dU (kr := no) (l := []) (by kernel_rfl) h hn kT trivial
def Fd (kn : K9) (k0 : K6) (iW jQ t4 jU t7 gX t17 t18 t19 : Value) (w : World) : Prop :=
  cO pg (eF .lss 3 (.tmp 19) (.tmp 18) t19 t18) w fun t20 w =>
  lM t20
    (cO pg (iF 38 t17 t19) w fun t22 w =>
    cO pg (eQ 56 t22) w fun t23 w =>
    cO pg (mL 56 83 t23) w fun t26 w =>
    cO pg (eF .add 83 (.tmp 24) (.tmp 26) jU t26) w fun t27 w =>
    cO pg (eF .gtr 56 (.tmp 28) (.const (.int .u32 0)) t23 (.int .u32 0)) w fun t29 w =>
    lM t29
      (cO pg (eF .add 3 (.tmp 30) (.const (.int .i64 1)) t7 (.int .i64 1)) w fun t31 w =>
      kn iW jQ t4 t27 t31 t19 t17 t18 t19 w)
      (kn iW jQ t4 t27 t7 gX t17 t18 t19 w))
    (k0 iW jQ t4 jU t7 gX w)
theorem OQ (kn : K9) (k0 : K6) (hn : ∀ g w, kn (g 0) (g 1) (g 4) (g 6) (g 7) (g 8) (g 17) (g 18) (g 19) w → Q .normal g w) (h0 : ∀ g w, k0 (g 0) (g 1) (g 4) (g 6) (g 7) (g 8) w → Q (.exit 0) g w) (h : Fd kn k0 (g 0) (g 1) (g 4) (g 6) (g 7) (g 8) (g 17) (g 18) (g 19) w) : eK pg gR (bJ 3 (bI (bI (aA 1 (bJ 1 (aA 3 gE)))))) Q g w :=
  dU (kr := no) (l := [(0, fun g w => k0 (g 0) (g 1) (g 4) (g 6) (g 7) (g 8) w)]) (by kernel_rfl) h hn kT ⟨h0, trivial⟩
def Bf (kn : K9) (k0 : K6) (iW jQ t4 jU t7 gX t17 t18 t19 : Value) (w : World) : Prop :=
  Fd (fun iW jQ t4 jU t7 gX t17 t18 t19 w => uJ kn iW jQ t4 jU t7 gX t17 t18 t19 w) k0 iW jQ t4 jU t7 gX t17 t18 t19 w
theorem OG (kn : K9) (k0 : K6) (hn : ∀ g w, kn (g 0) (g 1) (g 4) (g 6) (g 7) (g 8) (g 17) (g 18) (g 19) w → Q .normal g w) (h0 : ∀ g w, k0 (g 0) (g 1) (g 4) (g 6) (g 7) (g 8) w → Q (.exit 0) g w) (h : Bf kn k0 (g 0) (g 1) (g 4) (g 6) (g 7) (g 8) (g 17) (g 18) (g 19) w) : eK pg gR (bI (bI (aA 1 (bJ 1 (aA 3 gE))))) Q g w :=
  dX 3 _ g w (by kernel_rfl) (OQ (fH (fun g w => eK pg gR (aA 3 (bI (bI (aA 1 (bJ 1 (aA 3 gE)))))) Q g w) Q) g w (fun iW jQ t4 jU t7 gX t17 t18 t19 w => uJ kn iW jQ t4 jU t7 gX t17 t18 t19 w) k0 (fun g w h => eN (K := fun g w => eK pg gR (aA 3 (bI (bI (aA 1 (bJ 1 (aA 3 gE)))))) Q g w) (Pi Q g w kn hn h)) h0 h)
def Ft (k0 : K6) (iW jQ t4 jU t7 gX t17 t18 t19 : Value) (w : World) : Prop :=
  iY (fun (X : (Value × Value × Value × Value) → K0) (t : Value × Value × Value × Value) (w : World) => Bf (fun _ _ _ jU t7 gX _ _ t19 w => X (jU, t7, gX, t19) w) k0 iW jQ t4 t.1 t.2.1 t.2.2.1 t17 t18 t.2.2.2 w) (jU, t7, gX, t19) w
theorem Ow (k0 : K6) (h0 : ∀ g w, k0 (g 0) (g 1) (g 4) (g 6) (g 7) (g 8) w → Q (.exit 0) g w) (h : Ft k0 (g 0) (g 1) (g 4) (g 6) (g 7) (g 8) (g 17) (g 18) (g 19) w) : eK pg gR (bI (aA 1 (bJ 1 (aA 3 gE)))) Q g w := by
  refine iV (T := Value × Value × Value × Value) (fun g : jT => (g 6, g 7, g 8, g 19)) (fun X t w => Bf (fun _ _ _ jU t7 gX _ _ t19 w => X (jU, t7, gX, t19) w) k0 (g 0) (g 1) (g 4) t.1 t.2.1 t.2.2.1 (g 17) (g 18) t.2.2.2 w) _ (by kernel_rfl) h (fun X g1 w1 ha hL => ?_)
  rw [← dW (s := 0) ha (by kernel_rfl)] at hL
  rw [← dW (s := 1) ha (by kernel_rfl)] at hL
  rw [← dW (s := 4) ha (by kernel_rfl)] at hL
  rw [← dW (s := 17) ha (by kernel_rfl)] at hL
  rw [← dW (s := 18) ha (by kernel_rfl)] at hL
  exact (OG (fH (fun g2 w2 => X ((fun g : jT => (g 6, g 7, g 8, g 19)) g2) w2) Q) g1 w1 (fun _ _ _ jU t7 gX _ _ t19 w => X (jU, t7, gX, t19) w) k0 (fun _ _ h => h) h0 hL)
def A0 (kn : K6) (iW jQ t4 jU t7 gX t17 t18 t19 : Value) (w : World) : Prop :=
  Ft kn iW jQ t4 jU t7 gX t17 t18 t19 w
theorem Pf (kn : K6) (hn : ∀ g w, kn (g 0) (g 1) (g 4) (g 6) (g 7) (g 8) w → Q .normal g w) (h : A0 kn (g 0) (g 1) (g 4) (g 6) (g 7) (g 8) (g 17) (g 18) (g 19) w) : eK pg gR (aA 1 (bJ 1 (aA 3 gE))) Q g w :=
  iU 0 _ g w (by kernel_rfl) (Ow (vI 0 Q) g w kn hn h)
def F2 (kn : K9) (iW jQ t4 jU t7 gX : Value) (w : World) : Prop :=
  cO pg (nA .len #[38] 3 [iW]) w fun t18 w =>
  kn iW jQ t4 jU t7 gX iW t18 (.int .i64 0) w
theorem Oz (kn : K9) (hn : ∀ g w, kn (g 0) (g 1) (g 4) (g 6) (g 7) (g 8) (g 17) (g 18) (g 19) w → Q .normal g w) (h : F2 kn (g 0) (g 1) (g 4) (g 6) (g 7) (g 8) w) : eK pg gR (bJ 1 (bJ 1 (aA 3 gE))) Q g w :=
  dU (kr := no) (l := []) (by kernel_rfl) h hn kT trivial
def Fl (kn : K6) (iW jQ t4 jU t7 gX : Value) (w : World) : Prop :=
  F2 (fun iW jQ t4 jU t7 gX t17 t18 t19 w => A0 kn iW jQ t4 jU t7 gX t17 t18 t19 w) iW jQ t4 jU t7 gX w
theorem PZ (kn : K6) (hn : ∀ g w, kn (g 0) (g 1) (g 4) (g 6) (g 7) (g 8) w → Q .normal g w) (h : Fl kn (g 0) (g 1) (g 4) (g 6) (g 7) (g 8) w) : eK pg gR (bJ 1 (aA 3 gE)) Q g w :=
  dX 1 _ g w (by kernel_rfl) (Oz (fH (fun g w => eK pg gR (aA 1 (bJ 1 (aA 3 gE))) Q g w) Q) g w (fun iW jQ t4 jU t7 gX t17 t18 t19 w => A0 kn iW jQ t4 jU t7 gX t17 t18 t19 w) (fun g w h => eN (K := fun g w => eK pg gR (aA 1 (bJ 1 (aA 3 gE))) Q g w) (Pf Q g w kn hn h)) h)
def uF (R : K1) (iW jQ t4 jU t7 gX : Value) (w : World) : Prop :=
  Fl (fun iW jQ t4 jU t7 gX w => uN R iW jQ t4 jU t7 gX w) iW jQ t4 jU t7 gX w
theorem Pn (R : K1) (hr : HR pO R Q) (h : uF R (g 0) (g 1) (g 4) (g 6) (g 7) (g 8) w) : eK pg gR (aA 3 gE) Q g w :=
  dX 1 _ g w (by kernel_rfl) (PZ (fH (fun g w => eK pg gR (aA 1 (aA 3 gE)) Q g w) Q) g w (fun iW jQ t4 jU t7 gX w => uN R iW jQ t4 jU t7 gX w) (fun g w h => eN (K := fun g w => eK pg gR (aA 1 (aA 3 gE)) Q g w) (PL Q g w R hr h)) h)
def Fu (kn : K6) (iW jQ : Value) (w : World) : Prop :=
  cO pg (jB 51) w fun t4 w =>
  kn iW jQ t4 (.int .u64 0) (.int .i64 0) (.int .i64 0) w
theorem Pm (kn : K6) (hn : ∀ g w, kn (g 0) (g 1) (g 4) (g 6) (g 7) (g 8) w → Q .normal g w) (h : Fu kn (g 0) (g 1) w) : eK pg gR (bJ 3 gE) Q g w :=
  dU (kr := no) (l := []) (by kernel_rfl) h hn kT trivial
def F5 (R : K1) (iW jQ : Value) (w : World) : Prop :=
  Fu (fun iW jQ t4 jU t7 gX w => uF R iW jQ t4 jU t7 gX w) iW jQ w
theorem PJ (R : K1) (hr : HR pO R Q) (h : F5 R (g 0) (g 1) w) : eK pg gR gE Q g w :=
  dX 3 _ g w (by kernel_rfl) (Pm (fH (fun g w => eK pg gR (aA 3 gE) Q g w) Q) g w (fun iW jQ t4 jU t7 gX w => uF R iW jQ t4 jU t7 gX w) (fun g w h => eN (K := fun g w => eK pg gR (aA 3 gE) Q g w) (Pn Q g w R hr h)) h)
def Tc (a0 a1 : Value) (w : World) (R : K1) : Prop :=
  F5 R a0 a1 w
theorem Sx {a0 a1 : Value} {w : World} {R : K1} (h : Tc a0 a1 w R) : hJ pg wR #[a0, a1] w R := by
  refine gJ (ann := gR) (fn := Tryd.f20) (c := gE) (args := [a0, a1]) (rs := pO) (N := 129) TrydM.mixed (by kernel_rfl) Tryd.func20 (by kernel_rfl) (by kernel_rfl) (by kernel_rfl) (of_decide_eq_true (by kernel_rfl)) (by kernel_rfl) ?_
  exact (PJ (nK pg pO R) (lI [a0, a1]) w R (fun _ _ h => h) h)
def fC : FA := ⟨xD, fun i => .leaf ([], []) []⟩
def pE : List ResultVar := [.tmp 2, .tmp 3]
noncomputable def eT : Code := kJ Tryd.f21
def rA (R : K1) (nL : Value) (w : World) : Prop :=
  hJ pg rT #[nL] w fun t107 w =>
  R (.tuple #[t107, (.int .i64 0)]) w
theorem KF (R : K1) (hr : HR pE R Q) (h : rA R (g 4) w) : eK pg fC (aA 1 (aA 5 eT)) Q g w :=
  dU (kn := no) (l := []) (by kernel_rfl) h kT hr trivial
def qU (kn : K4) (fO nL hX oD : Value) (w : World) : Prop :=
  cO pg (eF .add 3 (.tmp 30) (.const (.int .i64 1)) oD (.int .i64 1)) w fun t31 w =>
  kn fO nL hX t31 w
theorem Kq (kn : K4) (hn : ∀ g w, kn (g 1) (g 4) (g 5) (g 6) w → Q .normal g w) (h : qU kn (g 1) (g 4) (g 5) (g 6) w) : eK pg fC (aA 1 (aA 1 (bI (bI (aA 1 (bJ 1 (aA 5 eT))))))) Q g w :=
  dU (kr := no) (l := []) (by kernel_rfl) h hn kT trivial
def vB (kn : K4) (fO nL hX oD jZ : Value) (w : World) : Prop :=
  cO pg (mL 3 83 jZ) w fun t104 w =>
  hJ pg kW #[nL, t104, (.int .i64 2)] w fun t105 w =>
  kn fO nL hX oD w
theorem Ks (kn : K4) (hn : ∀ g w, kn (g 1) (g 4) (g 5) (g 6) w → Q .normal g w) (h : vB kn (g 1) (g 4) (g 5) (g 6) (g 11) w) : eK pg fC (aA 1 (aA 1 (aA 1 (aA 3 (aA 5 (bI (bJ 1 (aA 1 (bI (bI (aA 1 (bJ 1 (aA 5 eT))))))))))))) Q g w :=
  dU (kr := no) (l := []) (by kernel_rfl) h hn kT trivial
def vY (kn : K5) (k5 : K5) (fO nL hX oD jZ : Value) (w : World) : Prop :=
  cO pg (eF .geq 3 (.tmp 96) (.const (.int .i64 3)) jZ (.int .i64 3)) w fun t97 w =>
  lM t97
    (hJ pg kW #[nL, (.int .u64 3), (.int .i64 2)] w fun t101 w =>
    cO pg (eF .sub 3 (.tmp 98) (.const (.int .i64 3)) jZ (.int .i64 3)) w fun t99 w =>
    kn fO nL hX oD t99 w)
    (k5 fO nL hX oD jZ w)
theorem LU (kn : K5) (k5 : K5) (hn : ∀ g w, kn (g 1) (g 4) (g 5) (g 6) (g 11) w → Q .normal g w) (h5 : ∀ g w, k5 (g 1) (g 4) (g 5) (g 6) (g 11) w → Q (.exit 5) g w) (h : vY kn k5 (g 1) (g 4) (g 5) (g 6) (g 11) w) : eK pg fC (bI (bI (bJ 1 (aA 1 (aA 1 (aA 3 (aA 5 (bI (bJ 1 (aA 1 (bI (bI (aA 1 (bJ 1 (aA 5 eT))))))))))))))) Q g w :=
  dU (kr := no) (l := [(5, fun g w => k5 (g 1) (g 4) (g 5) (g 6) (g 11) w)]) (by kernel_rfl) h hn kT ⟨h5, trivial⟩
def Ce (k5 : K5) (fO nL hX oD jZ : Value) (w : World) : Prop :=
  iY (fun (X : Value → K0) (t : Value) (w : World) => vY (fun _ _ _ _ jZ w => X jZ w) k5 fO nL hX oD t w) jZ w
theorem Lj (k5 : K5) (h5 : ∀ g w, k5 (g 1) (g 4) (g 5) (g 6) (g 11) w → Q (.exit 5) g w) (h : Ce k5 (g 1) (g 4) (g 5) (g 6) (g 11) w) : eK pg fC (bI (bJ 1 (aA 1 (aA 1 (aA 3 (aA 5 (bI (bJ 1 (aA 1 (bI (bI (aA 1 (bJ 1 (aA 5 eT)))))))))))))) Q g w := by
  refine iV (T := Value) (fun g : jT => g 11) (fun X t w => vY (fun _ _ _ _ jZ w => X jZ w) k5 (g 1) (g 4) (g 5) (g 6) t w) _ (by kernel_rfl) h (fun X g1 w1 ha hL => ?_)
  rw [← dW (s := 1) ha (by kernel_rfl)] at hL
  rw [← dW (s := 4) ha (by kernel_rfl)] at hL
  rw [← dW (s := 5) ha (by kernel_rfl)] at hL
  rw [← dW (s := 6) ha (by kernel_rfl)] at hL
  exact (LU (fH (fun g2 w2 => X ((fun g : jT => g 11) g2) w2) Q) g1 w1 (fun _ _ _ _ jZ w => X jZ w) k5 (fun _ _ h => h) h5 hL)
def B0 (kn : K5) (fO nL hX oD jZ : Value) (w : World) : Prop :=
  Ce kn fO nL hX oD jZ w
theorem Lu (kn : K5) (hn : ∀ g w, kn (g 1) (g 4) (g 5) (g 6) (g 11) w → Q .normal g w) (h : B0 kn (g 1) (g 4) (g 5) (g 6) (g 11) w) : eK pg fC (bJ 1 (aA 1 (aA 1 (aA 3 (aA 5 (bI (bJ 1 (aA 1 (bI (bI (aA 1 (bJ 1 (aA 5 eT))))))))))))) Q g w :=
  iU 5 _ g w (by kernel_rfl) (Lj (vI 5 Q) g w kn hn h)
def rE (kn : K4) (fO nL hX oD jZ : Value) (w : World) : Prop :=
  B0 (fun fO nL hX oD jZ w => vB kn fO nL hX oD jZ w) fO nL hX oD jZ w
theorem Ln (kn : K4) (hn : ∀ g w, kn (g 1) (g 4) (g 5) (g 6) w → Q .normal g w) (h : rE kn (g 1) (g 4) (g 5) (g 6) (g 11) w) : eK pg fC (aA 1 (aA 1 (aA 3 (aA 5 (bI (bJ 1 (aA 1 (bI (bI (aA 1 (bJ 1 (aA 5 eT)))))))))))) Q g w :=
  dX 1 _ g w (by kernel_rfl) (Lu (fH (fun g w => eK pg fC (aA 1 (aA 1 (aA 1 (aA 3 (aA 5 (bI (bJ 1 (aA 1 (bI (bI (aA 1 (bJ 1 (aA 5 eT))))))))))))) Q g w) Q) g w (fun fO nL hX oD jZ w => vB kn fO nL hX oD jZ w) (fun g w h => eN (K := fun g w => eK pg fC (aA 1 (aA 1 (aA 1 (aA 3 (aA 5 (bI (bJ 1 (aA 1 (bI (bI (aA 1 (bJ 1 (aA 5 eT))))))))))))) Q g w) (Ks Q g w kn hn h)) h)
def BV (kn : K5) (fO nL hX oD jZ : Value) (w : World) : Prop :=
  cO pg (eF .add 3 (.tmp 93) (.tmp 94) oD jZ) w fun t95 w =>
  kn fO nL hX t95 jZ w
theorem Ko (kn : K5) (hn : ∀ g w, kn (g 1) (g 4) (g 5) (g 6) (g 11) w → Q .normal g w) (h : BV kn (g 1) (g 4) (g 5) (g 6) (g 11) w) : eK pg fC (bJ 1 (aA 1 (aA 3 (aA 5 (bI (bJ 1 (aA 1 (bI (bI (aA 1 (bJ 1 (aA 5 eT)))))))))))) Q g w :=
  dU (kr := no) (l := []) (by kernel_rfl) h hn kT trivial
def vS (kn : K4) (fO nL hX oD jZ : Value) (w : World) : Prop :=
  BV (fun fO nL hX oD jZ w => rE kn fO nL hX oD jZ w) fO nL hX oD jZ w
theorem J1 (kn : K4) (hn : ∀ g w, kn (g 1) (g 4) (g 5) (g 6) w → Q .normal g w) (h : vS kn (g 1) (g 4) (g 5) (g 6) (g 11) w) : eK pg fC (aA 1 (aA 3 (aA 5 (bI (bJ 1 (aA 1 (bI (bI (aA 1 (bJ 1 (aA 5 eT))))))))))) Q g w :=
  dX 1 _ g w (by kernel_rfl) (Ko (fH (fun g w => eK pg fC (aA 1 (aA 1 (aA 3 (aA 5 (bI (bJ 1 (aA 1 (bI (bI (aA 1 (bJ 1 (aA 5 eT)))))))))))) Q g w) Q) g w (fun fO nL hX oD jZ w => rE kn fO nL hX oD jZ w) (fun g w h => eN (K := fun g w => eK pg fC (aA 1 (aA 1 (aA 3 (aA 5 (bI (bJ 1 (aA 1 (bI (bI (aA 1 (bJ 1 (aA 5 eT)))))))))))) Q g w) (Ln Q g w kn hn h)) h)
def tU (kn : K5) (k3 : K5) (fO nL hX oD jZ : Value) (w : World) : Prop :=
  cO pg (fF 51 fO 1) w fun t82 w =>
  cO pg (eQ 30 t82) w fun t83 w =>
  cO pg (eF .add 3 (.tmp 84) (.const (.int .i64 1)) oD (.int .i64 1)) w fun t85 w =>
  cO pg (eF .add 3 (.tmp 85) (.tmp 86) t85 jZ) w fun t87 w =>
  cO pg (iF 30 t83 t87) w fun t88 w =>
  cO pg (eQ 3 t88) w fun t89 w =>
  cO pg (eF .eql 3 (.tmp 89) (.const (.int .i64 0)) t89 (.int .i64 0)) w fun t90 w =>
  lM t90
    (cO pg (eF .add 3 (.tmp 91) (.const (.int .i64 1)) jZ (.int .i64 1)) w fun t92 w =>
    kn fO nL hX oD t92 w)
    (k3 fO nL hX oD jZ w)
theorem Jz (kn : K5) (k3 : K5) (hn : ∀ g w, kn (g 1) (g 4) (g 5) (g 6) (g 11) w → Q .normal g w) (h3 : ∀ g w, k3 (g 1) (g 4) (g 5) (g 6) (g 11) w → Q (.exit 3) g w) (h : tU kn k3 (g 1) (g 4) (g 5) (g 6) (g 11) w) : eK pg fC (bI (bI (bJ 1 (aA 3 (aA 5 (bI (bJ 1 (aA 1 (bI (bI (aA 1 (bJ 1 (aA 5 eT))))))))))))) Q g w :=
  dU (kr := no) (l := [(3, fun g w => k3 (g 1) (g 4) (g 5) (g 6) (g 11) w)]) (by kernel_rfl) h hn kT ⟨h3, trivial⟩
def tI (k3 : K5) (fO nL hX oD jZ : Value) (w : World) : Prop :=
  iY (fun (X : Value → K0) (t : Value) (w : World) => tU (fun _ _ _ _ jZ w => X jZ w) k3 fO nL hX oD t w) jZ w
theorem Jd (k3 : K5) (h3 : ∀ g w, k3 (g 1) (g 4) (g 5) (g 6) (g 11) w → Q (.exit 3) g w) (h : tI k3 (g 1) (g 4) (g 5) (g 6) (g 11) w) : eK pg fC (bI (bJ 1 (aA 3 (aA 5 (bI (bJ 1 (aA 1 (bI (bI (aA 1 (bJ 1 (aA 5 eT)))))))))))) Q g w := by
  refine iV (T := Value) (fun g : jT => g 11) (fun X t w => tU (fun _ _ _ _ jZ w => X jZ w) k3 (g 1) (g 4) (g 5) (g 6) t w) _ (by kernel_rfl) h (fun X g1 w1 ha hL => ?_)
  rw [← dW (s := 1) ha (by kernel_rfl)] at hL
  rw [← dW (s := 4) ha (by kernel_rfl)] at hL
  rw [← dW (s := 5) ha (by kernel_rfl)] at hL
  rw [← dW (s := 6) ha (by kernel_rfl)] at hL
  exact (Jz (fH (fun g2 w2 => X ((fun g : jT => g 11) g2) w2) Q) g1 w1 (fun _ _ _ _ jZ w => X jZ w) k3 (fun _ _ h => h) h3 hL)
def AC (kn : K5) (fO nL hX oD jZ : Value) (w : World) : Prop :=
  tI kn fO nL hX oD jZ w
theorem JE (kn : K5) (hn : ∀ g w, kn (g 1) (g 4) (g 5) (g 6) (g 11) w → Q .normal g w) (h : AC kn (g 1) (g 4) (g 5) (g 6) (g 11) w) : eK pg fC (bJ 1 (aA 3 (aA 5 (bI (bJ 1 (aA 1 (bI (bI (aA 1 (bJ 1 (aA 5 eT))))))))))) Q g w :=
  iU 3 _ g w (by kernel_rfl) (Jd (vI 3 Q) g w kn hn h)
def tR (kn : K4) (fO nL hX oD jZ : Value) (w : World) : Prop :=
  AC (fun fO nL hX oD jZ w => vS kn fO nL hX oD jZ w) fO nL hX oD jZ w
theorem JC (kn : K4) (hn : ∀ g w, kn (g 1) (g 4) (g 5) (g 6) w → Q .normal g w) (h : tR kn (g 1) (g 4) (g 5) (g 6) (g 11) w) : eK pg fC (aA 3 (aA 5 (bI (bJ 1 (aA 1 (bI (bI (aA 1 (bJ 1 (aA 5 eT)))))))))) Q g w :=
  dX 1 _ g w (by kernel_rfl) (JE (fH (fun g w => eK pg fC (aA 1 (aA 3 (aA 5 (bI (bJ 1 (aA 1 (bI (bI (aA 1 (bJ 1 (aA 5 eT))))))))))) Q g w) Q) g w (fun fO nL hX oD jZ w => vS kn fO nL hX oD jZ w) (fun g w h => eN (K := fun g w => eK pg fC (aA 1 (aA 3 (aA 5 (bI (bJ 1 (aA 1 (bI (bI (aA 1 (bJ 1 (aA 5 eT))))))))))) Q g w) (J1 Q g w kn hn h)) h)
def zY (kn : K5) (k1 : K4) (fO nL hX oD Za : Value) (w : World) : Prop :=
  hJ pg oE #[Za] w fun t78 w =>
  cO pg (eF .sub 3 (.tmp 76) (.tmp 78) hX t78) w fun t79 w =>
  cO pg (eF .neq 3 (.tmp 80) (.const (.int .i64 0)) Za (.int .i64 0)) w fun t81 w =>
  lM t81
    (k1 fO nL t79 oD w)
    (kn fO nL t79 oD (.int .i64 0) w)
theorem IZ (kn : K5) (k1 : K4) (hn : ∀ g w, kn (g 1) (g 4) (g 5) (g 6) (g 11) w → Q .normal g w) (h1 : ∀ g w, k1 (g 1) (g 4) (g 5) (g 6) w → Q (.exit 1) g w) (h : zY kn k1 (g 1) (g 4) (g 5) (g 6) (g 7) w) : eK pg fC (bJ 3 (aA 5 (bI (bJ 1 (aA 1 (bI (bI (aA 1 (bJ 1 (aA 5 eT)))))))))) Q g w :=
  dU (kr := no) (l := [(1, fun g w => k1 (g 1) (g 4) (g 5) (g 6) w)]) (by kernel_rfl) h hn kT ⟨h1, trivial⟩
def tY (kn : K4) (k1 : K4) (fO nL hX oD Za : Value) (w : World) : Prop :=
  zY (fun fO nL hX oD jZ w => tR kn fO nL hX oD jZ w) k1 fO nL hX oD Za w
theorem I6 (kn : K4) (k1 : K4) (hn : ∀ g w, kn (g 1) (g 4) (g 5) (g 6) w → Q .normal g w) (h1 : ∀ g w, k1 (g 1) (g 4) (g 5) (g 6) w → Q (.exit 1) g w) (h : tY kn k1 (g 1) (g 4) (g 5) (g 6) (g 7) w) : eK pg fC (aA 5 (bI (bJ 1 (aA 1 (bI (bI (aA 1 (bJ 1 (aA 5 eT))))))))) Q g w :=
  dX 3 _ g w (by kernel_rfl) (IZ (fH (fun g w => eK pg fC (aA 3 (aA 5 (bI (bJ 1 (aA 1 (bI (bI (aA 1 (bJ 1 (aA 5 eT)))))))))) Q g w) Q) g w (fun fO nL hX oD jZ w => tR kn fO nL hX oD jZ w) k1 (fun g w h => eN (K := fun g w => eK pg fC (aA 3 (aA 5 (bI (bJ 1 (aA 1 (bI (bI (aA 1 (bJ 1 (aA 5 eT)))))))))) Q g w) (JC Q g w kn hn h)) h1 h)
def tF (kn : K5) (fO nL hX oD : Value) (w : World) : Prop :=
  cO pg (fF 51 fO 1) w fun t32 w =>
  cO pg (eQ 30 t32) w fun t33 w =>
  cO pg (iF 30 t33 oD) w fun t35 w =>
  cO pg (eQ 3 t35) w fun t36 w =>
  cO pg (eF .add 3 (.tmp 37) (.const (.int .i64 1)) hX (.int .i64 1)) w fun t38 w =>
  cO pg (mL 3 75 t38) w fun t39 w =>
  hJ pg pG #[t39] w fun t40 w =>
  cO pg (eF .shl 3 (.const (.int .i64 1)) (.tmp 41) (.int .i64 1) t40) w fun t42 w =>
  cO pg (eF .sub 3 (.tmp 42) (.const (.int .i64 2)) t42 (.int .i64 2)) w fun t43 w =>
  cO pg (eF .sub 3 (.tmp 43) (.tmp 44) t43 hX) w fun t45 w =>
  cO pg (eF .add 3 (.tmp 46) (.const (.int .i64 1)) t36 (.int .i64 1)) w fun t47 w =>
  cO pg (eF .lss 3 (.tmp 56) (.tmp 57) t47 t45) w fun t58 w =>
  lM t58
    (cO pg (mL 3 83 t47) w fun t61 w =>
    cO pg (eF .sub 3 (.tmp 62) (.const (.int .i64 1)) t40 (.int .i64 1)) w fun t63 w =>
    hJ pg kW #[nL, t61, t63] w fun t64 w =>
    kn fO nL hX oD t36 w)
    (cO pg (eF .sub 3 (.tmp 67) (.const (.int .i64 1)) t40 (.int .i64 1)) w fun t68 w =>
    cO pg (eF .shl 3 (.const (.int .i64 1)) (.tmp 68) (.int .i64 1) t68) w fun t69 w =>
    cO pg (eF .lss 3 (.tmp 66) (.tmp 69) t47 t69) w fun t70 w =>
    lM t70
      (cO pg (mL 3 83 t47) w fun t73 w =>
      hJ pg kW #[nL, t73, t40] w fun t75 w =>
      kn fO nL hX oD t36 w)
      (cO pg (eF .add 3 (.tmp 49) (.tmp 50) t47 t45) w fun t51 w =>
      cO pg (mL 3 83 t51) w fun t52 w =>
      hJ pg kW #[nL, t52, t40] w fun t54 w =>
      kn fO nL hX oD t36 w))
theorem I4 (kn : K5) (hn : ∀ g w, kn (g 1) (g 4) (g 5) (g 6) (g 7) w → Q .normal g w) (h : tF kn (g 1) (g 4) (g 5) (g 6) w) : eK pg fC (bJ 5 (bI (bJ 1 (aA 1 (bI (bI (aA 1 (bJ 1 (aA 5 eT))))))))) Q g w :=
  dU (kr := no) (l := []) (by kernel_rfl) h hn kT trivial
def AK (kn : K4) (k1 : K4) (fO nL hX oD : Value) (w : World) : Prop :=
  tF (fun fO nL hX oD Za w => tY kn k1 fO nL hX oD Za w) fO nL hX oD w
theorem IQ (kn : K4) (k1 : K4) (hn : ∀ g w, kn (g 1) (g 4) (g 5) (g 6) w → Q .normal g w) (h1 : ∀ g w, k1 (g 1) (g 4) (g 5) (g 6) w → Q (.exit 1) g w) (h : AK kn k1 (g 1) (g 4) (g 5) (g 6) w) : eK pg fC (bI (bJ 1 (aA 1 (bI (bI (aA 1 (bJ 1 (aA 5 eT)))))))) Q g w :=
  dX 5 _ g w (by kernel_rfl) (I4 (fH (fun g w => eK pg fC (aA 5 (bI (bJ 1 (aA 1 (bI (bI (aA 1 (bJ 1 (aA 5 eT))))))))) Q g w) Q) g w (fun fO nL hX oD Za w => tY kn k1 fO nL hX oD Za w) (fun g w h => eN (K := fun g w => eK pg fC (aA 5 (bI (bJ 1 (aA 1 (bI (bI (aA 1 (bJ 1 (aA 5 eT))))))))) Q g w) (I6 Q g w kn k1 hn h1 h)) h)
def Ap (kn : K4) (fO nL hX oD : Value) (w : World) : Prop :=
  AK kn kn fO nL hX oD w
theorem IO (kn : K4) (hn : ∀ g w, kn (g 1) (g 4) (g 5) (g 6) w → Q .normal g w) (h : Ap kn (g 1) (g 4) (g 5) (g 6) w) : eK pg fC (bJ 1 (aA 1 (bI (bI (aA 1 (bJ 1 (aA 5 eT))))))) Q g w :=
  iU 1 _ g w (by kernel_rfl) (IQ (vI 1 Q) g w kn kn hn hn h)
def tG (kn : K4) (fO nL hX oD : Value) (w : World) : Prop :=
  Ap (fun fO nL hX oD w => qU kn fO nL hX oD w) fO nL hX oD w
theorem Jt (kn : K4) (hn : ∀ g w, kn (g 1) (g 4) (g 5) (g 6) w → Q .normal g w) (h : tG kn (g 1) (g 4) (g 5) (g 6) w) : eK pg fC (aA 1 (bI (bI (aA 1 (bJ 1 (aA 5 eT)))))) Q g w :=
  dX 1 _ g w (by kernel_rfl) (IO (fH (fun g w => eK pg fC (aA 1 (aA 1 (bI (bI (aA 1 (bJ 1 (aA 5 eT))))))) Q g w) Q) g w (fun fO nL hX oD w => qU kn fO nL hX oD w) (fun g w h => eN (K := fun g w => eK pg fC (aA 1 (aA 1 (bI (bI (aA 1 (bJ 1 (aA 5 eT))))))) Q g w) (Kq Q g w kn hn h)) h)
def Ak (kn : K4) (k0 : K1) (fO nL hX oD : Value) (w : World) : Prop :=
  cO pg (fF 51 fO 1) w fun t26 w =>
  cO pg (eQ 30 t26) w fun t27 w =>
  cO pg (nA .len #[30] 3 [t27]) w fun t28 w =>
  cO pg (eF .lss 3 (.tmp 25) (.tmp 28) oD t28) w fun t29 w =>
  lM t29
    (kn fO nL hX oD w)
    (k0 nL w)
theorem Jb (kn : K4) (k0 : K1) (hn : ∀ g w, kn (g 1) (g 4) (g 5) (g 6) w → Q .normal g w) (h0 : ∀ g w, k0 (g 4) w → Q (.exit 0) g w) (h : Ak kn k0 (g 1) (g 4) (g 5) (g 6) w) : eK pg fC (bJ 1 (bI (bI (aA 1 (bJ 1 (aA 5 eT)))))) Q g w :=
  dU (kr := no) (l := [(0, fun g w => k0 (g 4) w)]) (by kernel_rfl) h hn kT ⟨h0, trivial⟩
def tS (kn : K4) (k0 : K1) (fO nL hX oD : Value) (w : World) : Prop :=
  Ak (fun fO nL hX oD w => tG kn fO nL hX oD w) k0 fO nL hX oD w
theorem Jy (kn : K4) (k0 : K1) (hn : ∀ g w, kn (g 1) (g 4) (g 5) (g 6) w → Q .normal g w) (h0 : ∀ g w, k0 (g 4) w → Q (.exit 0) g w) (h : tS kn k0 (g 1) (g 4) (g 5) (g 6) w) : eK pg fC (bI (bI (aA 1 (bJ 1 (aA 5 eT))))) Q g w :=
  dX 1 _ g w (by kernel_rfl) (Jb (fH (fun g w => eK pg fC (aA 1 (bI (bI (aA 1 (bJ 1 (aA 5 eT)))))) Q g w) Q) g w (fun fO nL hX oD w => tG kn fO nL hX oD w) k0 (fun g w h => eN (K := fun g w => eK pg fC (aA 1 (bI (bI (aA 1 (bJ 1 (aA 5 eT)))))) Q g w) (Jt Q g w kn hn h)) h0 h)
def AE (k0 : K1) (fO nL hX oD : Value) (w : World) : Prop :=
  iY (fun (X : (Value × Value) → K0) (t : Value × Value) (w : World) => tS (fun _ _ hX oD w => X (hX, oD) w) k0 fO nL t.1 t.2 w) (hX, oD) w
theorem I9 (k0 : K1) (h0 : ∀ g w, k0 (g 4) w → Q (.exit 0) g w) (h : AE k0 (g 1) (g 4) (g 5) (g 6) w) : eK pg fC (bI (aA 1 (bJ 1 (aA 5 eT)))) Q g w := by
  refine iV (T := Value × Value) (fun g : jT => (g 5, g 6)) (fun X t w => tS (fun _ _ hX oD w => X (hX, oD) w) k0 (g 1) (g 4) t.1 t.2 w) _ (by kernel_rfl) h (fun X g1 w1 ha hL => ?_)
  rw [← dW (s := 1) ha (by kernel_rfl)] at hL
  rw [← dW (s := 4) ha (by kernel_rfl)] at hL
  exact (Jy (fH (fun g2 w2 => X ((fun g : jT => (g 5, g 6)) g2) w2) Q) g1 w1 (fun _ _ hX oD w => X (hX, oD) w) k0 (fun _ _ h => h) h0 hL)
def tQ (kn : K1) (fO nL hX oD : Value) (w : World) : Prop :=
  AE kn fO nL hX oD w
theorem I3 (kn : K1) (hn : ∀ g w, kn (g 4) w → Q .normal g w) (h : tQ kn (g 1) (g 4) (g 5) (g 6) w) : eK pg fC (aA 1 (bJ 1 (aA 5 eT))) Q g w :=
  iU 0 _ g w (by kernel_rfl) (I9 (vI 0 Q) g w kn hn h)
def Ao (kn : K4) (fO nL hX : Value) (w : World) : Prop :=
  kn fO nL hX (.int .i64 0) w
theorem IN (kn : K4) (hn : ∀ g w, kn (g 1) (g 4) (g 5) (g 6) w → Q .normal g w) (h : Ao kn (g 1) (g 4) (g 5) w) : eK pg fC (bJ 1 (bJ 1 (aA 5 eT))) Q g w :=
  dU (kr := no) (l := []) (by kernel_rfl) h hn kT trivial
def AJ (kn : K1) (fO nL hX : Value) (w : World) : Prop :=
  Ao (fun fO nL hX oD w => tQ kn fO nL hX oD w) fO nL hX w
theorem Jg (kn : K1) (hn : ∀ g w, kn (g 4) w → Q .normal g w) (h : AJ kn (g 1) (g 4) (g 5) w) : eK pg fC (bJ 1 (aA 5 eT)) Q g w :=
  dX 1 _ g w (by kernel_rfl) (IN (fH (fun g w => eK pg fC (aA 1 (bJ 1 (aA 5 eT))) Q g w) Q) g w (fun fO nL hX oD w => tQ kn fO nL hX oD w) (fun g w h => eN (K := fun g w => eK pg fC (aA 1 (bJ 1 (aA 5 eT))) Q g w) (I3 Q g w kn hn h)) h)
def pY (R : K1) (fO nL hX : Value) (w : World) : Prop :=
  AJ (fun nL w => rA R nL w) fO nL hX w
theorem IT (R : K1) (hr : HR pE R Q) (h : pY R (g 1) (g 4) (g 5) w) : eK pg fC (aA 5 eT) Q g w :=
  dX 1 _ g w (by kernel_rfl) (Jg (fH (fun g w => eK pg fC (aA 1 (aA 5 eT)) Q g w) Q) g w (fun nL w => rA R nL w) (fun g w h => eN (K := fun g w => eK pg fC (aA 1 (aA 5 eT)) Q g w) (KF Q g w R hr h)) h)
def Az (kn : K3) (R : K1) (Ox : Value) (w : World) : Prop :=
  cO pg (FZ 51 Ox) w fun fO w =>
  cO pg (eQ 51 fO) w fun t12 w =>
  hJ pg zQ #[t12] w fun t13 w =>
  cO pg (V6 .not t13) w fun t14 w =>
  lM t14
    (R (.tuple #[(.slice none 0 0), (.int .i64 1)]) w)
    (hJ pg tP #[] w fun t15 w =>
    cO pg (fF 51 fO 0) w fun t17 w =>
    cO pg (eQ 3 t17) w fun t18 w =>
    cO pg (eF .sub 3 (.tmp 18) (.const (.int .i64 5)) t18 (.int .i64 5)) w fun t19 w =>
    cO pg (mL 3 83 t19) w fun t20 w =>
    hJ pg kW #[t15, t20, (.int .i64 4)] w fun t21 w =>
    cO pg (fF 51 fO 0) w fun t22 w =>
    cO pg (eQ 3 t22) w fun t23 w =>
    cO pg (eF .shl 3 (.const (.int .i64 1)) (.tmp 23) (.int .i64 1) t23) w fun t24 w =>
    kn fO t15 t24 w)
theorem Jn (kn : K3) (R : K1) (hn : ∀ g w, kn (g 1) (g 4) (g 5) w → Q .normal g w) (hr : HR pE R Q) (h : Az kn R (g 0) w) : eK pg fC (bJ 5 eT) Q g w :=
  dU (l := []) (by kernel_rfl) h hn hr trivial
def Ad (R : K1) (Ox : Value) (w : World) : Prop :=
  Az (fun fO nL hX w => pY R fO nL hX w) R Ox w
theorem JA (R : K1) (hr : HR pE R Q) (h : Ad R (g 0) w) : eK pg fC eT Q g w :=
  dX 5 _ g w (by kernel_rfl) (Jn (fH (fun g w => eK pg fC (aA 5 eT) Q g w) Q) g w (fun fO nL hX w => pY R fO nL hX w) R (fun g w h => eN (K := fun g w => eK pg fC (aA 5 eT) Q g w) (IT Q g w R hr h)) hr h)
def NI (a0 : Value) (w : World) (R : K1) : Prop :=
  Ad R a0 w
theorem L5 {a0 : Value} {w : World} {R : K1} (h : NI a0 w R) : hJ pg xD #[a0] w R := by
  refine gJ (ann := fC) (fn := Tryd.f21) (c := eT) (args := [a0]) (rs := pE) (N := 108) TrydM.mixed (by kernel_rfl) Tryd.func21 (by kernel_rfl) (by kernel_rfl) (by kernel_rfl) (of_decide_eq_true (by kernel_rfl)) (by kernel_rfl) ?_
  exact (JA (nK pg pE R) (lI [a0]) w R (fun _ _ h => h) h)
def EV : FA := ⟨vW, fun i => .leaf ([], []) []⟩
def Aw : List ResultVar := [.cell 2 42, .tmp 3]
noncomputable def Dn : Code := kJ Tryd.f22
def Ai (R : K1) (eM : Value) (w : World) : Prop :=
  cO pg (jB 42) w fun t2 w =>
  cO pg (eF .lss 3 (.tmp 4) (.const (.int .i64 0)) eM (.int .i64 0)) w fun t5 w =>
  Gd (kA t5 false) (fun K => K eM w) w fun t7 w =>
  Gd (kA t5 false) (fun K => cO pg (eF .gtr 3 (.tmp 7) (.const (.int .i64 2)) t7 (.int .i64 2)) w K) w fun t8 w =>
  cO pg (kL t5 (.bool true) t8) w fun t9 w =>
  lM t9
    (cO pg (iH 42 []) w fun t10 w =>
    cO pg (fG 42 t2 t10) w fun _u w =>
    qB pg 42 t2 w fun r0 => R (.tuple #[r0, (.int .i64 1)]) w)
    (hJ pg Bo #[eM] w fun t12 w =>
    hJ pg uK #[t12] w fun t13 w =>
    cO pg (jC t13 0) w fun t14 w =>
    cO pg (jC t13 1) w fun t15 w =>
    cO pg (fG 42 t2 t14) w fun _u w =>
    qB pg 42 t2 w fun r0 => R (.tuple #[r0, t15]) w)
theorem Jr (R : K1) (hr : HR Aw R Q) (h : Ai R (g 0) w) : eK pg EV Dn Q g w :=
  dU (kn := no) (l := []) (by kernel_rfl) h kT hr trivial
def JJ (a0 : Value) (w : World) (R : K1) : Prop :=
  Ai R a0 w
theorem J9 {a0 : Value} {w : World} {R : K1} (h : JJ a0 w R) : hJ pg vW #[a0] w R := by
  refine gJ (ann := EV) (fn := Tryd.f22) (c := Dn) (args := [a0]) (rs := Aw) (N := 16) TrydM.mixed (by kernel_rfl) Tryd.func22 (by kernel_rfl) (by kernel_rfl) (by kernel_rfl) (of_decide_eq_true (by kernel_rfl)) (by kernel_rfl) ?_
  exact (Jr (nK pg Aw R) (lI [a0]) w R (fun _ _ h => h) h)
def JQ : FA := ⟨EP, fun i => .leaf ([], []) []⟩
def GM : List ResultVar := [.cell 2 42]
noncomputable def HS : Code := kJ Tryd.f23
def GX (R : K1) (RQ : Value) (w : World) : Prop :=
  cO pg (jB 42) w fun t2 w =>
  cO pg (iH 70 [(0, RQ)]) w fun t4 w =>
  cO pg (iE 40 1 [(0, t4)]) w fun t5 w =>
  cO pg (iH 42 [(1, t5)]) w fun t6 w =>
  cO pg (fG 42 t2 t6) w fun _u w =>
  qB pg 42 t2 w fun r0 => R r0 w
theorem RB (R : K1) (hr : HR GM R Q) (h : GX R (g 0) w) : eK pg JQ HS Q g w :=
  dU (kn := no) (l := []) (by kernel_rfl) h kT hr trivial
def SZ (a0 : Value) (w : World) (R : K1) : Prop :=
  GX R a0 w
theorem Sa {a0 : Value} {w : World} {R : K1} (h : SZ a0 w R) : hJ pg EP #[a0] w R := by
  refine gJ (ann := JQ) (fn := Tryd.f23) (c := HS) (args := [a0]) (rs := GM) (N := 7) TrydM.mixed (by kernel_rfl) Tryd.func23 (by kernel_rfl) (by kernel_rfl) (by kernel_rfl) (of_decide_eq_true (by kernel_rfl)) (by kernel_rfl) ?_
  exact (RB (nK pg GM R) (lI [a0]) w R (fun _ _ h => h) h)
end Go.Proofs.YtoepfjgekpdddaaDoor

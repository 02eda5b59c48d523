/- Parts of the proof of DiskSure: merged and given short names by a program of ours. -/
import Derived.Orders
import Derived.Below
import Derived.KernelRfl
import Derived.Eval
import Derived.Laws.Sem
import Derived.Scope
import Derived.Test.YtmhokapokchneaaRows
import Derived.Laws.IdiomStrings
namespace Go.En
open Go
abbrev dQ := Nat → Value
def put (g : dQ) (d : Option Tmp) (v : Value) : dQ :=
  match d with
  | some d => fun i => match Nat.beq i d with | true => v | false => g i
  | none => g
def ev (g : dQ) : Operand → Value
  | .tmp t => g t
  | .const v => v
  | .global b => .pointer (some ⟨b, 0, none⟩)
  | .func f => .func (.func f) #[] #[]
def Bm (P : Program) (f : FuncId) (args : Array Value) (w : World) (v : Value) (w' : World) : Prop :=
  Calls P f args w fun e w'' => e = .returned v ∧ w'' = w'
def dG (P : Program) (f : FuncId) (args : Array Value) (w : World) (R : Value → World → Prop) : Prop :=
  ∃ v w', Bm P f args w v w' ∧ R v w'
theorem dG.mono {P : Program} {f : FuncId} {args : Array Value} {w : World} {R R' : Value → World → Prop} (h : dG P f args w R)
    (hr : ∀ v w', R v w' → R' v w') : dG P f args w R' :=
  let ⟨v, w', a, b⟩ := h; ⟨v, w', a, hr _ _ b⟩
def zK (P : Program) (r : Result Next) (K : Value → World → Prop) : Prop :=
  match r with
  | .ok (.value v) w => K v w
  | .ok .skip w => K undef w
  | .ok (.enter f args) w => dG P f args w K
  | _ => False
theorem aY (P : Program) (v : Value) (w : World) (K : Value → World → Prop) : zK P (.ok (.value v) w) K = K v w := Eq.trans rfl rfl
theorem bB (P : Program) (w : World) (K : Value → World → Prop) : zK P (.ok .skip w) K = K undef w := Eq.trans rfl rfl
def bP (P : Program) (s : Sem Next) (w : World) (K : Value → World → Prop) : Prop := zK P (s.run P w) K
def dE (P : Program) (s : Sem Next) (v : Value) (w : World) : Prop := s.run P w = .ok (.value v) w
def Gd (b : Bool) (s : (Value → World → Prop) → Prop) (w : World) (K : Value → World → Prop) : Prop :=
  match b with
  | true => s K
  | false => K undef w
def Bj (v : Value) : Option Bool := match v with | .bool b => some b | _ => none
def fX (v : Value) (want : Bool) : Bool := Bj v == some want
def lN (v : Value) (A B : Prop) : Prop :=
  match v with
  | .bool b => (match b with | true => A | false => B)
  | _ => False
def jT (ops : Array Oper) (j : Nat) : Option Tmp := (ops[j]?).bind (·.dst)
def iD (g : dQ) (t : Option Tmp) (want : Bool) : Bool := match t with | some t => fX (g t) want | none => false
def V (s : Sem Value) : Sem Next := do pure (.value (← s))
def U (s : Sem Unit) : Sem Next := do s; pure .skip
def lM (op : BinOp) : Bool := match op with | .eql | .neq => true | _ => false
def dB (op : BinOp) (t : TypeId) (ox oy : Operand) (x y : Value) : Sem Next :=
  match lM op with
  | true => V (do eqGuard op t ox oy x y; binOp op t x y)
  | false => V (binOp op t x y)
def jI (b : Builtin) (ats : Array TypeId) (ty : TypeId) (args : List Value) : Sem Next := builtin b ats ty #[] args.toArray
def lY (t : TypeId) (ps : List (Nat × Value)) : Sem Next := V (Instr.build t ps.toArray)
def dS (t : TypeId) (n : Nat) (ps : List (Nat × Value)) : Sem Next := V (Instr.buildSlice t n ps.toArray)
def mF (g : dQ) (o : Oper) : Sem Next :=
  match o.op with
  | .binOp op t x y _ => dB op t x y (ev g x) (ev g y)
  | .build t ps => lY t (ps.toList.map fun p => (p.1, ev g p.2))
  | .buildSlice t n ps => dS t n (ps.toList.map fun p => (p.1, ev g p.2))
  | .call c => (match c.callee with
    | .builtin b => jI b c.argTypes o.type (c.args.toList.map (ev g))
    | _ => execOp (ev g) o)
  | _ => execOp (ev g) o
def lP (P : Program) (g : dQ) (o : Oper) (w : World) (K : Value → World → Prop) : Prop :=
  match o.op with
  | .move x => K (ev g x) w
  | .assign x => K (ev g x) w
  | .call c => (match c.callee with
    | .value (.func f) => dG P f (c.args.toList.map (ev g)).toArray w K
    | _ => bP P (mF g o) w K)
  | _ => bP P (mF g o) w K
def lG (P : Program) (ops : Array Oper) (g : dQ) (o : Oper) (w : World) (K : Value → World → Prop) : Prop :=
  match o.guard with
  | none => lP P g o w K
  | some (j, want) => Gd (iD g (jT ops j) want) (lP P g o w) w K
def rZ (P : Program) (ops : Array Oper) : List Oper → dQ → World → (dQ → World → Prop) → Prop
  | [], g, w, K => K g w
  | o :: rest, g, w, K => lG P ops g o w fun v w' => rZ P ops rest (put g o.dst v) w' K
structure zZ where
  heavy : Bool
  o : Oper
  g : dQ
  w : World
  v : Value
def A6 (ops : Array Oper) (o : Oper) (g : dQ) : Bool := match o.guard with | none => true | some (j, want) => iD g (jT ops j) want
def Gs (b : Bool) (p : Prop) : Prop := match b with | true => p | false => True
def qJ (P : Program) (ops : Array Oper) (q : zZ) (o : Oper) (g : dQ) (w' : World) (v : Value) : Prop :=
  match q.heavy with
  | true => Gs (A6 ops o g) (dE P (mF g o) v q.w)
  | false => Gs (A6 ops q.o q.g) (dE P (mF q.g q.o) q.v w')
def sF (i j : Nat) : List (Nat × Nat) → Bool
  | [] => false
  | (a, b) :: r => match Nat.beq a i with
    | true => (match Nat.beq b j with | true => true | false => sF i j r)
    | false => sF i j r
def fM (i : Nat) : List Nat → Bool
  | [] => false
  | a :: r => match Nat.beq a i with | true => true | false => fM i r
def vG : List zZ → Nat → Option zZ
  | [], _ => none
  | q :: _, 0 => some q
  | _ :: r, n + 1 => vG r n
def Az (P : Program) (ops : Array Oper) (o : Oper) (g : dQ) (w' : World) (v : Value) (hist : List zZ) : List Nat → Prop
  | [] => True
  | k :: ks => (match vG hist k with
    | some q => qJ P ops q o g w' v
    | none => False) ∧ Az P ops o g w' v hist ks
abbrev wU := List Nat × List (Nat × Nat)
abbrev vE := List (Bool × List Nat)
def fV (P : Program) (ops : Array Oper) : List Oper → vE → List zZ → dQ → World → (dQ → World → Prop) → Prop
  | [], _, _, g, w, K => K g w
  | _ :: _, [], _, _, _, _ => False
  | o :: rest, (hv, ks) :: pl, hist, g, w, K =>
    lG P ops g o w fun v w' =>
      match hv, ks with
      | true, [] => fV P ops rest pl (⟨true, o, g, w, v⟩ :: hist) (put g o.dst v) w' K
      | true, k :: ks => Az P ops o g w' v hist (k :: ks) ∧ fV P ops rest pl (⟨true, o, g, w, v⟩ :: hist) (put g o.dst v) w' K
      | false, [] => w' = w ∧ fV P ops rest pl (⟨false, o, g, w, v⟩ :: hist) (put g o.dst v) w K
      | false, k :: ks => w' = w ∧ Az P ops o g w v hist (k :: ks) ∧ fV P ops rest pl (⟨false, o, g, w, v⟩ :: hist) (put g o.dst v) w K
def kS {α : Type} (F : (α → World → Prop) → α → World → Prop) (g : α) (w : World) : Prop :=
  ∃ I : Nat → α → World → Prop, (∃ n, I n g w) ∧ ∀ n g w, I n g w → F (fun g' w' => ∃ m, m < n ∧ I m g' w') g w
def fK (K : dQ → World → Prop) (Q : Exit → dQ → World → Prop) : Exit → dQ → World → Prop
  | .normal, g, w => K g w
  | e, g, w => Q e g w
def zY (id : Nat) (Q : Exit → dQ → World → Prop) : Exit → dQ → World → Prop
  | .exit i, g, w => (match Nat.beq i id with | true => Q .normal g w | false => Q (.exit i) g w)
  | e, g, w => Q e g w
inductive HT where
  | leaf (an : wU) (pl : vE)
  | perm (π : List Nat) (es : List (Nat × Nat)) (an : wU) (pl : vE)
  | split (a b : Nat) (x y : HT)
structure FA where
  f : FuncId
  t : Nat → HT
def gY : List Nat → Nat → Nat
  | [], _ => 0
  | a :: r, i => match Nat.beq a i with | true => 0 | false => gY r i + 1
def kV (π : List Nat) (i : Nat) : List (Nat × Nat) → List Edge
  | [] => []
  | (a, b) :: r => match Nat.beq b i with | true => ⟨gY π a, .data⟩ :: kV π i r | false => kV π i r
def lD (π : List Nat) (es : List (Nat × Nat)) (i : Nat) (o : Oper) : Oper :=
  { dst := o.dst, op := o.op, type := o.type, pos := o.pos, after := (o.after.toList.map (fun e => (⟨gY π e.on, e.ground⟩ : Edge)) ++ kV π i es).toArray,
    guard := match o.guard with | none => none | some (j, b) => some (gY π j, b) }
def qW (π : List Nat) (es : List (Nat × Nat)) (l : List Oper) : List Nat → List Oper
  | [] => []
  | i :: r => match l[i]? with | some o => lD π es i o :: qW π es l r | none => qW π es l r
def fH (π : List Nat) (es : List (Nat × Nat)) (ops : Array Oper) : Array Oper := (qW π es ops.toList π).toArray
def AO (f : FuncId) (id : Nat) (ops : Array Oper) (a b : Nat) (w : World) : Bool :=
  Nat.ble ((Region.schedule true ops (w.tape w.drawn (.order f id))).idxOf a) ((Region.schedule true ops (w.tape w.drawn (.order f id))).idxOf b)
def Bh (b : Bool) (A B : Prop) : Prop := match b with | true => A | false => B
def uP (P : Program) (f : FuncId) (id : Nat) (ops : Array Oper) : HT → dQ → World → World → (dQ → World → Prop) → Prop
  | .leaf _ pl, g, _, w, K => fV P ops ops.toList pl [] g w K
  | .perm π es _ pl, g, _, w, K => fV P (fH π es ops) (fH π es ops).toList pl [] g w K
  | .split a b x y, g, w0, w, K => Bh (AO f id ops a b w0) (uP P f id ops x g w0 w K) (uP P f id ops y g w0 w K)
def eE (P : Program) (ann : FA) : Code → (Exit → dQ → World → Prop) → dQ → World → Prop
  | .skip, Q, g, w => Q .normal g w
  | .region id ops draw, Q, g, w => match draw with
    | false => rZ P ops ops.toList g w (Q .normal)
    | true => uP P ann.f id ops (ann.t id) g w { w with drawn := w.drawn + 1 } (Q .normal)
  | .seq x y, Q, g, w => eE P ann x (fK (fun g w => eE P ann y Q g w) Q) g w
  | .cond c x y, Q, g, w => lN (ev g c) (eE P ann x Q g w) (eE P ann y Q g w)
  | .block id c, Q, g, w => eE P ann c (zY id Q) g w
  | .loop c, Q, g, w => kS (fun X g w => eE P ann c (fK X Q) g w) g w
  | .scope c, Q, g, w => eE P ann c Q g w
  | .label _, Q, g, w => Q .normal g w
  | .exit id, Q, g, w => Q (.exit id) g w
  | .ret, Q, g, w => Q .ret g w
  | _, _, _, _ => False
def wX (N : Nat) (o : Oper) : Bool := match o.dst with | some d => Nat.blt d N | none => true
def yF (b : Array Nat) (i j : Nat) : Bool := (b.getD j 0).testBit i
def rL (ops : Array Oper) (o : Oper) : List Tmp :=
  (o.op.operands.toList.filterMap fun | .tmp t => some t | _ => none) ++ (match o.guard with | some (j, _) => (jT ops j).toList | none => [])
def yU (ops : Array Oper) (x y : Oper) : Bool :=
  (match x.dst with | some d => (rL ops y).contains d || y.dst == some d | none => false) ||
  (match y.dst with | some d => (rL ops x).contains d | none => false)
def vD (o : Oper) : Bool := match o.op with | .select .. => true | _ => false
def zE (o : Oper) : Bool := match o.op with | .call { callee := .value (.func _), .. } => true | _ => false
def pI (P : Program) (o : Oper) : Bool :=
  match o.op with
  | .call c => (match c.callee with
    | .value (.func f) => (match P.funcs[f]? with | some fn => fn.body.isSome && !(fn.name == "runtime.NumGoroutine") | none => false)
    | .builtin b => (match b with | .print | .println => false | _ => true)
    | _ => true)
  | _ => true
def mN (o : Oper) : Bool := match o.op with | .move _ | .assign _ => true | _ => false
def pM (ops : Array Oper) (b : Array Nat) (an : wU) (i j : Nat) (x y : Oper) : Bool :=
  yF b i j ||
  (!yU ops x y &&
    match fM i an.1, fM j an.1 with
    | true, true => false
    | false, false => true
    | true, false => mN y || sF i j an.2
    | false, true => mN x || sF i j an.2)
def uT (ops : Array Oper) (b : Array Nat) (an : wU) : Bool :=
  (List.range ops.size).all fun j => (List.range j).all fun i =>
    match ops[i]?, ops[j]? with
    | some x, some y => pM ops b an i j x y
    | _, _ => false
def tS (ops : Array Oper) : Bool :=
  (List.range ops.size).all fun i => match ops[i]? with
    | some o => o.after.all fun e => !Region.binds .any e || Nat.blt e.on i
    | none => false
def tF (ops : Array Oper) (b : Array Nat) : Bool :=
  (List.range ops.size).all fun j => (List.range ops.size).all fun i =>
    !yF b i j || (match ops[j]? with
      | some o => o.after.any fun e => Region.binds .any e && (Nat.beq e.on i || yF b i e.on)
      | none => false)
def sD (ops : Array Oper) (an : wU) : Bool :=
  tS ops && tF ops (Region.before ops) && uT ops (Region.before ops) an && (ops.all fun o => !vD o) &&
    (List.range ops.size).all fun i => match ops[i]? with | some o => !zE o || fM i an.1 | none => false
def sP (n : Nat) (an : wU) (pl : vE) : Bool :=
  (List.range n).all fun i => match pl[i]? with
    | some (h, ks) => h == fM i an.1 && an.2.all fun p => !Nat.beq p.2 i || (Nat.blt p.1 i && ks.contains (i - 1 - p.1))
    | none => false
def wM (π : List Nat) (ops : Array Oper) : Bool :=
  Nat.beq π.length ops.size && ((List.range ops.size).all fun k => match π[k]? with | some i => Nat.beq (gY π i) k && Nat.blt i ops.size | none => false) &&
    ((List.range ops.size).all fun i => match π[gY π i]? with | some j => Nat.beq j i | none => false) &&
    ((List.range ops.size).all fun i => match ops[i]? with
      | some o => (o.after.all fun e => Nat.blt e.on ops.size) && (match o.guard with | some (j, _) => Nat.blt j ops.size | none => true)
      | none => false)
def qF (P : Program) (N : Nat) (ops : Array Oper) : List (Nat × Nat) → HT → Bool
  | _, .leaf an pl => sD ops an && sP ops.size an pl
  | path, .perm π es an pl => (es.all fun p => sF p.1 p.2 path && Nat.blt p.1 ops.size) && wM π ops && (fH π es ops).all (wX N) && (fH π es ops).all (pI P) &&
      sD (fH π es ops) an && sP (fH π es ops).size an pl
  | path, .split a b x y => !Nat.beq a b && qF P N ops ((a, b) :: path) x && qF P N ops ((b, a) :: path) y
def jO (P : Program) (N : Nat) (ann : FA) : Code → Bool
  | .skip | .exit _ | .ret | .label _ => true
  | .scope c => jO P N ann c
  | .region id ops draw => ops.all (wX N) && ops.all (pI P) && (!draw || qF P N ops [] (ann.t id))
  | .seq x y => jO P N ann x && jO P N ann y
  | .cond _ x y => jO P N ann x && jO P N ann y
  | .block _ c => jO P N ann c
  | .loop c => jO P N ann c
  | _ => false
end Go.En
namespace Go.En
open Go
theorem sL (g : dQ) (d i : Nat) (v : Value) : put g (some d) v i = if i = d then v else g i := by
  unfold put
  by_cases h : i = d
  · subst h; simp
  · have : Nat.beq i d = false := by
      cases hb : Nat.beq i d
      · rfl
      · exact absurd (Nat.eq_of_beq_eq_true hb) h
    simp [this, h]
def pP (N : Nat) (g : dQ) (a : Act) : Prop := a.defers = [] ∧ a.tmps.size = N ∧ ∀ i, a.tmps.getD i undef = g i
theorem pP.ev {N : Nat} {g : dQ} {a : Act} (h : pP N g a) (x : Operand) : a.eval x = ev g x := by
  cases x <;> simp [Act.eval, En.ev, ← h.2.2]
theorem pP.evs {N : Nat} {g : dQ} {a : Act} (h : pP N g a) : a.eval = En.ev g := funext h.ev
theorem pP.put {N : Nat} {g : dQ} {a : Act} (h : pP N g a) (d : Option Tmp) (v : Value) (hd : ∀ t, d = some t → t < N) :
    pP N (put g d v) (a.put d v) := by
  cases d with
  | none => exact h
  | some t =>
    obtain ⟨h1, h2, h3⟩ := h
    have ht := hd t rfl
    refine ⟨h1, by simp [Act.put, h2], fun i => ?_⟩
    rw [sL, ← h3 i]
    by_cases hi : i = t
    · subst hi; simp [Act.put, h2, ht]
    · have hi' : t ≠ i := fun e => hi e.symm
      simp [Act.put, hi, Array.getElem?_setIfInBounds_ne hi']
theorem pP.wanted {N : Nat} {g : dQ} {a : Act} (h : pP N g a) (ops : Array Oper) (o : Oper) :
    Region.wanted o (yielded ops a.tmps) = match o.guard with | none => true | some (j, want) => iD g (jT ops j) want := by
  unfold Region.wanted
  cases o.guard with
  | none => rfl
  | some p =>
    obtain ⟨j, want⟩ := p
    simp only [yielded, iD, jT]
    cases (ops[j]?).bind (·.dst) with
    | none => simp
    | some t =>
      have h3 := h.2.2 t
      simp only [Option.bind_some, fX, Bj, ← h3]
      simp only [Array.getD_eq_getD_getElem?]
      cases ht : a.tmps[t]? with
      | none => simp [undef]
      | some v => cases v <;> simp
section
variable {P : Program} {ops : Array Oper}
def rH (P : Program) (ops : Array Oper) (g : dQ) (o : Oper) (w : World) (v : Value) (w' : World) : Prop :=
  ∀ K : Value → World → Prop, K v w' → lG P ops g o w K
theorem xA {s : Sem Next} {w : World} {K : Value → World → Prop} (h : bP P s w K) :
    ∃ v w', (∀ K' : Value → World → Prop, K' v w' → bP P s w K') ∧ K v w' := by
  unfold bP at *
  generalize s.run P w = r at *
  match r, h with
  | .ok (.value v) w1, h => exact ⟨v, w1, fun _ h' => h', h⟩
  | .ok .skip w1, h => exact ⟨undef, w1, fun _ h' => h', h⟩
  | .ok (.enter f args) w1, h =>
    obtain ⟨v, w', hr, hk⟩ := h
    exact ⟨v, w', fun _ h' => ⟨v, w', hr, h'⟩, hk⟩
theorem tN {g : dQ} {o : Oper} {w : World} {K : Value → World → Prop} (h : lP P g o w K) :
    ∃ v w', (∀ K' : Value → World → Prop, K' v w' → lP P g o w K') ∧ K v w' := by
  unfold lP at *
  split at h
  · exact ⟨_, _, fun _ h' => h', h⟩
  · exact ⟨_, _, fun _ h' => h', h⟩
  · split at h
    · obtain ⟨v, w', a, b⟩ := h
      exact ⟨v, w', fun _ h' => ⟨v, w', a, h'⟩, b⟩
    · exact xA h
  · exact xA h
theorem Ad (op : BinOp) (t : TypeId) (ox oy : Operand) (x y : Value) : dB op t ox oy x y = V (do eqGuard op t ox oy x y; binOp op t x y) := by
  cases op <;> simp [dB, lM, eqGuard]
theorem zV {g : dQ} {o : Oper} (ho : pI P o = true) : mF g o = execOp (ev g) o := by
  unfold mF
  split
  · rename_i op t x y yt hx
    simp only [execOp, hx, Ad, V]
  · rename_i t ps hx
    have e : (List.map (fun p : Nat × Operand => (p.1, ev g p.2)) ps.toList).toArray = ps.map (fun p => (p.1, ev g p.2)) := by obtain ⟨l⟩ := ps; simp
    simp only [execOp, hx, lY, V, e]
  · rename_i t n ps hx
    have e : (List.map (fun p : Nat × Operand => (p.1, ev g p.2)) ps.toList).toArray = ps.map (fun p => (p.1, ev g p.2)) := by obtain ⟨l⟩ := ps; simp
    simp only [execOp, hx, dS, V, e]
  · rename_i c hx
    split
    · rename_i b hb
      simp only [execOp, hx, resolve, hb, pure_bind, invoke, jI]
      unfold pI at ho
      simp only [hx, hb] at ho
      have e : (List.map (ev g) c.args.toList).toArray = c.args.map (ev g) := by obtain ⟨l⟩ := c.args; simp
      rw [e]
      cases b <;> first | rfl | (cases ho)
    · rfl
  · rfl
theorem tT {f : FuncId} {fn : Func} (hf : P.funcs[f]? = some fn) (hb : fn.body.isSome = true) (hn : (fn.name == "runtime.NumGoroutine") = false)
    (args : Array Value) (w : World) : (callFunc f args).run P w = .ok (.enter f args) w := by
  unfold callFunc
  have hb' : fn.body.isNone = false := by cases h : fn.body <;> simp_all
  show Sem.run P (Sem.program fun p => _) w = _
  simp only [Sem.run]
  simp only [bind, Sem.bind, hf, hn, hb', Bool.false_eq_true, if_false]
  rfl
theorem mQ {g : dQ} {o : Oper} {w : World} {K : Value → World → Prop} (h : lG P ops g o w K) :
    ∃ v w', rH P ops g o w v w' ∧ K v w' := by
  unfold rH
  unfold lG at *
  split at h
  · obtain ⟨v, w', h1, h2⟩ := tN h
    exact ⟨v, w', h1, h2⟩
  · rename_i j want hg
    unfold Gd at *
    cases hb : iD g (jT ops j) want with
    | true =>
      simp only [hb] at h
      obtain ⟨v, w', h1, h2⟩ := tN h
      exact ⟨v, w', fun K hk => h1 K hk, h2⟩
    | false =>
      simp only [hb] at h
      exact ⟨_, _, fun K hk => hk, h⟩
theorem rG {N i : Nat} {g : dQ} {a : Act} {o : Oper} {w w' : World} {v : Value} {Q : Exit → Act → World → Prop} {next : Act → World → Prop}
    (hi : ops[i]? = some o) (hc : pI P o = true) (hr : pP N g a) (hy : rH P ops g o w v w') (hn : next (a.put o.dst v) w') : wpOp P ops Q i next a w := by
  have h := hy (fun v2 w2 => v2 = v ∧ w2 = w') ⟨rfl, rfl⟩
  unfold wpOp
  rw [hi]
  simp only [hr.wanted]
  have run : lP P g o w (fun v2 w2 => v2 = v ∧ w2 = w') → o.wp P a w next Q := by
    intro h
    have stp : bP P (mF g o) w (fun v2 w2 => v2 = v ∧ w2 = w') → o.upon P a next Q ((execOp (ev g) o).run P w) := by
      intro h
      rw [zV hc] at h
      unfold bP at h
      generalize (execOp (ev g) o).run P w = r at *
      match r, h with
      | .ok (.value v) w1, h => obtain ⟨rfl, rfl⟩ := h; exact hn
      | .ok .skip w1, h => obtain ⟨rfl, rfl⟩ := h; exact hn
      | .ok (.enter f args) w1, h =>
        obtain ⟨v2, w2, hret, rfl, rfl⟩ := h
        simp only [Oper.upon_enter]
        refine Calls.mono hret ?_
        rintro e w'' ⟨rfl, rfl⟩
        exact hn
    unfold Oper.wp
    rw [hr.evs]
    unfold lP at h
    split at h
    · rename_i x hx
      obtain ⟨rfl, rfl⟩ := h
      simp only [execOp, hx]; exact hn
    · rename_i x hx
      obtain ⟨rfl, rfl⟩ := h
      simp only [execOp, hx]; exact hn
    · rename_i c hx
      split at h
      · rename_i f hcal
        obtain ⟨v2, w2, hret, rfl, rfl⟩ := h
        have e : (execOp (ev g) o).run P w = .ok (.enter f (List.map (ev g) c.args.toList).toArray) w := by
          unfold pI at hc
          simp only [hx, hcal] at hc
          cases hfn : P.funcs[f]? with
          | none => rw [hfn] at hc; cases hc
          | some fn =>
            rw [hfn] at hc
            simp only [Bool.and_eq_true, Bool.not_eq_true'] at hc
            have ea : (List.map (ev g) c.args.toList).toArray = c.args.map (ev g) := by obtain ⟨l⟩ := c.args; simp
            rw [ea]
            simp only [execOp, hx, resolve, hcal, ev, Deferred.ofValue, pure_bind, invoke]
            simp only [Array.empty_append, Array.append_empty]
            exact tT hfn hc.1 hc.2 _ w
        rw [e]
        simp only [Oper.upon_enter]
        refine Calls.mono hret ?_
        rintro e w'' ⟨rfl, rfl⟩
        exact hn
      · exact stp h
    · exact stp h
  unfold lG at h
  cases hg : o.guard with
  | none =>
    rw [hg] at h
    simp only [if_true]
    exact .inl (run h)
  | some p =>
    obtain ⟨j, want⟩ := p
    simp only [hg] at h
    simp only
    by_cases hb : iD g (jT ops j) want = true
    · rw [if_pos hb]
      simp only [hb, Gd] at h
      exact .inl (run h)
    · rw [if_neg hb]
      have hb' : iD g (jT ops j) want = false := by simpa using hb
      simp only [hb', Gd] at h
      obtain ⟨rfl, rfl⟩ := h
      exact hn
def rU (N : Nat) (ops : Array Oper) : Prop := ∀ (i : Nat) (o : Oper), ops[i]? = some o → ∀ t, o.dst = some t → t < N
def qN (P : Program) (ops : Array Oper) : Prop := ∀ (i : Nat) (o : Oper), ops[i]? = some o → pI P o = true
theorem xQ {N : Nat} (hd : rU N ops) (hca : qN P ops) {Q : Exit → Act → World → Prop} {K : dQ → World → Prop}
    (hQ : ∀ g a w, pP N g a → K g w → Q .normal a w) :
    ∀ (l : List Oper) (k : Nat) (g : dQ) (a : Act) (w : World), (∀ j, l[j]? = ops[k + j]?) → pP N g a → rZ P ops l g w K →
      wpOps P ops Q (List.range' k l.length) a w := by
  intro l
  induction l with
  | nil => intro k g a w _ hr h; exact hQ _ _ _ hr h
  | cons o l ih =>
    intro k g a w hl hr h
    have h0 : ops[k]? = some o := by have := hl 0; simpa using this.symm
    obtain ⟨v, w', hy, hk⟩ := mQ h
    rw [List.length_cons, List.range'_succ, wpOps_cons]
    refine rG h0 (hca k o h0) hr hy ?_
    refine ih (k + 1) _ _ _ (fun j => ?_) (hr.put _ _ (hd k o h0)) hk
    have := hl (j + 1)
    simp only [List.getElem?_cons_succ] at this
    rw [this]; congr 1; omega
def rK (an : wU) (O : Nat → Oper) (G : Nat → dQ) (W : Nat → World) (V : Nat → Value) (i : Nat) : zZ :=
  ⟨fM i an.1, O i, G i, W i, V i⟩
def wZ (P : Program) (ops : Array Oper) (an : wU) (O : Nat → Oper) (G : Nat → dQ) (W : Nat → World) (V : Nat → Value) (i j : Nat) : Prop :=
  qJ P ops (rK an O G W V i) (O j) (G j) (W (j + 1)) (V j)
structure yH (P : Program) (ops : Array Oper) (an : wU) (g0 : dQ) (w0 : World) (n : Nat) (O : Nat → Oper) (G : Nat → dQ) (W : Nat → World) (V : Nat → Value) : Prop where
  g0 : G 0 = g0
  w0 : W 0 = w0
  op : ∀ i, i < n → ops[i]? = some (O i)
  yld : ∀ i, i < n → rH P ops (G i) (O i) (W i) (V i) (W (i + 1))
  light : ∀ i, i < n → fM i an.1 = false → W (i + 1) = W i
  env : ∀ i, i < n → G (i + 1) = put (G i) (O i).dst (V i)
  chk : ∀ i j, i < j → j < n → sF i j an.2 = true → wZ P ops an O G W V i j
theorem uH {o : Oper} {g : dQ} {w' : World} {v : Value} {hist : List zZ} : ∀ {ks : List Nat}, Az P ops o g w' v hist ks → ∀ k ∈ ks, ∃ q, vG hist k = some q ∧ qJ P ops q o g w' v := by
  intro ks
  induction ks with
  | nil => intro _ k hk; cases hk
  | cons a ks ih =>
    rintro ⟨h1, h2⟩ k hk
    rcases List.mem_cons.1 hk with rfl | hk
    · cases hn : vG hist k with
      | none => rw [hn] at h1; exact h1.elim
      | some q => rw [hn] at h1; exact ⟨q, rfl, h1⟩
    · exact ih h2 k hk
theorem xR {n : Nat} {an : wU} {pl : vE} (h : sP n an pl = true) {i : Nat} (hi : i < n) :
    ∃ ks, pl[i]? = some (fM i an.1, ks) ∧ ∀ j, sF j i an.2 = true → j < i ∧ (i - 1 - j) ∈ ks := by
  have := List.all_eq_true.1 h i (List.mem_range.2 hi)
  cases hp : pl[i]? with
  | none => rw [hp] at this; cases this
  | some p =>
    obtain ⟨hv, ks⟩ := p
    rw [hp] at this
    simp only [Bool.and_eq_true] at this
    obtain ⟨h1, h2⟩ := this
    have h1 : hv = fM i an.1 := by simpa using h1
    refine ⟨ks, by rw [h1], fun j hj => ?_⟩
    have mm : ∀ (l : List (Nat × Nat)), sF j i l = true → (j, i) ∈ l := by
      intro l
      induction l with
      | nil => intro h; cases h
      | cons q r ih =>
        obtain ⟨a, b⟩ := q
        intro h
        unfold sF at h
        cases ha : Nat.beq a j with
        | true =>
          simp only [ha] at h
          cases hb : Nat.beq b i with
          | true =>
            obtain rfl := Nat.eq_of_beq_eq_true ha
            obtain rfl := Nat.eq_of_beq_eq_true hb
            exact List.mem_cons_self
          | false => simp only [hb] at h; exact List.mem_cons_of_mem _ (ih h)
        | false => simp only [ha] at h; exact List.mem_cons_of_mem _ (ih h)
    have := List.all_eq_true.1 h2 (j, i) (mm _ hj)
    simp only [Nat.beq_refl, Bool.not_true, Bool.false_or, Bool.and_eq_true] at this
    refine ⟨?_, by simpa using this.2⟩
    have hlt := this.1
    exact (Nat.blt_eq (x := j) (y := i)) ▸ hlt
theorem uW {an : wU} {pl : vE} {g0 : dQ} {w0 : World} {K : dQ → World → Prop} (hpl : sP ops.size an pl = true) :
    ∀ (l : List Oper) (m : Nat) (hist : List zZ) (O : Nat → Oper) (G : Nat → dQ) (W : Nat → World) (V : Nat → Value),
      (∀ j, l[j]? = ops[m + j]?) → m + l.length = ops.size → yH P ops an g0 w0 m O G W V → (∀ i, i < m → vG hist (m - 1 - i) = some (rK an O G W V i)) →
      fV P ops l (pl.drop m) hist (G m) (W m) K →
      ∃ (O : Nat → Oper) (G : Nat → dQ) (W : Nat → World) (V : Nat → Value), yH P ops an g0 w0 (m + l.length) O G W V ∧ K (G (m + l.length)) (W (m + l.length)) := by
  intro l
  induction l with
  | nil => intro m hist O G W V _ _ hr _ h; exact ⟨O, G, W, V, hr, by unfold fV at h; exact h⟩
  | cons o l ih =>
    intro m hist O G W V hl hlen hr hh h
    have h0 : ops[m]? = some o := by have := hl 0; simpa using this.symm
    have hmn : m < ops.size := by rw [List.length_cons] at hlen; omega
    obtain ⟨ks, hk1, hk2⟩ := xR hpl hmn
    have hdrop : pl.drop m = (fM m an.1, ks) :: pl.drop (m + 1) := by
      have hlt : m < pl.length := by
        rcases Nat.lt_or_ge m pl.length with h | h
        · exact h
        · rw [List.getElem?_eq_none h] at hk1; cases hk1
      rw [List.drop_eq_getElem_cons hlt]
      rw [List.getElem?_eq_getElem hlt] at hk1
      rw [Option.some.inj hk1]
    rw [hdrop] at h
    obtain ⟨v, w', hy, hk⟩ := mQ h
    have key : (fM m an.1 = false → w' = W m) ∧ (∀ k ∈ ks, ∃ q, vG hist k = some q ∧ qJ P ops q o (G m) w' v) ∧
        (fV P ops l (pl.drop (m + 1)) (⟨fM m an.1, o, G m, W m, v⟩ :: hist) (put (G m) o.dst v) w' K) := by
      have nil : ∀ w', ∀ k ∈ ([] : List Nat), ∃ q, vG hist k = some q ∧ qJ P ops q o (G m) w' v := fun _ k hk => (by cases hk)
      cases hm : fM m an.1 with
      | true =>
        rw [hm] at hk
        cases ks with
        | nil => exact ⟨fun e => (by cases e), nil _, hk⟩
        | cons k ks => exact ⟨fun e => (by cases e), uH hk.1, hk.2⟩
      | false =>
        rw [hm] at hk
        cases ks with
        | nil => obtain ⟨rfl, hk⟩ := hk; exact ⟨fun _ => rfl, nil _, hk⟩
        | cons k ks => obtain ⟨rfl, hc, hk⟩ := hk; exact ⟨fun _ => rfl, uH hc, hk⟩
    obtain ⟨kl, c1, c2⟩ := key
    let O' : Nat → Oper := fun i => if i = m then o else O i
    let V' : Nat → Value := fun i => if i = m then v else V i
    let G' : Nat → dQ := fun i => if i = m + 1 then put (G m) o.dst v else G i
    let W' : Nat → World := fun i => if i = m + 1 then w' else W i
    have eO : ∀ i, i < m → O' i = O i := fun i hi => if_neg (by omega)
    have eV : ∀ i, i < m → V' i = V i := fun i hi => if_neg (by omega)
    have eG : ∀ i, i ≤ m → G' i = G i := fun i hi => if_neg (by omega)
    have eW : ∀ i, i ≤ m → W' i = W i := fun i hi => if_neg (by omega)
    have oO : O' m = o := if_pos rfl
    have oV : V' m = v := if_pos rfl
    have oG : G' (m + 1) = put (G m) o.dst v := if_pos rfl
    have oW : W' (m + 1) = w' := if_pos rfl
    have eR : ∀ i, i < m → rK an O' G' W' V' i = rK an O G W V i := fun i hi => by
      simp only [rK, eO i hi, eV i hi, eG i (by omega), eW i (by omega)]
    have hr' : yH P ops an g0 w0 (m + 1) O' G' W' V' := by
      refine ⟨by rw [eG 0 (by omega)]; exact hr.g0, by rw [eW 0 (by omega)]; exact hr.w0, fun i hi => ?_, fun i hi => ?_, fun i hi hm => ?_, fun i hi => ?_, fun i j hij hj hm => ?_⟩
      · by_cases hi' : i = m
        · subst hi'; rw [oO]; exact h0
        · rw [eO i (by omega)]; exact hr.op i (by omega)
      · by_cases hi' : i = m
        · subst hi'; rw [oO, oV, oW, eG i (by omega), eW i (by omega)]; exact hy
        · rw [eO i (by omega), eV i (by omega), eG i (by omega), eW i (by omega), eW (i + 1) (by omega)]; exact hr.yld i (by omega)
      · by_cases hi' : i = m
        · subst hi'; rw [oW, eW i (by omega)]; exact kl hm
        · rw [eW i (by omega), eW (i + 1) (by omega)]; exact hr.light i (by omega) hm
      · by_cases hi' : i = m
        · subst hi'; rw [oO, oV, oG, eG i (by omega)]
        · rw [eO i (by omega), eV i (by omega), eG i (by omega), eG (i + 1) (by omega)]; exact hr.env i (by omega)
      · unfold wZ
        by_cases hj' : j = m
        · subst hj'
          rw [eR i (by omega), oO, oV, oW, eG j (by omega)]
          obtain ⟨q, hq, hc⟩ := c1 _ (hk2 i hm).2
          rw [hh i hij] at hq
          obtain rfl := Option.some.inj hq
          exact hc
        · rw [eR i (by omega), eO j (by omega), eV j (by omega), eG j (by omega), eW (j + 1) (by omega)]
          exact hr.chk i j hij (by omega) hm
    have := ih (m + 1) (⟨fM m an.1, o, G m, W m, v⟩ :: hist) O' G' W' V' (fun j => by
        have := hl (j + 1)
        simp only [List.getElem?_cons_succ] at this
        rw [this]; congr 1; omega) (by rw [List.length_cons] at hlen; omega) hr' (fun i hi => by
        by_cases hi' : i = m
        · subst hi'
          rw [show i + 1 - 1 - i = 0 from by omega]
          simp only [vG, rK, oO, oV, eG i (by omega), eW i (by omega)]
        · rw [eR i (by omega), show m + 1 - 1 - i = (m - 1 - i) + 1 from by omega]
          exact hh i (by omega)) (by rw [oG, oW]; exact c2)
    rw [List.length_cons, show m + (l.length + 1) = m + 1 + l.length from by omega]
    exact this
end
end Go.En
namespace Go.En
open Go
section
variable {P : Program} {ops : Array Oper} {an : wU} {g0 : dQ} {w0 : World} {O : Nat → Oper} {G : Nat → dQ} {W : Nat → World} {V : Nat → Value}
def mT (n : Nat) (O : Nat → Oper) (V : Nat → Value) (g0 : dQ) (S : Nat → Prop) (g : dQ) : Prop :=
  ∀ s, (∃ j, j < n ∧ S j ∧ (O j).dst = some s ∧ (∀ k, k < n → S k → (O k).dst = some s → k ≤ j) ∧ g s = V j) ∨
    ((∀ j, j < n → S j → (O j).dst ≠ some s) ∧ g s = g0 s)
theorem mT.agree {n : Nat} {S T : Nat → Prop} {g g' : dQ} (h : mT n O V g0 S g) (h' : mT n O V g0 T g') (s : Nat)
    (hs : ∀ j, j < n → (O j).dst = some s → (S j ↔ T j)) : g s = g' s := by
  rcases h s with ⟨j, h1, h2, h3, h4, h5⟩ | ⟨h1, h2⟩ <;> rcases h' s with ⟨k, k1, k2, k3, k4, k5⟩ | ⟨k1, k2⟩
  · have a := h4 k k1 ((hs k k1 k3).2 k2) k3
    have b := k4 j h1 ((hs j h1 h3).1 h2) h3
    have : j = k := by omega
    subst this; rw [h5, k5]
  · exact absurd h3 (k1 j h1 ((hs j h1 h3).1 h2))
  · exact absurd k3 (h1 k k1 ((hs k k1 k3).2 k2))
  · rw [h2, k2]
theorem mT.step {n : Nat} {S : Nat → Prop} {g : dQ} (h : mT n O V g0 S g) (i : Nat) (hi : i < n)
    (hw : ∀ s, (O i).dst = some s → ∀ j, j < n → j ≠ i → (O j).dst = some s → S j → j < i) :
    mT n O V g0 (fun j => S j ∨ j = i) (put g (O i).dst (V i)) := by
  intro s
  cases hd : (O i).dst with
  | none =>
    rcases h s with ⟨j, h1, h2, h3, h4, h5⟩ | ⟨h1, h2⟩
    · refine .inl ⟨j, h1, .inl h2, h3, fun k k1 k2 k3 => ?_, h5⟩
      rcases k2 with k2 | rfl
      · exact h4 k k1 k2 k3
      · rw [hd] at k3; cases k3
    · refine .inr ⟨fun j h3 h4 h5 => ?_, h2⟩
      rcases h4 with h4 | rfl
      · exact h1 j h3 h4 h5
      · rw [hd] at h5; cases h5
  | some t =>
    rw [sL]
    by_cases hst : s = t
    · subst hst
      rw [if_pos rfl]
      refine .inl ⟨i, hi, .inr rfl, hd, fun k k1 k2 k3 => ?_, rfl⟩
      rcases k2 with k2 | rfl
      · by_cases hk : k = i
        · omega
        · have := hw s hd k k1 hk k3 k2; omega
      · omega
    · rw [if_neg hst]
      rcases h s with ⟨j, h1, h2, h3, h4, h5⟩ | ⟨h1, h2⟩
      · refine .inl ⟨j, h1, .inl h2, h3, fun k k1 k2 k3 => ?_, h5⟩
        rcases k2 with k2 | rfl
        · exact h4 k k1 k2 k3
        · rw [hd] at k3; exact absurd (Option.some.inj k3).symm hst
      · refine .inr ⟨fun j h3 h4 h5 => ?_, h2⟩
        rcases h4 with h4 | rfl
        · exact h1 j h3 h4 h5
        · rw [hd] at h5; exact absurd (Option.some.inj h5).symm hst
theorem yH.envFor {n : Nat} (r : yH P ops an g0 w0 n O G W V) : ∀ i, i ≤ n → mT n O V g0 (fun j => j < i) (G i) := by
  intro i
  induction i with
  | zero => intro _ s; exact .inr ⟨fun j _ h => absurd h (by omega), by rw [r.g0]⟩
  | succ i ih =>
    intro hi
    have h := ih (by omega)
    have := h.step (V := V) i (by omega) (fun s _ j _ _ _ hj => hj)
    rw [← r.env i (by omega)] at this
    intro s
    rcases this s with ⟨j, h1, h2, h3, h4, h5⟩ | ⟨h1, h2⟩
    · exact .inl ⟨j, h1, by omega, h3, fun k k1 k2 k3 => h4 k k1 (by omega) k3, h5⟩
    · exact .inr ⟨fun j a b => h1 j a (by omega), h2⟩
theorem yH.still {n : Nat} (r : yH P ops an g0 w0 n O G W V) (i : Nat) : ∀ d, i + d ≤ n → (∀ h, i ≤ h → h < i + d → fM h an.1 = false) → W (i + d) = W i := by
  intro d
  induction d with
  | zero => intro _ _; rfl
  | succ d ih =>
    intro h1 h2
    rw [← Nat.add_assoc, r.light (i + d) (by omega) (h2 _ (by omega) (by omega))]
    exact ih (by omega) (fun h a b => h2 h a (by omega))
theorem yH.still' {n : Nat} (r : yH P ops an g0 w0 n O G W V) {i k : Nat} (hik : i ≤ k) (hk : k ≤ n) (hh : ∀ h, i ≤ h → h < k → fM h an.1 = false) : W k = W i := by
  have := r.still i (k - i) (by omega) (fun h a b => hh h a (by omega))
  rwa [show i + (k - i) = k from by omega] at this
theorem uL {i k : Nat} : (∃ h, i ≤ h ∧ h < k ∧ fM h an.1 = true) → ∃ h, i ≤ h ∧ h < k ∧ fM h an.1 = true ∧ ∀ h', i ≤ h' → h' < h → fM h' an.1 = false := by
  rintro ⟨h, h1, h2, h3⟩
  induction h using Nat.strongRecOn with
  | _ h ih =>
    by_cases hx : ∃ h', i ≤ h' ∧ h' < h ∧ fM h' an.1 = true
    · obtain ⟨h', a, b, c⟩ := hx
      exact ih h' b a (by omega) c
    · refine ⟨h, h1, h2, h3, fun h' a b => ?_⟩
      cases hm : fM h' an.1
      · rfl
      · exact absurd ⟨h', a, b, hm⟩ hx
theorem sB {i k : Nat} : (∃ h, i ≤ h ∧ h < k ∧ fM h an.1 = true) → ∃ h, i ≤ h ∧ h < k ∧ fM h an.1 = true ∧ ∀ h', h < h' → h' < k → fM h' an.1 = false := by
  rintro ⟨h, h1, h2, h3⟩
  induction hd : k - h using Nat.strongRecOn generalizing h with
  | _ d ih =>
    by_cases hx : ∃ h', h < h' ∧ h' < k ∧ fM h' an.1 = true
    · obtain ⟨h', a, b, c⟩ := hx
      exact ih (k - h') (by omega) h' (by omega) b c rfl
    · refine ⟨h, h1, h2, h3, fun h' a b => ?_⟩
      cases hm : fM h' an.1
      · rfl
      · exact absurd ⟨h', a, b, hm⟩ hx
structure sN (ops : Array Oper) (an : wU) (O : Nat → Oper) (b : Array Nat) : Prop where
  back : ∀ i, i < ops.size → ∀ e ∈ (O i).after, Region.binds .any e = true → e.on < i
  closed : ∀ i j, i < ops.size → j < ops.size → yF b i j = true → ∃ e ∈ (O j).after, Region.binds .any e = true ∧ (e.on = i ∨ yF b i e.on = true)
  pair : ∀ i j, i < j → j < ops.size → pM ops b an i j (O i) (O j) = true
  sel : ∀ i, i < ops.size → vD (O i) = false
  fn : ∀ i, i < ops.size → zE (O i) = true → fM i an.1 = true
theorem yD (h : sD ops an = true) (ho : ∀ i, i < ops.size → ops[i]? = some (O i)) : sN ops an O (Region.before ops) := by
  unfold sD at h
  simp only [Bool.and_eq_true] at h
  obtain ⟨⟨⟨⟨h1, h2⟩, h3⟩, h5⟩, h6⟩ := h
  refine ⟨fun i hi e he hb => ?_, fun i j hi hj hb => ?_, fun i j hij hj => ?_, fun i hi => ?_, fun i hi hf => ?_⟩
  · unfold tS at h1
    have := List.all_eq_true.1 h1 i (List.mem_range.2 hi)
    rw [ho i hi] at this
    have := Array.all_eq_true'.1 this e he
    simp only [hb, Bool.not_true, Bool.false_or] at this
    exact (Nat.blt_eq (x := e.on) (y := i)) ▸ this
  · unfold tF at h2
    have := List.all_eq_true.1 (List.all_eq_true.1 h2 j (List.mem_range.2 hj)) i (List.mem_range.2 hi)
    rw [ho j hj] at this
    simp only [hb, Bool.not_true, Bool.false_or] at this
    obtain ⟨e, he, h⟩ := Array.any_eq_true'.1 this
    simp only [Bool.and_eq_true, Bool.or_eq_true] at h
    refine ⟨e, he, h.1, h.2.imp (fun h => Nat.eq_of_beq_eq_true h) id⟩
  · unfold uT at h3
    have := List.all_eq_true.1 (List.all_eq_true.1 h3 j (List.mem_range.2 hj)) i (List.mem_range.2 hij)
    rw [ho i (by omega), ho j hj] at this
    exact this
  · have := Array.all_eq_true'.1 h5 (O i) (Array.mem_of_getElem? (ho i hi))
    simpa using this
  · have := List.all_eq_true.1 h6 i (List.mem_range.2 hi)
    rw [ho i hi] at this
    simpa [hf] using this
theorem zA {i j : Nat} : ∀ {l : List (Nat × Nat)}, sF i j l = true → (i, j) ∈ l := by
  intro l
  induction l with
  | nil => intro h; cases h
  | cons p r ih =>
    obtain ⟨a, b⟩ := p
    intro h
    unfold sF at h
    cases ha : Nat.beq a i with
    | true =>
      simp only [ha] at h
      cases hb : Nat.beq b j with
      | true =>
        obtain rfl := Nat.eq_of_beq_eq_true ha
        obtain rfl := Nat.eq_of_beq_eq_true hb
        exact List.mem_cons_self
      | false => simp only [hb] at h; exact List.mem_cons_of_mem _ (ih h)
    | false => simp only [ha] at h; exact List.mem_cons_of_mem _ (ih h)
theorem sN.order {b : Array Nat} (st : sN ops an O b) {S : Nat → Prop} {i : Nat} (hi : i < ops.size)
    (hdown : ∀ j k, j < ops.size → k < ops.size → S k → yF b j k = true → S j) (hbi : ∀ j, j < ops.size → yF b j i = true → S j) (hni : ¬ S i)
    {s : Nat} (hs : s ∈ rL ops (O i) ∨ (O i).dst = some s) {j : Nat} (hj : j < ops.size) (hji : j ≠ i) (hd : (O j).dst = some s) : S j ↔ j < i := by
  rcases Nat.lt_or_ge j i with h | h
  · refine ⟨fun _ => h, fun _ => ?_⟩
    have p := st.pair j i h hi
    unfold pM at p
    simp only [Bool.or_eq_true, Bool.and_eq_true, Bool.not_eq_true'] at p
    rcases p with p | p
    · exact hbi j hj p
    · exfalso
      have p1 := p.1
      unfold yU at p1
      simp only [hd, Bool.or_eq_false_iff] at p1
      rcases hs with hs | hs
      · have := p1.1.1; simp [hs] at this
      · have := p1.1.2; simp [hs] at this
  · have h' : i < j := by omega
    refine ⟨fun hS => ?_, fun hh => by omega⟩
    exfalso
    have p := st.pair i j h' hj
    unfold pM at p
    simp only [Bool.or_eq_true, Bool.and_eq_true, Bool.not_eq_true'] at p
    rcases p with p | p
    · exact hni (hdown i j hi hj hS p)
    · have p1 := p.1
      unfold yU at p1
      simp only [hd, Bool.or_eq_false_iff] at p1
      rcases hs with hs | hs
      · have := p1.2; simp [hs] at this
      · have := p1.1; rw [hs] at this; simp at this
theorem mC {g g' : dQ} {o : Oper} (h : ∀ s ∈ rL ops o, g s = g' s) : ∀ x ∈ o.op.operands, ev g x = ev g' x := by
  intro x hx
  cases x with
  | tmp t => exact h t (List.mem_append_left _ (List.mem_filterMap.2 ⟨.tmp t, by simpa using hx, rfl⟩))
  | _ => rfl
theorem uM {g g' : dQ} {o : Oper} (hs : vD o = false) (h : ∀ s ∈ rL ops o, g s = g' s) : mF g o = mF g' o := by
  have e := execOp_congr o (fun cs b he => by simp [vD, he] at hs) (mC h)
  have k := mC h
  unfold mF
  split
  · rename_i op t x y yt hx
    rw [k x (by simp [hx, Op.operands]), k y (by simp [hx, Op.operands])]
  · rename_i t ps hx
    congr 1
    refine List.map_congr_left fun p hp => ?_
    rw [k p.2 (by simp [hx, Op.operands]; exact ⟨p.1, by simpa using hp⟩)]
  · rename_i t n ps hx
    congr 1
    refine List.map_congr_left fun p hp => ?_
    rw [k p.2 (by simp [hx, Op.operands]; exact ⟨p.1, by simpa using hp⟩)]
  · rename_i c hx
    split
    · rename_i b hb
      congr 1
      refine List.map_congr_left fun p hp => ?_
      exact k p (by simp [hx, Op.operands, Call.operands, hb]; simpa using hp)
    · exact e
  · exact e
theorem sT {g g' : dQ} {o : Oper} {j : Nat} {want : Bool} (hg : o.guard = some (j, want)) (h : ∀ s ∈ rL ops o, g s = g' s) :
    iD g (jT ops j) want = iD g' (jT ops j) want := by
  cases hs : jT ops j with
  | none => rfl
  | some t =>
    have := h t (List.mem_append_right _ (by simp [hg, hs]))
    simp [iD, this]
theorem qO {g g' : dQ} {o : Oper} {w : World} {K : Value → World → Prop} (hs : vD o = false) (h : ∀ s ∈ rL ops o, g s = g' s)
    (hk : lG P ops g o w K) : lG P ops g' o w K := by
  have e := uM (ops := ops) hs h
  have run : lP P g o w = lP P g' o w := by
    funext K
    unfold lP
    split
    · rename_i x hx
      have := mC (ops := ops) h x (by simp [hx, Op.operands])
      rw [this]
    · rename_i x hx
      have := mC (ops := ops) h x (by simp [hx, Op.operands])
      rw [this]
    · rename_i c hx
      have k := mC h
      have : List.map (ev g) c.args.toList = List.map (ev g') c.args.toList := List.map_congr_left fun p hp => k p (by simp [hx, Op.operands, Call.operands]; exact .inr (by simpa using hp))
      rw [this, e]
    · rw [e]
  unfold lG at *
  cases hg : o.guard with
  | none => rw [hg] at hk; simp only at hk ⊢; rwa [← run]
  | some p =>
    obtain ⟨j, want⟩ := p
    simp only [hg] at hk ⊢
    rw [← run, ← sT hg h]
    exact hk
theorem uS {n : Nat} (hn : n = ops.size) {b : Array Nat} (r : yH P ops an g0 w0 n O G W V) (st : sN ops an O b) {S : Nat → Prop} {i k : Nat} (hi : i < n) (hk : k ≤ n)
    (hdown : ∀ j k, j < ops.size → k < ops.size → S k → yF b j k = true → S j) (hbi : ∀ j, j < ops.size → yF b j i = true → S j) (hni : ¬ S i)
    (hS : ∀ h, h < n → fM h an.1 = true → (S h ↔ h < k)) (hl : fM i an.1 = false) :
    rH P ops (G i) (O i) (W k) (V i) (W k) := by
  subst hn
  have same : Gs (A6 ops (O i) (G i)) (dE P (mF (G i) (O i)) (V i) (W k)) → mN (O i) = false → rH P ops (G i) (O i) (W k) (V i) (W k) := by
    intro hs hm K hK
    have run : dE P (mF (G i) (O i)) (V i) (W k) → lP P (G i) (O i) (W k) K := by
      intro hs
      unfold dE at hs
      have stp : bP P (mF (G i) (O i)) (W k) K := by unfold bP; rw [hs]; exact hK
      unfold lP
      split
      · rename_i x hx; simp [mN, hx] at hm
      · rename_i x hx; simp [mN, hx] at hm
      · rename_i c hx
        have hf : zE (O i) = false := by
          cases hh : zE (O i)
          · rfl
          · rw [st.fn i hi hh] at hl; cases hl
        obtain ⟨cal, cargs, cats⟩ := c
        cases cal with
        | value f =>
          cases f with
          | func f => simp [zE, hx] at hf
          | _ => exact stp
        | _ => exact stp
      · exact stp
    have hy := r.yld i hi (fun v _ => v = V i) rfl
    unfold lG at hy ⊢
    unfold A6 at hs
    cases hg : (O i).guard with
    | none => rw [hg] at hs; exact run hs
    | some p =>
      obtain ⟨j, want⟩ := p
      rw [hg] at hs
      simp only [hg] at hs hy ⊢
      cases hb : iD (G i) (jT ops j) want with
      | true => rw [hb] at hs; exact run hs
      | false =>
        rw [hb] at hy
        have : undef = V i := hy
        show K undef (W k)
        rw [this]; exact hK
  have moved : mN (O i) = true → rH P ops (G i) (O i) (W k) (V i) (W k) := by
    intro hm K hK
    have hy := r.yld i hi (fun v _ => v = V i) rfl
    unfold lG at hy ⊢
    have mv : ∀ (K' : Value → World → Prop) w, lP P (G i) (O i) w K' ↔ ∃ x, ((O i).op = .move x ∨ (O i).op = .assign x) ∧ K' (ev (G i) x) w := by
      intro K' w
      unfold lP
      unfold mN at hm
      split
      · rename_i x hx; constructor
        · intro h; exact ⟨x, .inl hx, h⟩
        · rintro ⟨y, h | h, h'⟩
          · rw [hx] at h; cases h; exact h'
          · rw [hx] at h; cases h
      · rename_i x hx; constructor
        · intro h; exact ⟨x, .inr hx, h⟩
        · rintro ⟨y, h | h, h'⟩
          · rw [hx] at h; cases h
          · rw [hx] at h; cases h; exact h'
      · rename_i c hx; simp [hx] at hm
      · rename_i h1 h2 _; split at hm
        · rename_i x hx; exact absurd hx (h1 x)
        · rename_i x hx; exact absurd hx (h2 x)
        · cases hm
    cases hg : (O i).guard with
    | none =>
      rw [hg] at hy
      simp only at hy ⊢
      rw [mv] at hy ⊢
      obtain ⟨x, hx, h⟩ := hy
      exact ⟨x, hx, h ▸ hK⟩
    | some p =>
      obtain ⟨j, want⟩ := p
      simp only [hg] at hy ⊢
      unfold Gd at *
      cases hb : iD (G i) (jT ops j) want with
      | true =>
        simp only [hb] at hy ⊢
        rw [mv] at hy ⊢
        obtain ⟨x, hx, h⟩ := hy
        exact ⟨x, hx, h ▸ hK⟩
      | false =>
        simp only [hb] at hy ⊢
        rwa [hy]
  rcases Nat.le_total k i with hki | hki
  · by_cases hx : ∃ h, k ≤ h ∧ h < i ∧ fM h an.1 = true
    · obtain ⟨h, h1, h2, h3, h4⟩ := uL hx
      have e : W h = W k := r.still' h1 (by omega) h4
      have p := st.pair h i h2 hi
      unfold pM at p
      simp only [Bool.or_eq_true, Bool.and_eq_true, Bool.not_eq_true'] at p
      rcases p with p | p
      · have := hbi h (by omega) p
        have := (hS h (by omega) h3).1 this
        omega
      · have p2 := p.2
        rw [h3, hl] at p2
        simp only [Bool.or_eq_true] at p2
        cases hmv : mN (O i) with
        | true => exact moved hmv
        | false =>
          rcases p2 with p2 | p2
          · rw [hmv] at p2; cases p2
          · refine same ?_ hmv
            have c := r.chk h i h2 hi p2
            unfold wZ qJ rK at c
            simp only [h3] at c
            rw [← e]; exact c
    · have e : W i = W k := r.still' hki (by omega) (fun h a b => by
        cases hm : fM h an.1
        · rfl
        · exact absurd ⟨h, a, b, hm⟩ hx)
      have hy := r.yld i hi
      rw [r.light i hi hl, e] at hy
      exact hy
  · by_cases hx : ∃ h, i ≤ h ∧ h < k ∧ fM h an.1 = true
    · obtain ⟨h, h1, h2, h3, h4⟩ := sB hx
      have hne : h ≠ i := fun e => by rw [e, hl] at h3; cases h3
      have e : W k = W (h + 1) := r.still' (by omega) hk (fun h' a b => h4 h' (by omega) b)
      have p := st.pair i h (by omega) (by omega)
      unfold pM at p
      simp only [Bool.or_eq_true, Bool.and_eq_true, Bool.not_eq_true'] at p
      rcases p with p | p
      · exact absurd (hdown i h (by omega) (by omega) ((hS h (by omega) h3).2 h2) p) hni
      · have p2 := p.2
        rw [h3, hl] at p2
        simp only [Bool.or_eq_true] at p2
        cases hmv : mN (O i) with
        | true => exact moved hmv
        | false =>
          rcases p2 with p2 | p2
          · rw [hmv] at p2; cases p2
          · refine same ?_ hmv
            have c := r.chk i h (by omega) (by omega) p2
            unfold wZ qJ rK at c
            simp only [hl] at c
            rw [e]; exact c
    · have e : W k = W i := r.still' hki hk (fun h a b => by
        cases hm : fM h an.1
        · rfl
        · exact absurd ⟨h, a, b, hm⟩ hx)
      have hy := r.yld i hi
      rw [r.light i hi hl, ← e] at hy
      exact hy
def eF (listed : Array Bool) (i : Nat) : Prop := listed.getD i false = true
theorem yT {N n : Nat} (hn : n = ops.size) (hd : rU N ops) (hca : qN P ops) {b : Array Nat} (r : yH P ops an g0 w0 n O G W V) (st : sN ops an O b)
    {Q : Exit → Act → World → Prop} (hQ : ∀ a, pP N (G n) a → Q .normal a (W n)) :
    ∀ (fuel : Nat) (listed : Array Bool) (g : dQ) (a : Act) (k : Nat), listed.size = n → pP N g a → k ≤ n →
      (∀ j, j < n → eF listed j → ∀ e ∈ (O j).after, Region.binds .any e = true → eF listed e.on) →
      mT n O V g0 (eF listed) g → (∀ h, h < n → fM h an.1 = true → (eF listed h ↔ h < k)) →
      ((List.range n).filter fun i => !listed.getD i false).length ≤ fuel →
      wpAny P .any ops Q fuel listed a (W k) := by
  subst hn
  have ready_iff : ∀ (listed : Array Bool), listed.size = ops.size → ∀ i, i ∈ Region.ready .any ops listed ↔ (i < ops.size ∧ ¬ eF listed i ∧ ∀ e ∈ (O i).after, Region.binds .any e = true → eF listed e.on) := by
    intro listed hsz i
    unfold Region.ready eF
    rw [List.mem_filter, List.mem_range]
    constructor
    · rintro ⟨h1, h2⟩
      rw [r.op i h1] at h2
      simp only [Bool.and_eq_true, Option.map_some, Option.getD_some] at h2
      refine ⟨h1, ?_, fun e he hb => ?_⟩
      · have := h2.1
        rw [Array.getD_eq_getD_getElem?] at this ⊢
        rw [Array.getElem?_eq_getElem (by omega)] at this ⊢
        simpa using this
      · have := Array.all_eq_true'.1 h2.2 e he
        simpa [hb] using this
    · rintro ⟨h1, h2, h3⟩
      refine ⟨h1, ?_⟩
      rw [r.op i h1]
      simp only [Bool.and_eq_true, Option.map_some, Option.getD_some]
      refine ⟨?_, Array.all_eq_true'.2 fun e he => ?_⟩
      · rw [Array.getD_eq_getD_getElem?] at h2 ⊢
        rw [Array.getElem?_eq_getElem (by omega)] at h2 ⊢
        simpa using h2
      · by_cases hb : Region.binds .any e = true
        · simp [hb, h3 e he hb]
        · simp [hb]
  have none_ready : ∀ (listed : Array Bool), listed.size = ops.size → Region.ready .any ops listed = [] → ∀ i, i < ops.size → eF listed i := by
    intro listed hsz hr i
    induction i using Nat.strongRecOn with
    | _ i ih =>
      intro hi
      refine Classical.byContradiction fun hl => ?_
      have : i ∈ Region.ready .any ops listed := (ready_iff listed hsz i).2 ⟨hi, hl, fun e he hb => by
        have := st.back i hi e he hb
        exact ih e.on this (by omega)⟩
      rw [hr] at this; cases this
  have all_done : ∀ (listed : Array Bool) (g : dQ) (a : Act) (k : Nat), pP N g a → k ≤ ops.size → mT ops.size O V g0 (eF listed) g →
      (∀ h, h < ops.size → fM h an.1 = true → (eF listed h ↔ h < k)) → (∀ i, i < ops.size → eF listed i) → Q .normal a (W k) := by
    intro listed g a k hr hk he hh hall
    have e : W ops.size = W k := r.still' hk (Nat.le_refl _) (fun h h1 h2 => by
      cases hm : fM h an.1
      · rfl
      · have := (hh h h2 hm).1 (hall h h2); omega)
    have eg : g = G ops.size := funext fun s => he.agree (r.envFor ops.size (Nat.le_refl _)) s (fun j hj _ => ⟨fun _ => hj, fun _ => hall j hj⟩)
    rw [← e]; exact hQ a (eg ▸ hr)
  intro fuel
  induction fuel with
  | zero =>
    intro listed g a k hsz hr hk hdep henv hh hc
    have hall : ∀ i, i < ops.size → eF listed i := by
      intro i hi
      have hnil : ((List.range ops.size).filter fun i => !listed.getD i false) = [] := List.length_eq_zero_iff.1 (by omega)
      have := List.filter_eq_nil_iff.1 hnil i (List.mem_range.2 hi)
      unfold eF; simpa using this
    refine ⟨?_, all_done listed g a k hr hk henv hh hall⟩
    rw [List.eq_nil_iff_forall_not_mem]
    intro i hi
    have := (ready_iff listed hsz i).1 hi
    exact this.2.1 (hall i this.1)
  | succ fuel ih =>
    intro listed g a k hsz hr hk hdep henv hh hc
    refine ⟨fun hn => all_done listed g a k hr hk henv hh (none_ready listed hsz hn), fun i hi => ?_⟩
    obtain ⟨h1, h2, h3⟩ := (ready_iff listed hsz i).1 hi
    have hdown : ∀ k j, j < ops.size → k < ops.size → eF listed k → yF b j k = true → eF listed j := by
      intro k
      induction k using Nat.strongRecOn with
      | _ k ihk =>
        intro j hj hk hl hb
        obtain ⟨e, he, hbi, h⟩ := st.closed j k hj hk hb
        have hle := hdep k hk hl e he hbi
        rcases h with h | h
        · exact h ▸ hle
        · have hlt := st.back k hk e he hbi
          exact ihk e.on hlt j hj (by omega) hle h
    have hbi : ∀ j, j < ops.size → yF b j i = true → eF listed j := by
      intro j hj hb
      obtain ⟨e, he, hbi, h⟩ := st.closed j i hj h1 hb
      have hle := h3 e he hbi
      rcases h with h | h
      · exact h ▸ hle
      · have hlt := st.back i h1 e he hbi
        exact hdown e.on j hj (by omega) hle h
    have hdown' : ∀ j k, j < ops.size → k < ops.size → eF listed k → yF b j k = true → eF listed j := fun j k => hdown k j
    have hlooks : ∀ s ∈ rL ops (O i), (G i) s = g s := fun s hs =>
      (r.envFor i (by omega)).agree henv s (fun j hj hd => by
        by_cases hji : j = i
        · subst hji
          exact ⟨fun h => absurd h (by omega), fun h => absurd h h2⟩
        · exact (st.order h1 hdown' hbi h2 (.inl hs) hj hji hd).symm)
    have hl' : ∀ j, eF (listed.setIfInBounds i true) j ↔ (eF listed j ∨ j = i) := by
      intro j
      unfold eF
      rw [Array.getD_eq_getD_getElem?, Array.getD_eq_getD_getElem?]
      by_cases hji : j = i
      · subst hji
        rw [Array.getElem?_setIfInBounds_self_of_lt (by omega)]
        simp
      · rw [Array.getElem?_setIfInBounds_ne (fun e => hji e.symm)]
        simp [hji]
    have next : ∀ k', k' ≤ ops.size → (∀ h, h < ops.size → fM h an.1 = true → ((eF listed h ∨ h = i) ↔ h < k')) → rH P ops g (O i) (W k) (V i) (W k') →
        wpOp P ops Q i (wpAny P .any ops Q fuel (listed.setIfInBounds i true)) a (W k) := by
      intro k' hk' hh' hy
      refine rG (r.op i h1) (hca i _ (r.op i h1)) hr hy ?_
      refine ih _ (put g (O i).dst (V i)) _ k' (by simp [hsz]) (hr.put _ _ (hd i _ (r.op i h1))) hk' ?_ ?_ ?_ ?_
      · intro j hj hlj e he hb
        rw [hl'] at hlj ⊢
        rcases hlj with hlj | rfl
        · exact .inl (hdep j hj hlj e he hb)
        · exact .inl (h3 e he hb)
      · have := henv.step i h1 (fun s hs j hj hji hd hlj => (st.order h1 hdown' hbi h2 (.inr hs) hj hji hd).1 hlj)
        intro s
        rcases this s with ⟨j, j1, j2, j3, j4, j5⟩ | ⟨j1, j2⟩
        · exact .inl ⟨j, j1, (hl' j).2 j2, j3, fun k k1 k2 k3 => j4 k k1 ((hl' k).1 k2) k3, j5⟩
        · exact .inr ⟨fun j a b => j1 j a ((hl' j).1 b), j2⟩
      · intro h a b; rw [hl']; exact hh' h a b
      · have hin : i ∈ (List.range ops.size).filter fun i => !listed.getD i false :=
          List.mem_filter.2 ⟨List.mem_range.2 h1, by unfold eF at h2; simpa using h2⟩
        have e1 : ((List.range ops.size).filter fun j => !(listed.setIfInBounds i true).getD j false) = ((List.range ops.size).filter fun j => !listed.getD j false).filter fun j => j != i := by
          rw [List.filter_filter]
          refine List.filter_congr fun j _ => ?_
          have := hl' j
          unfold eF at this
          by_cases hji : j = i
          · have hh : (listed.setIfInBounds i true).getD j false = true := this.2 (.inr hji)
            rw [hh, hji]; simp
          · have hne : (j != i) = true := by simpa using hji
            rw [hne, Bool.true_and]
            cases ha : listed.getD j false with
            | true => rw [this.2 (.inl ha)]
            | false =>
              cases hb : (listed.setIfInBounds i true).getD j false with
              | false => rfl
              | true => rcases this.1 hb with h | h
                        · rw [ha] at h; cases h
                        · exact absurd h hji
        have hnd : ((List.range ops.size).filter fun j => !listed.getD j false).Nodup := List.nodup_range.filter _
        rw [e1, ← List.Nodup.erase_eq_filter hnd, List.length_erase_of_mem hin]
        omega
    cases hm : fM i an.1 with
    | true =>
      have hS : ∀ h, h < ops.size → fM h an.1 = true → (eF listed h ↔ h < i) := by
        intro h hh1 hhm
        rcases Nat.lt_trichotomy h i with hlt | heq | hgt
        · refine ⟨fun _ => hlt, fun _ => ?_⟩
          have p := st.pair h i hlt h1
          unfold pM at p
          rw [hhm, hm] at p
          simp only [Bool.or_eq_true, Bool.and_eq_true, Bool.false_eq_true, and_false, or_false] at p
          exact hbi h hh1 p
        · subst heq; exact ⟨fun hh => absurd hh h2, fun hh => absurd hh (by omega)⟩
        · refine ⟨fun hl => ?_, fun hh => absurd hh (by omega)⟩
          have p := st.pair i h hgt hh1
          unfold pM at p
          rw [hhm, hm] at p
          simp only [Bool.or_eq_true, Bool.and_eq_true, Bool.false_eq_true, and_false, or_false] at p
          exact absurd (hdown h i h1 hh1 hl p) h2
      have eW : W k = W i := by
        rcases Nat.le_total k i with hki | hki
        · exact (r.still' hki (by omega) (fun h a b => by
            cases hx : fM h an.1
            · rfl
            · have := (hh h (by omega) hx).1 ((hS h (by omega) hx).2 b); omega)).symm
        · exact r.still' hki hk (fun h a b => by
            cases hx : fM h an.1
            · rfl
            · have := (hS h (by omega) hx).1 ((hh h (by omega) hx).2 b); omega)
      refine next (i + 1) (by omega) (fun h a b => ?_) ?_
      · rw [hS h a b]; omega
      · rw [eW]
        intro K hK
        exact qO (ops := ops) (st.sel i h1) hlooks (r.yld i h1 K hK)
    | false =>
      refine next k hk (fun h a b => ?_) ?_
      · rw [← hh h a b]
        constructor
        · rintro (h' | rfl)
          · exact h'
          · rw [hm] at b; cases b
        · exact .inl
      · intro K hK
        exact qO (ops := ops) (st.sel i h1) hlooks (uS rfl r st h1 hk hdown' hbi h2 hh hm K hK)
end
end Go.En
namespace Go.En
open Go
def vV (P : Program) (f : FuncId) (c : Code) (Q : Exit → Act → World → Prop) (a : Act) (w : World) : Prop :=
  ∀ (b : Frame) (k : List Item) (cs : List Frame), b.fn = f → ∃ e a' w', Q e a' w' ∧ Arrives P (lone (b.at a (.code c :: k)) cs w) b k cs e a' w'
section
variable {P : Program} {f : FuncId} {Q : Exit → Act → World → Prop} {a : Act} {w : World}
theorem sC {c : Code} (h : c.wp P Q a w) : vV P f c Q a w := fun b k cs _ => h b k cs
theorem As {x y : Code} (h : vV P f x (Exit.then (vV P f y Q) Q) a w) : vV P f (.seq x y) Q a w := by
  intro b k cs hb
  obtain ⟨e, a1, w1, hq, har⟩ := h b (.code y :: k) cs hb
  cases e with
  | normal =>
    obtain ⟨e2, a2, w2, hq2, har2⟩ := hq b k cs hb
    exact ⟨e2, a2, w2, hq2, .of_steps (.head step_seq har) har2⟩
  | _ => exact ⟨_, a1, w1, hq, .of_steps (.one step_seq) (.pass (x := .code y) rfl (fun _ _ => .inl (by simp)) har)⟩
theorem yL {c : Operand} {x y : Code} {t : Bool} (hc : a.eval c = .bool t) (h : vV P f (if t then x else y) Q a w) : vV P f (.cond c x y) Q a w :=
  fun b k cs hb => let ⟨e, a1, w1, q, r⟩ := h b k cs hb; ⟨e, a1, w1, q, .of_steps (.one (step_cond hc)) r⟩
theorem xT {id : Nat} {c : Code} (h : vV P f c (Exit.inBlock id Q) a w) : vV P f (.block id c) Q a w := by
  intro b k cs hb
  obtain ⟨e, a1, w1, hq, har⟩ := h b (.inBlock id :: k) cs hb
  cases e with
  | normal => exact ⟨.normal, a1, w1, hq, .head step_block (Steps.trans har (.one step_inBlock))⟩
  | exit i =>
    by_cases hid : i = id
    · simp only [Exit.inBlock, hid, if_true] at hq
      exact ⟨.normal, a1, w1, hq, .head step_block (har k (by simp [exitTo, hid]))⟩
    · simp only [Exit.inBlock, hid, if_false] at hq
      refine ⟨.exit i, a1, w1, hq, fun k' hk => .head step_block (har k' ?_)⟩
      have : (id == i) = false := by simp; exact fun h => hid h.symm
      simp [exitTo, this, hk]
  | goto l => exact ⟨_, a1, w1, hq, fun k' hk => .head step_block (har k' (by simp [gotoIn, hk]))⟩
  | outgrown => exact ⟨_, a1, w1, hq, .of_steps (b := b) (k := k) (cs := cs) (e := .outgrown) (.one step_block) har⟩
  | _ => exact ⟨_, a1, w1, hq, .of_steps (.one step_block) har⟩
theorem yB {c : Code} (h : vV P f c (Exit.noGoto Q) a w) : vV P f (.scope c) Q a w := by
  intro b k cs hb
  obtain ⟨e, a1, w1, hq, har⟩ := h b (.inScope c :: k) cs hb
  cases e with
  | normal => exact ⟨.normal, a1, w1, hq, .head step_scope (Steps.trans har (.one step_inScope))⟩
  | exit id => exact ⟨.exit id, a1, w1, hq, fun k' hk => .head step_scope (har k' (by simp [exitTo, hk]))⟩
  | goto l => exact hq.elim
  | _ => exact ⟨_, a1, w1, hq, .of_steps (.one step_scope) har⟩
theorem yO {c : Code} (I : Act → World → Prop) (μ : Act → World → Nat) (h0 : I a w)
    (round : ∀ a w, I a w → vV P f c (Exit.then (fun a' w' => I a' w' ∧ μ a' w' < μ a w) Q) a w) : vV P f (.loop c) Q a w := by
  intro b k cs hb
  have key : ∀ n a w, μ a w = n → I a w →
      ∃ e a' w', Q e a' w' ∧ Arrives P (lone (b.at a (.code c :: .inLoop c :: k)) cs w) b k cs e a' w' := by
    intro n
    induction n using Nat.strongRecOn with
    | _ n ih =>
      intro a w hn hI
      obtain ⟨e, a1, w1, hq, har⟩ := round a w hI b (.inLoop c :: k) cs hb
      cases e with
      | normal =>
        obtain ⟨hI1, hlt⟩ := hq
        obtain ⟨e2, a2, w2, hq2, har2⟩ := ih (μ a1 w1) (hn ▸ hlt) a1 w1 rfl hI1
        exact ⟨e2, a2, w2, hq2, .of_steps (Steps.trans har (.one step_inLoop)) har2⟩
      | _ => exact ⟨_, a1, w1, hq, .pass (x := .inLoop c) rfl (fun _ _ => .inl (by simp)) har⟩
  obtain ⟨e, a', w', hq, har⟩ := key _ a w rfl h0
  exact ⟨e, a', w', hq, .of_steps (.one step_loop) har⟩
theorem rT (hm : P.follows .mixedOrders = true) {id : Nat} {ops : Array Oper}
    (h : wpOps P ops Q (Region.schedule true ops (w.tape w.drawn (.order f id))) a { w with drawn := w.drawn + 1 }) : vV P f (.region id ops true) Q a w := by
  intro b k cs hb
  obtain ⟨e, a1, w1, q, r⟩ := wp_ops _ a _ h b k cs
  refine ⟨e, a1, w1, q, .of_steps (.one ?_) r⟩
  have := @step_region_draw P b a k cs w ops id
  rw [hm, hb] at this
  exact this
theorem tY {fn : Func} {c : Code} {args : Array Value} {w : World} {R : Ending → World → Prop}
    (hf : P.funcs[f]? = some fn) (hb : fn.body = some c)
    (h : vV P f c (bodyPost P fn R) { tmps := args ++ Array.replicate (fn.ntmps - args.size) undef, defers := [] } w) : Calls P f args w R := by
  intro cs
  let b : Frame := { (default : Frame) with fn := f, kind := .normal }
  have henter : Frame.enter P f args .normal = b.at { tmps := args ++ Array.replicate (fn.ntmps - args.size) undef, defers := [] } [.code c] := by
    simp [Frame.enter, Frame.at, hf, hb, b]
  obtain ⟨e, a', w', hq, har⟩ := h b [] cs rfl
  rw [← henter] at har
  cases e with
  | normal =>
    obtain ⟨hd, v, hr, hR⟩ := hq
    exact ⟨.returned v, w', _, hR, Steps.trans har (.one step_end), rfl, rfl, hd, rfl, fn, hf, hr⟩
  | ret =>
    obtain ⟨hd, v, hr, hR⟩ := hq
    obtain ⟨todo, hs⟩ := har
    exact ⟨.returned v, w', _, hR, hs, rfl, rfl, hd, rfl, fn, hf, hr⟩
  | panic chain =>
    obtain ⟨hd, hR⟩ := hq
    obtain ⟨todo, hs⟩ := har
    exact ⟨.panicked chain, w', _, hR, hs, rfl, rfl, hd, fn, hf⟩
  | exit id => exact hq.elim
  | goto l => exact hq.elim
  | outgrown => exact ⟨.outgrown, w', b, hq, har.resolve_left (by simp [b]), rfl, trivial⟩
end
def uE (ops : Array Oper) : Nat → Array Bool → List Nat → Prop
  | 0, _, L => L = []
  | _ + 1, listed, [] => Region.ready .any ops listed = []
  | n + 1, listed, i :: L => i ∈ Region.ready .any ops listed ∧ uE ops n (listed.setIfInBounds i true) L
section
variable {P : Program} {ops : Array Oper} {Q : Exit → Act → World → Prop}
theorem Ah : ∀ (fuel t : Nat) (listed : Array Bool), uE ops fuel listed (Region.linearise.go .any ops fuel t listed []) := by
  intro fuel
  induction fuel with
  | zero => intro t listed; simp [Region.linearise.go, uE]
  | succ fuel ih =>
    intro t listed
    simp only [Region.linearise.go]
    change uE ops (fuel + 1) listed (match (Region.ready .any ops listed)[t % (Region.ready .any ops listed).length]? with
      | some i => Region.linearise.go .any ops fuel (t / (Region.ready .any ops listed).length) (listed.setIfInBounds i true) [i]
      | none => [].reverse)
    cases hi : (Region.ready .any ops listed)[t % (Region.ready .any ops listed).length]? with
    | none =>
      have : Region.ready .any ops listed = [] := by
        cases hr : Region.ready .any ops listed with
        | nil => rfl
        | cons x xs =>
          rw [hr] at hi
          have hlt : t % (x :: xs).length < (x :: xs).length := Nat.mod_lt _ (by simp)
          rw [List.getElem?_eq_getElem hlt] at hi
          cases hi
      simpa [uE] using this
    | some i =>
      simp only []
      rw [linearise_go_acc]
      exact ⟨List.mem_of_getElem? hi, ih _ _⟩
theorem qU : ∀ (fuel : Nat) (listed : Array Bool) (L : List Nat) (a : Act) (w : World), wpAny P .any ops Q fuel listed a w → uE ops fuel listed L → wpOps P ops Q L a w := by
  intro fuel
  induction fuel with
  | zero => intro listed L a w h hL; obtain rfl : L = [] := hL; exact h.2
  | succ fuel ih =>
    intro listed L a w h hL
    cases L with
    | nil => exact h.1 hL
    | cons i L =>
      rw [wpOps_cons]
      exact wpOp_mono (fun a w hh => ih _ _ a w hh hL.2) (h.2 i hL.1)
end
structure tB (π : List Nat) (ops : Array Oper) : Prop where
  len : π.length = ops.size
  to : ∀ i, i < ops.size → gY π i < ops.size ∧ π[gY π i]? = some i
  back : ∀ k, k < ops.size → ∃ i, π[k]? = some i ∧ gY π i = k ∧ i < ops.size
  after : ∀ (i : Nat) (o : Oper), ops[i]? = some o → ∀ e ∈ o.after, e.on < ops.size
  guard : ∀ (i : Nat) (o : Oper) (j : Nat) (b : Bool), ops[i]? = some o → o.guard = some (j, b) → j < ops.size
theorem Ay {π : List Nat} {ops : Array Oper} (h : wM π ops = true) : tB π ops := by
  unfold wM at h
  simp only [Bool.and_eq_true] at h
  obtain ⟨⟨⟨h1, h2⟩, h3⟩, h4⟩ := h
  have h1 := Nat.eq_of_beq_eq_true h1
  have at4 : ∀ (i : Nat) (o : Oper), ops[i]? = some o → (o.after.all fun e => Nat.blt e.on ops.size) = true ∧ (match o.guard with | some (j, _) => Nat.blt j ops.size | none => true) = true := by
    intro i o ho
    have hi : i < ops.size := by
      rcases Nat.lt_or_ge i ops.size with h | h
      · exact h
      · rw [Array.getElem?_eq_none h] at ho; cases ho
    have := List.all_eq_true.1 h4 i (List.mem_range.2 hi)
    rw [ho] at this
    simp only [Bool.and_eq_true] at this
    refine ⟨this.1, ?_⟩
    have h := this.2
    revert h
    cases o.guard <;> exact id
  refine ⟨h1, fun i hi => ?_, fun k hk => ?_, fun i o ho e he => ?_, fun i o j b ho hg => ?_⟩
  · have := List.all_eq_true.1 h3 i (List.mem_range.2 hi)
    cases hp : π[gY π i]? with
    | none => rw [hp] at this; cases this
    | some j =>
      rw [hp] at this
      obtain rfl := Nat.eq_of_beq_eq_true this
      refine ⟨?_, rfl⟩
      rcases Nat.lt_or_ge (gY π j) π.length with h | h
      · omega
      · rw [List.getElem?_eq_none h] at hp; cases hp
  · have := List.all_eq_true.1 h2 k (List.mem_range.2 hk)
    cases hp : π[k]? with
    | none => rw [hp] at this; cases this
    | some i =>
      rw [hp] at this
      simp only [Bool.and_eq_true] at this
      exact ⟨i, rfl, Nat.eq_of_beq_eq_true this.1, (Nat.blt_eq (x := i) (y := ops.size)) ▸ this.2⟩
  · have := Array.all_eq_true'.1 (at4 i o ho).1 e he
    exact (Nat.blt_eq (x := e.on) (y := ops.size)) ▸ this
  · have := (at4 i o ho).2
    rw [hg] at this
    exact (Nat.blt_eq (x := j) (y := ops.size)) ▸ this
theorem tD {π : List Nat} {es : List (Nat × Nat)} {l : List Oper} : ∀ (r : List Nat), (∀ i ∈ r, i < l.length) → (qW π es l r).length = r.length ∧ ∀ k i : Nat, r[k]? = some i → (qW π es l r)[k]? = (l[i]?).map (lD π es i) := by
  intro r
  induction r with
  | nil => intro _; exact ⟨rfl, fun k i h => by simp at h⟩
  | cons j r ih =>
    intro h
    obtain ⟨h1, h2⟩ := ih fun i hi => h i (List.mem_cons_of_mem _ hi)
    have hj : j < l.length := h j (by simp)
    simp only [qW, List.getElem?_eq_getElem hj]
    refine ⟨by simp [h1], fun k i hk => ?_⟩
    cases k with
    | zero => simp at hk; subst hk; simp [List.getElem?_eq_getElem hj]
    | succ k => simp at hk ⊢; exact h2 k i hk
section
variable {P : Program} {ops : Array Oper} {Q : Exit → Act → World → Prop} {π : List Nat} {es : List (Nat × Nat)}
theorem tB.mem (p : tB π ops) : ∀ i ∈ π, i < ops.toList.length := by
  intro i hi
  obtain ⟨k, hk, e⟩ := List.getElem_of_mem hi
  obtain ⟨j, h1, _, h2⟩ := p.back k (by rw [← p.len]; exact hk)
  rw [List.getElem?_eq_getElem hk] at h1
  cases h1
  rw [← e]; simpa using h2
theorem tB.size (p : tB π ops) : (fH π es ops).size = ops.size := by
  unfold fH
  rw [List.size_toArray, (tD (es := es) (π := π) π p.mem).1, p.len]
theorem tB.get (p : tB π ops) {i : Nat} (hi : i < ops.size) : (fH π es ops)[gY π i]? = (ops[i]?).map (lD π es i) := by
  unfold fH
  have := (tD (es := es) (π := π) π p.mem).2 (gY π i) i (p.to i hi).2
  rw [Array.getElem?_toList] at this
  simpa using this
theorem xH {i : Nat} {o : Oper} {a : Act} {w : World} {K : Act → World → Prop} : (lD π es i o).wp P a w K Q = o.wp P a w K Q := by
  unfold Oper.wp
  have : execOp a.eval (lD π es i o) = execOp a.eval o := by
    obtain ⟨d, op, ty, ps, af, g⟩ := o
    cases op <;> rfl
  rw [this]
  generalize (execOp a.eval o).run P w = r
  cases r with
  | ok n w => cases n <;> rfl
  | halt x w => cases x <;> rfl
theorem uK {i : Nat} {o : Oper} {a : Act} {w : World} : (lD π es i o).asks P a w = o.asks P a w := by
  unfold Oper.asks
  have : execOp a.eval (lD π es i o) = execOp a.eval o := by
    obtain ⟨d, op, ty, ps, af, g⟩ := o
    cases op <;> rfl
  rw [this]
theorem uX (p : tB π ops) {i : Nat} {o : Oper} (ho : ops[i]? = some o) (tmps : Array Value) :
    Region.wanted (lD π es i o) (yielded (fH π es ops) tmps) = Region.wanted o (yielded ops tmps) := by
  unfold Region.wanted lD
  simp only
  cases hg : o.guard with
  | none => rfl
  | some q =>
    obtain ⟨j, b⟩ := q
    simp only
    have hj := p.guard i o j b ho hg
    have : (fH π es ops)[gY π j]?.bind (·.dst) = (ops[j]?).bind (·.dst) := by
      rw [p.get hj]
      cases ops[j]? <;> rfl
    unfold yielded
    rw [this]
theorem vS (p : tB π ops) : ∀ (L : List Nat), (∀ i ∈ L, i < ops.size) → ∀ (a : Act) (w : World), wpOps P (fH π es ops) Q (L.map (gY π)) a w → wpOps P ops Q L a w := by
  intro L
  induction L with
  | nil => intro _ a w h; exact h
  | cons i L ih =>
    intro hL a w h
    rw [List.map_cons, wpOps_cons] at h
    rw [wpOps_cons]
    have hi := hL i (by simp)
    have ih := ih fun i hi => hL i (List.mem_cons_of_mem _ hi)
    unfold wpOp at h ⊢
    rw [p.get hi] at h
    rw [Array.getElem?_eq_getElem hi] at h ⊢
    simp only [Option.map_some] at h
    rw [uX p (Array.getElem?_eq_getElem hi)] at h
    simp only
    split
    · rename_i hw
      rw [if_pos hw, xH, uK] at h
      exact h.imp (Oper.wp_mono fun a w => ih a w) id
    · rename_i hw
      rw [if_neg hw] at h
      exact ih _ _ h
theorem pQ {ops : Array Oper} {listed : Array Bool} (hsz : listed.size = ops.size) (i : Nat) :
    i ∈ Region.ready .any ops listed ↔ (i < ops.size ∧ listed.getD i false = false ∧ ∀ o, ops[i]? = some o → ∀ e ∈ o.after, Region.binds .any e = true → listed.getD e.on false = true) := by
  unfold Region.ready
  rw [List.mem_filter, List.mem_range]
  constructor
  · rintro ⟨h1, h2⟩
    rw [Array.getElem?_eq_getElem h1] at h2
    simp only [Bool.and_eq_true, Option.map_some, Option.getD_some] at h2
    refine ⟨h1, ?_, fun o ho e he hb => ?_⟩
    · have := h2.1
      rw [Array.getD_eq_getD_getElem?] at this ⊢
      rw [Array.getElem?_eq_getElem (by omega)] at this ⊢
      simpa using this
    · rw [Array.getElem?_eq_getElem h1] at ho
      cases ho
      have := Array.all_eq_true'.1 h2.2 e he
      simpa [hb] using this
  · rintro ⟨h1, h2, h3⟩
    refine ⟨h1, ?_⟩
    rw [Array.getElem?_eq_getElem h1]
    simp only [Bool.and_eq_true, Option.map_some, Option.getD_some]
    refine ⟨?_, Array.all_eq_true'.2 fun e he => ?_⟩
    · rw [Array.getD_eq_getD_getElem?] at h2 ⊢
      rw [Array.getElem?_eq_getElem (by omega)] at h2 ⊢
      simpa using h2
    · by_cases hb : Region.binds .any e = true
      · simp [hb, h3 _ (Array.getElem?_eq_getElem h1) e he hb]
      · simp [hb]
theorem zR {π : List Nat} {i : Nat} : ∀ {es : List (Nat × Nat)} {e : Edge}, e ∈ kV π i es → ∃ a, (a, i) ∈ es ∧ e.on = gY π a := by
  intro es
  induction es with
  | nil => intro e h; simp [kV] at h
  | cons q r ih =>
    obtain ⟨a, b⟩ := q
    intro e h
    simp only [kV] at h
    cases hb : Nat.beq b i with
    | true =>
      rw [hb] at h
      obtain rfl := Nat.eq_of_beq_eq_true hb
      rcases List.mem_cons.1 h with rfl | h
      · exact ⟨a, by simp, rfl⟩
      · obtain ⟨a, h1, h2⟩ := ih h; exact ⟨a, List.mem_cons_of_mem _ h1, h2⟩
    | false => rw [hb] at h; obtain ⟨a, h1, h2⟩ := ih h; exact ⟨a, List.mem_cons_of_mem _ h1, h2⟩
theorem xY (p : tB π ops) {L0 : List Nat} (hes : ∀ q ∈ es, L0.idxOf q.1 ≤ L0.idxOf q.2 ∧ q.1 ≠ q.2 ∧ q.1 < ops.size) :
    ∀ (fuel : Nat) (listed listed' : Array Bool) (pre L : List Nat), L0 = pre ++ L → listed.size = ops.size → listed'.size = ops.size →
      (∀ j, j < ops.size → listed'.getD (gY π j) false = listed.getD j false) → (∀ j ∈ pre, listed.getD j false = true) → (∀ j, listed.getD j false = true → j ∈ pre) →
      uE ops fuel listed L → uE (fH π es ops) fuel listed' (L.map (gY π)) ∧ ∀ i ∈ L, i < ops.size := by
  intro fuel
  induction fuel with
  | zero => intro listed listed' pre L _ _ _ _ _ _ h; obtain rfl : L = [] := h; exact ⟨rfl, by simp⟩
  | succ fuel ih =>
    intro listed listed' pre L hL0 hs hs' hrel hpre hpre' h
    have hsz : (fH π es ops).size = ops.size := p.size
    cases L with
    | nil =>
      refine ⟨?_, by simp⟩
      show Region.ready .any (fH π es ops) listed' = []
      rw [List.eq_nil_iff_forall_not_mem]
      intro k hk
      obtain ⟨h1, h2, h3⟩ := (pQ (by omega) k).1 hk
      obtain ⟨i, hi1, hi2, hi3⟩ := p.back k (by omega)
      have : i ∈ Region.ready .any ops listed := by
        refine (pQ hs i).2 ⟨hi3, ?_, fun o ho e he hb => ?_⟩
        · rw [← hrel i hi3, hi2]; exact h2
        · have g := p.get (es := es) hi3
          rw [hi2, ho] at g
          have hon := p.after i o ho e he
          have := h3 _ g ⟨gY π e.on, e.ground⟩ (by
            simp only [lD, List.mem_toArray, List.mem_append, List.mem_map]
            exact .inl ⟨e, by simpa using he, rfl⟩) (by unfold Region.binds at hb ⊢; exact hb)
          rw [← hrel e.on hon]; exact this
      rw [show Region.ready .any ops listed = [] from h] at this
      cases this
    | cons i L =>
      obtain ⟨h1, h2⟩ := h
      obtain ⟨r1, r2, r3⟩ := (pQ hs i).1 h1
      have hnot : i ∉ pre := fun hm => by rw [hpre i hm] at r2; cases r2
      have hidx : L0.idxOf i = pre.length := by
        rw [hL0, List.idxOf_append, if_neg hnot]; simp
      have ready' : gY π i ∈ Region.ready .any (fH π es ops) listed' := by
        refine (pQ (by omega) _).2 ⟨by rw [hsz]; exact (p.to i r1).1, by rw [hrel i r1]; exact r2, fun o' ho' e' he' hb => ?_⟩
        rw [p.get r1, Array.getElem?_eq_getElem r1] at ho'
        simp only [Option.map_some, Option.some.injEq] at ho'
        subst ho'
        simp only [lD, List.mem_toArray, List.mem_append, List.mem_map] at he'
        rcases he' with ⟨e, he, rfl⟩ | he'
        · have ho := Array.getElem?_eq_getElem r1
          have he2 : e ∈ ops[i].after := by simpa using he
          rw [hrel e.on (p.after i _ ho e he2)]
          exact r3 _ ho e he2 (by unfold Region.binds at hb ⊢; exact hb)
        · obtain ⟨a, ha, hon⟩ := zR he'
          obtain ⟨q1, q2, q3⟩ := hes _ ha
          simp only at q1 q2 q3
          rw [hon, hrel a q3]
          refine hpre a ?_
          rw [hidx] at q1
          rw [hL0, List.idxOf_append] at q1
          by_cases hm : a ∈ pre
          · exact hm
          · rw [if_neg hm] at q1
            exfalso
            have hz : (i :: L).idxOf a = 0 := by omega
            rw [List.idxOf_cons] at hz
            cases hb : (i == a) with
            | true => exact q2 (by simpa using (beq_iff_eq.1 hb).symm)
            | false => rw [hb] at hz; simp at hz
      have hlen' : listed'.size = ops.size := hs'
      obtain ⟨k1, k2⟩ := ih (listed.setIfInBounds i true) (listed'.setIfInBounds (gY π i) true) (pre ++ [i]) L (by rw [hL0]; simp) (by simp [hs]) (by simp [hs'])
        (fun j hj => by
          by_cases hji : j = i
          · subst hji
            rw [Array.getD_eq_getD_getElem?, Array.getD_eq_getD_getElem?, Array.getElem?_setIfInBounds_self_of_lt (by rw [hs']; exact (p.to j hj).1), Array.getElem?_setIfInBounds_self_of_lt (by omega)]
          · have hne : gY π i ≠ gY π j := fun e => by
              have a1 := (p.to i r1).2
              have a2 := (p.to j hj).2
              rw [e] at a1
              rw [a1] at a2
              exact hji (Option.some.inj a2).symm
            have := hrel j hj
            rw [Array.getD_eq_getD_getElem?, Array.getD_eq_getD_getElem?] at this ⊢
            rw [Array.getElem?_setIfInBounds_ne hne, Array.getElem?_setIfInBounds_ne (fun e => hji e.symm)]
            exact this)
        (fun j hj => by
          rw [Array.getD_eq_getD_getElem?]
          rcases List.mem_append.1 hj with hj | hj
          · by_cases hji : j = i
            · subst hji; rw [Array.getElem?_setIfInBounds_self_of_lt (by omega)] <;> rfl
            · rw [Array.getElem?_setIfInBounds_ne (fun e => hji e.symm), ← Array.getD_eq_getD_getElem?]; exact hpre j hj
          · have : j = i := by simpa using hj
            subst this
            rw [Array.getElem?_setIfInBounds_self_of_lt (by omega)] <;> rfl)
        (fun j hj => by
          by_cases hji : j = i
          · subst hji; simp
          · rw [Array.getD_eq_getD_getElem?, Array.getElem?_setIfInBounds_ne (fun e => hji e.symm), ← Array.getD_eq_getD_getElem?] at hj
            exact List.mem_append_left _ (hpre' j hj))
        h2
      exact ⟨⟨ready', k1⟩, fun j hj => (List.mem_cons.1 hj).elim (fun e => e ▸ r1) (k2 j)⟩
end
section
variable {P : Program} {ops : Array Oper}
theorem rJ {N : Nat} {an : wU} {pl : vE} (hok : sD ops an = true) (hpl : sP ops.size an pl = true) (hd : rU N ops) (hca : qN P ops)
    {K : dQ → World → Prop} {Q : Exit → Act → World → Prop} (hQ : ∀ g a w, pP N g a → K g w → Q .normal a w) {g : dQ} {a : Act} {w : World} (hr : pP N g a)
    (h : fV P ops ops.toList pl [] g w K) : wpAny P .any ops Q ops.size (Array.replicate ops.size false) a w := by
  have r0 : yH P ops an g w 0 (fun _ => default) (fun _ => g) (fun _ => w) (fun _ => undef) :=
    ⟨rfl, rfl, fun i hi => by omega, fun i hi => by omega, fun i hi => by omega, fun i hi => by omega, fun i j _ hj => by omega⟩
  obtain ⟨O, G, W, V, r, hk⟩ := uW hpl ops.toList 0 [] _ _ _ _ (fun j => by simp) (by simp) r0 (fun i hi => by omega) h
  simp only [Nat.zero_add, Array.length_toList] at r hk
  have st := yD hok r.op
  have := yT (Q := Q) (n := ops.size) rfl hd hca r st (fun a hra => hQ _ a _ hra hk) ops.size (Array.replicate ops.size false) g a 0 (by simp) hr (by omega)
    (fun j hj hl => by unfold eF at hl; simp [Array.getD_eq_getD_getElem?, hj] at hl)
    (fun s => .inr ⟨fun j hj hl => by unfold eF at hl; simp [Array.getD_eq_getD_getElem?, hj] at hl, rfl⟩)
    (fun h hh _ => ⟨fun hl => by unfold eF at hl; simp [Array.getD_eq_getD_getElem?, hh] at hl, fun hl => by omega⟩)
    (Nat.le_trans (List.length_filter_le _ _) (by simp))
  rw [r.w0] at this
  exact this
theorem tO {N : Nat} {ops : Array Oper} (h : ops.all (wX N) = true) : rU N ops := by
  intro i o ho t ht
  have := Array.all_eq_true'.1 h o (Array.mem_of_getElem? ho)
  unfold wX at this
  rw [ht] at this
  exact (Nat.blt_eq (x := t) (y := N)) ▸ this
theorem sE {ops : Array Oper} (h : ops.all (pI P) = true) : qN P ops :=
  fun _ o ho => Array.all_eq_true'.1 h o (Array.mem_of_getElem? ho)
theorem vL {N : Nat} {f : FuncId} {id : Nat} (hd : rU N ops) (hca : qN P ops)
    {K : dQ → World → Prop} {Q : Exit → Act → World → Prop} (hQ : ∀ g a w, pP N g a → K g w → Q .normal a w) {g : dQ} {a : Act} {w0 w : World} (hr : pP N g a) :
    ∀ (T : HT) (path : List (Nat × Nat)), qF P N ops path T = true →
      (∀ q ∈ path, (Region.schedule true ops (w0.tape w0.drawn (.order f id))).idxOf q.1 ≤ (Region.schedule true ops (w0.tape w0.drawn (.order f id))).idxOf q.2 ∧ q.1 ≠ q.2) →
      uP P f id ops T g w0 w K → wpOps P ops Q (Region.schedule true ops (w0.tape w0.drawn (.order f id))) a w := by
  have lin : uE ops ops.size (Array.replicate ops.size false) (Region.schedule true ops (w0.tape w0.drawn (.order f id))) := by
    unfold Region.schedule
    simp only [Bool.true_or, if_true]
    exact Ah _ _ _
  generalize hL : Region.schedule true ops (w0.tape w0.drawn (.order f id)) = L at lin ⊢
  intro T
  induction T with
  | leaf an pl =>
    intro path hok _ h
    simp only [qF, Bool.and_eq_true] at hok
    exact qU _ _ _ _ _ (rJ hok.1 hok.2 hd hca hQ hr h) lin
  | perm π es an pl =>
    intro path hok hpath h
    simp only [qF, Bool.and_eq_true] at hok
    obtain ⟨⟨⟨⟨⟨h1, h2⟩, h3⟩, h4⟩, h5⟩, h6⟩ := hok
    have p := Ay h2
    have hes : ∀ q ∈ es, L.idxOf q.1 ≤ L.idxOf q.2 ∧ q.1 ≠ q.2 ∧ q.1 < ops.size := fun q hq => by
      have := List.all_eq_true.1 h1 q hq
      simp only [Bool.and_eq_true] at this
      have hp := hpath q (zA this.1)
      exact ⟨hp.1, hp.2, (Nat.blt_eq (x := q.1) (y := ops.size)) ▸ this.2⟩
    obtain ⟨k1, k2⟩ := xY (es := es) p hes ops.size (Array.replicate ops.size false) (Array.replicate ops.size false) [] L rfl (by simp) (by simp)
      (fun j hj => by simp [Array.getD_eq_getD_getElem?, hj, (p.to j hj).1]) (by simp)
      (fun j hj => by rw [Array.getD_eq_getD_getElem?] at hj; by_cases hh : j < ops.size <;> simp [hh] at hj) lin
    have hw := rJ h5 h6 (tO h3) (sE h4) hQ hr h
    rw [p.size] at hw
    exact vS (es := es) p L k2 a w (qU _ _ _ _ _ hw k1)
  | split x y A B ihA ihB =>
    intro path hok hpath h
    simp only [qF, Bool.and_eq_true] at hok
    have hne : x ≠ y := by
      intro e
      have := hok.1.1
      rw [e] at this
      simp at this
    simp only [uP] at h
    unfold Bh AO at h
    rw [hL] at h
    cases hb : Nat.ble (L.idxOf x) (L.idxOf y) with
    | true =>
      rw [hb] at h
      refine ihA _ hok.1.2 (fun q hq => ?_) h
      rcases List.mem_cons.1 hq with rfl | hq
      · exact ⟨Nat.le_of_ble_eq_true hb, hne⟩
      · exact hpath q hq
    | false =>
      rw [hb] at h
      refine ihB _ hok.2 (fun q hq => ?_) h
      rcases List.mem_cons.1 hq with rfl | hq
      · refine ⟨?_, hne.symm⟩
        simp only
        rcases Nat.lt_or_ge (L.idxOf y) (L.idxOf x) with hh | hh
        · omega
        · have := Nat.ble_eq_true_of_le hh; rw [this] at hb; cases hb
      · exact hpath q hq
end
end Go.En
namespace Go.En
open Go
section
variable {P : Program} {ann : FA}
def eQ : List Oper → List Nat
  | [] => []
  | o :: r => match o.dst with | some d => d :: eQ r | none => eQ r
def rD : Code → List Nat
  | .region _ ops _ => eQ ops.toList
  | .seq x y => rD x ++ rD y
  | .cond _ x y => rD x ++ rD y
  | .block _ c => rD c
  | .scope c => rD c
  | .loop c => rD c
  | _ => []
def eN (l : List Nat) (g g' : dQ) : Prop := ∀ s, s ∉ l → g' s = g s
theorem eN.refl (l : List Nat) (g : dQ) : eN l g g := fun _ _ => rfl
theorem eN.trans {l l1 l2 : List Nat} {a b c : dQ} (h : eN l1 a b) (k : eN l2 b c) (h1 : ∀ s, s ∈ l1 → s ∈ l) (h2 : ∀ s, s ∈ l2 → s ∈ l) : eN l a c :=
  fun s hs => (k s fun h => hs (h2 s h)).trans (h s fun h => hs (h1 s h))
theorem eN.mono {l l1 : List Nat} {a b : dQ} (h : eN l1 a b) (h1 : ∀ s, s ∈ l1 → s ∈ l) : eN l a b := fun s hs => h s fun hh => hs (h1 s hh)
theorem eN.put {l : List Nat} {a : dQ} (d : Option Tmp) (v : Value) (h : ∀ t, d = some t → t ∈ l) : eN l a (put a d v) := by
  intro s hs
  cases d with
  | none => rfl
  | some t =>
    rw [sL, if_neg (fun e => hs (by rw [e]; exact h t rfl))]
theorem vY {ops : Array Oper} {K : dQ → World → Prop} : ∀ (l : List Oper) (g : dQ) (w : World), rZ P ops l g w K →
    ∃ g' w', K g' w' ∧ eN (eQ l) g g' ∧ ∀ K' : dQ → World → Prop, K' g' w' → rZ P ops l g w K' := by
  intro l
  induction l with
  | nil => intro g w h; exact ⟨g, w, h, eN.refl _ _, fun _ h => h⟩
  | cons o l ih =>
    intro g w h
    obtain ⟨v, w1, hy, h1⟩ := mQ h
    obtain ⟨g', w', hk, ha, hall⟩ := ih _ _ h1
    refine ⟨g', w', hk, ?_, fun K' hk' => hy _ (hall K' hk')⟩
    refine eN.trans (eN.put o.dst v (l := eQ (o :: l)) fun t ht => by simp [eQ, ht]) ha (fun _ h => h) (fun s hs => ?_)
    unfold eQ
    split
    · exact List.mem_cons_of_mem _ hs
    · exact hs
theorem rM {ops : Array Oper} {K : dQ → World → Prop} : ∀ (l : List Oper) (pl : vE) (hist : List zZ) (g : dQ) (w : World), fV P ops l pl hist g w K →
    ∃ g' w', K g' w' ∧ eN (eQ l) g g' ∧ ∀ K' : dQ → World → Prop, K' g' w' → fV P ops l pl hist g w K' := by
  intro l
  induction l with
  | nil => intro pl hist g w h; unfold fV at h; exact ⟨g, w, h, eN.refl _ _, fun _ h => (by unfold fV; exact h)⟩
  | cons o l ih =>
    intro pl hist g w h
    cases pl with
    | nil => exact h.elim
    | cons p pl =>
      obtain ⟨hv, ks⟩ := p
      obtain ⟨v, w1, hy, h1⟩ := mQ h
      have tail : ∀ (w2 : World) (hist' : List zZ), fV P ops l pl hist' (put g o.dst v) w2 K →
          ∃ g' w', K g' w' ∧ eN (eQ (o :: l)) g g' ∧ ∀ K' : dQ → World → Prop, K' g' w' → fV P ops l pl hist' (put g o.dst v) w2 K' := by
        intro w2 hist' c2
        obtain ⟨g', w', hk, ha, hall⟩ := ih _ _ _ _ c2
        refine ⟨g', w', hk, ?_, hall⟩
        refine eN.trans (eN.put o.dst v (l := eQ (o :: l)) fun t ht => by simp [eQ, ht]) ha (fun _ h => h) (fun s hs => ?_)
        unfold eQ
        split
        · exact List.mem_cons_of_mem _ hs
        · exact hs
      cases hv with
      | true =>
        cases ks with
        | nil =>
          obtain ⟨g', w', hk, ha, hall⟩ := tail w1 _ h1
          exact ⟨g', w', hk, ha, fun K' hk' => hy _ (hall K' hk')⟩
        | cons k ks =>
          obtain ⟨hc, h1⟩ := h1
          obtain ⟨g', w', hk, ha, hall⟩ := tail w1 _ h1
          exact ⟨g', w', hk, ha, fun K' hk' => hy _ ⟨hc, hall K' hk'⟩⟩
      | false =>
        cases ks with
        | nil =>
          obtain ⟨rfl, h1⟩ := h1
          obtain ⟨g', w', hk, ha, hall⟩ := tail w1 _ h1
          exact ⟨g', w', hk, ha, fun K' hk' => hy _ ⟨rfl, hall K' hk'⟩⟩
        | cons k ks =>
          obtain ⟨rfl, hc, h1⟩ := h1
          obtain ⟨g', w', hk, ha, hall⟩ := tail w1 _ h1
          exact ⟨g', w', hk, ha, fun K' hk' => hy _ ⟨rfl, hc, hall K' hk'⟩⟩
theorem pC {l : List Oper} {s : Nat} : s ∈ eQ l ↔ ∃ o ∈ l, o.dst = some s := by
  induction l with
  | nil => simp [eQ]
  | cons o l ih =>
    unfold eQ
    cases hd : o.dst with
    | none => simp [ih, hd]
    | some d => simp [ih, hd, eq_comm]
theorem wK {π : List Nat} {es : List (Nat × Nat)} {l : List Oper} {s : Nat} : ∀ (r : List Nat), s ∈ eQ (qW π es l r) → s ∈ eQ l := by
  intro r
  induction r with
  | nil => intro h; simp [qW, eQ] at h
  | cons i r ih =>
    intro h
    simp only [qW] at h
    cases ho : l[i]? with
    | none => rw [ho] at h; exact ih h
    | some o =>
      rw [ho] at h
      obtain ⟨o', h1, h2⟩ := pC.1 h
      rcases List.mem_cons.1 h1 with rfl | h1
      · exact pC.2 ⟨o, List.mem_of_getElem? ho, h2⟩
      · exact ih (pC.2 ⟨o', h1, h2⟩)
theorem zJ {f : FuncId} {id : Nat} {ops : Array Oper} {K : dQ → World → Prop} {g : dQ} {w0 : World} : ∀ (T : HT) (w : World), uP P f id ops T g w0 w K →
    ∃ g' w', K g' w' ∧ eN (eQ ops.toList) g g' ∧ ∀ K' : dQ → World → Prop, K' g' w' → uP P f id ops T g w0 w K' := by
  intro T
  induction T with
  | leaf an pl => intro w h; exact rM _ _ _ _ _ h
  | perm π es an pl =>
    intro w h
    obtain ⟨g', w', a, b, c⟩ := rM _ _ _ _ _ h
    exact ⟨g', w', a, b.mono (fun s hs => wK π (by simpa [fH] using hs)), c⟩
  | split x y A B ihA ihB =>
    intro w h
    simp only [uP, Bh] at h ⊢
    cases hb : AO f id ops x y w0 with
    | true => rw [hb] at h; exact ihA w h
    | false => rw [hb] at h; exact ihB w h
theorem kS.head {α : Type} {F : (α → World → Prop) → α → World → Prop} (hmono : ∀ X Y g w, (∀ g w, X g w → Y g w) → F X g w → F Y g w)
    {g : α} {w : World} (h : F (fun g' w' => kS F g' w') g w) (hdet : ∃ g' w', kS F g' w' ∧ ∀ X : α → World → Prop, X g' w' → F X g w) : kS F g w := by
  obtain ⟨g1, w1, ⟨I, ⟨n1, h1⟩, hI⟩, hF⟩ := hdet
  refine ⟨fun n g' w' => I n g' w' ∨ (n = n1 + 1 ∧ g' = g ∧ w' = w), ⟨n1 + 1, .inr ⟨rfl, rfl, rfl⟩⟩, ?_⟩
  rintro n g' w' (h | ⟨rfl, rfl, rfl⟩)
  · exact hmono _ _ _ _ (fun _ _ ⟨m, hm, hh⟩ => ⟨m, hm, .inl hh⟩) (hI _ _ _ h)
  · exact hF _ ⟨n1, by omega, .inl h1⟩
theorem xB : ∀ (c : Code) (Q : Exit → dQ → World → Prop) (g : dQ) (w : World), eE P ann c Q g w →
    ∃ e g' w', Q e g' w' ∧ eN (rD c) g g' ∧ ∀ Q' : Exit → dQ → World → Prop, Q' e g' w' → eE P ann c Q' g w := by
  intro c
  induction c with
  | skip => intro Q g w h; exact ⟨_, _, _, h, eN.refl _ _, fun _ h => h⟩
  | region id ops draw =>
    intro Q g w h
    cases draw with
    | false =>
      obtain ⟨g', w', a, b, c⟩ := vY _ _ _ h
      exact ⟨.normal, g', w', a, b, fun Q' h => c _ h⟩
    | true =>
      obtain ⟨g', w', a, b, c⟩ := zJ _ _ h
      exact ⟨.normal, g', w', a, b, fun Q' h => c _ h⟩
  | seq x y ihx ihy =>
    intro Q g w h
    obtain ⟨e, g1, w1, a, b, c⟩ := ihx _ _ _ h
    cases e with
    | normal =>
      obtain ⟨e2, g2, w2, a2, b2, c2⟩ := ihy _ _ _ a
      exact ⟨e2, g2, w2, a2, b.trans b2 (fun s h => List.mem_append_left _ h) (fun s h => List.mem_append_right _ h), fun Q' h => c _ (c2 _ h)⟩
    | _ => exact ⟨_, g1, w1, a, b.mono (fun s h => List.mem_append_left _ h), fun Q' h => c _ h⟩
  | cond c x y ihx ihy =>
    intro Q g w h
    simp only [eE] at h ⊢
    unfold lN at h ⊢
    cases hc : ev g c with
    | bool b =>
      rw [hc] at h
      cases b with
      | true =>
        obtain ⟨e, g', w', a, b, c⟩ := ihx _ _ _ h
        exact ⟨e, g', w', a, b.mono (fun s h => List.mem_append_left _ h), c⟩
      | false =>
        obtain ⟨e, g', w', a, b, c⟩ := ihy _ _ _ h
        exact ⟨e, g', w', a, b.mono (fun s h => List.mem_append_right _ h), c⟩
    | _ => rw [hc] at h; exact h.elim
  | block id c ih =>
    intro Q g w h
    obtain ⟨e, g', w', a, b, c⟩ := ih _ _ _ h
    cases e with
    | exit i =>
      simp only [zY] at a
      cases hb : Nat.beq i id with
      | true =>
        simp only [hb] at a
        refine ⟨.normal, g', w', a, b, fun Q' h => c _ ?_⟩
        simp only [zY, hb]; exact h
      | false =>
        simp only [hb] at a
        refine ⟨.exit i, g', w', a, b, fun Q' h => c _ ?_⟩
        simp only [zY, hb]; exact h
    | _ => exact ⟨_, g', w', a, b, fun Q' h => c _ h⟩
  | loop c ih =>
    intro Q g w h
    have hmono : ∀ (Q : Exit → dQ → World → Prop) (X Y : dQ → World → Prop) g w, (∀ g w, X g w → Y g w) → eE P ann c (fK X Q) g w → eE P ann c (fK Y Q) g w := by
      intro Q X Y g w hxy h
      obtain ⟨e, g', w', a, _, k⟩ := ih _ _ _ h
      refine k _ ?_
      cases e with
      | normal => exact hxy _ _ a
      | _ => exact a
    obtain ⟨I, ⟨n, h0⟩, hI⟩ := h
    have key : ∀ n g w, I n g w → ∃ e g' w', Q e g' w' ∧ eN (rD c) g g' ∧ ∀ Q' : Exit → dQ → World → Prop, Q' e g' w' → kS (fun X g w => eE P ann c (fK X Q') g w) g w := by
      intro n
      induction n using Nat.strongRecOn with
      | _ n ih2 =>
        intro g w hg
        obtain ⟨e, g1, w1, a, b, k⟩ := ih _ _ _ (hI n g w hg)
        have once : ∀ (Q' : Exit → dQ → World → Prop), (∀ X : dQ → World → Prop, eE P ann c (fK X Q') g w) → kS (fun X g w => eE P ann c (fK X Q') g w) g w := by
          intro Q' h
          refine ⟨fun n g' w' => g' = g ∧ w' = w, ⟨0, rfl, rfl⟩, ?_⟩
          rintro _ g' w' ⟨rfl, rfl⟩
          exact h _
        cases e with
        | normal =>
          obtain ⟨m, hm, hIm⟩ := a
          obtain ⟨e2, g2, w2, a2, b2, k2⟩ := ih2 m hm g1 w1 hIm
          refine ⟨e2, g2, w2, a2, b.trans b2 (fun _ h => h) (fun _ h => h), fun Q' h => ?_⟩
          have hl := k2 Q' h
          exact kS.head (hmono Q') (k _ hl) ⟨g1, w1, hl, fun X hx => k _ hx⟩
        | _ => exact ⟨_, g1, w1, a, b, fun Q' h => once Q' fun X => k _ h⟩
    exact key n g w h0
  | exit id => intro Q g w h; exact ⟨_, _, _, h, eN.refl _ _, fun _ h => h⟩
  | label l => intro Q g w h; exact ⟨_, _, _, h, eN.refl _ _, fun _ h => h⟩
  | scope c ih => intro Q g w h; exact ih Q g w h
  | ret => intro Q g w h; exact ⟨_, _, _, h, eN.refl _ _, fun _ h => h⟩
  | _ => intro Q g w h; exact h.elim
theorem lF {c : Code} {Q Q' : Exit → dQ → World → Prop} {g : dQ} {w : World} (h : eE P ann c Q g w)
    (hq : ∀ e g' w', eN (rD c) g g' → Q e g' w' → Q' e g' w') : eE P ann c Q' g w :=
  let ⟨_, _, _, a, b, k⟩ := xB c Q g w h
  k _ (hq _ _ _ b a)
def AW (Q : Exit → dQ → World → Prop) : Exit → dQ → World → Prop
  | .goto _, _, _ => False
  | e, g, w => Q e g w
theorem vM : ∀ (c : Code) (Q : Exit → dQ → World → Prop) (g : dQ) (w : World), eE P ann c Q g w → eE P ann c (AW Q) g w := by
  intro c
  induction c with
  | skip => intro Q g w h; exact h
  | region id ops draw => intro Q g w h; cases draw <;> exact h
  | seq x y ihx ihy =>
    intro Q g w h
    show eE P ann x (fK (fun g w => eE P ann y (AW Q) g w) (AW Q)) g w
    refine lF (ihx _ _ _ h) (fun e g' w' _ hq => ?_)
    cases e with
    | normal => exact ihy _ _ _ hq
    | goto l => exact hq.elim
    | _ => exact hq
  | cond c x y ihx ihy =>
    intro Q g w h
    simp only [eE] at h ⊢
    unfold lN at h ⊢
    cases hc : ev g c with
    | bool b =>
      rw [hc] at h
      cases b with
      | true => exact ihx _ _ _ h
      | false => exact ihy _ _ _ h
    | _ => rw [hc] at h; exact h.elim
  | block id c ih =>
    intro Q g w h
    show eE P ann c (zY id (AW Q)) g w
    refine lF (ih _ _ _ h) (fun e g' w' _ hq => ?_)
    cases e with
    | exit i =>
      simp only [AW, zY] at hq ⊢
      cases hb : Nat.beq i id with
      | true => rw [hb] at hq; exact hq
      | false => rw [hb] at hq; exact hq
    | goto l => exact hq.elim
    | _ => exact hq
  | loop c ih =>
    intro Q g w h
    obtain ⟨I, h0, hI⟩ := h
    refine ⟨I, h0, fun n g w hi => ?_⟩
    refine lF (ih _ _ _ (hI n g w hi)) (fun e g' w' _ hq => ?_)
    cases e with
    | normal => exact hq
    | goto l => exact hq.elim
    | _ => exact hq
  | exit id => intro Q g w h; exact h
  | label l => intro Q g w h; exact h
  | scope c ih => intro Q g w h; exact ih Q g w h
  | ret => intro Q g w h; exact h
  | _ => intro Q g w h; exact h.elim
theorem xN {N : Nat} (hm : P.follows .mixedOrders = true) : ∀ (c : Code), jO P N ann c = true →
    ∀ (Q : Exit → dQ → World → Prop) (QA : Exit → Act → World → Prop) (g : dQ) (a : Act) (w : World), pP N g a →
      (∀ e g a w, pP N g a → Q e g w → QA e a w) → eE P ann c Q g w → vV P ann.f c QA a w := by
  intro c
  induction c with
  | skip => intro _ Q QA g a w hr hq h; exact sC (wp_skip (hq _ _ _ _ hr h))
  | region id ops draw =>
    intro hok Q QA g a w hr hq h
    simp only [jO, Bool.and_eq_true, Bool.or_eq_true, Bool.not_eq_true'] at hok
    have hd := tO hok.1.1
    have hca := sE hok.1.2
    cases draw with
    | false =>
      refine sC (wp_region ?_)
      have := xQ hd hca (P := P) (Q := QA) (K := Q .normal) (fun g a w => hq .normal g a w) ops.toList 0 g a w (fun j => by simp) hr h
      rw [List.range_eq_range']
      simpa using this
    | true =>
      rcases hok.2 with h1 | h1
      · cases h1
      · exact rT hm (vL hd hca (fun g a w => hq .normal g a w) hr _ [] h1 (by simp) h)
  | seq x y ihx ihy =>
    intro hok Q QA g a w hr hq h
    simp only [jO, Bool.and_eq_true] at hok
    refine As (ihx hok.1 _ _ g a w hr (fun e g a w hr h => ?_) h)
    cases e with
    | normal => exact ihy hok.2 _ _ g a w hr hq h
    | _ => exact hq _ _ _ _ hr h
  | cond c x y ihx ihy =>
    intro hok Q QA g a w hr hq h
    simp only [jO, Bool.and_eq_true] at hok
    simp only [eE] at h
    unfold lN at h
    have he := hr.ev c
    cases hc : ev g c with
    | bool b =>
      rw [hc] at h he
      refine yL he ?_
      cases b with
      | true => exact ihx hok.1 _ _ g a w hr hq h
      | false => exact ihy hok.2 _ _ g a w hr hq h
    | _ => rw [hc] at h; exact h.elim
  | block id c ih =>
    intro hok Q QA g a w hr hq h
    refine xT (ih hok _ _ g a w hr (fun e g a w hr h => ?_) h)
    cases e with
    | exit i =>
      unfold Exit.inBlock
      simp only [zY] at h
      by_cases hi : i = id
      · subst hi
        simp only [if_true]
        simp only [Nat.beq_refl] at h
        exact hq _ _ _ _ hr h
      · simp only [hi, if_false]
        have : Nat.beq i id = false := by
          cases hb : Nat.beq i id
          · rfl
          · exact absurd (Nat.eq_of_beq_eq_true hb) hi
        simp only [this] at h
        exact hq _ _ _ _ hr h
    | _ => exact hq _ _ _ _ hr h
  | loop c ih =>
    intro hok Q QA g a w hr hq h
    obtain ⟨I, h0, hround⟩ := h
    have hex : ∀ a w, (∃ n g, pP N g a ∧ I n g w) → ∃ n, (∃ g, pP N g a ∧ I n g w) ∧ ∀ m, (∃ g, pP N g a ∧ I m g w) → n ≤ m := by
      rintro a w ⟨n, hn⟩
      induction n using Nat.strongRecOn with
      | _ n ih2 =>
        by_cases hx : ∃ m, m < n ∧ ∃ g, pP N g a ∧ I m g w
        · obtain ⟨m, hm, h⟩ := hx; exact ih2 m hm h
        · exact ⟨n, hn, fun m hm => Nat.le_of_not_lt fun hlt => hx ⟨m, hlt, hm⟩⟩
    have hdec : ∀ a w, Decidable (∃ n g, pP N g a ∧ I n g w) := fun a w => Classical.propDecidable _
    let μ : Act → World → Nat := fun a w => if hh : ∃ n g, pP N g a ∧ I n g w then Classical.choose (hex a w hh) else 0
    have hμ : ∀ a w n g, pP N g a → I n g w → μ a w ≤ n ∧ ∃ g, pP N g a ∧ I (μ a w) g w := by
      intro a w n g hr hI
      have hh : ∃ n g, pP N g a ∧ I n g w := ⟨n, g, hr, hI⟩
      have e : μ a w = Classical.choose (hex a w hh) := dif_pos hh
      have s := Classical.choose_spec (hex a w hh)
      rw [e]
      exact ⟨s.2 n ⟨g, hr, hI⟩, s.1⟩
    obtain ⟨n0, h0⟩ := h0
    refine yO (fun a w => ∃ n g, pP N g a ∧ I n g w) μ ⟨n0, g, hr, h0⟩ ?_
    rintro a w ⟨n, g, hr, hI⟩
    obtain ⟨_, g', hr', hI'⟩ := hμ a w n g hr hI
    refine ih hok _ _ g' a w hr' (fun e g1 a1 w1 hr1 h => ?_) (hround _ _ _ hI')
    cases e with
    | normal =>
      obtain ⟨m, hm, hIm⟩ := h
      have := hμ a1 w1 m g1 hr1 hIm
      exact ⟨⟨m, g1, hr1, hIm⟩, by omega⟩
    | _ => exact hq _ _ _ _ hr1 h
  | label l => intro _ Q QA g a w hr hq h; exact sC (wp_label (hq _ _ _ _ hr h))
  | scope c ih =>
    intro hok Q QA g a w hr hq h
    refine yB (ih hok (AW Q) _ g a w hr (fun e g a w hr h => ?_) (vM c _ g w h))
    cases e with
    | goto l => exact h.elim
    | _ => exact hq _ _ _ _ hr h
  | exit id => intro _ Q QA g a w hr hq h; exact sC (wp_exit (hq _ _ _ _ hr h))
  | ret => intro _ Q QA g a w hr hq h; exact sC (wp_ret (hq _ _ _ _ hr h))
  | _ => intro hok; simp [jO] at hok
def iB (P : Program) : List ResultVar → dQ → World → (List Value → Prop) → Prop
  | [], _, _, K => K []
  | .tmp t :: r, g, w, K => iB P r g w fun vs => K (g t :: vs)
  | .cell a t :: r, g, w, K => ∃ v, (do loadVar t (← asAddr (g a)) : Sem Value).run P w = .ok v w ∧ iB P r g w fun vs => K (v :: vs)
def Ab : List Value → Value
  | [v] => v
  | vs => .tuple vs.toArray
def lX (P : Program) (rs : List ResultVar) (R : Value → World → Prop) : Exit → dQ → World → Prop
  | .normal, g, w => iB P rs g w fun vs => R (Ab vs) w
  | .ret, g, w => iB P rs g w fun vs => R (Ab vs) w
  | _, _, _ => False
theorem uI {N : Nat} {g : dQ} {a : Act} {w : World} (hr : pP N g a) : ∀ (rs : List ResultVar) (K : List Value → Prop), iB P rs g w K →
    ∃ vs, K vs ∧ (rs.mapM fun | .tmp t => pure (a.tmps.getD t undef) | .cell b t => do loadVar t (← asAddr (a.tmps.getD b undef)) : Sem (List Value)).run P w = .ok vs w := by
  intro rs
  induction rs with
  | nil => intro K h; exact ⟨[], h, by simp⟩
  | cons r rs ih =>
    intro K h
    cases r with
    | tmp t =>
      obtain ⟨vs, h1, h2⟩ := ih _ h
      refine ⟨_, h1, ?_⟩
      rw [List.mapM_cons]
      rw [pure_bind, Sem.run_bind]
      simp only [h2, Result.andThen, Sem.run_pure, hr.2.2 t]
    | cell b t =>
      obtain ⟨v, hv, h⟩ := h
      obtain ⟨vs, h1, h2⟩ := ih _ h
      refine ⟨_, h1, ?_⟩
      rw [List.mapM_cons]
      rw [← hr.2.2 b] at hv
      rw [Sem.run_bind]
      simp only [hv, Result.andThen]
      rw [Sem.run_bind]
      simp only [h2, Result.andThen]
      rfl
theorem AH (vs : Array Value) : (if h : vs.size = 1 then vs[0] else Value.tuple vs) = Ab vs.toList := by
  obtain ⟨l⟩ := vs
  match l with
  | [] => rfl
  | [v] => rfl
  | a :: b :: r => simp [Ab]
theorem vJ {N : Nat} {g : dQ} {a : Act} {w : World} (fn : Func) {rs : List ResultVar} (hrs : fn.results = rs.toArray) (hr : pP N g a) {R : Value → World → Prop}
    (h : iB P rs g w fun vs => R (Ab vs) w) : ∃ v, (results fn a.tmps).run P w = .ok v w ∧ R v w := by
  obtain ⟨vs, h1, h2⟩ := uI hr rs _ h
  refine ⟨Ab vs, ?_, h1⟩
  unfold results
  rw [hrs, Array.mapM_eq_mapM_toList, List.toList_toArray]
  simp only [bind_assoc, map_eq_pure_bind]
  rw [Sem.run_bind]
  refine Eq.trans (congrArg (fun r => Result.andThen r _) h2) ?_
  simp only [Result.andThen]
  simp only [pure_bind, Sem.run_pure, AH]
def hH (args : List Value) : dQ := fun i => args.getD i undef
theorem dM {f : FuncId} {fn : Func} {c : Code} {args : List Value} {w : World} {rs : List ResultVar} {R : Value → World → Prop} (hm : P.follows .mixedOrders = true) (hAf : ann.f = f)
    (hf : P.funcs[f]? = some fn) (hb : fn.body = some c) (hrs : fn.results = rs.toArray) {N : Nat} (hN : fn.ntmps = N) (hle : args.length ≤ N)
    (hok : jO P N ann c = true) (h : eE P ann c (lX P rs R) (hH args) w) : dG P f args.toArray w R := by
  obtain ⟨e, g', w', hq, _, hall⟩ := xB _ _ _ _ h
  have hrv : iB P rs g' w' fun vs => R (Ab vs) w' := by cases e <;> first | exact hq | exact hq.elim
  have hex : ∃ v, R v w' ∧ ∀ R' : Value → World → Prop, R' v w' → iB P rs g' w' fun vs => R' (Ab vs) w' := by
    have gen : ∀ (rs : List ResultVar) (K : List Value → Prop), iB P rs g' w' K → ∃ vs, K vs ∧ ∀ K' : List Value → Prop, K' vs → iB P rs g' w' K' := by
      intro rs
      induction rs with
      | nil => intro K h; exact ⟨_, h, fun _ h => h⟩
      | cons r rs ih =>
        intro K h
        cases r with
        | tmp t =>
          obtain ⟨vs, a, b⟩ := ih _ h
          exact ⟨_, a, fun K' h => b _ h⟩
        | cell b t =>
          obtain ⟨v, hv, h⟩ := h
          obtain ⟨vs, a, b⟩ := ih _ h
          exact ⟨_, a, fun K' h => ⟨v, hv, b _ h⟩⟩
    obtain ⟨vs, a, b⟩ := gen _ _ hrv
    exact ⟨_, a, fun R' h => b _ h⟩
  obtain ⟨v, hv, hrest⟩ := hex
  refine ⟨v, w', ?_, hv⟩
  have hrel : pP N (hH args) { tmps := args.toArray ++ Array.replicate (fn.ntmps - args.toArray.size) undef, defers := [] } := by
    refine ⟨rfl, by simp [hN]; omega, fun i => ?_⟩
    simp only [hH, Array.getD_eq_getD_getElem?, List.getD_eq_getElem?_getD]
    by_cases hi : i < args.length
    · simp [Array.getElem?_append, hi]
    · simp only [Array.getElem?_append, List.size_toArray, hi, if_false, Array.getElem?_replicate]
      rw [List.getElem?_eq_none (by omega)]
      split <;> rfl
  refine tY (f := f) hf hb ?_
  refine hAf ▸ xN hm c hok (lX P rs fun v2 w2 => v2 = v ∧ w2 = w') _ _ _ _ hrel ?_ (hall _ ?_)
  · intro e g a w hr h
    have hx : ∀ {w}, (iB P rs g w fun vs => Ab vs = v ∧ w = w') → a.defers = [] ∧ ∃ v2, (results fn a.tmps).run P w = .ok v2 w ∧ (Ending.returned v2 = .returned v ∧ w = w') := by
      intro w h
      obtain ⟨v2, h1, rfl, h3⟩ := vJ fn hrs hr (R := fun v2 w2 => v2 = v ∧ w2 = w') h
      exact ⟨hr.1, v2, h1, rfl, h3⟩
    cases e with
    | normal => exact hx h
    | ret => exact hx h
    | _ => exact h.elim
  · have := hrest (fun v2 w2 => v2 = v ∧ w2 = w') ⟨rfl, rfl⟩
    cases e <;> first | exact this | exact hq.elim
theorem sU {f : FuncId} {args : Array Value} {w : World} {R : Value → World → Prop} (h : dG P f args w R) :
    Calls P f args w fun e w' => ∃ v, e = .returned v ∧ R v w' := by
  obtain ⟨v, w', hr, hR⟩ := h
  refine Calls.mono hr ?_
  rintro e w'' ⟨rfl, rfl⟩
  exact ⟨v, rfl, hR⟩
end
end Go.En
namespace Go.En
open Go
def sA : Code → Code | .seq a _ => a | c => c
def bI : Code → Code | .block _ c => c | .loop c => c | .scope c => c | c => c
def gN (f : Func) : Code := match f.body with | some c => c | none => .skip
def fJ : Nat → Code → Code
  | 0, c => c
  | 1, c => sA c
  | n + 1, .seq a b => .seq a (fJ n b)
  | _, c => c
def dI : Nat → Code → Code
  | 0, c => c
  | n + 1, .seq _ b => dI n b
  | _, c => c
def wL : Nat → Code → Bool
  | 1, .seq _ _ => true
  | n + 1, .seq _ b => wL n b
  | _, _ => false
def dr (w : World) : World := { w with drawn := w.drawn + 1 }
def A8 : List (Nat × (dQ → World → Prop)) → Nat → dQ → World → Prop
  | [], _, _, _ => False
  | (j, k) :: r, i, g, w => match Nat.beq i j with | true => k g w | false => A8 r i g w
def Bn (kn kr : dQ → World → Prop) (l : List (Nat × (dQ → World → Prop))) : Exit → dQ → World → Prop
  | .normal, g, w => kn g w
  | .ret, g, w => kr g w
  | .exit i, g, w => A8 l i g w
  | _, _, _ => False
def zI (Q : Exit → dQ → World → Prop) : List (Nat × (dQ → World → Prop)) → Prop
  | [] => True
  | (i, k) :: r => (∀ g w, k g w → Q (.exit i) g w) ∧ zI Q r
def fL (c a b : Value) : Sem Next := do pure (.value (if ← asBool c then a else b))
def sG (t : TypeId) : Sem Next := V (Instr.alloc t true (.tuple #[]))
def xF (t : TypeId) (x : Value) : Sem Next := V (Instr.box t x)
def dO (t : TypeId) (a : Value) : Sem Next := V (Instr.loadAt t a)
def fY (t : TypeId) (a x : Value) : Sem Next := U (Instr.storeAt t a x)
def iA (x : Value) : Sem Next := execOp (fun _ => x) ⟨none, .nilCheck (.tmp 0), 0, default, #[], none⟩
def xI (op : UnOp) (x : Value) : Sem Next := V (Op.unary op x)
def mU (s d : TypeId) (x : Value) : Sem Next := V (convert s d x)
def rC (t : TypeId) (r : Option Value) : Sem Next := V (Instr.makeMap t r)
def oT (t : TypeId) (l c : Value) : Sem Next := V (Instr.makeSlice t l c)
def qK (t : TypeId) (x : Value) (lo hi mx : Option Value) : Sem Next := V (Instr.sliceAt t x lo hi mx)
def dD (t : TypeId) (x : Value) (f : Nat) : Sem Next := V (Instr.fieldAt t x f)
def mV (t : TypeId) (x i : Value) : Sem Next := V (Instr.indexAt t x i)
def kD (t : TypeId) (x i : Value) (ok : Bool) : Sem Next := V (Instr.lookup t x i ok)
def qL (t : TypeId) (m k x : Value) : Sem Next := U (Instr.mapUpdate t m k x)
def sJ (t : TypeId) (x : Value) : Sem Next := V (Instr.range t x)
def vR (it : Value) : Sem Next := V (Instr.entry it)
def wN (it : Value) (str : Bool) (ty : TypeId) : Sem Next := V (Instr.next it str ty)
def eY (t : Value) (i : Nat) : Sem Next := V (Instr.extract t i)
section
variable {P : Program} {ann : FA}
theorem AR {Q : Exit → dQ → World → Prop} : ∀ {l : List (Nat × (dQ → World → Prop))}, zI Q l → ∀ {i : Nat} {g : dQ} {w : World}, A8 l i g w → Q (.exit i) g w := by
  intro l
  induction l with
  | nil => intro _ i g w h; exact h.elim
  | cons p r ih =>
    obtain ⟨j, k⟩ := p
    rintro ⟨h1, h2⟩ i g w h
    simp only [A8] at h
    cases hb : Nat.beq i j with
    | true =>
      simp only [hb] at h
      obtain rfl := Nat.eq_of_beq_eq_true hb
      exact h1 _ _ h
    | false => simp only [hb] at h; exact ih h2 h
theorem dR {c : Code} {kn kr : dQ → World → Prop} {l : List (Nat × (dQ → World → Prop))} {Q : Exit → dQ → World → Prop} {g : dQ} {w : World} {A : Prop}
    (e : A = eE P ann c (Bn kn kr l) g w) (h : A) (hn : ∀ g w, kn g w → Q .normal g w) (hr : ∀ g w, kr g w → Q .ret g w) (hl : zI Q l) : eE P ann c Q g w := by
  rw [e] at h
  refine lF h (fun e g' w' _ hq => ?_)
  cases e with
  | normal => exact hn _ _ hq
  | ret => exact hr _ _ hq
  | exit i => exact AR hl hq
  | _ => exact hq.elim
theorem xE {x y z : Code} {Q : Exit → dQ → World → Prop} {g : dQ} {w : World} (h : eE P ann (.seq (.seq x y) z) Q g w) : eE P ann (.seq x (.seq y z)) Q g w := by
  show eE P ann x (fK (fun g w => eE P ann y (fK (fun g w => eE P ann z Q g w) Q) g w) Q) g w
  have h : eE P ann x (fK (fun g w => eE P ann y (fK (fun g w => eE P ann z Q g w) Q) g w) (fK (fun g w => eE P ann z Q g w) Q)) g w := h
  refine lF h (fun e g' w' _ hq => ?_)
  cases e <;> exact hq
theorem kU {K : dQ → World → Prop} {Q : Exit → dQ → World → Prop} {g : dQ} {w : World} (h : K g w) : fK K Q .normal g w := h
theorem xK {Q : Exit → dQ → World → Prop} : ∀ (n : Nat) (c : Code) (g : dQ) (w : World), wL n c = true → eE P ann (.seq (fJ n c) (dI n c)) Q g w → eE P ann c Q g w := by
  intro n
  induction n with
  | zero => intro c g w h; simp [wL] at h
  | succ n ih =>
    intro c g w h hd
    cases c with
    | seq a b =>
      cases n with
      | zero => exact hd
      | succ n =>
        have hb : wL (n + 1) b = true := by simpa [wL] using h
        have hd' : eE P ann (.seq (.seq a (fJ (n + 1) b)) (dI (n + 1) b)) Q g w := hd
        have := xE hd'
        show eE P ann a (fK (fun g w => eE P ann b Q g w) Q) g w
        have h2 : eE P ann a (fK (fun g w => eE P ann (.seq (fJ (n + 1) b) (dI (n + 1) b)) Q g w) Q) g w := this
        refine lF h2 (fun e g' w' _ hq => ?_)
        cases e with
        | normal => exact ih b g' w' hb hq
        | _ => exact hq
    | _ => cases n <;> simp [wL] at h
theorem iZ {Q : Exit → dQ → World → Prop} (n : Nat) (c : Code) (g : dQ) (w : World) (h : wL n c = true)
    (hd : eE P ann (fJ n c) (fK (fun g w => eE P ann (dI n c) Q g w) Q) g w) : eE P ann c Q g w := xK n c g w h hd
def A3 (id : Nat) : Code → Bool | .block i _ => Nat.beq i id | _ => false
def AE : Code → Bool | .loop _ => true | _ => false
theorem wP {Q : Exit → dQ → World → Prop} (id : Nat) (c : Code) (g : dQ) (w : World) (h : A3 id c = true) (hd : eE P ann (bI c) (zY id Q) g w) : eE P ann c Q g w := by
  cases c with
  | block i c =>
    obtain rfl := Nat.eq_of_beq_eq_true (show Nat.beq i id = true from h)
    exact hd
  | _ => cases h
theorem zD {T : Type} (proj : dQ → T) (F : (T → World → Prop) → T → World → Prop) {c : Code} {Q : Exit → dQ → World → Prop} {g : dQ} {w : World}
    (hF : ∀ (X : T → World → Prop) g' w', eN (rD c) g g' → F X (proj g') w' → eE P ann c (fK (fun g'' w'' => X (proj g'') w'') Q) g' w')
    (h : kS F (proj g) w) : eE P ann (.loop c) Q g w := by
  obtain ⟨I, ⟨n, h0⟩, hI⟩ := h
  refine ⟨fun n g' w' => eN (rD c) g g' ∧ I n (proj g') w', ⟨n, eN.refl _ _, h0⟩, ?_⟩
  rintro n g' w' ⟨ha, hi⟩
  have := hF _ g' w' ha (hI n _ _ hi)
  refine lF this (fun e g2 w2 ha2 hq => ?_)
  cases e with
  | normal =>
    obtain ⟨m, hm, hh⟩ := hq
    exact ⟨m, hm, ha.trans ha2 (fun _ h => h) (fun _ h => h), hh⟩
  | _ => exact hq
theorem tQ {T : Type} (proj : dQ → T) (F : (T → World → Prop) → T → World → Prop) (c : Code) {Q : Exit → dQ → World → Prop} {g : dQ} {w : World} (hl : AE c = true)
    (h : kS F (proj g) w)
    (hF : ∀ (X : T → World → Prop) g' w', eN (rD (bI c)) g g' → F X (proj g') w' → eE P ann (bI c) (fK (fun g'' w'' => X (proj g'') w'') Q) g' w') : eE P ann c Q g w := by
  cases c with
  | loop c => exact zD proj F hF h
  | _ => cases hl
theorem wE {l : List Nat} {s : Nat} (hs : fM s l = false) : s ∉ l := by
  induction l with
  | nil => simp
  | cons a r ih =>
    unfold fM at hs
    cases hb : Nat.beq a s with
    | true => simp only [hb] at hs; cases hs
    | false =>
      simp only [hb] at hs
      intro hm
      rcases List.mem_cons.1 hm with e | hm
      · subst e; simp at hb
      · exact ih hs hm
theorem pL {l : List Nat} {g g' : dQ} (h : eN l g g') {s : Nat} (hs : fM s l = false) : g' s = g s := h s (wE hs)
theorem kS.rule {α : Type} {F : (α → World → Prop) → α → World → Prop} (I : Nat → α → World → Prop) {g : α} {w : World} (n : Nat) (h0 : I n g w)
    (hr : ∀ n g w, I n g w → F (fun g' w' => ∃ m, m < n ∧ I m g' w') g w) : kS F g w := ⟨I, ⟨n, h0⟩, hr⟩
theorem bG (A B : Prop) : lN (.bool true) A B = A := Eq.trans rfl rfl
theorem bF (A B : Prop) : lN (.bool false) A B = B := Eq.trans rfl rfl
theorem bM (s : (Value → World → Prop) → Prop) (w : World) (K : Value → World → Prop) : Gd true s w K = s K := Eq.trans rfl rfl
theorem bL (s : (Value → World → Prop) → Prop) (w : World) (K : Value → World → Prop) : Gd false s w K = K undef w := Eq.trans rfl rfl
theorem bN (p : Prop) : Gs true p = p := Eq.trans rfl rfl
theorem bH (p : Prop) : Gs false p = True := Eq.trans rfl rfl
theorem bV : fX (.bool true) true = true := Eq.trans rfl rfl
theorem bR : fX (.bool true) false = false := Eq.trans rfl rfl
theorem bT : fX (.bool false) true = false := Eq.trans rfl rfl
theorem bU : fX (.bool false) false = true := Eq.trans rfl rfl
end
end Go.En
namespace Go.Proofs.Ytmhokapokchneaa
open Go Go.En
noncomputable abbrev pg : Program := Try.prog
theorem TryM.mixed : pg.follows .mixedOrders = true := Try.checked.mixed
abbrev K0 := World → Prop
abbrev K1 := Value → K0
abbrev K2 := Value → K1
abbrev K3 := Value → K2
abbrev K4 := Value → K3
abbrev K5 := Value → K4
abbrev HR (rs : List ResultVar) (R : K1) (Q : Exit → dQ → World → Prop) : Prop := ∀ g w, (iB pg rs g w fun vs => R (Ab vs) w) → Q .ret g w
abbrev no : dQ → World → Prop := fun _ _ => False
theorem rN {Q : dQ → World → Prop} : ∀ g w, no g w → Q g w := fun _ _ h => h.elim
abbrev jP : FuncId := 6
abbrev jV : FuncId := 7
abbrev lC : FuncId := 8
abbrev dV : FuncId := 9
abbrev eC : FuncId := 10
abbrev dZ : FuncId := 11
abbrev dY : FuncId := 12
abbrev gK : FuncId := 13
abbrev eT : FuncId := 17
abbrev eK : FuncId := 18
abbrev eJ : FuncId := 19
abbrev gS : FuncId := 20
abbrev eA : FuncId := 21
abbrev jR : FuncId := 22
abbrev gQ : FuncId := 23
abbrev eS : FuncId := 24
abbrev eP : FuncId := 25
abbrev gP : FuncId := 26
abbrev gW : FuncId := 27
abbrev fQ : FuncId := 33
abbrev oZ : FuncId := 34
abbrev rB : FuncId := 35
end Go.Proofs.Ytmhokapokchneaa
namespace Go.Proofs.Ytmhokapokchneaa
open Go Go.En
set_option linter.unusedVariables false
set_option maxRecDepth 20000
attribute [local irreducible] Go.En.eE
variable (Q : Exit → dQ → World → Prop) (g : dQ) (w : World)
def nC : FA := ⟨jV, fun i => .leaf ([], []) []⟩
def lE : List ResultVar := [.tmp 0]
noncomputable def mB : Code := gN Try.f7
def kY (R : K1)  (w : World) : Prop :=
  dG pg lC #[(.int .i64 100)] w fun t10 w =>
  bP pg (eY t10 0) w fun t11 w =>
  bP pg (eY t10 1) w fun t12 w =>
  bP pg (dB .neq 26 (.tmp 13) (.const (.int .i64 0)) t12 (.int .i64 0)) w fun t14 w =>
  Gd (fX t14 false) (fun K => K t11 w) w fun t16 w =>
  Gd (fX t14 false) (fun K => bP pg (dB .eql 25 (.tmp 16) (.const (.pointer none)) t16 (.pointer none)) w K) w fun t17 w =>
  bP pg (fL t14 (.bool true) t17) w fun t18 w =>
  lN t18
    (R (.bool false) w)
    (bP pg (dS 23 2 [(0, (.int .u8 120)), (1, (.int .u8 121))]) w fun t20 w =>
    bP pg (mU 23 23 t20) w fun t21 w =>
    dG pg dV #[t11, (.string ⟨#[97]⟩), (.int .i64 0), t21] w fun t22 w =>
    dG pg dY #[t11, (.string ⟨#[97]⟩)] w fun t25 w =>
    bP pg (eY t25 0) w fun t26 w =>
    bP pg (eY t25 1) w fun t27 w =>
    dG pg eC #[t11] w fun t29 w =>
    dG pg dZ #[t11, (.slice none 0 0)] w fun t31 w =>
    dG pg dY #[t11, (.string ⟨#[97]⟩)] w fun t34 w =>
    bP pg (eY t34 0) w fun t35 w =>
    bP pg (eY t34 1) w fun t36 w =>
    bP pg (dB .eql 26 (.tmp 37) (.const (.int .i64 0)) t22 (.int .i64 0)) w fun t38 w =>
    Gd (fX t38 true) (fun K => K t26 w) w fun t40 w =>
    Gd (fX t38 true) (fun K => bP pg (mU 23 9 t40) w K) w fun t41 w =>
    Gd (fX t38 true) (fun K => bP pg (dB .eql 9 (.tmp 41) (.const (.string ⟨#[120, 121]⟩)) t41 (.string ⟨#[120, 121]⟩)) w K) w fun t42 w =>
    bP pg (fL t38 t42 (.bool false)) w fun t43 w =>
    Gd (fX t43 true) (fun K => K t27 w) w fun t45 w =>
    Gd (fX t43 true) (fun K => bP pg (dB .eql 26 (.tmp 45) (.const (.int .i64 0)) t45 (.int .i64 0)) w K) w fun t46 w =>
    bP pg (fL t43 t46 (.bool false)) w fun t47 w =>
    Gd (fX t47 true) (fun K => K t29 w) w fun t49 w =>
    Gd (fX t47 true) (fun K => bP pg (dB .eql 3 (.tmp 49) (.const (.int .i64 1)) t49 (.int .i64 1)) w K) w fun t50 w =>
    bP pg (fL t47 t50 (.bool false)) w fun t51 w =>
    Gd (fX t51 true) (fun K => K t36 w) w fun t53 w =>
    Gd (fX t51 true) (fun K => bP pg (dB .eql 26 (.tmp 53) (.const (.int .i64 21)) t53 (.int .i64 21)) w K) w fun t54 w =>
    bP pg (fL t51 t54 (.bool false)) w fun t55 w =>
    Gd (fX t55 true) (fun K => K t11 w) w fun t57 w =>
    Gd (fX t55 true) (fun K => dG pg eJ #[t57] w K) w fun t58 w =>
    Gd (fX t55 true) (fun K => bP pg (dB .eql 26 (.tmp 58) (.const (.int .i64 0)) t58 (.int .i64 0)) w K) w fun t59 w =>
    bP pg (fL t55 t59 (.bool false)) w fun t60 w =>
    R t60 w)
theorem qM (R : K1) (hr : HR lE R Q) (h : kY R w) : eE pg nC mB Q g w :=
  dR (kn := no) (l := []) (by kernel_rfl) h rN hr trivial
def rP (w : World) (R : K1) : Prop :=
  kY R w
theorem rA {w : World} {R : K1} (h : rP w R) : dG pg jV #[] w R := by
  refine dM (ann := nC) (fn := Try.f7) (c := mB) (args := []) (rs := lE) (N := 61) TryM.mixed (by kernel_rfl) Try.func7 (by kernel_rfl) (by kernel_rfl) (by kernel_rfl) (of_decide_eq_true (by kernel_rfl)) (by kernel_rfl) ?_
  exact (qM (lX pg lE R) (hH []) w R (fun _ _ h => h) h)
def qS : FA := ⟨lC, fun i => .leaf ([], []) []⟩
def pN : List ResultVar := [.tmp 2, .tmp 3]
noncomputable def pV : Code := gN Try.f8
def oQ (R : K1) (wJ : Value) (w : World) : Prop :=
  bP pg (dB .lss 3 (.tmp 4) (.const (.int .i64 0)) wJ (.int .i64 0)) w fun t5 w =>
  Gd (fX t5 false) (fun K => K wJ w) w fun t7 w =>
  Gd (fX t5 false) (fun K => bP pg (dB .gtr 3 (.tmp 7) (.const (.int .i64 16777216)) t7 (.int .i64 16777216)) w K) w fun t8 w =>
  bP pg (fL t5 (.bool true) t8) w fun t9 w =>
  lN t9
    (R (.tuple #[(.pointer none), (.int .i64 1)]) w)
    (bP pg (rC 57 none) w fun t11 w =>
    bP pg (rC 57 none) w fun t12 w =>
    bP pg (lY 60 [(0, wJ), (1, t11), (2, t12), (4, (.int .i64 (-1)))]) w fun t13 w =>
    bP pg (xF 60 t13) w fun t14 w =>
    R (.tuple #[t14, (.int .i64 0)]) w)
theorem rW (R : K1) (hr : HR pN R Q) (h : oQ R (g 0) w) : eE pg qS pV Q g w :=
  dR (kn := no) (l := []) (by kernel_rfl) h rN hr trivial
def vC (a0 : Value) (w : World) (R : K1) : Prop :=
  oQ R a0 w
theorem sX {a0 : Value} {w : World} {R : K1} (h : vC a0 w R) : dG pg lC #[a0] w R := by
  refine dM (ann := qS) (fn := Try.f8) (c := pV) (args := [a0]) (rs := pN) (N := 15) TryM.mixed (by kernel_rfl) Try.func8 (by kernel_rfl) (by kernel_rfl) (by kernel_rfl) (of_decide_eq_true (by kernel_rfl)) (by kernel_rfl) ?_
  exact (rW (lX pg pN R) (hH [a0]) w R (fun _ _ h => h) h)
def kJ : FA := ⟨dV, fun i => match Nat.beq i 9 with | true => .leaf ([4], [(4, 7), (4, 8), (4, 10), (4, 11), (4, 14), (4, 15), (4, 16)]) [(false, []), (false, []), (false, []), (false, []), (true, []), (false, []), (false, []), (false, [2]), (false, [3]), (false, []), (false, [5]), (false, [6]), (false, []), (false, []), (false, [9]), (false, [10]), (false, [11]), (false, []), (false, [])] | false => .leaf ([], []) []⟩
def iK : List ResultVar := [.tmp 8]
noncomputable def kB : Code := gN Try.f9
def gG (R : K1) (eM pF yP Bd : Value) (w : World) : Prop :=
  dG pg eA #[eM] w fun t12 w =>
  bP pg (dB .neq 26 (.tmp 13) (.const (.int .i64 0)) t12 (.int .i64 0)) w fun t14 w =>
  lN t14
    (R t12 w)
    (bP pg (iA eM) w fun t17 w =>
    bP pg (dD 60 t17 2) w fun t18 w =>
    bP pg (dO 57 t18) w fun t19 w =>
    bP pg (kD 57 t19 pF false) w fun t21 w =>
    bP pg (jI .len #[23] 3 [t21]) w fun t22 w =>
    dG pg jR #[pF] w fun t25 w =>
    bP pg (xI .not t25) w fun t26 w =>
    Gd (fX t26 false) (fun K => K yP w) w fun t28 w =>
    Gd (fX t26 false) (fun K => bP pg (dB .lss 3 (.tmp 28) (.const (.int .i64 0)) t28 (.int .i64 0)) w K) w fun t29 w =>
    bP pg (fL t26 (.bool true) t29) w fun t30 w =>
    lN t30
      (R (.int .i64 1) w)
      (bP pg (dB .gtr 3 (.tmp 32) (.tmp 33) yP t22) w fun t34 w =>
      lN t34
        (R (.int .i64 17) w)
        ((dr w) = (dr w) ∧
        bP pg (iA eM) (dr w) fun t37 w_ => w_ = (dr w) ∧
        bP pg (dD 60 t37 2) (dr w) fun t38 w_ => w_ = (dr w) ∧
        bP pg (dO 57 t38) (dr w) fun t39 w_ => w_ = (dr w) ∧
        dG pg gQ #[t39] (dr w) fun t40 iV =>
        iV = iV ∧
        iV = iV ∧
        bP pg (jI .len #[23] 3 [Bd]) iV fun t43 w_ => w_ = iV ∧
        (dE pg (jI .len #[23] 3 [Bd]) t43 (dr w) ∧ True) ∧
        bP pg (dB .add 3 (.tmp 41) (.tmp 43) yP t43) iV fun t44 w_ => w_ = iV ∧
        (dE pg (dB .add 3 (.tmp 41) (.tmp 43) yP t43) t44 (dr w) ∧ True) ∧
        iV = iV ∧
        bP pg (dB .sub 3 (.tmp 44) (.tmp 45) t44 t22) iV fun t46 w_ => w_ = iV ∧
        (dE pg (dB .sub 3 (.tmp 44) (.tmp 45) t44 t22) t46 (dr w) ∧ True) ∧
        bP pg (jI .max #[3, 3] 3 [t46, (.int .i64 0)]) iV fun t47 w_ => w_ = iV ∧
        (dE pg (jI .max #[3, 3] 3 [t46, (.int .i64 0)]) t47 (dr w) ∧ True) ∧
        bP pg (dB .add 3 (.tmp 40) (.tmp 47) t40 t47) iV fun t48 w_ => w_ = iV ∧
        iV = iV ∧
        bP pg (iA eM) iV fun t50 w_ => w_ = iV ∧
        (dE pg (iA eM) t50 (dr w) ∧ True) ∧
        bP pg (dD 60 t50 0) iV fun t51 w_ => w_ = iV ∧
        (dE pg (dD 60 t50 0) t51 (dr w) ∧ True) ∧
        bP pg (dO 3 t51) iV fun t52 w_ => w_ = iV ∧
        (dE pg (dO 3 t51) t52 (dr w) ∧ True) ∧
        bP pg (dB .gtr 3 (.tmp 48) (.tmp 52) t48 t52) iV fun t53 w_ => w_ = iV ∧
        iV = iV ∧
        lN t53
          (R (.int .i64 22) iV)
          (dG pg eP #[Bd] iV fun t58 w =>
          bP pg (lY 65 [(0, (.int .i64 0)), (1, pF), (3, yP), (4, t58)]) w fun t59 w =>
          dG pg eS #[eM, t59] w fun t60 w =>
          R t60 w))))
theorem nZ (R : K1) (hr : HR iK R Q) (h : gG R (g 0) (g 1) (g 2) (g 3) w) : eE pg kJ kB Q g w :=
  dR (kn := no) (l := []) (by kernel_rfl) h rN hr trivial
def kF (a0 a1 a2 a3 : Value) (w : World) (R : K1) : Prop :=
  gG R a0 a1 a2 a3 w
theorem jY {a0 a1 a2 a3 : Value} {w : World} {R : K1} (h : kF a0 a1 a2 a3 w R) : dG pg dV #[a0, a1, a2, a3] w R := by
  refine dM (ann := kJ) (fn := Try.f9) (c := kB) (args := [a0, a1, a2, a3]) (rs := iK) (N := 61) TryM.mixed (by kernel_rfl) Try.func9 (by kernel_rfl) (by kernel_rfl) (by kernel_rfl) (of_decide_eq_true (by kernel_rfl)) (by kernel_rfl) ?_
  exact (nZ (lX pg iK R) (hH [a0, a1, a2, a3]) w R (fun _ _ h => h) h)
def jJ : FA := ⟨eC, fun i => .leaf ([], []) []⟩
def gX : List ResultVar := [.tmp 2]
noncomputable def jF : Code := gN Try.f10
def fP (R : K1) (eM : Value) (w : World) : Prop :=
  bP pg (dB .eql 25 (.tmp 3) (.const (.pointer none)) eM (.pointer none)) w fun t4 w =>
  lN t4
    (R (.int .i64 0) w)
    (bP pg (iA eM) w fun t6 w =>
    bP pg (dD 60 t6 3) w fun t7 w =>
    bP pg (dO 58 t7) w fun t8 w =>
    bP pg (jI .len #[58] 3 [t8]) w fun t9 w =>
    R t9 w)
theorem mG (R : K1) (hr : HR gX R Q) (h : fP R (g 0) w) : eE pg jJ jF Q g w :=
  dR (kn := no) (l := []) (by kernel_rfl) h rN hr trivial
def iW (a0 : Value) (w : World) (R : K1) : Prop :=
  fP R a0 w
theorem jE {a0 : Value} {w : World} {R : K1} (h : iW a0 w R) : dG pg eC #[a0] w R := by
  refine dM (ann := jJ) (fn := Try.f10) (c := jF) (args := [a0]) (rs := gX) (N := 10) TryM.mixed (by kernel_rfl) Try.func10 (by kernel_rfl) (by kernel_rfl) (by kernel_rfl) (of_decide_eq_true (by kernel_rfl)) (by kernel_rfl) ?_
  exact (mG (lX pg gX R) (hH [a0]) w R (fun _ _ h => h) h)
def bX : FA := ⟨dZ, fun i => match Nat.beq i 5 with | true => .leaf ([5], []) [(false, []), (false, []), (false, []), (false, []), (false, []), (true, [])] | false => .leaf ([], []) []⟩
def gH : List ResultVar := []
noncomputable def bW : Code := gN Try.f11
def gC (kn : K0) (eM : Value) (w : World) : Prop :=
  bP pg (iA eM) w fun t40 w =>
  bP pg (dD 60 t40 1) w fun t41 w =>
  bP pg (dO 57 t41) w fun t42 w =>
  dG pg gW #[t42] w fun t43 w =>
  bP pg (iA eM) w fun t44 w =>
  bP pg (dD 60 t44 2) w fun t45 w =>
  bP pg (fY 57 t45 t43) w fun _u w =>
  bP pg (iA eM) w fun t46 w =>
  bP pg (dD 60 t46 3) w fun t47 w =>
  bP pg (fY 58 t47 (.slice none 0 0)) w fun _u w =>
  bP pg (iA eM) w fun t48 w =>
  bP pg (dD 60 t48 4) w fun t49 w =>
  bP pg (fY 3 t49 (.int .i64 (-1))) w fun _u w =>
  bP pg (iA eM) w fun t50 w =>
  bP pg (dD 60 t50 5) w fun t51 w =>
  bP pg (fY 4 t51 (.bool false)) w fun _u w =>
  kn w
theorem oE (kn : K0) (hn : ∀ g w, kn w → Q .normal g w) (h : gC kn (g 0) w) : eE pg bX (dI 1 (dI 1 bW)) Q g w :=
  dR (kr := no) (l := []) (by kernel_rfl) h hn rN trivial
def gL (kn : K5) (eM dT t11 t12 t13 : Value) (w : World) : Prop :=
  bP pg (dB .add 3 (.tmp 13) (.const (.int .i64 1)) t13 (.int .i64 1)) w fun t34 w =>
  kn eM dT t11 t12 t34 w
theorem nQ (kn : K5) (hn : ∀ g w, kn (g 0) (g 1) (g 11) (g 12) (g 13) w → Q .normal g w) (h : gL kn (g 0) (g 1) (g 11) (g 12) (g 13) w) : eE pg bX (dI 3 (bI (bI (dI 1 (fJ 1 (dI 1 bW)))))) Q g w :=
  dR (kr := no) (l := []) (by kernel_rfl) h hn rN trivial
def iI (kn : K5) (k0 : K1) (eM dT t11 t12 t13 : Value) (w : World) : Prop :=
  bP pg (dB .lss 3 (.tmp 13) (.tmp 12) t13 t12) w fun t14 w =>
  lN t14
    (bP pg (mV 58 t11 t13) w fun t16 w =>
    bP pg (dO 65 t16) w fun t17 w =>
    bP pg (sG 65) w fun Bk w =>
    bP pg (fY 65 Bk t17) w fun _u w =>
    bP pg (jI .len #[22] 3 [dT]) w fun t20 w =>
    bP pg (dB .lss 3 (.tmp 18) (.tmp 20) t13 t20) w fun t21 w =>
    Gd (fX t21 true) (fun K => K dT w) w fun t23 w =>
    Gd (fX t21 true) (fun K => K t13 w) w fun t24 w =>
    Gd (fX t21 true) (fun K => bP pg (mV 22 t23 t24) w K) w fun t25 w =>
    Gd (fX t21 true) (fun K => bP pg (dO 4 t25) w K) w fun t26 w =>
    bP pg (fL t21 t26 (.bool false)) w fun t27 w =>
    lN t27
      ((dr w) = (dr w) ∧
      bP pg (iA eM) (dr w) fun t29 w_ => w_ = (dr w) ∧
      bP pg (dD 60 t29 1) (dr w) fun t30 w_ => w_ = (dr w) ∧
      bP pg (dO 57 t30) (dr w) fun t31 w_ => w_ = (dr w) ∧
      bP pg (dO 65 Bk) (dr w) fun t32 w_ => w_ = (dr w) ∧
      dG pg gP #[t31, t32] (dr w) fun t33 Be =>
      kn eM dT t11 t12 t13 Be)
      (kn eM dT t11 t12 t13 w))
    (k0 eM w)
theorem nW (kn : K5) (k0 : K1) (hn : ∀ g w, kn (g 0) (g 1) (g 11) (g 12) (g 13) w → Q .normal g w) (h0 : ∀ g w, k0 (g 0) w → Q (.exit 0) g w) (h : iI kn k0 (g 0) (g 1) (g 11) (g 12) (g 13) w) : eE pg bX (fJ 3 (bI (bI (dI 1 (fJ 1 (dI 1 bW)))))) Q g w :=
  dR (kr := no) (l := [(0, fun g w => k0 (g 0) w)]) (by kernel_rfl) h hn rN ⟨h0, trivial⟩
def gI (kn : K5) (k0 : K1) (eM dT t11 t12 t13 : Value) (w : World) : Prop :=
  iI (fun eM dT t11 t12 t13 w => gL kn eM dT t11 t12 t13 w) k0 eM dT t11 t12 t13 w
theorem nX (kn : K5) (k0 : K1) (hn : ∀ g w, kn (g 0) (g 1) (g 11) (g 12) (g 13) w → Q .normal g w) (h0 : ∀ g w, k0 (g 0) w → Q (.exit 0) g w) (h : gI kn k0 (g 0) (g 1) (g 11) (g 12) (g 13) w) : eE pg bX (bI (bI (dI 1 (fJ 1 (dI 1 bW))))) Q g w :=
  iZ 3 _ g w (by kernel_rfl) (nW (fK (fun g w => eE pg bX (dI 3 (bI (bI (dI 1 (fJ 1 (dI 1 bW)))))) Q g w) Q) g w (fun eM dT t11 t12 t13 w => gL kn eM dT t11 t12 t13 w) k0 (fun g w h => kU (K := fun g w => eE pg bX (dI 3 (bI (bI (dI 1 (fJ 1 (dI 1 bW)))))) Q g w) (nQ Q g w kn hn h)) h0 h)
def iQ (k0 : K1) (eM dT t11 t12 t13 : Value) (w : World) : Prop :=
  kS (fun (X : Value → K0) (t : Value) (w : World) => gI (fun _ _ _ _ t13 w => X t13 w) k0 eM dT t11 t12 t w) t13 w
theorem oH (k0 : K1) (h0 : ∀ g w, k0 (g 0) w → Q (.exit 0) g w) (h : iQ k0 (g 0) (g 1) (g 11) (g 12) (g 13) w) : eE pg bX (bI (dI 1 (fJ 1 (dI 1 bW)))) Q g w := by
  refine tQ (T := Value) (fun g : dQ => g 13) (fun X t w => gI (fun _ _ _ _ t13 w => X t13 w) k0 (g 0) (g 1) (g 11) (g 12) t w) _ (by kernel_rfl) h (fun X g1 w1 ha hL => ?_)
  rw [← pL (s := 0) ha (by kernel_rfl)] at hL
  rw [← pL (s := 1) ha (by kernel_rfl)] at hL
  rw [← pL (s := 11) ha (by kernel_rfl)] at hL
  rw [← pL (s := 12) ha (by kernel_rfl)] at hL
  exact (nX (fK (fun g2 w2 => X ((fun g : dQ => g 13) g2) w2) Q) g1 w1 (fun _ _ _ _ t13 w => X t13 w) k0 (fun _ _ h => h) h0 hL)
def gA (kn : K1) (eM dT t11 t12 t13 : Value) (w : World) : Prop :=
  iQ kn eM dT t11 t12 t13 w
theorem nM (kn : K1) (hn : ∀ g w, kn (g 0) w → Q .normal g w) (h : gA kn (g 0) (g 1) (g 11) (g 12) (g 13) w) : eE pg bX (dI 1 (fJ 1 (dI 1 bW))) Q g w :=
  wP 0 _ g w (by kernel_rfl) (oH (zY 0 Q) g w kn hn h)
def iR (kn : K5) (eM dT : Value) (w : World) : Prop :=
  bP pg (iA eM) w fun t9 w =>
  bP pg (dD 60 t9 3) w fun t10 w =>
  bP pg (dO 58 t10) w fun t11 w =>
  bP pg (jI .len #[58] 3 [t11]) w fun t12 w =>
  kn eM dT t11 t12 (.int .i64 0) w
theorem oB (kn : K5) (hn : ∀ g w, kn (g 0) (g 1) (g 11) (g 12) (g 13) w → Q .normal g w) (h : iR kn (g 0) (g 1) w) : eE pg bX (fJ 1 (fJ 1 (dI 1 bW))) Q g w :=
  dR (kr := no) (l := []) (by kernel_rfl) h hn rN trivial
def iG (kn : K1) (eM dT : Value) (w : World) : Prop :=
  iR (fun eM dT t11 t12 t13 w => gA kn eM dT t11 t12 t13 w) eM dT w
theorem nS (kn : K1) (hn : ∀ g w, kn (g 0) w → Q .normal g w) (h : iG kn (g 0) (g 1) w) : eE pg bX (fJ 1 (dI 1 bW)) Q g w :=
  iZ 1 _ g w (by kernel_rfl) (oB (fK (fun g w => eE pg bX (dI 1 (fJ 1 (dI 1 bW))) Q g w) Q) g w (fun eM dT t11 t12 t13 w => gA kn eM dT t11 t12 t13 w) (fun g w h => kU (K := fun g w => eE pg bX (dI 1 (fJ 1 (dI 1 bW))) Q g w) (nM Q g w kn hn h)) h)
def gD (kn : K0) (eM dT : Value) (w : World) : Prop :=
  iG (fun eM w => gC kn eM w) eM dT w
theorem nK (kn : K0) (hn : ∀ g w, kn w → Q .normal g w) (h : gD kn (g 0) (g 1) w) : eE pg bX (dI 1 bW) Q g w :=
  iZ 1 _ g w (by kernel_rfl) (nS (fK (fun g w => eE pg bX (dI 1 (dI 1 bW)) Q g w) Q) g w (fun eM w => gC kn eM w) (fun g w h => kU (K := fun g w => eE pg bX (dI 1 (dI 1 bW)) Q g w) (oE Q g w kn hn h)) h)
def fU (kn : K2) (R : K1) (eM dT : Value) (w : World) : Prop :=
  bP pg (dB .eql 25 (.tmp 6) (.const (.pointer none)) eM (.pointer none)) w fun t7 w =>
  lN t7
    (R (.tuple #[]) w)
    (kn eM dT w)
theorem mO (kn : K2) (R : K1) (hn : ∀ g w, kn (g 0) (g 1) w → Q .normal g w) (hr : HR gH R Q) (h : fU kn R (g 0) (g 1) w) : eE pg bX (fJ 1 bW) Q g w :=
  dR (l := []) (by kernel_rfl) h hn hr trivial
def fW (kn : K0) (R : K1) (eM dT : Value) (w : World) : Prop :=
  fU (fun eM dT w => gD kn eM dT w) R eM dT w
theorem mY (kn : K0) (R : K1) (hn : ∀ g w, kn w → Q .normal g w) (hr : HR gH R Q) (h : fW kn R (g 0) (g 1) w) : eE pg bX bW Q g w :=
  iZ 1 _ g w (by kernel_rfl) (mO (fK (fun g w => eE pg bX (dI 1 bW) Q g w) Q) g w (fun eM dT w => gD kn eM dT w) R (fun g w h => kU (K := fun g w => eE pg bX (dI 1 bW) Q g w) (nK Q g w kn hn h)) hr h)
def kH (a0 a1 : Value) (w : World) (R : K1) : Prop :=
  fW (fun  w => R (.tuple #[]) w) R a0 a1 w
theorem kA {a0 a1 : Value} {w : World} {R : K1} (h : kH a0 a1 w R) : dG pg dZ #[a0, a1] w R := by
  refine dM (ann := bX) (fn := Try.f11) (c := bW) (args := [a0, a1]) (rs := gH) (N := 52) TryM.mixed (by kernel_rfl) Try.func11 (by kernel_rfl) (by kernel_rfl) (by kernel_rfl) (of_decide_eq_true (by kernel_rfl)) (by kernel_rfl) ?_
  exact (mY (lX pg gH R) (hH [a0, a1]) w (fun  w => R (.tuple #[]) w) R (fun _ _ h => h) (fun _ _ h => h) h)
def lA : FA := ⟨dY, fun i => .leaf ([], []) []⟩
def jD : List ResultVar := [.tmp 4, .tmp 5]
noncomputable def kK : Code := gN Try.f12
def gU (R : K1) (eM pF : Value) (w : World) : Prop :=
  dG pg eA #[eM] w fun t10 w =>
  bP pg (dB .neq 26 (.tmp 11) (.const (.int .i64 0)) t10 (.int .i64 0)) w fun t12 w =>
  lN t12
    (R (.tuple #[(.slice none 0 0), t10]) w)
    (bP pg (iA eM) w fun t16 w =>
    bP pg (dD 60 t16 2) w fun t17 w =>
    bP pg (dO 57 t17) w fun t18 w =>
    bP pg (kD 57 t18 pF true) w fun t20 w =>
    bP pg (eY t20 0) w fun t21 w =>
    bP pg (eY t20 1) w fun t22 w =>
    bP pg (xI .not t22) w fun t24 w =>
    lN t24
      (R (.tuple #[(.slice none 0 0), (.int .i64 21)]) w)
      (dG pg eP #[t21] w fun t26 w =>
      R (.tuple #[t26, (.int .i64 0)]) w))
theorem pG (R : K1) (hr : HR jD R Q) (h : gU R (g 0) (g 1) w) : eE pg lA kK Q g w :=
  dR (kn := no) (l := []) (by kernel_rfl) h rN hr trivial
def lH (a0 a1 : Value) (w : World) (R : K1) : Prop :=
  gU R a0 a1 w
theorem kI {a0 a1 : Value} {w : World} {R : K1} (h : lH a0 a1 w R) : dG pg dY #[a0, a1] w R := by
  refine dM (ann := lA) (fn := Try.f12) (c := kK) (args := [a0, a1]) (rs := jD) (N := 27) TryM.mixed (by kernel_rfl) Try.func12 (by kernel_rfl) (by kernel_rfl) (by kernel_rfl) (of_decide_eq_true (by kernel_rfl)) (by kernel_rfl) ?_
  exact (pG (lX pg jD R) (hH [a0, a1]) w R (fun _ _ h => h) h)
def kC : FA := ⟨gK, fun i => .leaf ([], []) []⟩
def hZ : List ResultVar := [.tmp 4]
noncomputable def jN : Code := gN Try.f13
def hU (R : K1) (eM pF : Value) (w : World) : Prop :=
  dG pg eA #[eM] w fun t9 w =>
  bP pg (dB .neq 26 (.tmp 10) (.const (.int .i64 0)) t9 (.int .i64 0)) w fun t11 w =>
  lN t11
    (R t9 w)
    (bP pg (iA eM) w fun t15 w =>
    bP pg (dD 60 t15 2) w fun t16 w =>
    bP pg (dO 57 t16) w fun t17 w =>
    bP pg (kD 57 t17 pF true) w fun t19 w =>
    bP pg (eY t19 0) w fun t20 w =>
    bP pg (eY t19 1) w fun t21 w =>
    bP pg (xI .not t21) w fun t23 w =>
    lN t23
      (R (.int .i64 21) w)
      (bP pg (lY 65 [(0, (.int .i64 2)), (1, pF)]) w fun t26 w =>
      dG pg eS #[eM, t26] w fun t27 w =>
      R t27 w))
theorem mZ (R : K1) (hr : HR hZ R Q) (h : hU R (g 0) (g 1) w) : eE pg kC jN Q g w :=
  dR (kn := no) (l := []) (by kernel_rfl) h rN hr trivial
def mJ (a0 a1 : Value) (w : World) (R : K1) : Prop :=
  hU R a0 a1 w
theorem nV {a0 a1 : Value} {w : World} {R : K1} (h : mJ a0 a1 w R) : dG pg gK #[a0, a1] w R := by
  refine dM (ann := kC) (fn := Try.f13) (c := jN) (args := [a0, a1]) (rs := hZ) (N := 28) TryM.mixed (by kernel_rfl) Try.func13 (by kernel_rfl) (by kernel_rfl) (by kernel_rfl) (of_decide_eq_true (by kernel_rfl)) (by kernel_rfl) ?_
  exact (mZ (lX pg hZ R) (hH [a0, a1]) w R (fun _ _ h => h) h)
def kZ : FA := ⟨eT, fun i => .leaf ([], []) []⟩
def lT : List ResultVar := []
noncomputable def kM : Code := gN Try.f17
def gT (kn : K0) (eM Ae : Value) (w : World) : Prop :=
  bP pg (dB .neq 25 (.tmp 4) (.const (.pointer none)) eM (.pointer none)) w fun t5 w =>
  lN t5
    (bP pg (jI .max #[3, 3] 3 [Ae, (.int .i64 (-1))]) w fun t8 w =>
    bP pg (iA eM) w fun t9 w =>
    bP pg (dD 60 t9 4) w fun t10 w =>
    bP pg (fY 3 t10 t8) w fun _u w =>
    kn w)
    (kn w)
theorem pE (kn : K0) (hn : ∀ g w, kn w → Q .normal g w) (h : gT kn (g 0) (g 1) w) : eE pg kZ kM Q g w :=
  dR (kr := no) (l := []) (by kernel_rfl) h hn rN trivial
def lB (a0 a1 : Value) (w : World) (R : K1) : Prop :=
  gT (fun  w => R (.tuple #[]) w) a0 a1 w
theorem kT {a0 a1 : Value} {w : World} {R : K1} (h : lB a0 a1 w R) : dG pg eT #[a0, a1] w R := by
  refine dM (ann := kZ) (fn := Try.f17) (c := kM) (args := [a0, a1]) (rs := lT) (N := 11) TryM.mixed (by kernel_rfl) Try.func17 (by kernel_rfl) (by kernel_rfl) (by kernel_rfl) (of_decide_eq_true (by kernel_rfl)) (by kernel_rfl) ?_
  exact (pE (lX pg lT R) (hH [a0, a1]) w (fun  w => R (.tuple #[]) w) (fun _ _ h => h) h)
def kE : FA := ⟨eK, fun i => .leaf ([], []) []⟩
def hJ : List ResultVar := [.tmp 6]
noncomputable def jK : Code := gN Try.f18
def fS (R : K1) (eM yQ yM : Value) (w : World) : Prop :=
  dG pg eA #[eM] w fun t11 w =>
  bP pg (dB .neq 26 (.tmp 12) (.const (.int .i64 0)) t11 (.int .i64 0)) w fun t13 w =>
  lN t13
    (R t11 w)
    (dG pg jR #[yQ] w fun t16 w =>
    bP pg (xI .not t16) w fun t17 w =>
    Gd (fX t17 false) (fun K => K yM w) w fun t19 w =>
    Gd (fX t17 false) (fun K => dG pg jR #[t19] w K) w fun t20 w =>
    Gd (fX t17 false) (fun K => bP pg (xI .not t20) w K) w fun t21 w =>
    bP pg (fL t17 (.bool true) t21) w fun t22 w =>
    lN t22
      (R (.int .i64 1) w)
      (bP pg (iA eM) w fun t25 w =>
      bP pg (dD 60 t25 2) w fun t26 w =>
      bP pg (dO 57 t26) w fun t27 w =>
      bP pg (kD 57 t27 yQ true) w fun t29 w =>
      bP pg (eY t29 0) w fun t30 w =>
      bP pg (eY t29 1) w fun t31 w =>
      bP pg (xI .not t31) w fun t33 w =>
      lN t33
        (R (.int .i64 21) w)
        (bP pg (lY 65 [(0, (.int .i64 1)), (1, yQ), (2, yM)]) w fun t37 w =>
        dG pg eS #[eM, t37] w fun t38 w =>
        R t38 w)))
theorem mX (R : K1) (hr : HR hJ R Q) (h : fS R (g 0) (g 1) (g 2) w) : eE pg kE jK Q g w :=
  dR (kn := no) (l := []) (by kernel_rfl) h rN hr trivial
def jQ (a0 a1 a2 : Value) (w : World) (R : K1) : Prop :=
  fS R a0 a1 a2 w
theorem jL {a0 a1 a2 : Value} {w : World} {R : K1} (h : jQ a0 a1 a2 w R) : dG pg eK #[a0, a1, a2] w R := by
  refine dM (ann := kE) (fn := Try.f18) (c := jK) (args := [a0, a1, a2]) (rs := hJ) (N := 39) TryM.mixed (by kernel_rfl) Try.func18 (by kernel_rfl) (by kernel_rfl) (by kernel_rfl) (of_decide_eq_true (by kernel_rfl)) (by kernel_rfl) ?_
  exact (mX (lX pg hJ R) (hH [a0, a1, a2]) w R (fun _ _ h => h) h)
def kW : FA := ⟨eJ, fun i => .leaf ([], []) []⟩
def jH : List ResultVar := [.tmp 2]
noncomputable def kP : Code := gN Try.f19
def gV (R : K1) (eM : Value) (w : World) : Prop :=
  dG pg eA #[eM] w fun t5 w =>
  bP pg (dB .neq 26 (.tmp 6) (.const (.int .i64 0)) t5 (.int .i64 0)) w fun t7 w =>
  lN t7
    (R t5 w)
    (dG pg fQ #[eM] w fun t10 w =>
    lN t10
      (R (.int .i64 20) w)
      (bP pg (iA eM) w fun t14 w =>
      bP pg (dD 60 t14 2) w fun t15 w =>
      bP pg (dO 57 t15) w fun t16 w =>
      dG pg gW #[t16] w fun t17 w =>
      bP pg (iA eM) w fun t18 w =>
      bP pg (dD 60 t18 1) w fun t19 w =>
      bP pg (fY 57 t19 t17) w fun _u w =>
      bP pg (iA eM) w fun t20 w =>
      bP pg (dD 60 t20 3) w fun t21 w =>
      bP pg (fY 58 t21 (.slice none 0 0)) w fun _u w =>
      R (.int .i64 0) w))
theorem oY (R : K1) (hr : HR jH R Q) (h : gV R (g 0) w) : eE pg kW kP Q g w :=
  dR (kn := no) (l := []) (by kernel_rfl) h rN hr trivial
def lK (a0 : Value) (w : World) (R : K1) : Prop :=
  gV R a0 w
theorem kN {a0 : Value} {w : World} {R : K1} (h : lK a0 w R) : dG pg eJ #[a0] w R := by
  refine dM (ann := kW) (fn := Try.f19) (c := kP) (args := [a0]) (rs := jH) (N := 22) TryM.mixed (by kernel_rfl) Try.func19 (by kernel_rfl) (by kernel_rfl) (by kernel_rfl) (of_decide_eq_true (by kernel_rfl)) (by kernel_rfl) ?_
  exact (oY (lX pg jH R) (hH [a0]) w R (fun _ _ h => h) h)
def kL : FA := ⟨gS, fun i => .leaf ([], []) []⟩
def iJ : List ResultVar := [.tmp 2]
noncomputable def jZ : Code := gN Try.f20
def iT (R : K1) (eM : Value) (w : World) : Prop :=
  bP pg (dB .eql 25 (.tmp 3) (.const (.pointer none)) eM (.pointer none)) w fun t4 w =>
  lN t4
    (R (.slice none 0 0) w)
    (bP pg (iA eM) w fun t6 w =>
    bP pg (dD 60 t6 2) w fun t7 w =>
    bP pg (dO 57 t7) w fun t8 w =>
    dG pg rB #[t8] w fun t9 w =>
    dG pg oZ #[t9] w fun t10 w =>
    R t10 w)
theorem oD (R : K1) (hr : HR iJ R Q) (h : iT R (g 0) w) : eE pg kL jZ Q g w :=
  dR (kn := no) (l := []) (by kernel_rfl) h rN hr trivial
def nJ (a0 : Value) (w : World) (R : K1) : Prop :=
  iT R a0 w
theorem pJ {a0 : Value} {w : World} {R : K1} (h : nJ a0 w R) : dG pg gS #[a0] w R := by
  refine dM (ann := kL) (fn := Try.f20) (c := jZ) (args := [a0]) (rs := iJ) (N := 11) TryM.mixed (by kernel_rfl) Try.func20 (by kernel_rfl) (by kernel_rfl) (by kernel_rfl) (of_decide_eq_true (by kernel_rfl)) (by kernel_rfl) ?_
  exact (oD (lX pg iJ R) (hH [a0]) w R (fun _ _ h => h) h)
def mH : FA := ⟨eA, fun i => .leaf ([], []) []⟩
def kG : List ResultVar := [.tmp 2]
noncomputable def lS : Code := gN Try.f21
def iC (R : K1) (eM : Value) (w : World) : Prop :=
  bP pg (dB .eql 25 (.tmp 4) (.const (.pointer none)) eM (.pointer none)) w fun t5 w =>
  lN t5
    (R (.int .i64 1) w)
    (bP pg (iA eM) w fun t8 w =>
    bP pg (dD 60 t8 5) w fun t9 w =>
    bP pg (dO 4 t9) w fun t10 w =>
    lN t10
      (R (.int .i64 20) w)
      (R (.int .i64 0) w))
theorem qI (R : K1) (hr : HR kG R Q) (h : iC R (g 0) w) : eE pg mH lS Q g w :=
  dR (kn := no) (l := []) (by kernel_rfl) h rN hr trivial
def mS (a0 : Value) (w : World) (R : K1) : Prop :=
  iC R a0 w
theorem lO {a0 : Value} {w : World} {R : K1} (h : mS a0 w R) : dG pg eA #[a0] w R := by
  refine dM (ann := mH) (fn := Try.f21) (c := lS) (args := [a0]) (rs := kG) (N := 11) TryM.mixed (by kernel_rfl) Try.func21 (by kernel_rfl) (by kernel_rfl) (by kernel_rfl) (of_decide_eq_true (by kernel_rfl)) (by kernel_rfl) ?_
  exact (qI (lX pg kG R) (hH [a0]) w R (fun _ _ h => h) h)
def qP : FA := ⟨jR, fun i => .leaf ([], []) []⟩
def pA : List ResultVar := [.tmp 2]
noncomputable def qB : Code := gN Try.f22
def oU (R : K1) (yW : Value) (w : World) : Prop :=
  bP pg (jI .len #[9] 3 [yW]) w fun t4 w =>
  bP pg (dB .geq 3 (.tmp 4) (.const (.int .i64 1)) t4 (.int .i64 1)) w fun t5 w =>
  Gd (fX t5 true) (fun K => K yW w) w fun t7 w =>
  Gd (fX t5 true) (fun K => bP pg (jI .len #[9] 3 [t7]) w K) w fun t8 w =>
  Gd (fX t5 true) (fun K => bP pg (dB .leq 3 (.tmp 8) (.const (.int .i64 32)) t8 (.int .i64 32)) w K) w fun t9 w =>
  bP pg (fL t5 t9 (.bool false)) w fun t10 w =>
  R t10 w
theorem sO (R : K1) (hr : HR pA R Q) (h : oU R (g 0) w) : eE pg qP qB Q g w :=
  dR (kn := no) (l := []) (by kernel_rfl) h rN hr trivial
def uR (a0 : Value) (w : World) (R : K1) : Prop :=
  oU R a0 w
theorem tC {a0 : Value} {w : World} {R : K1} (h : uR a0 w R) : dG pg jR #[a0] w R := by
  refine dM (ann := qP) (fn := Try.f22) (c := qB) (args := [a0]) (rs := pA) (N := 11) TryM.mixed (by kernel_rfl) Try.func22 (by kernel_rfl) (by kernel_rfl) (by kernel_rfl) (of_decide_eq_true (by kernel_rfl)) (by kernel_rfl) ?_
  exact (sO (lX pg pA R) (hH [a0]) w R (fun _ _ h => h) h)
def cA : FA := ⟨gQ, fun i => .leaf ([], []) []⟩
def eU : List ResultVar := [.tmp 2]
noncomputable def bZ : Code := gN Try.f23
def gE (R : K1) (qC : Value) (w : World) : Prop :=
  R qC w
theorem nR (R : K1) (hr : HR eU R Q) (h : gE R (g 3) w) : eE pg cA (dI 1 (dI 2 bZ)) Q g w :=
  dR (kn := no) (l := []) (by kernel_rfl) h rN hr trivial
def gF (kn : K2) (k0 : K1) (qC t7 : Value) (w : World) : Prop :=
  bP pg (wN t7 false 0) w fun t8 w =>
  bP pg (eY t8 0) w fun t9 w =>
  lN t9
    (bP pg (vR t7) w fun t10 w =>
    bP pg (eY t10 1) w fun t11 w =>
    bP pg (jI .len #[23] 3 [t11]) w fun t14 w =>
    bP pg (dB .add 3 (.tmp 12) (.tmp 14) qC t14) w fun t15 w =>
    kn t15 t7 w)
    (k0 qC w)
theorem oC (kn : K2) (k0 : K1) (hn : ∀ g w, kn (g 3) (g 7) w → Q .normal g w) (h0 : ∀ g w, k0 (g 3) w → Q (.exit 0) g w) (h : gF kn k0 (g 3) (g 7) w) : eE pg cA (bI (bI (dI 1 (fJ 1 (dI 2 bZ))))) Q g w :=
  dR (kr := no) (l := [(0, fun g w => k0 (g 3) w)]) (by kernel_rfl) h hn rN ⟨h0, trivial⟩
def iO (k0 : K1) (qC t7 : Value) (w : World) : Prop :=
  kS (fun (X : Value → K0) (t : Value) (w : World) => gF (fun qC _ w => X qC w) k0 t t7 w) qC w
theorem oF (k0 : K1) (h0 : ∀ g w, k0 (g 3) w → Q (.exit 0) g w) (h : iO k0 (g 3) (g 7) w) : eE pg cA (bI (dI 1 (fJ 1 (dI 2 bZ)))) Q g w := by
  refine tQ (T := Value) (fun g : dQ => g 3) (fun X t w => gF (fun qC _ w => X qC w) k0 t (g 7) w) _ (by kernel_rfl) h (fun X g1 w1 ha hL => ?_)
  rw [← pL (s := 7) ha (by kernel_rfl)] at hL
  exact (oC (fK (fun g2 w2 => X ((fun g : dQ => g 3) g2) w2) Q) g1 w1 (fun qC _ w => X qC w) k0 (fun _ _ h => h) h0 hL)
def gB (kn : K1) (qC t7 : Value) (w : World) : Prop :=
  iO kn qC t7 w
theorem nO (kn : K1) (hn : ∀ g w, kn (g 3) w → Q .normal g w) (h : gB kn (g 3) (g 7) w) : eE pg cA (dI 1 (fJ 1 (dI 2 bZ))) Q g w :=
  wP 0 _ g w (by kernel_rfl) (oF (zY 0 Q) g w kn hn h)
def iF (kn : K2) (uD qC : Value) (w : World) : Prop :=
  bP pg (sJ 57 uD) w fun t7 w =>
  kn qC t7 w
theorem nU (kn : K2) (hn : ∀ g w, kn (g 3) (g 7) w → Q .normal g w) (h : iF kn (g 0) (g 3) w) : eE pg cA (fJ 1 (fJ 1 (dI 2 bZ))) Q g w :=
  dR (kr := no) (l := []) (by kernel_rfl) h hn rN trivial
def iN (kn : K1) (uD qC : Value) (w : World) : Prop :=
  iF (fun qC t7 w => gB kn qC t7 w) uD qC w
theorem nY (kn : K1) (hn : ∀ g w, kn (g 3) w → Q .normal g w) (h : iN kn (g 0) (g 3) w) : eE pg cA (fJ 1 (dI 2 bZ)) Q g w :=
  iZ 1 _ g w (by kernel_rfl) (nU (fK (fun g w => eE pg cA (dI 1 (fJ 1 (dI 2 bZ))) Q g w) Q) g w (fun qC t7 w => gB kn qC t7 w) (fun g w h => kU (K := fun g w => eE pg cA (dI 1 (fJ 1 (dI 2 bZ))) Q g w) (nO Q g w kn hn h)) h)
def gO (R : K1) (uD qC : Value) (w : World) : Prop :=
  iN (fun qC w => gE R qC w) uD qC w
theorem nN (R : K1) (hr : HR eU R Q) (h : gO R (g 0) (g 3) w) : eE pg cA (dI 2 bZ) Q g w :=
  iZ 1 _ g w (by kernel_rfl) (nY (fK (fun g w => eE pg cA (dI 1 (dI 2 bZ)) Q g w) Q) g w (fun qC w => gE R qC w) (fun g w h => kU (K := fun g w => eE pg cA (dI 1 (dI 2 bZ)) Q g w) (nR Q g w R hr h)) h)
def iH (kn : K2) (uD : Value) (w : World) : Prop :=
  kn uD (.int .i64 0) w
theorem oI (kn : K2) (hn : ∀ g w, kn (g 0) (g 3) w → Q .normal g w) (h : iH kn (g 0) w) : eE pg cA (fJ 2 bZ) Q g w :=
  dR (kr := no) (l := []) (by kernel_rfl) h hn rN trivial
def iP (R : K1) (uD : Value) (w : World) : Prop :=
  iH (fun uD qC w => gO R uD qC w) uD w
theorem nT (R : K1) (hr : HR eU R Q) (h : iP R (g 0) w) : eE pg cA bZ Q g w :=
  iZ 2 _ g w (by kernel_rfl) (oI (fK (fun g w => eE pg cA (dI 2 bZ) Q g w) Q) g w (fun uD qC w => gO R uD qC w) (fun g w h => kU (K := fun g w => eE pg cA (dI 2 bZ) Q g w) (nN Q g w R hr h)) h)
def nH (a0 : Value) (w : World) (R : K1) : Prop :=
  iP R a0 w
theorem oS {a0 : Value} {w : World} {R : K1} (h : nH a0 w R) : dG pg gQ #[a0] w R := by
  refine dM (ann := cA) (fn := Try.f23) (c := bZ) (args := [a0]) (rs := eU) (N := 17) TryM.mixed (by kernel_rfl) Try.func23 (by kernel_rfl) (by kernel_rfl) (by kernel_rfl) (of_decide_eq_true (by kernel_rfl)) (by kernel_rfl) ?_
  exact (nT (lX pg eU R) (hH [a0]) w R (fun _ _ h => h) h)
def lI : FA := ⟨eS, fun i => match Nat.beq i 3 with | true => .leaf ([6, 7, 10], [(2, 6), (3, 6), (4, 6)]) [(false, []), (false, []), (false, []), (false, []), (false, []), (false, []), (true, [1, 2, 3]), (true, []), (false, []), (false, []), (true, [])] | false => match Nat.beq i 4 with | true => .leaf ([5], []) [(false, []), (false, []), (false, []), (false, []), (false, []), (true, [])] | false => .leaf ([], []) []⟩
def jC : List ResultVar := [.tmp 4]
noncomputable def kR : Code := gN Try.f24
def jB (R : K1) (eM A9 : Value) (w : World) : Prop :=
  bP pg (xF 65 A9) w fun yA w =>
  dG pg fQ #[eM] w fun t6 w =>
  lN t6
    (R (.int .i64 20) w)
    ((dr w) = (dr w) ∧
    (dr w) = (dr w) ∧
    bP pg (iA eM) (dr w) fun t9 w_ => w_ = (dr w) ∧
    bP pg (dD 60 t9 3) (dr w) fun t10 w_ => w_ = (dr w) ∧
    bP pg (dO 58 t10) (dr w) fun t11 w_ => w_ = (dr w) ∧
    bP pg (dO 65 yA) (dr w) fun t12 w_ => w_ = (dr w) ∧
    bP pg (dS 58 1 [(0, t12)]) (dr w) fun t13 Ao =>
    (dE pg (dO 58 t10) t11 Ao ∧ dE pg (dD 60 t9 3) t10 Ao ∧ dE pg (iA eM) t9 Ao ∧ True) ∧
    bP pg (jI .append #[58, 58] 58 [t11, t13]) Ao fun t14 zL =>
    bP pg (iA eM) zL fun t15 w_ => w_ = zL ∧
    bP pg (dD 60 t15 3) zL fun t16 w_ => w_ = zL ∧
    bP pg (fY 58 t16 t14) zL fun _u10 pD =>
    (dr pD) = (dr pD) ∧
    bP pg (iA eM) (dr pD) fun t18 w_ => w_ = (dr pD) ∧
    bP pg (dD 60 t18 2) (dr pD) fun t19 w_ => w_ = (dr pD) ∧
    bP pg (dO 57 t19) (dr pD) fun t20 w_ => w_ = (dr pD) ∧
    bP pg (dO 65 yA) (dr pD) fun t21 w_ => w_ = (dr pD) ∧
    dG pg gP #[t20, t21] (dr pD) fun t22 Bb =>
    R (.int .i64 0) Bb)
theorem oX (R : K1) (hr : HR jC R Q) (h : jB R (g 0) (g 1) w) : eE pg lI kR Q g w :=
  dR (kn := no) (l := []) (by kernel_rfl) h rN hr trivial
def oK (a0 a1 : Value) (w : World) (R : K1) : Prop :=
  jB R a0 a1 w
theorem pR {a0 a1 : Value} {w : World} {R : K1} (h : oK a0 a1 w R) : dG pg eS #[a0, a1] w R := by
  refine dM (ann := lI) (fn := Try.f24) (c := kR) (args := [a0, a1]) (rs := jC) (N := 23) TryM.mixed (by kernel_rfl) Try.func24 (by kernel_rfl) (by kernel_rfl) (by kernel_rfl) (of_decide_eq_true (by kernel_rfl)) (by kernel_rfl) ?_
  exact (oX (lX pg jC R) (hH [a0, a1]) w R (fun _ _ h => h) h)
def jM : FA := ⟨eP, fun i => .leaf ([], []) []⟩
def hC : List ResultVar := [.tmp 2]
noncomputable def iX : Code := gN Try.f25
def gZ (R : K1) (Bi : Value) (w : World) : Prop :=
  bP pg (dB .eql 23 (.tmp 3) (.const (.slice none 0 0)) Bi (.slice none 0 0)) w fun t4 w =>
  lN t4
    (R (.slice none 0 0) w)
    (bP pg (dS 23 0 []) w fun t5 w =>
    bP pg (jI .append #[23, 23] 23 [t5, Bi]) w fun t7 w =>
    R t7 w)
theorem mI (R : K1) (hr : HR hC R Q) (h : gZ R (g 0) w) : eE pg jM iX Q g w :=
  dR (kn := no) (l := []) (by kernel_rfl) h rN hr trivial
def lQ (a0 : Value) (w : World) (R : K1) : Prop :=
  gZ R a0 w
theorem mR {a0 : Value} {w : World} {R : K1} (h : lQ a0 w R) : dG pg eP #[a0] w R := by
  refine dM (ann := jM) (fn := Try.f25) (c := iX) (args := [a0]) (rs := hC) (N := 8) TryM.mixed (by kernel_rfl) Try.func25 (by kernel_rfl) (by kernel_rfl) (by kernel_rfl) (of_decide_eq_true (by kernel_rfl)) (by kernel_rfl) ?_
  exact (mI (lX pg hC R) (hH [a0]) w R (fun _ _ h => h) h)
def lR : FA := ⟨gP, fun i => match Nat.beq i 6 with | true => .leaf ([6], []) [(false, []), (false, []), (false, []), (false, []), (false, []), (false, []), (true, [])] | false => .leaf ([], []) []⟩
def mE : List ResultVar := []
noncomputable def kX : Code := gN Try.f26
def jS (kn : K0) (uD A9 : Value) (w : World) : Prop :=
  bP pg (xF 65 A9) w fun yA w =>
  bP pg (dD 65 yA 1) w fun t9 w =>
  bP pg (dO 9 t9) w fun t10 w =>
  bP pg (kD 57 uD t10 true) w fun t11 w =>
  bP pg (eY t11 0) w fun t12 w =>
  bP pg (eY t11 1) w fun t13 w =>
  bP pg (dD 65 yA 0) w fun t14 w =>
  bP pg (dO 3 t14) w fun t15 w =>
  bP pg (dB .eql 3 (.tmp 15) (.const (.int .i64 0)) t15 (.int .i64 0)) w fun t17 w =>
  lN t17
    (bP pg (jI .len #[23] 3 [t12]) w fun t19 w =>
    bP pg (dD 65 yA 3) w fun t20 w =>
    bP pg (dO 3 t20) w fun t21 w =>
    bP pg (dD 65 yA 4) w fun t22 w =>
    bP pg (dO 23 t22) w fun t23 w =>
    bP pg (jI .len #[23] 3 [t23]) w fun t24 w =>
    bP pg (dB .add 3 (.tmp 21) (.tmp 24) t21 t24) w fun t25 w =>
    bP pg (jI .max #[3, 3] 3 [t19, t25]) w fun t26 w =>
    bP pg (oT 23 t26 t26) w fun t27 w =>
    bP pg (jI .copy #[23, 23] 3 [t27, t12]) w fun t30 w =>
    (dr w) = (dr w) ∧
    bP pg (dD 65 yA 3) (dr w) fun t32 w_ => w_ = (dr w) ∧
    bP pg (dO 3 t32) (dr w) fun t33 w_ => w_ = (dr w) ∧
    bP pg (qK 23 t27 (some t33) none none) (dr w) fun t34 w_ => w_ = (dr w) ∧
    bP pg (dD 65 yA 4) (dr w) fun t35 w_ => w_ = (dr w) ∧
    bP pg (dO 23 t35) (dr w) fun t36 w_ => w_ = (dr w) ∧
    bP pg (jI .copy #[23, 23] 3 [t34, t36]) (dr w) fun t37 Bf =>
    bP pg (dD 65 yA 1) Bf fun t39 w =>
    bP pg (dO 9 t39) w fun t40 w =>
    bP pg (qL 57 uD t40 t27) w fun _u w =>
    kn w)
    (bP pg (dB .eql 3 (.tmp 15) (.const (.int .i64 1)) t15 (.int .i64 1)) w fun t43 w =>
    lN t43
      (lN t13
        (bP pg (dD 65 yA 1) w fun t46 w =>
        bP pg (dO 9 t46) w fun t47 w =>
        bP pg (jI .delete #[57, 9] 0 [uD, t47]) w fun _u w =>
        bP pg (dD 65 yA 2) w fun t49 w =>
        bP pg (dO 9 t49) w fun t50 w =>
        bP pg (qL 57 uD t50 t12) w fun _u w =>
        kn w)
        (kn w))
      (bP pg (dB .eql 3 (.tmp 15) (.const (.int .i64 2)) t15 (.int .i64 2)) w fun t53 w =>
      lN t53
        (bP pg (dD 65 yA 1) w fun t55 w =>
        bP pg (dO 9 t55) w fun t56 w =>
        bP pg (jI .delete #[57, 9] 0 [uD, t56]) w fun _u w =>
        kn w)
        (kn w)))
theorem pS (kn : K0) (hn : ∀ g w, kn w → Q .normal g w) (h : jS kn (g 0) (g 1) w) : eE pg lR kX Q g w :=
  dR (kr := no) (l := []) (by kernel_rfl) h hn rN trivial
def pX (a0 a1 : Value) (w : World) (R : K1) : Prop :=
  jS (fun  w => R (.tuple #[]) w) a0 a1 w
theorem qG {a0 a1 : Value} {w : World} {R : K1} (h : pX a0 a1 w R) : dG pg gP #[a0, a1] w R := by
  refine dM (ann := lR) (fn := Try.f26) (c := kX) (args := [a0, a1]) (rs := mE) (N := 57) TryM.mixed (by kernel_rfl) Try.func26 (by kernel_rfl) (by kernel_rfl) (by kernel_rfl) (of_decide_eq_true (by kernel_rfl)) (by kernel_rfl) ?_
  exact (pS (lX pg mE R) (hH [a0, a1]) w (fun  w => R (.tuple #[]) w) (fun _ _ h => h) h)
def eD : FA := ⟨fQ, fun i => .leaf ([], []) []⟩
def gJ : List ResultVar := [.tmp 2]
noncomputable def dX : Code := gN Try.f33
def eL (R : K1) (eM : Value) (w : World) : Prop :=
  bP pg (iA eM) w fun t26 w =>
  bP pg (dD 60 t26 5) w fun t27 w =>
  bP pg (dO 4 t27) w fun t28 w =>
  R t28 w
theorem oA (R : K1) (hr : HR gJ R Q) (h : eL R (g 0) w) : eE pg eD (dI 2 dX) Q g w :=
  dR (kn := no) (l := []) (by kernel_rfl) h rN hr trivial
def iL (kn : K1) (eM : Value) (w : World) : Prop :=
  bP pg (iA eM) w fun t5 w =>
  bP pg (dD 60 t5 4) w fun t6 w =>
  bP pg (dO 3 t6) w fun t7 w =>
  bP pg (dB .eql 3 (.tmp 7) (.const (.int .i64 0)) t7 (.int .i64 0)) w fun t8 w =>
  lN t8
    (bP pg (iA eM) w fun t10 w =>
    bP pg (dD 60 t10 5) w fun t11 w =>
    bP pg (fY 4 t11 (.bool true)) w fun _u w =>
    kn eM w)
    (bP pg (iA eM) w fun t14 w =>
    bP pg (dD 60 t14 4) w fun t15 w =>
    bP pg (dO 3 t15) w fun t16 w =>
    bP pg (dB .gtr 3 (.tmp 16) (.const (.int .i64 0)) t16 (.int .i64 0)) w fun t17 w =>
    lN t17
      (bP pg (iA eM) w fun t19 w =>
      bP pg (dD 60 t19 4) w fun t20 w =>
      bP pg (dO 3 t20) w fun t21 w =>
      bP pg (dB .sub 3 (.tmp 21) (.const (.int .i64 1)) t21 (.int .i64 1)) w fun t22 w =>
      bP pg (iA eM) w fun t23 w =>
      bP pg (dD 60 t23 4) w fun t24 w =>
      bP pg (fY 3 t24 t22) w fun _u w =>
      kn eM w)
      (kn eM w))
theorem nL (kn : K1) (hn : ∀ g w, kn (g 0) w → Q .normal g w) (h : iL kn (g 0) w) : eE pg eD (fJ 2 dX) Q g w :=
  dR (kr := no) (l := []) (by kernel_rfl) h hn rN trivial
def iS (R : K1) (eM : Value) (w : World) : Prop :=
  iL (fun eM w => eL R eM w) eM w
theorem nP (R : K1) (hr : HR gJ R Q) (h : iS R (g 0) w) : eE pg eD dX Q g w :=
  iZ 2 _ g w (by kernel_rfl) (nL (fK (fun g w => eE pg eD (dI 2 dX) Q g w) Q) g w (fun eM w => eL R eM w) (fun g w h => kU (K := fun g w => eE pg eD (dI 2 dX) Q g w) (oA Q g w R hr h)) h)
def nD (a0 : Value) (w : World) (R : K1) : Prop :=
  iS R a0 w
theorem oM {a0 : Value} {w : World} {R : K1} (h : nD a0 w R) : dG pg fQ #[a0] w R := by
  refine dM (ann := eD) (fn := Try.f33) (c := dX) (args := [a0]) (rs := gJ) (N := 29) TryM.mixed (by kernel_rfl) Try.func33 (by kernel_rfl) (by kernel_rfl) (by kernel_rfl) (of_decide_eq_true (by kernel_rfl)) (by kernel_rfl) ?_
  exact (nP (lX pg gJ R) (hH [a0]) w R (fun _ _ h => h) h)
end Go.Proofs.Ytmhokapokchneaa
namespace Go.En
open Go
section
variable {P : Program} {w : World} {t : TypeId} {ox oy : Operand} {k : IntKind} {a b : Int}
theorem fR (s : Sem Value) : (V s).run P w = (s.run P w).andThen fun v w => .ok (.value v) w := by
  unfold V; rw [Sem.run_bind] <;> rfl
theorem A2 (s : Sem Unit) : (U s).run P w = (s.run P w).andThen fun _ w => .ok .skip w := by
  unfold U; rw [Sem.run_bind] <;> rfl
theorem cR : (dB .add t ox oy (.int k a) (.int k b)).run P w = .ok (.value (.int k (k.wrap (a + b)))) w := by
  simp [dB, lM, fR, binOp, Op.intArith]
theorem cD : (dB .sub t ox oy (.int k a) (.int k b)).run P w = .ok (.value (.int k (k.wrap (a - b)))) w := by
  simp [dB, lM, fR, binOp, Op.intArith]
theorem cI : (dB .mul t ox oy (.int k a) (.int k b)).run P w = .ok (.value (.int k (k.wrap (a * b)))) w := by
  simp [dB, lM, fR, binOp, Op.intArith]
theorem cE (h : b ≠ 0) : (dB .quo t ox oy (.int k a) (.int k b)).run P w = .ok (.value (.int k (k.wrap (a.tdiv b)))) w := by
  simp [dB, lM, fR, binOp, Op.intDiv, h]
theorem dA (h : b ≠ 0) : (dB .rem t ox oy (.int k a) (.int k b)).run P w = .ok (.value (.int k (a.tmod b))) w := by
  simp [dB, lM, fR, binOp, Op.intDiv, h]
def A1 (k : IntKind) (a b : Int) : Int := k.wrap (BitVec.ofInt k.bits a &&& BitVec.ofInt k.bits b).toNat
def Bl (k : IntKind) (a b : Int) : Int := k.wrap (BitVec.ofInt k.bits a ||| BitVec.ofInt k.bits b).toNat
def Al (k : IntKind) (a b : Int) : Int := k.wrap (BitVec.ofInt k.bits a ^^^ BitVec.ofInt k.bits b).toNat
def wW (k : IntKind) (a b : Int) : Int := k.wrap (BitVec.ofInt k.bits a &&& ~~~BitVec.ofInt k.bits b).toNat
theorem cM : (dB .and t ox oy (.int k a) (.int k b)).run P w = .ok (.value (.int k (A1 k a b))) w := by
  simp [dB, lM, fR, binOp, Op.intBits, A1]
theorem dL : (dB .or t ox oy (.int k a) (.int k b)).run P w = .ok (.value (.int k (Bl k a b))) w := by
  simp [dB, lM, fR, binOp, Op.intBits, Bl]
theorem cJ : (dB .xor t ox oy (.int k a) (.int k b)).run P w = .ok (.value (.int k (Al k a b))) w := by
  simp [dB, lM, fR, binOp, Op.intBits, Al]
theorem bK : (dB .andNot t ox oy (.int k a) (.int k b)).run P w = .ok (.value (.int k (wW k a b))) w := by
  simp [dB, lM, fR, binOp, Op.intBits, wW]
theorem cS {k' : IntKind} (h : 0 ≤ b) : (dB .shl t ox oy (.int k a) (.int k' b)).run P w = .ok (.value (.int k (k.wrap (a * 2 ^ (min b.toNat k.bits))))) w := by
  simp [dB, lM, fR, binOp, Op.shift, Int.not_lt.2 h]
theorem cO {k' : IntKind} (h : 0 ≤ b) : (dB .shr t ox oy (.int k a) (.int k' b)).run P w = .ok (.value (.int k (a.fdiv (2 ^ (min b.toNat k.bits))))) w := by
  simp [dB, lM, fR, binOp, Op.shift, Int.not_lt.2 h]
theorem cZ : (dB .eql t ox oy (.int k a) (.int k b)).run P w = .ok (.value (.bool (a == b))) w := by
  simp [dB, lM, fR, binOp, Op.intCmp, eqGuard]
theorem cL : (dB .neq t ox oy (.int k a) (.int k b)).run P w = .ok (.value (.bool (a != b))) w := by
  simp [dB, lM, fR, binOp, Op.intCmp, eqGuard]
theorem cK : (dB .lss t ox oy (.int k a) (.int k b)).run P w = .ok (.value (.bool (decide (a < b)))) w := by
  simp [dB, lM, fR, binOp, Op.intCmp]
theorem cU : (dB .leq t ox oy (.int k a) (.int k b)).run P w = .ok (.value (.bool (decide (a ≤ b)))) w := by
  simp [dB, lM, fR, binOp, Op.intCmp]
theorem cY : (dB .gtr t ox oy (.int k a) (.int k b)).run P w = .ok (.value (.bool (decide (b < a)))) w := by
  simp [dB, lM, fR, binOp, Op.intCmp]
theorem cT : (dB .geq t ox oy (.int k a) (.int k b)).run P w = .ok (.value (.bool (decide (b ≤ a)))) w := by
  simp [dB, lM, fR, binOp, Op.intCmp]
theorem cV : (xI .neg (.int k a)).run P w = .ok (.value (.int k (k.wrap (0 - a)))) w := by
  simp [xI, fR, Op.unary, Op.intArith]
theorem cP : (xI .xor (.int k a)).run P w = .ok (.value (.int k (Al k (if k.signed then -1 else k.max) a))) w := by
  simp [xI, fR, Op.unary, Op.intBits, Al]
theorem cX (c : Bool) : (xI .not (.bool c)).run P w = .ok (.value (.bool !c)) w := by
  simp [xI, fR, Op.unary]
theorem bS (c : Bool) (x y : Value) : (fL (.bool c) x y).run P w = .ok (.value (if c then x else y)) w := by
  simp [fL, asBool]
theorem sH {x y : Value} {r : Bool} (hg : eqGuard .eql t ox oy x y = pure ()) (hb : binOp .eql t x y = (do pure (.bool (← Op.equal t x y)))) (he : (Op.equal t x y).run P w = .ok r w) :
    (dB .eql t ox oy x y).run P w = .ok (.value (.bool r)) w := by
  unfold dB
  simp only [lM, fR, hg, hb, pure_bind]
  rw [Sem.run_bind, he] <;> rfl
theorem zO {x y : Value} {r : Bool} (hg : eqGuard .neq t ox oy x y = pure ()) (hb : binOp .neq t x y = (do pure (.bool (!(← Op.equal t x y))))) (he : (Op.equal t x y).run P w = .ok r w) :
    (dB .neq t ox oy x y).run P w = .ok (.value (.bool (!r))) w := by
  unfold dB
  simp only [lM, fR, hg, hb, pure_bind]
  rw [Sem.run_bind, he] <;> rfl
theorem xZ (n : Nat) (c d : Bool) (hu : P.underlying t = some .bool) : (Op.equalIn (n + 1) t (.bool c) (.bool d)).run P w = .ok (c == d) w := by
  simp only [Op.equalIn, underlying]
  simp [hu]
theorem Ar (c d : Bool) (hu : P.underlying t = some .bool) : (Op.equal t (.bool c) (.bool d)).run P w = .ok (c == d) w := xZ 9999 c d hu
theorem AQ (c d : Bool) (hu : P.underlying t = some .bool) : (dB .eql t ox oy (.bool c) (.bool d)).run P w = .ok (.value (.bool (c == d))) w :=
  sH rfl rfl (Ar c d hu)
theorem cB {n : Int} (h0 : -9223372036854775808 ≤ n) (h1 : n ≤ 9223372036854775807) : IntKind.i64.wrap n = n := by
  unfold IntKind.wrap; simp [IntKind.bits, IntKind.signed]; split <;> omega
theorem cF {n : Int} (h0 : 0 ≤ n) (h1 : n ≤ 18446744073709551615) : IntKind.u64.wrap n = n := by
  unfold IntKind.wrap; simp [IntKind.bits, IntKind.signed]; omega
theorem cQ {n : Int} (h0 : -2147483648 ≤ n) (h1 : n ≤ 2147483647) : IntKind.i32.wrap n = n := by
  unfold IntKind.wrap; simp [IntKind.bits, IntKind.signed]; split <;> omega
theorem cH {n : Int} (h0 : 0 ≤ n) (h1 : n ≤ 4294967295) : IntKind.u32.wrap n = n := by
  unfold IntKind.wrap; simp [IntKind.bits, IntKind.signed]; omega
theorem cG {n : Int} (h0 : 0 ≤ n) (h1 : n ≤ 65535) : IntKind.u16.wrap n = n := by
  unfold IntKind.wrap; simp [IntKind.bits, IntKind.signed]; omega
theorem dK {n : Int} (h0 : 0 ≤ n) (h1 : n ≤ 255) : IntKind.u8.wrap n = n := by
  unfold IntKind.wrap; simp [IntKind.bits, IntKind.signed]; omega
theorem rV (x y : ByteArray) : (dB .eql t ox oy (.string x) (.string y)).run P w = .ok (.value (.bool (x.toList == y.toList))) w := by
  simp [dB, lM, fR, binOp, Op.stringOp, eqGuard]
theorem yK (n : Nat) {e : TypeId} (hu : P.underlying t = some (.pointer e)) (x : Option Addr) : (Op.equalIn (n + 1) t (.pointer x) (.pointer none)).run P w = .ok x.isNone w := by
  simp only [Op.equalIn, underlying]
  cases x <;> simp [hu]
theorem yV {e : TypeId} (hu : P.underlying t = some (.pointer e)) (x : Option Addr) : (Op.equal t (.pointer x) (.pointer none)).run P w = .ok x.isNone w := yK 9999 hu x
theorem Ac (m : Nat) {e : TypeId} (hu : P.underlying t = some (.slice e)) (x : Option Addr) (n c : Nat) : (Op.equalIn (m + 1) t (.slice x n c) (.slice none 0 0)).run P w = .ok x.isNone w := by
  simp only [Op.equalIn, underlying]
  cases x <;> simp [hu]
theorem A4 {e : TypeId} (hu : P.underlying t = some (.slice e)) (x : Option Addr) (n c : Nat) : (Op.equal t (.slice x n c) (.slice none 0 0)).run P w = .ok x.isNone w := Ac 9999 hu x n c
theorem AS {e : TypeId} (hu : P.underlying t = some (.pointer e)) (x : Option Addr) : (dB .eql t ox oy (.pointer x) (.pointer none)).run P w = .ok (.value (.bool x.isNone)) w :=
  sH rfl rfl (yV hu x)
theorem AP {e : TypeId} (hu : P.underlying t = some (.pointer e)) (x : Option Addr) : (dB .neq t ox oy (.pointer x) (.pointer none)).run P w = .ok (.value (.bool (!x.isNone))) w :=
  zO rfl rfl (yV hu x)
theorem Ax {e : TypeId} (hu : P.underlying t = some (.slice e)) (x : Option Addr) (n c : Nat) : (dB .eql t ox oy (.slice x n c) (.slice none 0 0)).run P w = .ok (.value (.bool x.isNone)) w :=
  sH rfl rfl (A4 hu x n c)
theorem AL {s : TypeId} {d : TypeDesc} {kd : IntKind} (hs : P.underlying s = some d) (hu : P.underlying t = some (.int kd)) : (mU s t (.int k a)).run P w = .ok (.value (.int kd (kd.wrap a))) w := by
  cases d <;> simp [mU, fR, convert, underlying, hs, hu, Conv.intToInt]
theorem tZ {ty : TypeId} {e : TypeId} (hu : P.underlying t = some (.slice e)) (x : Option Addr) (n c : Nat) : (jI .len #[t] ty [.slice x n c]).run P w = .ok (.value (.int .i64 n)) w := by
  simp [jI, builtin, Builtin.len_, underlying, hu, goInt]
theorem AK {ty : TypeId} (hu : P.underlying t = some .string) (x : ByteArray) : (jI .len #[t] ty [.string x]).run P w = .ok (.value (.int .i64 x.size)) w := by
  simp [jI, builtin, Builtin.len_, underlying, hu, goInt]
theorem cC {ats : Array TypeId} {ty : TypeId} : (jI .min ats ty [.int k a, .int k b]).run P w = .ok (.value (.int k (if b < a then b else a))) w := by
  simp [jI, builtin, Builtin.min_, Builtin.min2]
theorem cN {ats : Array TypeId} {ty : TypeId} : (jI .max ats ty [.int k a, .int k b]).run P w = .ok (.value (.int k (if b > a then b else a))) w := by
  simp [jI, builtin, Builtin.max_, Builtin.max2]
theorem fD (a b : Value) : (eY (.tuple #[a, b]) 0).run P w = .ok (.value a) w := Eq.trans rfl rfl
theorem fI (a b : Value) : (eY (.tuple #[a, b]) 1).run P w = .ok (.value b) w := Eq.trans rfl rfl
theorem fA (a b c : Value) : (eY (.tuple #[a, b, c]) 0).run P w = .ok (.value a) w := Eq.trans rfl rfl
theorem fC (a b c : Value) : (eY (.tuple #[a, b, c]) 1).run P w = .ok (.value b) w := Eq.trans rfl rfl
theorem fF (a b c : Value) : (eY (.tuple #[a, b, c]) 2).run P w = .ok (.value c) w := Eq.trans rfl rfl
theorem fB (a b c d : Value) : (eY (.tuple #[a, b, c, d]) 0).run P w = .ok (.value a) w := Eq.trans rfl rfl
theorem fE (a b c d : Value) : (eY (.tuple #[a, b, c, d]) 1).run P w = .ok (.value b) w := Eq.trans rfl rfl
theorem eZ (a b c d : Value) : (eY (.tuple #[a, b, c, d]) 2).run P w = .ok (.value c) w := Eq.trans rfl rfl
theorem fG (a b c d : Value) : (eY (.tuple #[a, b, c, d]) 3).run P w = .ok (.value d) w := Eq.trans rfl rfl
theorem cW (x : Addr) : (iA (.pointer (some x))).run P w = .ok (.value (.pointer (some x))) w := Eq.trans rfl rfl
theorem jG {fs : Array Field} {f : Field} {i : Nat} {inf : TypeInfo} (hu : P.underlying t = some (.struct fs)) (hf : fs[i]? = some f)
    (hi : P.info? f.type = some inf) (hz : inf.size ≠ 0) (x : Addr) : (dD t (.pointer (some x)) i).run P w = .ok (.value (.pointer (some (x.add f.offset)))) w := by
  simp [dD, fR, Instr.fieldAt, underlying, hu, hf, Instr.sureAddr, fieldPlace, sizeOf, typeInfo, hi, hz]
theorem uO {e : TypeId} {inf : TypeInfo} (hu : P.underlying t = some (.slice e)) (hi : P.info? e = some inf) (x : Addr) (n c : Nat) (h0 : 0 ≤ a) (h1 : a < n) :
    (mV t (.slice (some x) n c) (.int k a)).run P w = .ok (.value (.pointer (some (x.add (a.toNat * inf.size))))) w := by
  simp [mV, fR, Instr.indexAt, asIntOf, underlying, hu, h0, h1, sizeOf, typeInfo, hi]
end
end Go.En
namespace Go.En
open Go
def fT (w : World) (b : Nat) (cs : List Value) : Prop :=
  ∃ T lo hi, w.heap[b]? = some (.cells cs.toArray T (lo, hi)) ∧ (cs.length ≤ lo ∨ hi = lo)
structure dJ (w w' : World) (M : Nat → Prop) : Prop where
  os : w'.os = w.os
  tape : w'.tape = w.tape
  output : w'.output = w.output
  size : w.heap.size ≤ w'.heap.size
  keep : ∀ b, b < w.heap.size → ¬ M b → w'.heap[b]? = w.heap[b]?
def jU : Nat → Prop := fun _ => False
theorem dJ.refl (w : World) (M : Nat → Prop) : dJ w w M := ⟨rfl, rfl, rfl, Nat.le_refl _, fun _ _ _ => rfl⟩
theorem dJ.mono {w w' : World} {M N : Nat → Prop} (h : dJ w w' M) (hm : ∀ b, b < w.heap.size → M b → N b) : dJ w w' N :=
  ⟨h.os, h.tape, h.output, h.size, fun b hb hn => h.keep b hb fun hM => hn (hm b hb hM)⟩
theorem dJ.trans {a b c : World} {M N : Nat → Prop} (h : dJ a b M) (k : dJ b c N) (hn : ∀ x, x < a.heap.size → N x → M x) : dJ a c M :=
  ⟨k.os.trans h.os, k.tape.trans h.tape, k.output.trans h.output, Nat.le_trans h.size k.size,
    fun x hx hM => (k.keep x (Nat.lt_of_lt_of_le hx h.size) fun h => hM (hn x hx h)).trans (h.keep x hx hM)⟩
theorem dJ.seq {a b c : World} {M : Nat → Prop} (h : dJ a b M) (k : dJ b c M) : dJ a c M := h.trans k fun _ _ h => h
theorem dJ.new {a b c : World} {M : Nat → Prop} {x : Nat} (h : dJ a b M) (k : dJ b c (fun y => y = x)) (hx : a.heap.size ≤ x) : dJ a c M :=
  h.trans k fun y hy e => absurd hy (by subst e; omega)
theorem dJ.below {w w' : World} (h : dJ w w' jU) : Go.RowKit.Below w.heap.size w w' :=
  ⟨h.os, h.tape, h.output, h.size, fun k hk => h.keep k hk fun h => h⟩
theorem dJ.dr (w : World) (M : Nat → Prop) : dJ w (dr w) M := ⟨rfl, rfl, rfl, Nat.le_refl _, fun _ _ _ => rfl⟩
theorem dJ.alloc (w : World) (o : Obj) (M : Nat → Prop) : dJ w (w.alloc o) M :=
  ⟨rfl, rfl, rfl, by simp, fun b hb _ => by show (w.heap.push o)[b]? = _; rw [Array.getElem?_push, if_neg (by omega)]⟩
theorem rR (w : World) (a : Addr) (v : Value) (b : Nat) (h : b ≠ a.block) : (w.setCell a v).heap[b]? = w.heap[b]? := Go.RowKit.Below.heap_setCell w a v b h
theorem dJ.setCell (w : World) (a : Addr) (v : Value) {M : Nat → Prop} (h : a.block < w.heap.size → M a.block) : dJ w (w.setCell a v) M :=
  ⟨rfl, rfl, rfl, by simp, fun b hb hM => rR w a v b fun e => hM (e ▸ h (e ▸ hb))⟩
theorem fT.lt {w : World} {b : Nat} {cs : List Value} (h : fT w b cs) : b < w.heap.size := by
  obtain ⟨T, lo, hi, h, _⟩ := h
  rcases Nat.lt_or_ge b w.heap.size with h' | h'
  · exact h'
  · rw [Array.getElem?_eq_none h'] at h; cases h
theorem fT.ext {w w' : World} {b : Nat} {cs : List Value} {M : Nat → Prop} (h : fT w b cs) (hx : dJ w w' M) (hM : ¬ M b) : fT w' b cs := by
  have := h.lt
  obtain ⟨T, lo, hi, h, k⟩ := h
  exact ⟨T, lo, hi, by rw [hx.keep b this hM]; exact h, k⟩
theorem fT.cell {w : World} {b off : Nat} {cs : List Value} (h : fT w b cs) : w.cell? ⟨b, off, none⟩ = cs[off]? := by
  obtain ⟨T, lo, hi, h, _⟩ := h
  simp [World.cell?, h]
theorem fT.free {w : World} {b off : Nat} {cs : List Value} {s : Option Nat} (h : fT w b cs) (ho : off < cs.length) : w.frozen? ⟨b, off, s⟩ = false := by
  obtain ⟨T, lo, hi, h, k⟩ := h
  simp only [World.frozen?, h]
  rcases k with k | k <;> (simp; omega)
theorem fT.setCell {w : World} {b off : Nat} {cs : List Value} (h : fT w b cs) (v : Value) : fT (w.setCell ⟨b, off, none⟩ v) b (cs.set off v) := by
  have hb := h.lt
  obtain ⟨T, lo, hi, h, k⟩ := h
  refine ⟨T, lo, hi, ?_, by simpa using k⟩
  simp only [World.setCell, Array.getElem?_modify, h]
  simp
theorem fT.alloc (w : World) (cs : List Value) (T : TypeId) : fT (w.alloc (.cells cs.toArray T)) w.heap.size cs :=
  ⟨T, 0, 0, by show (w.heap.push _)[w.heap.size]? = _; simp, .inr rfl⟩
theorem yN {w w' : World} {M : Nat → Prop} {a : Addr} {v : Value} (h : w.cell? a = some v) (hx : dJ w w' M) (hM : ¬ M a.block) : w'.cell? a = some v := by
  have hb := World.block_lt_of_cell? w a h
  have e := hx.keep _ hb hM
  unfold World.cell? at h ⊢
  rw [e]; exact h
section
variable {P : Program} {w : World} {t : TypeId}
def Ag (d : TypeDesc) : Bool := match d with | .struct _ | .array _ _ => true | _ => false
theorem tP {d : TypeDesc} (hu : P.underlying t = some d) : (isAgg t).run P w = .ok (Ag d) w := by
  cases d <;> simp [isAgg, underlying, hu, Ag]
theorem eH {i : TypeInfo} (hi : P.info? t = some i) : (sizeOf t).run P w = .ok i.size w := by simp [sizeOf, typeInfo, hi]
theorem qV {b off : Nat} {cs : List Value} (ho : fT w b cs) : ∀ (n i : Nat) (acc : Array Value), off + i + n ≤ cs.length →
    (loadCellsFrom ⟨b, off, none⟩ i n acc).run P w = .ok (acc ++ ((cs.drop (off + i)).take n).toArray) w := by
  intro n
  induction n with
  | zero => intro i acc _; simp [loadCellsFrom]
  | succ n ih =>
    intro i acc h
    have hc : w.cell? ((⟨b, off, none⟩ : Addr).add i) = some cs[off + i] := by
      unfold Addr.add
      split
      · rename_i hi; subst hi; rw [ho.cell]; simp
      · show w.cell? ⟨b, off + i, none⟩ = _; rw [ho.cell]; simp
    simp only [loadCellsFrom, Sem.run_bind, run_load, hc, Result.andThen_ok]
    rw [ih (i + 1) _ (by omega)]
    congr 1
    rw [List.drop_eq_getElem_cons (by omega : off + i < cs.length)]
    simp [Nat.add_assoc]
theorem sY {b off n : Nat} {cs : List Value} (ho : fT w b cs) (h : off + n ≤ cs.length) :
    (loadCells ⟨b, off, none⟩ n).run P w = .ok ((cs.drop off).take n).toArray w := by
  unfold loadCells
  rw [qV ho n 0 #[] (by omega)]
  simp
theorem Af {d : TypeDesc} {i : TypeInfo} (hu : P.underlying t = some d) (hd : Ag d = true) (hi : P.info? t = some i) {b off : Nat} {cs : List Value} (ho : fT w b cs) (h : off + i.size ≤ cs.length) :
    (dO t (.pointer (some ⟨b, off, none⟩))).run P w = .ok (.value (.agg ((cs.drop off).take i.size).toArray)) w := by
  unfold dO
  rw [fR]
  simp only [Instr.loadAt, Instr.sureAddr, loadVar, pure_bind, Sem.run_bind, tP hu, hd, Result.andThen_ok, if_true, eH hi, sY ho h, Sem.run_pure]
def one (v : Value) : Bool := match v with | .agg _ | .tuple _ => false | _ => true
theorem vQ {a : Addr} {v x : Value} (hv : one v = true) (hc : w.cell? a = some x) (hf : w.frozen? a = false) : (store a v).run P w = .ok () (w.setCell a v) := by
  unfold store
  cases v <;> simp [one] at hv <;> simp [Sem.run, hc, hf]
def iM (cs : List Value) (off : Nat) : List Value → List Value
  | [] => cs
  | v :: vs => iM (cs.set off v) (off + 1) vs
theorem lL {b : Nat} {M : Nat → Prop} (hM : M b) : ∀ (vs : List Value) (w : World) (off i : Nat) (cs : List Value), fT w b cs → off + i + vs.length ≤ cs.length → (∀ v ∈ vs, one v = true) →
    ∃ w', (storeCells ⟨b, off, none⟩ vs i).run P w = .ok () w' ∧ fT w' b (iM cs (off + i) vs) ∧ dJ w w' M ∧ w'.heap.size = w.heap.size ∧ w'.drawn = w.drawn := by
  intro vs
  induction vs with
  | nil => intro w off i cs ho _ _; exact ⟨w, by simp [storeCells], ho, dJ.refl _ _, rfl, rfl⟩
  | cons v vs ih =>
    intro w off i cs ho h hv
    simp only [List.length_cons] at h
    have ha : (⟨b, off, none⟩ : Addr).add i = ⟨b, off + i, none⟩ := by
      unfold Addr.add; split
      · rename_i hi; subst hi; rfl
      · rfl
    have hlt : off + i < cs.length := by omega
    have hc : w.cell? ⟨b, off + i, none⟩ = some cs[off + i] := by rw [ho.cell]; simp
    have hs := vQ (P := P) (hv v (by simp)) hc (ho.free hlt)
    obtain ⟨w', h1, h2, h3, h4, h5⟩ := ih (w.setCell ⟨b, off + i, none⟩ v) off (i + 1) (cs.set (off + i) v) (ho.setCell v) (by simp; omega) (fun x hx => hv x (List.mem_cons_of_mem _ hx))
    refine ⟨w', ?_, h2, (dJ.setCell w _ v fun _ => hM).trans h3 (fun _ _ h => h), by rw [h4]; simp, by rw [h5] <;> rfl⟩
    simp only [storeCells, Sem.run_bind, ha, hs, Result.andThen_ok]
    exact h1
theorem tG {i : TypeInfo} (hi : P.info? t = some i) {b off : Nat} {cs : List Value} (ho : fT w b cs) {v : Value} (hs : v.cells.size = i.size)
    (hv : ∀ x ∈ v.cells.toList, one x = true) (h : off + i.size ≤ cs.length) {K : Value → World → Prop}
    (hk : ∀ w', fT w' b (iM cs off v.cells.toList) → dJ w w' (fun x => x = b) → w'.heap.size = w.heap.size → K undef w') : bP P (fY t (.pointer (some ⟨b, off, none⟩)) v) w K := by
  obtain ⟨w', h1, h2, h3, h4, _⟩ := lL (P := P) (M := fun x => x = b) rfl v.cells.toList w off 0 cs ho (by simp [hs]; omega) hv
  have : (fY t (.pointer (some ⟨b, off, none⟩)) v).run P w = .ok .skip w' := by
    unfold fY
    rw [A2]
    simp only [Instr.storeAt, Instr.sureAddr, storeVar, pure_bind, Sem.run_bind, eH hi, Result.andThen_ok, hs]
    simp [h1]
  unfold bP
  rw [this]
  exact hk w' h2 h3 h4
theorem tH {v : Value} (hv : one v = true) : v.cells = #[v] := by cases v <;> simp [one] at hv <;> rfl
theorem mW {i : TypeInfo} (hi : P.info? t = some i) (h1 : i.size = 1) {b off : Nat} {cs : List Value} (ho : fT w b cs) {v : Value} (hv : one v = true) (h : off < cs.length) {K : Value → World → Prop}
    (hk : ∀ w', fT w' b (cs.set off v) → dJ w w' (fun x => x = b) → w'.heap.size = w.heap.size → K undef w') : bP P (fY t (.pointer (some ⟨b, off, none⟩)) v) w K := by
  have e := tH hv
  refine tG hi ho (by rw [e, h1] <;> rfl) (by rw [e]; simpa using hv) (by omega) fun w' a b c => hk w' ?_ b c
  rw [e] at a; exact a
def zX (c : Option Value) (w : World) (Aa : Result Next) : Result Next := match c with | some v => .ok (.value v) w | none => Aa
def Aa (P : Program) (t : TypeId) (x : Addr) (w : World) : Result Next := (dO t (.pointer (some x))).run P w
theorem bJ (v : Value) (w : World) (f : Result Next) : zX (some v) w f = .ok (.value v) w := rfl
theorem wD {d : TypeDesc} (hu : P.underlying t = some d) (hd : Ag d = false) (x : Addr) (w : World) :
    (dO t (.pointer (some x))).run P w = zX (w.cell? x) w (Aa P t x w) := by
  cases h : w.cell? x with
  | none => rfl
  | some v =>
    unfold dO
    rw [fR]
    simp only [Instr.loadAt, Instr.sureAddr, loadVar, pure_bind, Sem.run_bind, tP hu, hd, Result.andThen_ok, Bool.false_eq_true, if_false, run_load, h, zX]
theorem uA {v : Value} {K : Value → World → Prop} (hk : ∀ w', fT w' w.heap.size v.cells.toList → dJ w w' jU → w'.heap.size = w.heap.size + 1 → K (.pointer (some ⟨w.heap.size, 0, none⟩)) w') :
    bP P (xF t v) w K := by
  have : (xF t v).run P w = .ok (.value (.pointer (some ⟨w.heap.size, 0, none⟩))) (w.alloc (.cells v.cells.toList.toArray t)) := by
    unfold xF; rw [fR]
    simp [Instr.box, newVar, newRow]
  unfold bP
  rw [this]
  exact hk _ (fT.alloc _ _ _) (dJ.alloc _ _ _) (by simp)
theorem yE {i : TypeInfo} {z : Value} (hi : P.info? t = some i) (hz : i.zero = some z) {K : Value → World → Prop}
    (hk : ∀ w', fT w' w.heap.size z.cells.toList → dJ w w' jU → w'.heap.size = w.heap.size + 1 → K (.pointer (some ⟨w.heap.size, 0, none⟩)) w') :
    bP P (sG t) w K := by
  have : (sG t).run P w = .ok (.value (.pointer (some ⟨w.heap.size, 0, none⟩))) (w.alloc (.cells z.cells.toList.toArray t)) := by
    unfold sG; rw [fR]
    simp [Instr.alloc, zeroValue, typeInfo, hi, hz, newVar, newRow]
  unfold bP
  rw [this]
  exact hk _ (fT.alloc _ _ _) (dJ.alloc _ _ _) (by simp)
end
theorem qX {P : Program} {w : World} {k : IntKind} {a : Int} {y : Nat} {code : BoundsCode} (h0 : 0 ≤ a) (h1 : a ≤ y) : (Instr.sliceBound (.int k a) y code).run P w = .ok a.toNat w := by
  simp [Instr.sliceBound, asIntOf, h0, h1]
section
variable {P : Program} {w : World} {t e : TypeId} {k k' : IntKind} {lo hi : Int} {i : TypeInfo}
def iE (x : Option Addr) (m l sz : Nat) : Option Addr := if m = l then x else x.map (·.add (l * sz))
theorem vN (hu : P.underlying t = some (.slice e)) (hi' : P.info? e = some i) (x : Option Addr) (n c : Nat) (h0 : 0 ≤ lo) (h1 : lo ≤ n) :
    (qK t (.slice x n c) (some (.int k lo)) none none).run P w = .ok (.value (.slice (iE x c lo.toNat i.size) (n - lo.toNat) (c - lo.toNat))) w := by
  simp only [qK, fR, Instr.sliceAt, underlying, hu, Sem.run_bind, run_program, Result.andThen_ok, Sem.run_pure, Instr.slice, Instr.sliceBounds, pure_bind, qX h0 h1, eH hi', iE]
theorem uB (hu : P.underlying t = some (.slice e)) (hi' : P.info? e = some i) (x : Option Addr) (n c : Nat) (h0 : 0 ≤ lo) (h1 : lo ≤ hi) (h2 : hi ≤ c) :
    (qK t (.slice x n c) (some (.int k lo)) (some (.int k' hi)) none).run P w = .ok (.value (.slice (iE x c lo.toNat i.size) (hi.toNat - lo.toNat) (c - lo.toNat))) w := by
  have h3 : (0 : Int) ≤ hi := by omega
  have h4 : lo ≤ (hi.toNat : Int) := by omega
  simp only [qK, fR, Instr.sliceAt, underlying, hu, Sem.run_bind, run_program, Result.andThen_ok, Sem.run_pure, Instr.slice, Instr.sliceBounds, pure_bind, qX h3 h2, qX h0 h4, eH hi', iE]
end
def Sl (w : World) (v : Value) (l : List Value) : Prop :=
  ∃ a n c, v = .slice a n c ∧ n = l.length ∧ n ≤ c ∧ (0 < n → ∃ b off, a = some ⟨b, off, none⟩ ∧ ∀ i, i < n → w.cell? ⟨b, off + i, none⟩ = l[i]?)
def tR (v : Value) (M : Nat → Prop) : Prop := match v with | .slice (some a) (_ + 1) _ => M a.block | _ => False
theorem Sl.ext {w w' : World} {v : Value} {l : List Value} {M : Nat → Prop} (h : Sl w v l) (hx : dJ w w' M) (hM : ¬ tR v M) : Sl w' v l := by
  obtain ⟨a, n, c, rfl, hn, hc, h⟩ := h
  refine ⟨a, n, c, rfl, hn, hc, fun h0 => ?_⟩
  obtain ⟨b, off, rfl, h2⟩ := h h0
  refine ⟨b, off, rfl, fun i hi => ?_⟩
  have h1 := h2 i hi
  obtain ⟨v, hv⟩ : ∃ v, l[i]? = some v := ⟨l[i], by simp⟩
  rw [hv] at h1 ⊢
  refine yN h1 hx ?_
  obtain ⟨m, rfl⟩ : ∃ m, n = m + 1 := ⟨n - 1, by omega⟩
  exact hM
theorem Sl.old {w : World} {v : Value} {l : List Value} (h : Sl w v l) : ¬ tR v (fun b => w.heap.size ≤ b) := by
  obtain ⟨a, n, c, rfl, hn, hc, h⟩ := h
  unfold tR
  split
  · rename_i x m _ e
    obtain ⟨rfl, rfl, rfl⟩ : a = some x ∧ n = m + 1 ∧ c = _ := by simpa using e
    obtain ⟨b, off, e, h2⟩ := h (by omega)
    have e := Option.some.inj e; subst e
    have h1 := h2 0 (by omega)
    obtain ⟨v, hv⟩ : ∃ v, l[0]? = some v := ⟨l[0], by simp⟩
    rw [hv] at h1
    have := World.block_lt_of_cell? _ _ h1
    simp at this ⊢; omega
  · simp
def pW (x : UInt8) : Value := .int .u8 x.toNat
abbrev Bs (w : World) (v : Value) (l : List UInt8) : Prop := Sl w v (l.map pW)
end Go.En
namespace Go.En
open Go
theorem mM (b o n : Nat) : (⟨b, o, none⟩ : Addr).add n = ⟨b, o + n, none⟩ := by
  unfold Addr.add; split
  · rename_i h; subst h; rfl
  · rfl
section
variable {P : Program} {w : World} {t e : TypeId} {k : IntKind} {a : Int}
theorem xP {inf : TypeInfo} {sz : Nat} (hz : inf.size = sz) (hu : P.underlying t = some (.slice e)) (hi : P.info? e = some inf) (b o n c : Nat) (h0 : 0 ≤ a) (h1 : a < n) :
    (mV t (.slice (some ⟨b, o, none⟩) n c) (.int k a)).run P w = .ok (.value (.pointer (some ⟨b, o + a.toNat * sz, none⟩))) w := by
  rw [uO hu hi _ n c h0 h1, mM, hz]
theorem tK {inf : TypeInfo} (hz : inf.size = 1) (hu : P.underlying t = some (.slice e)) (hi : P.info? e = some inf) (b o n c : Nat) (h0 : 0 ≤ a) (h1 : a < n) :
    (mV t (.slice (some ⟨b, o, none⟩) n c) (.int k a)).run P w = .ok (.value (.pointer (some ⟨b, o + a.toNat, none⟩))) w := by
  rw [uO hu hi _ n c h0 h1, mM, hz, Nat.mul_one]
end
section
variable {P : Program} {w : World} {s d e : TypeId}
theorem zF (hs : P.underlying s = some (.slice e)) (hd : P.underlying d = some .string) (he : P.underlying e = some (.int .u8)) {l : List UInt8} {v : Value} (h : Bs w v l) :
    (mU s d v).run P w = .ok (.value (.string ⟨l.toArray⟩)) w := by
  obtain ⟨a, n, c, rfl, hn, hc, h⟩ := h
  simp only [List.length_map] at hn
  unfold mU
  rw [fR]
  have key : (convert s d (.slice a n c)).run P w = .ok (.string ⟨l.toArray⟩) w := by
    cases a with
    | none =>
      have hl : l = [] := by
        cases l with
        | nil => rfl
        | cons x l => obtain ⟨b, off, e, _⟩ := h (by rw [hn]; simp); cases e
      subst hl
      rw [run_convert_bytes_string w s d e none n c hs he hd]
      rfl
    | some x =>
      subst hn
      refine run_convert_bytes_back w s d e x c l hs he hd fun j hj => ?_
      obtain ⟨b, off, hx, h2⟩ := h (by omega)
      have hx := Option.some.inj hx
      subst hx
      rw [mM, h2 j hj]
      simp [pW, hj]
  rw [key] <;> rfl
end
end Go.En
namespace Go.En
open Go
theorem vT (l : List UInt8) : ∀ x ∈ l.map pW, one x = true := by
  intro x hx
  obtain ⟨c, _, rfl⟩ := List.mem_map.1 hx
  rfl
theorem Sl.drop {w : World} {b o n c : Nat} {l : List Value} (h : Sl w (.slice (some ⟨b, o, none⟩) n c) l) {k : Nat} (hk : k ≤ n) :
    Sl w (.slice (iE (some ⟨b, o, none⟩) c k 1) (n - k) (c - k)) (l.drop k) := by
  obtain ⟨x, m, c', e, hm, hc, hh⟩ := h
  cases e
  refine ⟨_, _, _, rfl, by rw [List.length_drop]; omega, by omega, fun h0 => ?_⟩
  obtain ⟨b', o', e, h2⟩ := hh (by omega)
  cases e
  have hne : ¬ c = k := by omega
  refine ⟨b, o + k, by unfold iE; rw [if_neg hne, Option.map_some, mM, Nat.mul_one], fun i hi => ?_⟩
  rw [Nat.add_assoc, h2 (k + i) (by omega), List.getElem?_drop]
theorem Sl.take {w : World} {b o n c : Nat} {l : List Value} (h : Sl w (.slice (some ⟨b, o, none⟩) n c) l) {k : Nat} (hk : k ≤ n) :
    Sl w (.slice (iE (some ⟨b, o, none⟩) c 0 1) (k - 0) (c - 0)) (l.take k) := by
  obtain ⟨x, m, c', e, hm, hc, hh⟩ := h
  cases e
  refine ⟨_, _, _, rfl, by rw [List.length_take]; omega, by omega, fun h0 => ?_⟩
  obtain ⟨b', o', e, h2⟩ := hh (by omega)
  cases e
  have hne : ¬ c = 0 := by omega
  refine ⟨b, o, by unfold iE; rw [if_neg hne, Option.map_some, mM] <;> rfl, fun i hi => ?_⟩
  rw [h2 i (by omega), List.getElem?_take_of_lt (by omega)]
theorem fT.bs {w : World} {b off c : Nat} {cs : List Value} {l : List UInt8} (h : fT w b cs) (hc : l.length ≤ c) (hl : ∀ i (hi : i < l.length), cs[off + i]? = some (pW l[i])) : Bs w (.slice (some ⟨b, off, none⟩) l.length c) l :=
  ⟨_, _, _, rfl, by simp, hc, fun _ => ⟨b, off, rfl, fun i hi => by rw [h.cell, hl i hi]; simp [hi]⟩⟩
section
variable {P : Program} {w : World} {t e : TypeId} {k : IntKind} {a : Int}
theorem qQ {b off : Nat} {l : List Value} (h : ∀ i, i < l.length → w.cell? ⟨b, off + i, none⟩ = l[i]?) (n : Nat) (hn : n ≤ l.length) :
    (loadCells ⟨b, off, none⟩ n).run P w = .ok (l.take n).toArray w := by
  have key : ∀ (m i : Nat) (acc : Array Value), i + m ≤ l.length → (loadCellsFrom ⟨b, off, none⟩ i m acc).run P w = .ok (acc ++ ((l.drop i).take m).toArray) w := by
    intro m
    induction m with
    | zero => intro i acc _; simp [loadCellsFrom]
    | succ m ih =>
      intro i acc hm
      have hc := h i (by omega)
      rw [List.getElem?_eq_getElem (by omega)] at hc
      simp only [loadCellsFrom, Sem.run_bind, run_load, mM, hc, Result.andThen_ok]
      rw [ih (i + 1) _ (by omega), List.drop_eq_getElem_cons (by omega : i < l.length), List.take_succ_cons]
      simp
  unfold loadCells
  rw [key n 0 #[] (by omega)]
  simp
theorem sV {sz n : Nat} {v : Value} {l : List Value} (h1 : sz = 1) (h : Sl w v l) (hn : n ≤ l.length) : (Builtin.firstCells sz n v).run P w = .ok (l.take n).toArray w := by
  subst h1
  obtain ⟨x, m, c, rfl, hm, hc, hh⟩ := h
  cases x with
  | none =>
    have : l = [] := by
      cases l with
      | nil => rfl
      | cons y l => obtain ⟨b, off, e, _⟩ := hh (by rw [hm]; simp); cases e
    subst this
    simp [Builtin.firstCells]
  | some x =>
    simp only [Builtin.firstCells, Nat.mul_one]
    by_cases h0 : 0 < m
    · obtain ⟨b, off, e, h2⟩ := hh h0
      have e := Option.some.inj e; subst e
      exact qQ (fun i hi => h2 i (by omega)) n hn
    · have h00 : n = 0 := by omega
      subst h00
      simp [loadCells, loadCellsFrom]
theorem AF {v : Value} {l : List Value} (h : Sl w v l) : (Builtin.lenOf v).run P w = .ok l.length w := by
  obtain ⟨x, m, c, rfl, hm, hc, hh⟩ := h
  simp [Builtin.lenOf, hm]
theorem zT {ty t2 : TypeId} {i : TypeInfo} (hu : P.underlying t = some (.slice e)) (hi : P.info? e = some i) (h1 : i.size = 1) {b off dl c : Nat} {cs : List Value} (ho : fT w b cs) (hl : off + dl ≤ cs.length)
    {v : Value} {l : List Value} (h : Sl w v l) (hv : ∀ x ∈ l, one x = true) {K : Value → World → Prop}
    (hk : ∀ w', fT w' b (iM cs off (l.take (min l.length dl))) → dJ w w' (fun x => x = b) → w'.heap.size = w.heap.size → K (.int .i64 (min l.length dl : Nat)) w') :
    bP P (jI .copy #[t, t2] ty [.slice (some ⟨b, off, none⟩) dl c, v]) w K := by
  have hlen : (l.take (min l.length dl)).length = min l.length dl := by rw [List.length_take]; omega
  obtain ⟨w', s1, s2, s3, s4, _⟩ := lL (P := P) (M := fun x => x = b) rfl (l.take (min l.length dl)) w off 0 cs ho (by rw [hlen]; omega) (fun x hx => hv x (List.mem_of_mem_take hx))
  have : (jI .copy #[t, t2] ty [.slice (some ⟨b, off, none⟩) dl c, v]).run P w = .ok (.value (.int .i64 (min l.length dl : Nat))) w' := by
    unfold jI builtin
    simp only [Builtin.copy_, List.getElem?_toArray, List.getElem?_cons_zero, List.getElem?_cons_succ]
    simp only [underlying, Sem.run_bind, run_program, Result.andThen_ok, hu, Sem.run_pure, AF h, eH hi, h1]
    have := sV (P := P) (n := min l.length dl) rfl h (Nat.min_le_left _ _)
    rw [show (Nat.min l.length dl) = min l.length dl from rfl, this]
    simp only [Result.andThen_ok, s1, goInt]
  unfold bP
  rw [this]
  exact hk w' (by simpa using s2) s3 s4
theorem zG {i : TypeInfo} {z : Value} (hu : P.underlying t = some (.slice e)) (hi : P.info? e = some i) (h1 : i.size = 1) (hz : i.zero = some z) (hz1 : one z = true) {n : Int} (h0 : 0 ≤ n) (hn : i.bytes * n ≤ 2 ^ 48) (hn2 : n ≤ 9223372036854775807)
    {K : Value → World → Prop}
    (hk : ∀ w', fT w' w.heap.size (List.replicate n.toNat z) → dJ w w' jU → w'.heap.size = w.heap.size + 1 → K (.slice (some ⟨w.heap.size, 0, none⟩) n.toNat n.toNat) w') :
    bP P (oT t (.int k n) (.int k n)) w K := by
  have hw : IntKind.i64.wrap n = n := cB (by omega) hn2
  have hcells : z.cells = #[z] := tH hz1
  have harr : (Array.range n.toNat).map (fun j => (#[z] : Array Value)[j % (#[z] : Array Value).size]!) = (List.replicate n.toNat z).toArray := by
    apply Array.ext
    · simp
    · intro j h1 h2; simp [Nat.mod_one]
  have hz' : (zeroValue e).run P w = .ok z w := by simp [zeroValue, typeInfo, hi, hz]
  have : (oT t (.int k n) (.int k n)).run P w = .ok (.value (.slice (some ⟨w.heap.size, 0, none⟩) n.toNat n.toNat)) (w.alloc (.cells (List.replicate n.toNat z).toArray e)) := by
    unfold oT
    rw [fR]
    have t1 : (decide (n < 0) || decide ((i.bytes : Int) * n > 2 ^ 48) || decide (n < 0) || decide (n > n)) = false := by
      simp only [Bool.or_eq_false_iff, decide_eq_false_iff_not]; omega
    by_cases hn0 : n.toNat = 0
    · simp only [Instr.makeSlice, underlying, typeInfo, asInt, asIntOf, pure_bind, Sem.run_bind, run_program, Result.andThen_ok, hu, hi, Sem.run_pure, hw, t1, Bool.false_eq_true, if_false, run_askRoom, eH hi, h1, Nat.mul_one, hn0, if_true, newRow, run_newObj]
      have : (Array.range 0).map (fun x => (#[] : Array Value)[x % (#[] : Array Value).size]!) = (List.replicate 0 z).toArray := by simp
      rw [this]
      rfl
    · simp only [Instr.makeSlice, underlying, typeInfo, asInt, asIntOf, pure_bind, Sem.run_bind, run_program, Result.andThen_ok, hu, hi, Sem.run_pure, hw, t1, Bool.false_eq_true, if_false, run_askRoom, eH hi, h1, Nat.mul_one, hn0, hz', hcells, newRow, run_newObj, harr]
      rfl
  unfold bP
  rw [this]
  exact hk _ (fT.alloc _ _ _) (dJ.alloc _ _ _) (by simp)
end
end Go.En
namespace Go.En
open Go
def Cl (w : World) (sz : Nat) (v : Value) (n : Nat) (l : List Value) : Prop :=
  ∃ a c, v = .slice a n c ∧ l.length = n * sz ∧ (0 < n → ∃ b off, a = some ⟨b, off, none⟩ ∧ ∀ i, i < l.length → w.cell? ⟨b, off + i, none⟩ = l[i]?)
def rF (w : World) (base sz : Nat) (v : Value) (n : Nat) (l : List Value) : Prop :=
  l.length = n * sz ∧ ((v = .slice none 0 0 ∧ n = 0) ∨
    ∃ b c rest, v = .slice (some ⟨b, 0, none⟩) n c ∧ base ≤ b ∧ fT w b (l ++ rest) ∧ (l ++ rest).length = c * sz ∧ n ≤ c)
def vO (w : World) (S : Nat → Prop) (sz : Nat) (v : Value) (n : Nat) (l : List Value) : Prop :=
  l.length = n * sz ∧ ((v = .slice none 0 0 ∧ n = 0) ∨
    ∃ b c rest, v = .slice (some ⟨b, 0, none⟩) n c ∧ S b ∧ fT w b (l ++ rest) ∧ (l ++ rest).length = c * sz ∧ n ≤ c)
theorem Sl.cl {w : World} {v : Value} {l : List Value} (h : Sl w v l) : Cl w 1 v l.length l := by
  obtain ⟨a, n, c, rfl, rfl, hc, h⟩ := h
  exact ⟨a, c, rfl, by omega, fun h0 => h h0⟩
theorem fT.cl {w : World} {b sz n c off : Nat} {cs l : List Value} (h : fT w b cs) (hl : l.length = n * sz) (hcs : ∀ i, i < l.length → cs[off + i]? = l[i]?) : Cl w sz (.slice (some ⟨b, off, none⟩) n c) n l :=
  ⟨_, _, rfl, hl, fun _ => ⟨b, off, rfl, fun i hi => by rw [h.cell, hcs i hi]⟩⟩
theorem rF.nil (w : World) (base sz : Nat) : rF w base sz (.slice none 0 0) 0 [] := ⟨by simp, .inl ⟨rfl, rfl⟩⟩
theorem rF.ext {w w' : World} {base sz n : Nat} {v : Value} {l : List Value} {M : Nat → Prop} (h : rF w base sz v n l) (hx : dJ w w' M) (hM : ∀ b, base ≤ b → ¬ M b) : rF w' base sz v n l := by
  refine ⟨h.1, ?_⟩
  rcases h.2 with h2 | ⟨b, c, rest, h1, h2, h3, h4, h5⟩
  · exact .inl h2
  · exact .inr ⟨b, c, rest, h1, h2, h3.ext hx (hM b h2), h4, h5⟩
theorem rF.cl {w : World} {base sz n : Nat} {v : Value} {l : List Value} (h : rF w base sz v n l) : Cl w sz v n l := by
  rcases h.2 with ⟨rfl, rfl⟩ | ⟨b, c, rest, rfl, h2, h3, h4, h5⟩
  · exact ⟨_, _, rfl, h.1, fun h => by omega⟩
  · refine ⟨_, _, rfl, h.1, fun _ => ⟨b, 0, rfl, fun i hi => ?_⟩⟩
    rw [h3.cell, Nat.zero_add, List.getElem?_append_left hi]
theorem rF.sl {w : World} {base n : Nat} {v : Value} {l : List Value} (h : rF w base 1 v n l) : Sl w v l := by
  have hl := h.1
  rcases h.2 with ⟨rfl, rfl⟩ | ⟨b, c, rest, rfl, h2, h3, h4, h5⟩
  · exact ⟨_, _, _, rfl, by omega, by omega, fun h => by omega⟩
  · refine ⟨_, _, _, rfl, by omega, h5, fun _ => ⟨b, 0, rfl, fun i hi => ?_⟩⟩
    rw [h3.cell, Nat.zero_add, List.getElem?_append_left (by omega)]
section
variable {P : Program} {w : World} {t e : TypeId}
theorem uC {b off : Nat} {l : List Value} (h : ∀ i, i < l.length → w.cell? ⟨b, off + i, none⟩ = l[i]?) : (loadCells ⟨b, off, none⟩ l.length).run P w = .ok l.toArray w := by
  have := qQ (P := P) h l.length (Nat.le_refl _)
  rwa [List.take_length] at this
theorem jX {sz n : Nat} {v : Value} {l : List Value} (h : Cl w sz v n l) : (Builtin.firstCells sz n v).run P w = .ok l.toArray w := by
  obtain ⟨x, c, rfl, hl, hh⟩ := h
  cases x with
  | none =>
    have : n = 0 := by
      rcases Nat.eq_zero_or_pos n with h | h
      · exact h
      · obtain ⟨b, off, e, _⟩ := hh h; cases e
    subst this
    have : l = [] := List.length_eq_zero_iff.1 (by omega)
    subst this
    simp [Builtin.firstCells]
  | some x =>
    simp only [Builtin.firstCells]
    rw [← hl]
    by_cases h0 : 0 < n
    · obtain ⟨b, off, e, h2⟩ := hh h0
      have e := Option.some.inj e; subst e
      exact uC h2
    · have : n = 0 := by omega
      subst this
      have : l = [] := List.length_eq_zero_iff.1 (by omega)
      subst this
      simp [loadCells, loadCellsFrom]
theorem mD (zs : Array Value) (n : Nat) : (Builtin.zeroCells zs n).size = n * zs.size := by simp [Builtin.zeroCells]
theorem mA (vs : List Value) : ∀ (Bo rest : List Value), vs.length ≤ rest.length → iM (Bo ++ rest) Bo.length vs = Bo ++ vs ++ rest.drop vs.length := by
  induction vs with
  | nil => intro Bo rest _; simp [iM]
  | cons v vs ih =>
    intro Bo rest h
    cases rest with
    | nil => simp at h
    | cons r rest =>
      have := ih (Bo ++ [v]) rest (by simpa using h)
      simp only [iM, List.length_append, List.length_cons, List.length_nil, List.append_assoc, List.cons_append, List.nil_append] at this ⊢
      rw [List.drop_succ_cons, ← this, List.set_append_right _ _ (Nat.le_refl _), Nat.sub_self, List.set_cons_zero, Nat.zero_add]
theorem rQ {S : Nat → Prop} {sz n m : Nat} {i : TypeInfo} {z : Value} {ty t2 e2 : TypeId} (hu : P.underlying t = some (.slice e)) (hu2 : P.underlying t2 = some (.slice e2)) (hi : P.info? e = some i) (hsz : i.size = sz) (hz : i.zero = some z) (hzs : z.cells.size = sz)
    {v x : Value} {l news : List Value} (h : vO w S sz v n l) (hx : Cl w sz x m news) (hone : ∀ y ∈ news, one y = true) (hb : ∀ b, w.heap.size ≤ b → S b)
    (hn : n + m ≤ 9223372036854775807) (hbytes : (n + m) * i.bytes ≤ 140737488355328) (_hpos : i.bytes ≠ 0)
    {K : Value → World → Prop} (hk : ∀ v' w', vO w' S sz v' (n + m) (l ++ news) → dJ w w' S → K v' w') : bP P (jI .append #[t, t2] ty [v, x]) w K := by
  have hlx : (Builtin.lenOf x).run P w = .ok m w := by
    obtain ⟨a, c, rfl, _⟩ := hx; simp [Builtin.lenOf]
  have hnl := hx.choose_spec.choose_spec.2.1
  have hfx := jX (P := P) hx
  have hmax : IntKind.i64.max = 9223372036854775807 := by decide
  have hnot : ¬ (((n + m : Nat) : Int) > IntKind.i64.max ∧ (False ∨ i.bytes = 0)) := by rw [hmax]; omega
  have hz' : ∀ w, (zeroValue e).run P w = .ok z w := fun w => by simp [zeroValue, typeInfo, hi, hz]
  have hlen := h.1
  rcases h.2 with ⟨rfl, rfl⟩ | ⟨b, c, rest, rfl, h2, h3, h4, h5⟩
  ·
    have hl0 : l = [] := List.length_eq_zero_iff.1 (by omega)
    subst hl0
    by_cases hm : m = 0
    · subst hm
      have hn0 : news = [] := List.length_eq_zero_iff.1 (by omega)
      subst hn0
      have : (jI .append #[t, t2] ty [.slice none 0 0, x]).run P w = .ok (.value (.slice none 0 0)) w := by
        unfold jI builtin
        simp only [Builtin.append_, List.getElem?_toArray, List.getElem?_cons_zero, List.getElem?_cons_succ]
        simp only [underlying, Sem.run_bind, run_program, Result.andThen_ok, hu, hu2, Sem.run_pure, eH hi, hsz, Bool.false_eq_true, if_false, hlx, Nat.le_refl, Nat.add_zero, if_true, Bool.not_false, hfx]
      unfold bP
      rw [this]
      exact hk _ _ ⟨by simp, .inl ⟨rfl, by omega⟩⟩ (dJ.refl _ _)
    · have hfit := growslice_fits (need := 0 + m) (old := 0) (bytes := i.bytes) (by omega) (by omega)
      have hfit' : ¬ (Builtin.nextslicecap (0 + m) 0 * i.bytes > 2 ^ 48) := by omega
      have hle : ¬ (0 + m ≤ 0) := by omega
      have hq : (Question.appendCap (0 + m) 0 e).forced = false := rfl
      obtain ⟨r, hr⟩ : ∃ r, (Question.appendCap (0 + m) 0 e).cut (w.tape w.drawn (.appendCap (0 + m) 0 e)) = m + r :=
        ⟨(w.tape w.drawn (.appendCap (0 + m) 0 e)) % (2 ^ 63 - (0 + m)), by simp only [Question.cut]; omega⟩
      have : (jI .append #[t, t2] ty [.slice none 0 0, x]).run P w = .ok (.value (.slice (some ⟨w.heap.size, 0, none⟩) (0 + m) (m + r))) ((dr w).alloc (.cells (news ++ (Builtin.zeroCells z.cells (m + r - (0 + m))).toList).toArray e)) := by
        have hfx' := jX (P := P) (w := dr w) hx
        unfold jI builtin
        simp only [Builtin.append_, List.getElem?_toArray, List.getElem?_cons_zero, List.getElem?_cons_succ]
        simp only [underlying, typeInfo, Sem.run_bind, run_program, Result.andThen_ok, hu, hu2, hi, Sem.run_pure, eH hi, hsz, Bool.false_eq_true, if_false, hlx, hle, Bool.not_false, if_true, hnot, hfit', run_choose, hq, hr, run_askRoom]
        change ((Sem.run P _ (dr w)).andThen _).andThen _ = _
        simp only [Sem.run_bind, hfx', run_firstCells_none, Result.andThen_ok, hz', Sem.run_pure, newRow, run_newObj]
        have e1 : (#[] ++ news.toArray ++ Builtin.zeroCells z.cells (m + r - (0 + m)) : Array Value) = (news ++ (Builtin.zeroCells z.cells (m + r - (0 + m))).toList).toArray := by
          apply Array.ext'; simp
        rw [e1]
        rfl
      unfold bP
      rw [this]
      refine hk _ _ ⟨by simp only [List.nil_append]; rw [hnl, Nat.zero_add], .inr ⟨w.heap.size, m + r, (Builtin.zeroCells z.cells (m + r - (0 + m))).toList, by rw [Nat.zero_add], hb _ (Nat.le_refl _), fT.alloc (dr w) _ _, ?_, by omega⟩⟩ ((dJ.dr w _).seq (dJ.alloc _ _ _))
      simp only [List.nil_append, List.length_append, Array.length_toList, mD, hzs, hnl]
      rw [show m + r - (0 + m) = r from by omega, Nat.add_mul]
  · by_cases hc : n + m ≤ c
    ·
      have hroom : news.length ≤ rest.length := by
        rw [List.length_append, hlen] at h4
        have : (n + m) * sz ≤ c * sz := Nat.mul_le_mul_right _ hc
        rw [Nat.add_mul] at this; omega
      obtain ⟨w', s1, s2, s3, s4, _⟩ := lL (P := P) (M := S) h2 news w (n * sz) 0 (l ++ rest) h3 (by rw [List.length_append, hlen]; omega) hone
      have : (jI .append #[t, t2] ty [.slice (some ⟨b, 0, none⟩) n c, x]).run P w = .ok (.value (.slice (some ⟨b, 0, none⟩) (n + m) c)) w' := by
        unfold jI builtin
        simp only [Builtin.append_, List.getElem?_toArray, List.getElem?_cons_zero, List.getElem?_cons_succ]
        simp only [underlying, Sem.run_bind, run_program, Result.andThen_ok, hu, hu2, Sem.run_pure, eH hi, hsz, Bool.false_eq_true, if_false, hlx, hc, if_true, Bool.not_false, hfx, mM, Nat.zero_add, s1]
      unfold bP
      rw [this]
      rw [Nat.add_zero, ← hlen, mA _ _ _ hroom] at s2
      refine hk _ _ ⟨by rw [List.length_append, hlen, hnl, Nat.add_mul], .inr ⟨b, c, rest.drop news.length, rfl, h2, s2, ?_, hc⟩⟩ s3
      rw [← h4]; simp; omega
    ·
      have hfit := growslice_fits (need := n + m) (old := c) (bytes := i.bytes) (by omega) hbytes
      have hfit' : ¬ (Builtin.nextslicecap (n + m) c * i.bytes > 2 ^ 48) := by omega
      have hq : (Question.appendCap (n + m) c e).forced = false := rfl
      obtain ⟨r, hr⟩ : ∃ r, (Question.appendCap (n + m) c e).cut (w.tape w.drawn (.appendCap (n + m) c e)) = n + m + r :=
        ⟨(w.tape w.drawn (.appendCap (n + m) c e)) % (2 ^ 63 - (n + m)), by simp only [Question.cut]⟩
      have hold : Cl (dr w) sz (.slice (some ⟨b, 0, none⟩) n c) n l := ⟨_, _, rfl, hlen, fun _ => ⟨b, 0, rfl, fun i hi => by
        show w.cell? _ = _
        rw [h3.cell, Nat.zero_add, List.getElem?_append_left hi]⟩⟩
      have : (jI .append #[t, t2] ty [.slice (some ⟨b, 0, none⟩) n c, x]).run P w = .ok (.value (.slice (some ⟨w.heap.size, 0, none⟩) (n + m) (n + m + r))) ((dr w).alloc (.cells (l ++ news ++ (Builtin.zeroCells z.cells (n + m + r - (n + m))).toList).toArray e)) := by
        have hfx' := jX (P := P) (w := dr w) hx
        have hfo := jX (P := P) hold
        unfold jI builtin
        simp only [Builtin.append_, List.getElem?_toArray, List.getElem?_cons_zero, List.getElem?_cons_succ]
        simp only [underlying, typeInfo, Sem.run_bind, run_program, Result.andThen_ok, hu, hu2, hi, Sem.run_pure, eH hi, hsz, Bool.false_eq_true, if_false, hlx, hc, Bool.not_false, if_true, hnot, hfit', run_choose, hq, hr, run_askRoom]
        change ((Sem.run P _ (dr w)).andThen _).andThen _ = _
        simp only [Sem.run_bind, hfx', hfo, Result.andThen_ok, hz', Sem.run_pure, newRow, run_newObj]
        have e1 : (l.toArray ++ news.toArray ++ Builtin.zeroCells z.cells (n + m + r - (n + m)) : Array Value) = (l ++ news ++ (Builtin.zeroCells z.cells (n + m + r - (n + m))).toList).toArray := by
          apply Array.ext'; simp
        rw [e1]
        rfl
      unfold bP
      rw [this]
      refine hk _ _ ⟨by rw [List.length_append, hlen, hnl, Nat.add_mul], .inr ⟨w.heap.size, n + m + r, _, rfl, hb _ (Nat.le_refl _), fT.alloc (dr w) _ _, ?_, by omega⟩⟩ ((dJ.dr w _).seq (dJ.alloc _ _ _))
      simp only [List.length_append, Array.length_toList, mD, hzs, hnl, hlen]
      rw [show n + m + r - (n + m) = r from by omega, Nat.add_mul, Nat.add_mul]
theorem wF {base sz n m : Nat} {i : TypeInfo} {z : Value} {ty t2 e2 : TypeId} (hu : P.underlying t = some (.slice e)) (hu2 : P.underlying t2 = some (.slice e2)) (hi : P.info? e = some i) (hsz : i.size = sz) (hz : i.zero = some z) (hzs : z.cells.size = sz)
    {v x : Value} {l news : List Value} (h : rF w base sz v n l) (hx : Cl w sz x m news) (hone : ∀ y ∈ news, one y = true) (hb : base ≤ w.heap.size)
    (hn : n + m ≤ 9223372036854775807) (hbytes : (n + m) * i.bytes ≤ 140737488355328) (_hpos : i.bytes ≠ 0)
    {K : Value → World → Prop} (hk : ∀ v' w', rF w' base sz v' (n + m) (l ++ news) → dJ w w' (fun y => base ≤ y) → K v' w') : bP P (jI .append #[t, t2] ty [v, x]) w K :=
  rQ (S := fun y => base ≤ y) hu hu2 hi hsz hz hzs h hx hone (fun _ h => Nat.le_trans hb h) hn hbytes _hpos hk
end
end Go.En
namespace Go.En
open Go
section
variable {P : Program} {w : World} {t e : TypeId}
theorem qD {i : TypeInfo} {z : Value} {n : Nat} {ps : List (Nat × Value)} {cells : Array Value} (hu : P.underlying t = some (.slice e)) (hi : P.info? e = some i) (hz : i.zero = some z)
    (h1 : ¬ n * i.size > 2 ^ 24) (h0 : ¬ n * i.size = 0) (hf : Instr.fill (fun j => some (j * i.size, i.size)) ((Array.range (n * i.size)).map (z.cells[· % z.cells.size]!)) ps = some cells)
    {K : Value → World → Prop} (hk : ∀ w', fT w' w.heap.size cells.toList → dJ w w' jU → w'.heap.size = w.heap.size + 1 → K (.slice (some ⟨w.heap.size, 0, none⟩) n n) w') :
    bP P (dS t n ps) w K := by
  have hz' : (zeroValue e).run P w = .ok z w := by simp [zeroValue, typeInfo, hi, hz]
  have : (dS t n ps).run P w = .ok (.value (.slice (some ⟨w.heap.size, 0, none⟩) n n)) (w.alloc (.cells cells.toList.toArray e)) := by
    unfold dS; rw [fR]
    simp only [Instr.buildSlice, underlying, pure_bind, Sem.run_bind, run_program, Result.andThen_ok, hu, Sem.run_pure, eH hi, h1, h0, if_false, hz', hf, newRow, run_newObj]
    rfl
  unfold bP
  rw [this]
  exact hk _ (fT.alloc _ _ _) (dJ.alloc _ _ _) (by simp)
theorem fT.mark {b : Nat} {cs : List Value} (h : fT w b cs) : fT (w.freeze ⟨b, cs.length, none⟩ 1) b cs := by
  have hb := h.lt
  obtain ⟨T, lo, hi, h, k⟩ := h
  by_cases hlh : (lo == hi) = true
  · refine ⟨T, cs.length, cs.length + 1, ?_, .inl (Nat.le_refl _)⟩
    show (w.heap.modify b _)[b]? = _
    rw [Array.getElem?_modify, if_pos rfl, h]
    have hlh : lo = hi := by simpa using hlh
    simp [hlh]
  · refine ⟨T, min lo cs.length, max hi (cs.length + 1), ?_, .inl ?_⟩
    · show (w.heap.modify b _)[b]? = _
      rw [Array.getElem?_modify, if_pos rfl, h]
      have hlh : ¬ lo = hi := by simpa using hlh
      simp [hlh]
    · rcases k with k | k
      · omega
      · exfalso; apply hlh; rw [k]; simp
theorem dJ.mark (w : World) (a : Addr) : dJ w (w.freeze a 1) (fun y => y = a.block) :=
  ⟨rfl, rfl, rfl, by show _ ≤ (w.heap.modify _ _).size; simp, fun b hb hn => by
    show (w.heap.modify a.block _)[b]? = _
    rw [Array.getElem?_modify]
    rw [if_neg (fun h => hn h.symm)]⟩
theorem Au (hu : P.underlying t = some (.slice e)) (he : P.underlying e = some (.int .u8)) {b off n c : Nat} {cs : List Value} (ho : fT w b cs)
    {K : Value → World → Prop} (hk : ∀ w', fT w' b cs → dJ w w' (fun y => y = b) → w'.heap.size = w.heap.size → K (.slice (some ⟨b, off, none⟩) n c) w') :
    bP P (mU t t (.slice (some ⟨b, off, none⟩) n c)) w K := by
  obtain ⟨T, hs⟩ : ∃ T, w.shape? b = some (T, cs.length) := by
    obtain ⟨T, lo, hi, h, _⟩ := ho
    exact ⟨T, by unfold World.shape?; rw [h]; simp⟩
  have : (mU t t (.slice (some ⟨b, off, none⟩) n c)).run P w = .ok (.value (.slice (some ⟨b, off, none⟩) n c)) (w.freeze ⟨b, cs.length, none⟩ 1) := by
    unfold mU; rw [fR]
    simp [convert, underlying, hu, he, markStringish, shape, freeze, Sem.run, hs]
  unfold bP
  rw [this]
  exact hk _ ho.mark (dJ.mark w _) (by show (w.heap.modify _ _).size = _; simp)
end
end Go.En
namespace Go.En
open Go
section
variable {P : Program} {w : World} {t e : TypeId}
structure sQ {κ : Type} [DecidableEq κ] (P : Program) (t : TypeId) (enc : κ → Value) : Prop where
  eq : ∀ a b (w : World), (Op.equal t (enc a) (enc b)).run P w = .ok (decide (a = b)) w
  now : ∃ d, P.underlying t = some d ∧ ∀ a b, Instr.sameNow d (enc a) (enc b) = none ∨ Instr.sameNow d (enc a) (enc b) = some (decide (a = b))
  chk : ∀ (e : Bool) a (w : World), (Instr.checkKey e 10000 t (enc a)).run P w = .ok () w
  stay : ∀ a, Instr.sameBits 10000 (enc a) (enc a) = true
def nB {κ : Type} [DecidableEq κ] (k : κ) : List (κ × Value) → Option Value
  | [] => none
  | p :: r => if k = p.1 then some p.2 else nB k r
def wH {κ : Type} [DecidableEq κ] (k : κ) (v : Value) : List (κ × Value) → List (κ × Value)
  | [] => [(k, v)]
  | p :: r => if k = p.1 then (k, v) :: r else p :: wH k v r
theorem Av {κ : Type} [DecidableEq κ] {k : κ} {v : Value} {l : List (κ × Value)} {p : κ × Value} (h : p ∈ wH k v l) : p = (k, v) ∨ p ∈ l := by
  induction l with
  | nil => simp [wH] at h; exact .inl h
  | cons q r ih =>
    simp only [wH] at h
    split at h
    · rcases List.mem_cons.1 h with h | h
      · exact .inl h
      · exact .inr (List.mem_cons_of_mem _ h)
    · rcases List.mem_cons.1 h with h | h
      · exact .inr (h ▸ List.mem_cons_self)
      · rcases ih h with h | h
        · exact .inl h
        · exact .inr (List.mem_cons_of_mem _ h)
def rI (es : Array MapEntry) (clock : Nat) : Prop := (es.toList.map (·.born)).Pairwise (· < ·) ∧ ∀ e ∈ es.toList, e.born < clock
def Mp {κ : Type} (w : World) (m : Nat) (enc : κ → Value) (l : List (κ × Value)) : Prop :=
  ∃ es clock, w.heap[m]? = some (.map es clock) ∧ es.toList.map (fun e => (e.key, e.val)) = l.map (fun p => (enc p.1, p.2)) ∧ rI es clock ∧ (l.map (·.1)).Nodup
theorem vX {es : Array MapEntry} {c : Nat} (h : rI es c) (k v : Value) : rI (es.push ⟨k, v, c⟩) (c + 1) := by
  obtain ⟨h1, h2⟩ := h
  refine ⟨?_, ?_⟩
  · rw [Array.toList_push, List.map_append, List.pairwise_append]
    refine ⟨h1, by simp, fun a ha b hb => ?_⟩
    simp at hb
    subst hb
    obtain ⟨e, he, rfl⟩ := List.mem_map.1 ha
    exact h2 e he
  · intro e he
    rw [Array.toList_push] at he
    rcases List.mem_append.1 he with he | he
    · have := h2 e he; omega
    · simp at he; subst he; exact Nat.lt_succ_self c
theorem vK {es es' : Array MapEntry} {c : Nat} (h : rI es c) (he : es'.toList.map (·.born) = es.toList.map (·.born)) : rI es' c := by
  refine ⟨by rw [he]; exact h.1, fun e h' => ?_⟩
  have : e.born ∈ es'.toList.map (·.born) := List.mem_map.2 ⟨e, h', rfl⟩
  rw [he] at this
  obtain ⟨x, hx, hxe⟩ := List.mem_map.1 this
  rw [← hxe]; exact h.2 x hx
theorem uN {κ : Type} [DecidableEq κ] {k : κ} {v : Value} : ∀ {l : List (κ × Value)}, (l.map (·.1)).Nodup → ((wH k v l).map (·.1)).Nodup
  | [], _ => by simp [wH]
  | p :: r, h => by
    simp only [wH]
    have h' := h
    rw [List.map_cons, List.nodup_cons] at h
    split
    · rename_i e
      rw [List.map_cons, List.nodup_cons]
      exact ⟨fun hm => h.1 (e ▸ hm), h.2⟩
    · rename_i e
      rw [List.map_cons, List.nodup_cons]
      refine ⟨fun hm => ?_, uN h.2⟩
      obtain ⟨q, hq, hqe⟩ := List.mem_map.1 hm
      rcases Av hq with h1 | h1
      · rw [h1] at hqe; exact e hqe
      · exact h.1 (List.mem_map.2 ⟨q, h1, hqe⟩)
theorem Mp.lt {κ : Type} {m : Nat} {enc : κ → Value} {l : List (κ × Value)} (h : Mp w m enc l) : m < w.heap.size := by
  obtain ⟨es, c, h, _⟩ := h
  rcases Nat.lt_or_ge m w.heap.size with h' | h'
  · exact h'
  · rw [Array.getElem?_eq_none h'] at h; cases h
theorem Mp.ext {κ : Type} {w w' : World} {m : Nat} {enc : κ → Value} {l : List (κ × Value)} {M : Nat → Prop} (h : Mp w m enc l) (hx : dJ w w' M) (hM : ¬ M m) : Mp w' m enc l := by
  have := h.lt
  obtain ⟨es, c, h, k⟩ := h
  exact ⟨es, c, by rw [hx.keep m this hM]; exact h, k⟩
theorem Mp.dr {κ : Type} {w : World} {m : Nat} {enc : κ → Value} {l : List (κ × Value)} (h : Mp w m enc l) : Mp (dr w) m enc l := h
def mK {κ : Type} [DecidableEq κ] (k : κ) : List (κ × Value) → Nat → Option (Nat × Value)
  | [], _ => none
  | p :: r, i => if k = p.1 then some (i, p.2) else mK k r (i + 1)
theorem sK {κ : Type} [DecidableEq κ] (k : κ) : ∀ (l : List (κ × Value)) (i : Nat), (mK k l i).map (·.2) = nB k l := by
  intro l
  induction l with
  | nil => intro i; rfl
  | cons p r ih => intro i; simp only [mK, nB]; split <;> simp [ih]
variable {κ : Type} [DecidableEq κ] {enc : κ → Value}
theorem iU {r : Nat} {es : Array MapEntry} {c : Nat} (hb : w.heap[r]? = some (.map es c)) : (getObj r).run P w = .ok (.map es c) w := by simp [getObj, Sem.run, hb]
theorem mP {r : Nat} {es : Array MapEntry} {c : Nat} (o : Obj) (hb : w.heap[r]? = some (.map es c)) : (setObj r o).run P w = .ok () { w with heap := w.heap.setIfInBounds r o } := by simp [setObj, Sem.run, hb]
theorem rY (K : sQ P t enc) (k : κ) : ∀ (es : List MapEntry) (l : List (κ × Value)) (i : Nat), es.map (fun e => (e.key, e.val)) = l.map (fun p => (enc p.1, p.2)) →
    (Instr.findAsking t (enc k) es i).run P w = .ok (mK k l i) w := by
  intro es
  induction es with
  | nil => intro l i h; cases l with
    | nil => rfl
    | cons p r => simp at h
  | cons x es ih =>
    intro l i h
    cases l with
    | nil => simp at h
    | cons p r =>
      simp only [List.map_cons, List.cons.injEq, Prod.mk.injEq] at h
      obtain ⟨⟨h1, h2⟩, h3⟩ := h
      simp only [Instr.findAsking, Sem.run_bind, h1, K.eq, Result.andThen_ok, mK]
      by_cases hx : k = p.1
      · simp [hx, h2]
      · simp only [hx, decide_false, Bool.false_eq_true, if_false]
        exact ih r (i + 1) h3
theorem tX {d : TypeDesc} (hn : ∀ a b, Instr.sameNow d (enc a) (enc b) = none ∨ Instr.sameNow d (enc a) (enc b) = some (decide (a = b))) (k : κ) : ∀ (es : List MapEntry) (l : List (κ × Value)) (i : Nat) (r : Option (Nat × Value)), es.map (fun e => (e.key, e.val)) = l.map (fun p => (enc p.1, p.2)) →
    Instr.findNow d (enc k) es i = some r → r = mK k l i := by
  intro es
  induction es with
  | nil => intro l i r h hr; cases l with
    | nil => simp [Instr.findNow] at hr; exact hr.symm
    | cons p r => simp at h
  | cons x es ih =>
    intro l i r h hr
    cases l with
    | nil => simp at h
    | cons p q =>
      simp only [List.map_cons, List.cons.injEq, Prod.mk.injEq] at h
      obtain ⟨⟨h1, h2⟩, h3⟩ := h
      simp only [Instr.findNow, h1] at hr
      rcases hn k p.1 with hh | hh
      · rw [hh] at hr; cases hr
      · rw [hh] at hr
        simp only [mK]
        by_cases hx : k = p.1
        · simp only [hx, decide_true, Option.some.injEq] at hr
          rw [if_pos hx, ← hr, h2]
        · simp only [hx, decide_false] at hr
          rw [if_neg hx]
          exact ih q (i + 1) r h3 hr
theorem lU (K : sQ P t enc) (k : κ) (es : List MapEntry) (l : List (κ × Value)) (h : es.map (fun e => (e.key, e.val)) = l.map (fun p => (enc p.1, p.2))) :
    (Instr.findKey t (enc k) es).run P w = .ok (mK k l 0) w := by
  obtain ⟨d, hd, hn⟩ := K.now
  unfold Instr.findKey
  simp only [underlying, Sem.run_bind, run_program, Result.andThen_ok, hd, Sem.run_pure]
  cases hr : Instr.findNow d (enc k) es 0 with
  | none => exact rY K k es l 0 h
  | some r => rw [tX hn k es l 0 r h hr] <;> rfl
theorem AM {kt et : TypeId} {i : TypeInfo} {z : Value} (hu : P.underlying t = some (.map kt et)) (hi : P.info? et = some i) (hz : i.zero = some z) (K : sQ P kt enc) {m : Nat} {l : List (κ × Value)} (hm : Mp w m enc l) (k : κ) :
    (kD t (.map (some m)) (enc k) true).run P w = .ok (.value (.tuple #[(nB k l).getD z, .bool (nB k l).isSome])) w := by
  obtain ⟨es, c, hb, he, _⟩ := hm
  unfold kD; rw [fR]
  unfold Instr.lookup
  simp only [underlying, Sem.run_bind, run_program, Result.andThen_ok, hu, Sem.run_pure, iU hb, K.chk, lU K k es.toList l he, ← sK k l 0]
  cases mK k l 0 with
  | none => simp [zeroValue, typeInfo, hi, hz]
  | some p => simp
omit [DecidableEq κ] in
theorem xU {K : Value → World → Prop} (enc : κ → Value) (hk : ∀ w', Mp w' w.heap.size enc ([] : List (κ × Value)) → dJ w w' jU → w'.heap.size = w.heap.size + 1 → K (.map (some w.heap.size)) w') : bP P (rC t none) w K := by
  have : (rC t none).run P w = .ok (.value (.map (some w.heap.size))) (w.alloc (.map #[] 0)) := by
    unfold rC; rw [fR]
    simp [Instr.makeMap]
  unfold bP
  rw [this]
  exact hk _ ⟨#[], 0, by show (w.heap.push _)[w.heap.size]? = _; simp, rfl, ⟨by simp, by simp⟩, by simp⟩ (dJ.alloc _ _ _) (by simp)
theorem xW {kt et : TypeId} (hu : P.underlying t = some (.map kt et)) (Ke : sQ P kt enc) {m : Nat} {l : List (κ × Value)} (hm : Mp w m enc l) (k : κ) (v : Value) {K : Value → World → Prop}
    (hk : ∀ w', Mp w' m enc (wH k v l) → dJ w w' (fun y => y = m) → w'.heap.size = w.heap.size → K undef w') : bP P (qL t (.map (some m)) (enc k) v) w K := by
  have hlt := hm.lt
  obtain ⟨es, c, hb, he, hgr, hnd⟩ := hm
  have hext : ∀ o, dJ w { w with heap := w.heap.setIfInBounds m o } (fun y => y = m) := fun o =>
    ⟨rfl, rfl, rfl, by simp, fun b hb hn => by
      show (w.heap.setIfInBounds m o)[b]? = _
      rw [Array.getElem?_setIfInBounds_ne (fun e => hn e.symm)]⟩
  have key : ∃ es' c', (qL t (.map (some m)) (enc k) v).run P w = .ok .skip { w with heap := w.heap.setIfInBounds m (.map es' c') } ∧ es'.toList.map (fun e => (e.key, e.val)) = ((wH k v l).map fun p => (enc p.1, p.2)) ∧ rI es' c' := by
    have gen : ∀ (es : List MapEntry) (l : List (κ × Value)) (i : Nat), es.map (fun e => (e.key, e.val)) = l.map (fun p => (enc p.1, p.2)) →
        (mK k l i = none → ∀ b, (es ++ [(⟨enc k, v, b⟩ : MapEntry)]).map (fun e => (e.key, e.val)) = (wH k v l).map fun p => (enc p.1, p.2)) ∧
        (∀ j x, mK k l i = some (j, x) → i ≤ j ∧ ∃ old, es[j - i]? = some old ∧ old.key = enc k ∧ (es.set (j - i) ({ old with key := enc k, val := v } : MapEntry)).map (fun e => (e.key, e.val)) = (wH k v l).map fun p => (enc p.1, p.2)) := by
      intro es
      induction es with
      | nil =>
        intro l i h
        cases l with
        | nil => exact ⟨fun _ b => rfl, fun j x h => by simp [mK] at h⟩
        | cons p r => simp at h
      | cons x es ih =>
        intro l i h
        cases l with
        | nil => simp at h
        | cons p r =>
          simp only [List.map_cons, List.cons.injEq, Prod.mk.injEq] at h
          obtain ⟨⟨h1, h2⟩, h3⟩ := h
          simp only [mK, wH]
          by_cases hx : k = p.1
          · rw [if_pos hx, if_pos hx]
            refine ⟨fun h => by (cases h), fun j y h => ?_⟩
            cases h
            refine ⟨Nat.le_refl _, x, by simp, by rw [h1, hx], ?_⟩
            simp [h3]
          · rw [if_neg hx, if_neg hx]
            obtain ⟨a, b⟩ := ih r (i + 1) h3
            refine ⟨fun h q => ?_, fun j y h => ?_⟩
            · simp only [List.cons_append, List.map_cons, a h q, h1, h2]
            · obtain ⟨hj, old, o1, o2, o3⟩ := b j y h
              refine ⟨by omega, old, ?_, o2, ?_⟩
              · rw [show j - i = (j - (i + 1)) + 1 from by omega, List.getElem?_cons_succ]; exact o1
              · rw [show j - i = (j - (i + 1)) + 1 from by omega, List.set_cons_succ]
                simp only [List.map_cons, o3, h1, h2]
    obtain ⟨g1, g2⟩ := gen es.toList l 0 he
    unfold qL
    rw [A2]
    unfold Instr.mapUpdate
    simp only [underlying, Sem.run_bind, run_program, Result.andThen_ok, hu, Sem.run_pure, iU hb, Ke.chk, lU Ke k es.toList l he]
    cases hi : mK k l 0 with
    | none =>
      refine ⟨es.push ⟨enc k, v, c⟩, c + 1, ?_, by simpa using g1 hi c, vX hgr _ _⟩
      simp only [mP _ hb, Result.andThen_ok]
    | some q =>
      obtain ⟨j, x⟩ := q
      obtain ⟨_, old, o1, o2, o3⟩ := g2 j x hi
      rw [Nat.sub_zero] at o1 o3
      have o1' : es[j]? = some old := by simpa using o1
      refine ⟨es.modify j fun e => { e with key := enc k, val := v }, c, ?_, ?_, vK hgr ?_⟩
      · simp only [o1', Option.map_some, Option.getD_some, o2, Instr.keyThatStays, Ke.stay, if_true, Sem.run_pure, Result.andThen_ok, mP _ hb, Sem.run_bind]
      · have hj : j < es.toList.length := by
          rcases Nat.lt_or_ge j es.toList.length with h | h
          · exact h
          · rw [List.getElem?_eq_none h] at o1; cases o1
        rw [← o3]
        congr 1
        apply List.ext_getElem?
        intro y
        rw [Array.getElem?_toList, Array.getElem?_modify, List.getElem?_set]
        by_cases hy : j = y
        · subst hy
          have hj' : j < es.size := by simpa using hj
          have e1 : es[j] = old := by rw [Array.getElem?_eq_getElem hj'] at o1'; exact Option.some.inj o1'
          simp [hj', e1]
        · simp [hy]
      · apply List.ext_getElem?
        intro y
        rw [List.getElem?_map, List.getElem?_map, Array.getElem?_toList, Array.getElem?_toList, Array.getElem?_modify]
        split
        · rename_i h; subst h
          cases es[j]? <;> rfl
        · rfl
  obtain ⟨es', c', h1, h2, h3⟩ := key
  unfold bP
  rw [h1]
  refine hk _ ⟨es', c', by show (w.heap.setIfInBounds m _)[m]? = _; rw [Array.getElem?_setIfInBounds_self_of_lt hlt], h2, h3, uN hnd⟩ (hext _) (by simp)
theorem pO (hu : P.underlying t = some .string) : sQ P t (fun s : ByteArray => Value.string s) := by
  have hb : ∀ a b : ByteArray, (a == b) = decide (a = b) := fun a b => by
    have h1 : (a == b) = (a.data == b.data) := rfl
    rw [h1, Bool.eq_iff_iff, beq_iff_eq, decide_eq_true_eq]
    exact ⟨fun h => by cases a; cases b; simp only at h; rw [h], fun h => h ▸ rfl⟩
  refine ⟨fun a b w => ?_, ⟨_, hu, fun a b => .inr (by simp [Instr.sameNow, hb])⟩, fun c a w => ?_, fun a => ?_⟩
  · unfold Op.equal Op.maxDepth Op.equalIn
    simp only [underlying, Sem.run_bind, run_program, Result.andThen_ok, hu, Sem.run_pure, hb]
  · unfold Instr.checkKey
    simp only [underlying, Sem.run_bind, run_program, Result.andThen_ok, hu, Sem.run_pure]
  · simp [Instr.sameBits, hb]
end
theorem hO {w : World} {b : Nat} {cs : List Value} (h : fT w b cs) : fT (dr w) b cs := h.ext (dJ.dr w jU) (fun h => h)
theorem Sl.dr {w : World} {v : Value} {l : List Value} (h : Sl w v l) : Sl (dr w) v l := h
theorem Sl.open {w : World} {v : Value} {l : List UInt8} (h : Bs w v l) (h0 : 0 < l.length) : ∃ b off c, v = .slice (some ⟨b, off, none⟩) l.length c ∧ l.length ≤ c ∧ ∀ i, (h : i < l.length) → w.cell? ⟨b, off + i, none⟩ = some (pW l[i]) := by
  obtain ⟨a, n, c, rfl, hn, hc, h⟩ := h
  simp only [List.length_map] at hn
  subst hn
  obtain ⟨b, off, rfl, hh⟩ := h h0
  exact ⟨b, off, c, rfl, hc, fun i hi => by rw [hh i hi]; simp [hi]⟩
theorem Sl.len {w : World} {v : Value} {l : List Value} (h : Sl w v l) : ∃ a c, v = .slice a l.length c ∧ l.length ≤ c := by
  obtain ⟨a, n, c, rfl, rfl, hc, _⟩ := h
  exact ⟨a, c, rfl, hc⟩
theorem jW (v : Value) : ¬ tR v jU := by unfold tR jU; split <;> simp
theorem vZ {b o m l : Nat} (h : l ≠ m) : iE (some ⟨b, o, none⟩) m l 1 = some ⟨b, o + l, none⟩ := by
  unfold iE; rw [if_neg (fun e => h e.symm)]; simp [mM]
theorem mL {v : Value} {M N : Nat → Prop} (h : tR v M) (hm : ∀ b, M b → N b) : tR v N := by
  unfold tR at *
  split at h
  · exact hm _ h
  · exact h
end Go.En
namespace Go.En
open Go
theorem rF.len {w : World} {b sz n : Nat} {v : Value} {l : List Value} (h : rF w b sz v n l) : ∃ a c, v = .slice a n c := by
  rcases h.2 with ⟨rfl, rfl⟩ | ⟨x, c, r, rfl, _⟩
  · exact ⟨_, _, rfl⟩
  · exact ⟨_, _, rfl⟩
theorem Sl.nil (w : World) : Sl w (.slice none 0 0) [] := ⟨none, 0, 0, rfl, rfl, Nat.le_refl _, fun h => absurd h (by simp)⟩
theorem fT.whole {w : World} {b c : Nat} {l : List UInt8} (h : fT w b (l.map pW)) (hc : l.length ≤ c) : Bs w (.slice (some ⟨b, 0, none⟩) l.length c) l :=
  h.bs hc fun i hi => by rw [Nat.zero_add]; simp [hi]
end Go.En
namespace Go.En
open Go
set_option linter.unusedVariables false
set_option linter.unusedSimpArgs false
set_option linter.unusedSectionVars false
section
variable {P : Program} {w : World} {t e : TypeId}
variable {κ : Type} [DecidableEq κ] {enc : κ → Value}
theorem Ai {kt et : TypeId} {i : TypeInfo} {z : Value} (hu : P.underlying t = some (.map kt et)) (hi : P.info? et = some i) (hz : i.zero = some z) (K : sQ P kt enc) {m : Nat} {l : List (κ × Value)} (hm : Mp w m enc l) (k : κ) :
    (kD t (.map (some m)) (enc k) false).run P w = .ok (.value ((nB k l).getD z)) w := by
  obtain ⟨es, c, hb, he, _⟩ := hm
  unfold kD; rw [fR]
  unfold Instr.lookup
  simp only [underlying, Sem.run_bind, run_program, Result.andThen_ok, hu, Sem.run_pure, iU hb, K.chk, lU K k es.toList l he, ← sK k l 0]
  cases mK k l 0 with
  | none => simp [zeroValue, typeInfo, hi, hz]
  | some p => simp
def del {κ : Type} [DecidableEq κ] (k : κ) : List (κ × Value) → List (κ × Value)
  | [] => []
  | p :: r => if k = p.1 then r else p :: del k r
theorem wR {k : κ} : ∀ l : List (κ × Value), (del k l).Sublist l
  | [] => .slnil
  | p :: r => by
    simp only [del]
    split
    · exact List.sublist_cons_self _ _
    · exact (wR r).cons_cons p
theorem uJ {k : κ} : ∀ {es : List MapEntry} {l : List (κ × Value)} {i : Nat}, es.map (fun e => (e.key, e.val)) = l.map (fun p => (enc p.1, p.2)) →
    (mK k l i = none → del k l = l) ∧ (∀ j x, mK k l i = some (j, x) → i ≤ j ∧ (es.eraseIdx (j - i)).map (fun e => (e.key, e.val)) = (del k l).map (fun p => (enc p.1, p.2)))
  | es, [], i, h => ⟨fun _ => rfl, fun j x h => by simp [mK] at h⟩
  | [], p :: r, i, h => by simp at h
  | x :: es, p :: r, i, h => by
    rw [List.map_cons, List.map_cons, List.cons.injEq] at h
    obtain ⟨h1, h2⟩ := h
    simp only [mK, del]
    by_cases hk : k = p.1
    · rw [if_pos hk, if_pos hk]
      refine ⟨fun h => by (cases h), fun j y h => ?_⟩
      cases h
      exact ⟨Nat.le_refl _, by simp [h2]⟩
    · rw [if_neg hk, if_neg hk]
      obtain ⟨a, b⟩ := uJ (k := k) (i := i + 1) h2
      refine ⟨fun h => by rw [a h], fun j y h => ?_⟩
      obtain ⟨c, d⟩ := b j y h
      refine ⟨by omega, ?_⟩
      rw [show j - i = (j - (i + 1)) + 1 from by omega, List.eraseIdx_cons_succ, List.map_cons, List.map_cons, d, h1]
theorem wA {kt et kt2 ty : TypeId} (hu : P.underlying t = some (.map kt et)) (Ke : sQ P kt enc) {m : Nat} {l : List (κ × Value)} (hm : Mp w m enc l) (k : κ) {K : Value → World → Prop}
    (hk : ∀ w', Mp w' m enc (del k l) → dJ w w' (fun y => y = m) → w'.heap.size = w.heap.size → K (.tuple #[]) w') : bP P (jI .delete #[t, kt2] ty [.map (some m), enc k]) w K := by
  have hlt := hm.lt
  obtain ⟨es, c, hb, he, hgr, hnd⟩ := hm
  have hext : ∀ o, dJ w { w with heap := w.heap.setIfInBounds m o } (fun y => y = m) := fun o =>
    ⟨rfl, rfl, rfl, by simp, fun b hb hn => by
      show (w.heap.setIfInBounds m o)[b]? = _
      rw [Array.getElem?_setIfInBounds_ne (fun e => hn e.symm)]⟩
  have key : ∃ es', (jI .delete #[t, kt2] ty [.map (some m), enc k]).run P w = .ok (.value (.tuple #[])) { w with heap := w.heap.setIfInBounds m (.map es' c) } ∧ es'.toList.map (fun e => (e.key, e.val)) = ((del k l).map fun p => (enc p.1, p.2)) ∧ rI es' c := by
    obtain ⟨g1, g2⟩ := uJ (k := k) (i := 0) he
    unfold jI builtin
    simp only [Builtin.delete_, List.getElem?_toArray, List.getElem?_cons_zero, List.getElem?_cons_succ]
    simp only [underlying, Sem.run_bind, run_program, Result.andThen_ok, hu, Sem.run_pure, iU hb, Ke.chk, lU Ke k es.toList l he]
    cases hi : mK k l 0 with
    | none =>
      refine ⟨es, ?_, by rw [g1 hi]; exact he, hgr⟩
      simp only [mP _ hb, Result.andThen_ok, Sem.run_pure, Sem.run_bind]
    | some q =>
      obtain ⟨j, x⟩ := q
      obtain ⟨_, g3⟩ := g2 j x hi
      rw [Nat.sub_zero] at g3
      have htl : (es.eraseIdxIfInBounds j).toList = es.toList.eraseIdx j := by
        simp
      refine ⟨es.eraseIdxIfInBounds j, ?_, by rw [htl]; exact g3, ?_, ?_⟩
      · simp only [mP _ hb, Result.andThen_ok, Sem.run_pure, Sem.run_bind]
      · rw [htl]; exact hgr.1.sublist ((List.eraseIdx_sublist _ _).map _)
      · intro e he'
        rw [htl] at he'
        exact hgr.2 e ((List.eraseIdx_sublist _ _).subset he')
  obtain ⟨es', h1, h2, h3⟩ := key
  unfold bP
  rw [h1]
  exact hk _ ⟨es', c, by show (w.heap.setIfInBounds m _)[m]? = _; rw [Array.getElem?_setIfInBounds_self_of_lt hlt], h2, h3, hnd.sublist ((wR l).map _)⟩ (hext _) (by simp)
theorem nE : ∀ {l : List MapEntry} {i : Nat} (hi : i < l.length), (l.map (·.born)).Pairwise (· ≠ ·) → (l.filter fun e => decide (e.born ≠ (l[i]).born)) = l.eraseIdx i
  | [], i, hi, _ => by simp at hi
  | x :: l, 0, hi, h => by
    rw [List.map_cons, List.pairwise_cons] at h
    rw [List.getElem_cons_zero, List.filter_cons_of_neg (by simp), List.eraseIdx_cons_zero, List.filter_eq_self]
    intro a ha
    have := h.1 a.born (List.mem_map.2 ⟨a, ha, rfl⟩)
    simpa using fun e => this e.symm
  | x :: l, i + 1, hi, h => by
    rw [List.map_cons, List.pairwise_cons] at h
    have hi' : i < l.length := by simpa using hi
    have := h.1 (l[i]).born (List.mem_map.2 ⟨l[i], List.getElem_mem hi', rfl⟩)
    rw [List.getElem_cons_succ, List.filter_cons_of_pos (by simpa using this), List.eraseIdx_cons_succ, nE hi' h.2]
theorem lW {α β : Type} (f : α → β) : ∀ (l : List α) (i : Nat), (l.eraseIdx i).map f = (l.map f).eraseIdx i
  | [], i => by simp
  | x :: l, 0 => by simp
  | x :: l, i + 1 => by rw [List.eraseIdx_cons_succ, List.map_cons, List.map_cons, List.eraseIdx_cons_succ, lW f l i]
def AB {κ : Type} (w : World) (it m : Nat) (enc : κ → Value) (rest : List (κ × Value)) : Prop :=
  ∃ es clock seen, w.heap[m]? = some (.map es clock) ∧ w.heap[it]? = some (.mapIter (some m) clock seen clock) ∧ rI es clock ∧
    (es.toList.filter fun e => !seen.contains e.born).map (fun e => (e.key, e.val)) = rest.map fun p => (enc p.1, p.2)
theorem AB.ext {κ : Type} {w w' : World} {it m : Nat} {enc : κ → Value} {rest : List (κ × Value)} {M : Nat → Prop} (h : AB w it m enc rest) (hx : dJ w w' M) (hm : ¬ M m) (hi : ¬ M it) : AB w' it m enc rest := by
  obtain ⟨es, c, seen, h1, h2, h3⟩ := h
  have lt : ∀ {b : Nat} {o : Obj}, w.heap[b]? = some o → b < w.heap.size := fun {b o} h => by
    rcases Nat.lt_or_ge b w.heap.size with h' | h'
    · exact h'
    · rw [Array.getElem?_eq_none h'] at h; cases h
  exact ⟨es, c, seen, by rw [hx.keep m (lt h1) hm]; exact h1, by rw [hx.keep it (lt h2) hi]; exact h2, h3⟩
theorem tJ : ∀ {l : List MapEntry} {e : MapEntry}, (l.map (·.born)).Pairwise (· < ·) → e ∈ l → l.find? (fun x => x.born == e.born) = some e
  | [], e, _, h => by simp at h
  | x :: l, e, hp, h => by
    rw [List.map_cons, List.pairwise_cons] at hp
    rw [List.find?_cons]
    rcases List.mem_cons.1 h with rfl | h
    · simp
    · have := hp.1 e.born (List.mem_map.2 ⟨e, h, rfl⟩)
      have hb : (x.born == e.born) = false := by simp; omega
      rw [hb]
      exact tJ hp.2 h
def AV {κ : Type} (w : World) (it m : Nat) (enc : κ → Value) (p : κ × Value) : Prop :=
  ∃ es clock c0 seen e, w.heap[m]? = some (.map es clock) ∧ w.heap[it]? = some (.mapIter (some m) c0 seen clock) ∧ seen.back? = some e.born ∧ es.find? (fun x => x.born == e.born) = some e ∧ e.key = enc p.1 ∧ e.val = p.2
omit [DecidableEq κ] in
theorem AV.ext {w w' : World} {it m : Nat} {p : κ × Value} {M : Nat → Prop} (h : AV w it m enc p) (hx : dJ w w' M) (hm : ¬ M m) (hi : ¬ M it) : AV w' it m enc p := by
  obtain ⟨es, c, c0, seen, e, h1, h2, h3⟩ := h
  have lt : ∀ {b : Nat} {o : Obj}, w.heap[b]? = some o → b < w.heap.size := fun {b o} h => by
    rcases Nat.lt_or_ge b w.heap.size with h' | h'
    · exact h'
    · rw [Array.getElem?_eq_none h'] at h; cases h
  exact ⟨es, c, c0, seen, e, by rw [hx.keep m (lt h1) hm]; exact h1, by rw [hx.keep it (lt h2) hi]; exact h2, h3⟩
omit [DecidableEq κ] in
theorem An {it m : Nat} {p : κ × Value} (h : AV w it m enc p) : (vR (.pointer (some ⟨it, 0, none⟩))).run P w = .ok (.value (.tuple #[enc p.1, p.2])) w := by
  obtain ⟨es, c, c0, seen, e, h1, h2, h3, h4, h5, h6⟩ := h
  have hgi : (getObj it).run P w = .ok (.mapIter (some m) c0 seen c) w := by simp [getObj, Sem.run, h2]
  unfold vR; rw [fR]
  simp only [Instr.entry, Sem.run_bind, hgi, Result.andThen_ok, h3, iU h1, bne_self_eq_false, Bool.false_eq_true, if_false, h4, Sem.run_pure, h5, h6]
theorem xO {kt et : TypeId} (hu : P.underlying t = some (.map kt et)) {m : Nat} {l : List (κ × Value)} (hm : Mp w m enc l) {K : Value → World → Prop}
    (hk : ∀ w', AB w' w.heap.size m enc l → dJ w w' jU → w'.heap.size = w.heap.size + 1 → K (.pointer (some ⟨w.heap.size, 0, none⟩)) w') : bP P (sJ t (.map (some m))) w K := by
  have hlt := hm.lt
  obtain ⟨es, c, hb, he, hgr, hnd⟩ := hm
  have : (sJ t (.map (some m))).run P w = .ok (.value (.pointer (some ⟨w.heap.size, 0, none⟩))) (w.alloc (.mapIter (some m) c #[] c)) := by
    unfold sJ; rw [fR]
    simp only [Instr.range, underlying, Sem.run_bind, run_program, Result.andThen_ok, hu, Sem.run_pure, iU hb, run_newObj]
    rfl
  unfold bP
  rw [this]
  refine hk _ ⟨es, c, #[], ?_, ?_, hgr, ?_⟩ (dJ.alloc _ _ _) (by simp)
  · show (w.heap.push _)[m]? = _
    rw [Array.getElem?_push, if_neg (by omega)]; exact hb
  · show (w.heap.push _)[w.heap.size]? = _
    simp
  · rw [← he]
    congr 1
    rw [List.filter_eq_self]
    intro a _
    simp
theorem zQ {it m : Nat} {ty : TypeId} {rest : List (κ × Value)} (h : AB w it m enc rest) (hne : it ≠ m) {K : Value → World → Prop}
    (h0 : rest = [] → K (.tuple #[.bool false]) w)
    (hk : ∀ w' (j : Nat) (hj : j < rest.length), AB w' it m enc (rest.eraseIdx j) → AV w' it m enc rest[j] → dJ w w' (fun y => y = it) → w'.heap.size = w.heap.size → K (.tuple #[.bool true, enc rest[j].1, rest[j].2]) w') :
    bP P (wN (.pointer (some ⟨it, 0, none⟩)) false ty) w K := by
  obtain ⟨es, c, seen, hm, hi, hgr, hr⟩ := h
  have hlt : it < w.heap.size := by
    rcases Nat.lt_or_ge it w.heap.size with h' | h'
    · exact h'
    · rw [Array.getElem?_eq_none h'] at hi; cases hi
  have hgi : (getObj it).run P w = .ok (.mapIter (some m) c seen c) w := by simp [getObj, Sem.run, hi]
  have hnot : (!seen.isEmpty && !es.isEmpty && es.all fun e => decide (e.born ≥ c)) = false := by
    cases hes : es.toList with
    | nil =>
      have : es = #[] := by rw [← Array.toArray_toList (xs := es), hes]
      subst this; simp
    | cons x r =>
      have hx : x ∈ es.toList := by rw [hes]; simp
      have := hgr.2 x hx
      have : (es.all fun e => decide (e.born ≥ c)) = false := by
        rw [Array.all_eq_false']
        exact ⟨x, by simpa using hx, by simp; omega⟩
      rw [this]; simp
  have hold : ((es.filter fun e => !seen.contains e.born).filter fun e => decide (e.born < c)) = es.filter fun e => !seen.contains e.born := by
    rw [Array.filter_eq_self]
    intro a ha
    have := hgr.2 a (by simpa using (Array.mem_filter.1 ha).1)
    simpa using this
  have hnew : ((es.filter fun e => !seen.contains e.born).filter fun e => decide (e.born ≥ c)) = #[] := by
    rw [Array.filter_eq_empty_iff]
    intro a ha
    have := hgr.2 a (by simpa using (Array.mem_filter.1 ha).1)
    simp; omega
  have hll : (es.filter fun e => !seen.contains e.born).toList = es.toList.filter fun e => !seen.contains e.born := by simp
  generalize hL : (es.filter fun e => !seen.contains e.born) = L at *
  have hlen : L.size = rest.length := by
    have := congrArg List.length hr
    rw [List.length_map, List.length_map, ← hll] at this
    simpa using this
  have hrun : (wN (.pointer (some ⟨it, 0, none⟩)) false ty).run P w = ((choose (.mapNext ((if L.isEmpty then #[none] else #[]) ++ (L ++ #[]).map some).size)).run P w).andThen fun i w =>
      ((match ((if L.isEmpty then #[none] else #[]) ++ (L ++ #[]).map some)[i]? with
        | some (some e) => do
          setObj it (.mapIter (some m) c (seen.push e.born) c)
          pure (.tuple #[.bool true, e.key, e.val])
        | some none => pure (.tuple #[.bool false])
        | none => stuck "Next: no such candidate" : Sem Value).run P w).andThen fun v w => .ok (.value v) w := by
    unfold wN; rw [fR]
    simp only [Instr.next, Sem.run_bind, hgi, Result.andThen_ok, iU hm, hnot, Bool.false_eq_true, if_false, hL, hold, hnew]
    cases (choose (.mapNext ((if L.isEmpty then #[none] else #[]) ++ (L ++ #[]).map some).size)).run P w with
    | ok a w' => rfl
    | _ => rfl
  unfold bP
  rw [hrun]
  by_cases hz : L.size = 0
  · have hLe : L = #[] := Array.eq_empty_of_size_eq_zero hz
    subst hLe
    have hre : rest = [] := List.length_eq_zero_iff.1 (by omega)
    have hf : (Question.mapNext 1).forced = true := rfl
    simp only [Array.isEmpty_empty, if_true, Array.append_empty, Array.map_empty, List.size_toArray, List.length_singleton, run_choose, hf]
    exact h0 hre
  · have hLe : L.isEmpty = false := by
      simp [Array.isEmpty]; intro h; subst h; simp at hz
    have hsz : ((if L.isEmpty then #[none] else #[]) ++ (L ++ #[]).map some).size = L.size := by rw [hLe]; simp
    have hat : ∀ i (h : i < L.size), ((if L.isEmpty then #[none] else #[]) ++ (L ++ #[]).map some)[i]? = some (some L[i]) := by
      intro i h; rw [hLe]; simp [h]
    obtain ⟨i, w', hi', hw', hch⟩ : ∃ i w', i < L.size ∧ (w' = w ∨ w' = dr w) ∧ (choose (.mapNext ((if L.isEmpty then #[none] else #[]) ++ (L ++ #[]).map some).size)).run P w = .ok i w' := by
      rw [hsz, run_choose]
      by_cases hf : (Question.mapNext L.size).forced = true
      · rw [if_pos hf]
        exact ⟨0, w, by omega, .inl rfl, rfl⟩
      · rw [if_neg hf]
        exact ⟨_, dr w, Nat.mod_lt _ (by omega), .inr rfl, rfl⟩
    rw [hch]
    have hi2 : w'.heap[it]? = some (.mapIter (some m) c seen c) := by rcases hw' with rfl | rfl <;> exact hi
    have hm2 : w'.heap[m]? = some (.map es c) := by rcases hw' with rfl | rfl <;> exact hm
    have hx0 : dJ w w' (fun y => y = it) := by
      rcases hw' with rfl | rfl
      · exact dJ.refl _ _
      · exact dJ.dr _ _
    have hset : (setObj it (.mapIter (some m) c (seen.push (L[i]).born) c)).run P w' = .ok () { w' with heap := w'.heap.setIfInBounds it (.mapIter (some m) c (seen.push (L[i]).born) c) } := by simp [setObj, Sem.run, hi2]
    simp only [Result.andThen_ok, hat i hi', Sem.run_bind, hset, Sem.run_pure]
    have hri : i < rest.length := by omega
    have hkv : ((L[i]).key, (L[i]).val) = (enc rest[i].1, rest[i].2) := by
      have := congrArg (fun (x : List (Value × Value)) => x[i]?) hr
      simp only [← hll, List.getElem?_map] at this
      rw [Array.getElem?_toList, Array.getElem?_eq_getElem hi', List.getElem?_eq_getElem hri] at this
      simpa using this
    obtain ⟨hk1, hk2⟩ := Prod.mk.inj hkv
    have hkk : (Value.tuple #[.bool true, L[i].key, L[i].val]) = .tuple #[.bool true, enc rest[i].1, rest[i].2] := by rw [hk1, hk2]
    rw [hkk]
    have hsize : ({ w' with heap := w'.heap.setIfInBounds it (.mapIter (some m) c (seen.push (L[i]).born) c) } : World).heap.size = w.heap.size := by
      rcases hw' with rfl | rfl
      · simp
      · simp; rfl
    have hwlt : it < w'.heap.size := by rcases hw' with rfl | rfl <;> exact hlt
    have hwm : ({ w' with heap := w'.heap.setIfInBounds it (.mapIter (some m) c (seen.push (L[i]).born) c) } : World).heap[m]? = some (.map es c) := by
      show (w'.heap.setIfInBounds it _)[m]? = _
      rw [Array.getElem?_setIfInBounds_ne hne]; exact hm2
    have hwi : ({ w' with heap := w'.heap.setIfInBounds it (.mapIter (some m) c (seen.push (L[i]).born) c) } : World).heap[it]? = some (.mapIter (some m) c (seen.push (L[i]).born) c) := by
      show (w'.heap.setIfInBounds it _)[it]? = _
      rw [Array.getElem?_setIfInBounds_self_of_lt hwlt]
    have hmemL : L[i] ∈ es.toList := by
      have hm0 : L[i] ∈ es.filter fun e => !seen.contains e.born := by rw [hL]; exact Array.getElem_mem hi'
      simpa using (Array.mem_filter.1 hm0).1
    have hcur : AV ({ w' with heap := w'.heap.setIfInBounds it (.mapIter (some m) c (seen.push (L[i]).born) c) } : World) it m enc rest[i] :=
      ⟨es, c, c, _, L[i], hwm, hwi, by simp, by rw [← Array.find?_toList]; exact tJ hgr.1 hmemL, hk1, hk2⟩
    refine hk _ i hri ⟨es, c, seen.push (L[i]).born, ?_, ?_, hgr, ?_⟩ hcur (hx0.seq ⟨rfl, rfl, rfl, by simp, fun b hb hn => by
      show (w'.heap.setIfInBounds it _)[b]? = _
      rw [Array.getElem?_setIfInBounds_ne (fun e => hn e.symm)]⟩) hsize
    · show (w'.heap.setIfInBounds it _)[m]? = _
      rw [Array.getElem?_setIfInBounds_ne hne]; exact hm2
    · show (w'.heap.setIfInBounds it _)[it]? = _
      rw [Array.getElem?_setIfInBounds_self_of_lt hwlt]
    ·
      have hfil : (es.toList.filter fun e => !(seen.push (L[i]).born).contains e.born) = (es.toList.filter fun e => !seen.contains e.born).filter fun e => decide (e.born ≠ (L[i]).born) := by
        rw [List.filter_filter]
        congr 1
        funext e
        simp only [Array.contains_push]
        by_cases h : e.born = (L[i]).born
        · simp [h]
        · have h' : ¬ (L[i]).born = e.born := fun x => h x.symm
          simp [h, h']
      have hLi : L[i] = L.toList[i]'(by simpa using hi') := by simp
      rw [hfil, ← hll, hLi, nE, lW, hll, hr, ← lW]
      rw [hll]
      exact (hgr.1.imp (fun h => Nat.ne_of_lt h)).sublist ((List.filter_sublist).map _)
end
end Go.En
namespace Go.Proofs.Ytmhokapokchneaa
open Go Go.En
set_option linter.unusedVariables false
set_option maxRecDepth 4000
theorem aS {ox oy : Operand} (x : Option Addr) (w : World) : (dB .eql 25 ox oy (.pointer x) (.pointer none)).run pg w = .ok (.value (.bool x.isNone)) w := AS Try.underlying25 x
theorem uU : (pg).info? 5 = some Try.t5 := by kernel_rfl
theorem vF {n : Nat} {ps : List (Nat × Value)} {cells : Array Value} {w : World} (h1 : ¬ n * 1 > 2 ^ 24) (h0 : ¬ n * 1 = 0) (hf : Go.Instr.fill (fun j => some (j * 1, 1)) ((Array.range (n * 1)).map ((Try.t5.zero.get!).cells[· % (Try.t5.zero.get!).cells.size]!)) ps = some cells) {K : Value → World → Prop} (hk : ∀ w', fT w' w.heap.size cells.toList → dJ w w' jU → w'.heap.size = w.heap.size + 1 → K (.slice (some ⟨w.heap.size, 0, none⟩) n n) w') : bP pg (dS 23 n ps) w K := qD (i := Try.t5) Try.underlying23 uU rfl h1 h0 hf hk
theorem tU {b off n c : Nat} {cs : List Value} {w : World} (ho : fT w b cs) {K : Value → World → Prop} (hk : ∀ w', fT w' b cs → dJ w w' (fun y => y = b) → w'.heap.size = w.heap.size → K (.slice (some ⟨b, off, none⟩) n c) w') : bP pg (mU 23 23 (.slice (some ⟨b, off, none⟩) n c)) w K := Au Try.underlying23 Try.underlying5 ho hk
theorem gM {l : List UInt8} {v : Value} {w : World} (h : Bs w v l) : (mU 23 9 v).run pg w = .ok (.value (.string ⟨l.toArray⟩)) w := zF Try.underlying23 Try.underlying9 Try.underlying5 h
theorem pU {w : World} {K : Value → World → Prop} (hk : ∀ w', Mp w' w.heap.size (fun s : ByteArray => Value.string s) ([] : List (ByteArray × Value)) → dJ w w' jU → w'.heap.size = w.heap.size + 1 → K (.map (some w.heap.size)) w') : bP pg (rC 57 none) w K := xU _ hk
theorem aJ (n0 : Int) (m1 : Option Nat) (m2 : Option Nat) (n3 : Int) (w : World) : (lY 60 [(0, (.int .i64 n0)), (1, (.map m1)), (2, (.map m2)), (4, (.int .i64 n3))]).run pg w = .ok (.value (.agg #[(.int .i64 n0), (.map m1), (.map m2), (.slice none 0 0), (.int .i64 n3), (.bool false)])) w := by kernel_rfl
theorem zW : (pg).info? 57 = some Try.t57 := by kernel_rfl
theorem aP (b o : Nat) (w : World) : (dD 60 (.pointer (some ⟨b, o, none⟩)) 2).run pg w = .ok (.value (.pointer (some ⟨b, o + 2, none⟩))) w := jG (i := 2) Try.underlying60 rfl zW (by decide) _
theorem aW (x : Addr) (w : World) : (dO 57 (.pointer (some x))).run pg w = zX (w.cell? x) w (Aa pg 57 x w) := wD Try.underlying57 rfl x w
theorem zU : (pg).info? 23 = some Try.t23 := by kernel_rfl
theorem lV {w : World} {m : Nat} {l : List (ByteArray × Value)} (hm : Mp w m (fun s : ByteArray => Value.string s) l) (k : ByteArray) : (kD 57 (.map (some m)) ((fun s : ByteArray => Value.string s) k) true).run pg w = .ok (.value (.tuple #[(nB k l).getD (.slice none 0 0), .bool (nB k l).isSome])) w := AM Try.underlying57 zU rfl (pO Try.underlying9) hm k
theorem sI {w : World} {m : Nat} {l : List (ByteArray × Value)} (hm : Mp w m (fun s : ByteArray => Value.string s) l) (k : ByteArray) : (kD 57 (.map (some m)) ((fun s : ByteArray => Value.string s) k) false).run pg w = .ok (.value ((nB k l).getD (.slice none 0 0))) w := Ai Try.underlying57 zU rfl (pO Try.underlying9) hm k
theorem aZ {ty : TypeId} (x : Option Addr) (n c : Nat) (w : World) : (jI .len #[23] ty [.slice x n c]).run pg w = .ok (.value (.int .i64 n)) w := tZ Try.underlying23 x n c
theorem zS : (pg).info? 3 = some Try.t3 := by kernel_rfl
theorem aQ (b o : Nat) (w : World) : (dD 60 (.pointer (some ⟨b, o, none⟩)) 0).run pg w = .ok (.value (.pointer (some ⟨b, o, none⟩))) w := jG (i := 0) Try.underlying60 rfl zS (by decide) _
theorem bQ (x : Addr) (w : World) : (dO 3 (.pointer (some x))).run pg w = zX (w.cell? x) w (Aa pg 3 x w) := wD Try.underlying3 rfl x w
theorem aA (n0 : Int) (s1 : ByteArray) (n2 : Int) (a3 : Option Addr) (l3 c3 : Nat) (w : World) : (lY 65 [(0, (.int .i64 n0)), (1, (.string s1)), (3, (.int .i64 n2)), (4, (.slice a3 l3 c3))]).run pg w = .ok (.value (.agg #[(.int .i64 n0), (.string s1), (.string ⟨#[]⟩), (.int .i64 n2), (.slice a3 l3 c3)])) w := by kernel_rfl
theorem AD : (pg).info? 58 = some Try.t58 := by kernel_rfl
theorem aM (b o : Nat) (w : World) : (dD 60 (.pointer (some ⟨b, o, none⟩)) 3).run pg w = .ok (.value (.pointer (some ⟨b, o + 3, none⟩))) w := jG (i := 3) Try.underlying60 rfl AD (by decide) _
theorem aH (x : Addr) (w : World) : (dO 58 (.pointer (some x))).run pg w = zX (w.cell? x) w (Aa pg 58 x w) := wD Try.underlying58 rfl x w
theorem aI {ty : TypeId} (x : Option Addr) (n c : Nat) (w : World) : (jI .len #[58] ty [.slice x n c]).run pg w = .ok (.value (.int .i64 n)) w := tZ Try.underlying58 x n c
theorem tM : (pg).info? 65 = some Try.t65 := by kernel_rfl
theorem aK {k : IntKind} {a : Int} (b o n c : Nat) (w : World) (h0 : 0 ≤ a) (h1 : a < n) : (mV 58 (.slice (some ⟨b, o, none⟩) n c) (.int k a)).run pg w = .ok (.value (.pointer (some ⟨b, o + a.toNat * 5, none⟩))) w := xP rfl Try.underlying58 tM b o n c h0 h1
theorem eX {b off : Nat} {cs : List Value} {w : World} (ho : fT w b cs) (h : off + 5 ≤ cs.length) : (dO 65 (.pointer (some ⟨b, off, none⟩))).run pg w = .ok (.value (.agg ((cs.drop off).take 5).toArray)) w := Af Try.underlying65 rfl tM ho h
theorem qT {w : World} {K : Value → World → Prop} (hk : ∀ w', fT w' w.heap.size [(.int .i64 0), (.string ⟨#[]⟩), (.string ⟨#[]⟩), (.int .i64 0), (.slice none 0 0)] → dJ w w' jU → w'.heap.size = w.heap.size + 1 → K (.pointer (some ⟨w.heap.size, 0, none⟩)) w') : bP pg (sG 65) w K := yE (i := Try.t65) tM rfl hk
theorem qH {b off : Nat} {cs : List Value} {w : World} {xs : Array Value} {K : Value → World → Prop} (ho : fT w b cs) (hs : xs.size = 5) (hv : ∀ x ∈ xs.toList, one x = true) (h : off + 5 ≤ cs.length) (hk : ∀ w', fT w' b (iM cs off xs.toList) → dJ w w' (fun x => x = b) → w'.heap.size = w.heap.size → K undef w') : bP pg (fY 65 (.pointer (some ⟨b, off, none⟩)) (.agg xs)) w K := tG (v := .agg xs) tM ho hs hv h hk
theorem bA {ty : TypeId} (x : Option Addr) (n c : Nat) (w : World) : (jI .len #[22] ty [.slice x n c]).run pg w = .ok (.value (.int .i64 n)) w := tZ Try.underlying22 x n c
theorem Am : (pg).info? 4 = some Try.t4 := by kernel_rfl
theorem bC {k : IntKind} {a : Int} (b o n c : Nat) (w : World) (h0 : 0 ≤ a) (h1 : a < n) : (mV 22 (.slice (some ⟨b, o, none⟩) n c) (.int k a)).run pg w = .ok (.value (.pointer (some ⟨b, o + a.toNat, none⟩))) w := tK rfl Try.underlying22 Am b o n c h0 h1
theorem bO (x : Addr) (w : World) : (dO 4 (.pointer (some x))).run pg w = zX (w.cell? x) w (Aa pg 4 x w) := wD Try.underlying4 rfl x w
theorem aR (b o : Nat) (w : World) : (dD 60 (.pointer (some ⟨b, o, none⟩)) 1).run pg w = .ok (.value (.pointer (some ⟨b, o + 1, none⟩))) w := jG (i := 1) Try.underlying60 rfl zW (by decide) _
theorem pZ {b off : Nat} {cs : List Value} {w : World} {v : Value} {K : Value → World → Prop} (ho : fT w b cs) (hv : one v = true) (h : off < cs.length) (hk : ∀ w', fT w' b (cs.set off v) → dJ w w' (fun x => x = b) → w'.heap.size = w.heap.size → K undef w') : bP pg (fY 57 (.pointer (some ⟨b, off, none⟩)) v) w K := mW zW rfl ho hv h hk
theorem hG {b off : Nat} {cs : List Value} {w : World} {v : Value} {K : Value → World → Prop} (ho : fT w b cs) (hv : one v = true) (h : off < cs.length) (hk : ∀ w', fT w' b (cs.set off v) → dJ w w' (fun x => x = b) → w'.heap.size = w.heap.size → K undef w') : bP pg (fY 58 (.pointer (some ⟨b, off, none⟩)) v) w K := mW AD rfl ho hv h hk
theorem aO (b o : Nat) (w : World) : (dD 60 (.pointer (some ⟨b, o, none⟩)) 4).run pg w = .ok (.value (.pointer (some ⟨b, o + 4, none⟩))) w := jG (i := 4) Try.underlying60 rfl zS (by decide) _
theorem wC {b off : Nat} {cs : List Value} {w : World} {v : Value} {K : Value → World → Prop} (ho : fT w b cs) (hv : one v = true) (h : off < cs.length) (hk : ∀ w', fT w' b (cs.set off v) → dJ w w' (fun x => x = b) → w'.heap.size = w.heap.size → K undef w') : bP pg (fY 3 (.pointer (some ⟨b, off, none⟩)) v) w K := mW zS rfl ho hv h hk
theorem aN (b o : Nat) (w : World) : (dD 60 (.pointer (some ⟨b, o, none⟩)) 5).run pg w = .ok (.value (.pointer (some ⟨b, o + 5, none⟩))) w := jG (i := 5) Try.underlying60 rfl Am (by decide) _
theorem wQ {b off : Nat} {cs : List Value} {w : World} {v : Value} {K : Value → World → Prop} (ho : fT w b cs) (hv : one v = true) (h : off < cs.length) (hk : ∀ w', fT w' b (cs.set off v) → dJ w w' (fun x => x = b) → w'.heap.size = w.heap.size → K undef w') : bP pg (fY 4 (.pointer (some ⟨b, off, none⟩)) v) w K := mW Am rfl ho hv h hk
theorem aG (n0 : Int) (s1 : ByteArray) (w : World) : (lY 65 [(0, (.int .i64 n0)), (1, (.string s1))]).run pg w = .ok (.value (.agg #[(.int .i64 n0), (.string s1), (.string ⟨#[]⟩), (.int .i64 0), (.slice none 0 0)])) w := by kernel_rfl
theorem aT {ox oy : Operand} (x : Option Addr) (w : World) : (dB .neq 25 ox oy (.pointer x) (.pointer none)).run pg w = .ok (.value (.bool (!x.isNone))) w := AP Try.underlying25 x
theorem aC (n0 : Int) (s1 : ByteArray) (s2 : ByteArray) (w : World) : (lY 65 [(0, (.int .i64 n0)), (1, (.string s1)), (2, (.string s2))]).run pg w = .ok (.value (.agg #[(.int .i64 n0), (.string s1), (.string s2), (.int .i64 0), (.slice none 0 0)])) w := by kernel_rfl
theorem bD {ty : TypeId} (x : ByteArray) (w : World) : (jI .len #[9] ty [.string x]).run pg w = .ok (.value (.int .i64 x.size)) w := AK Try.underlying9 x
theorem tA {w : World} {m : Nat} {l : List (ByteArray × Value)} (hm : Mp w m (fun s : ByteArray => Value.string s) l) {K : Value → World → Prop} (hk : ∀ w', AB w' w.heap.size m (fun s : ByteArray => Value.string s) l → dJ w w' jU → w'.heap.size = w.heap.size + 1 → K (.pointer (some ⟨w.heap.size, 0, none⟩)) w') : bP pg (sJ 57 (.map (some m))) w K := xO Try.underlying57 hm hk
theorem pH {n : Nat} {ps : List (Nat × Value)} {cells : Array Value} {w : World} (h1 : ¬ n * 5 > 2 ^ 24) (h0 : ¬ n * 5 = 0) (hf : Go.Instr.fill (fun j => some (j * 5, 5)) ((Array.range (n * 5)).map ((Try.t65.zero.get!).cells[· % (Try.t65.zero.get!).cells.size]!)) ps = some cells) {K : Value → World → Prop} (hk : ∀ w', fT w' w.heap.size cells.toList → dJ w w' jU → w'.heap.size = w.heap.size + 1 → K (.slice (some ⟨w.heap.size, 0, none⟩) n n) w') : bP pg (dS 58 n ps) w K := qD (i := Try.t65) Try.underlying58 tM rfl h1 h0 hf hk
theorem aV {ox oy : Operand} (x : Option Addr) (n c : Nat) (w : World) : (dB .eql 23 ox oy (.slice x n c) (.slice none 0 0)).run pg w = .ok (.value (.bool x.isNone)) w := Ax Try.underlying23 x n c
theorem oP {base n m : Nat} {ty : TypeId} {w : World} {v x : Value} {l news : List Value} (h : rF w base 1 v n l) (hx : Cl w 1 x m news) (hone : ∀ y ∈ news, one y = true) (hb : base ≤ w.heap.size) (hbytes : (n + m) * 1 ≤ 140737488355328) {K : Value → World → Prop} (hk : ∀ v' w', rF w' base 1 v' (n + m) (l ++ news) → dJ w w' (fun y => base ≤ y) → K v' w') : bP pg (jI .append #[23, 23] ty [v, x]) w K := wF (i := Try.t5) Try.underlying23 Try.underlying23 uU rfl rfl rfl h hx hone hb (by omega) hbytes (by decide) hk
theorem A0 : (pg).info? 9 = some Try.t9 := by kernel_rfl
theorem aF (b o : Nat) (w : World) : (dD 65 (.pointer (some ⟨b, o, none⟩)) 1).run pg w = .ok (.value (.pointer (some ⟨b, o + 1, none⟩))) w := jG (i := 1) Try.underlying65 rfl A0 (by decide) _
theorem bE (x : Addr) (w : World) : (dO 9 (.pointer (some x))).run pg w = zX (w.cell? x) w (Aa pg 9 x w) := wD Try.underlying9 rfl x w
theorem aE (b o : Nat) (w : World) : (dD 65 (.pointer (some ⟨b, o, none⟩)) 0).run pg w = .ok (.value (.pointer (some ⟨b, o, none⟩))) w := jG (i := 0) Try.underlying65 rfl zS (by decide) _
theorem aL (b o : Nat) (w : World) : (dD 65 (.pointer (some ⟨b, o, none⟩)) 3).run pg w = .ok (.value (.pointer (some ⟨b, o + 3, none⟩))) w := jG (i := 3) Try.underlying65 rfl zS (by decide) _
theorem aD (b o : Nat) (w : World) : (dD 65 (.pointer (some ⟨b, o, none⟩)) 4).run pg w = .ok (.value (.pointer (some ⟨b, o + 4, none⟩))) w := jG (i := 4) Try.underlying65 rfl zU (by decide) _
theorem aX (x : Addr) (w : World) : (dO 23 (.pointer (some x))).run pg w = zX (w.cell? x) w (Aa pg 23 x w) := wD Try.underlying23 rfl x w
theorem vH {k : IntKind} {n : Int} {w : World} {K : Value → World → Prop} (h0 : 0 ≤ n) (hn : 1 * n ≤ 2 ^ 48) (hk : ∀ w', fT w' w.heap.size (List.replicate n.toNat (.int .u8 0)) → dJ w w' jU → w'.heap.size = w.heap.size + 1 → K (.slice (some ⟨w.heap.size, 0, none⟩) n.toNat n.toNat) w') : bP pg (oT 23 (.int k n) (.int k n)) w K := zG (i := Try.t5) Try.underlying23 uU rfl rfl rfl h0 hn (by omega) hk
theorem oL {ty : TypeId} {w : World} {b off dl c : Nat} {cs : List Value} (ho : fT w b cs) (hl : off + dl ≤ cs.length) {v : Value} {l : List Value} (h : Sl w v l) (hv : ∀ x ∈ l, one x = true) {K : Value → World → Prop} (hk : ∀ w', fT w' b (iM cs off (l.take (min l.length dl))) → dJ w w' (fun x => x = b) → w'.heap.size = w.heap.size → K (.int .i64 (min l.length dl : Nat)) w') : bP pg (jI .copy #[23, 23] ty [.slice (some ⟨b, off, none⟩) dl c, v]) w K := zT Try.underlying23 uU rfl ho hl h hv hk
theorem aU {k : IntKind} {lo : Int} (a : Option Addr) (n c : Nat) (w : World) (h0 : 0 ≤ lo) (h1 : lo ≤ n) : (qK 23 (.slice a n c) (some (.int k lo)) none none).run pg w = .ok (.value (.slice (iE a c (lo.toNat) 1) (n - lo.toNat) (c - lo.toNat))) w := vN Try.underlying23 uU _ n c h0 h1
theorem qA {w : World} {m : Nat} {l : List (ByteArray × Value)} (hm : Mp w m (fun s : ByteArray => Value.string s) l) (k : ByteArray) (v : Value) {K : Value → World → Prop} (hk : ∀ w', Mp w' m (fun s : ByteArray => Value.string s) (wH k v l) → dJ w w' (fun y => y = m) → w'.heap.size = w.heap.size → K undef w') : bP pg (qL 57 (.map (some m)) ((fun s : ByteArray => Value.string s) k) v) w K := xW Try.underlying57 (pO Try.underlying9) hm k v hk
theorem pY {ty : TypeId} {w : World} {m : Nat} {l : List (ByteArray × Value)} (hm : Mp w m (fun s : ByteArray => Value.string s) l) (k : ByteArray) {K : Value → World → Prop} (hk : ∀ w', Mp w' m (fun s : ByteArray => Value.string s) (del k l) → dJ w w' (fun y => y = m) → w'.heap.size = w.heap.size → K (.tuple #[]) w') : bP pg (jI .delete #[57, 9] ty [.map (some m), .string k]) w K := wA Try.underlying57 (pO Try.underlying9) hm k hk
theorem aB (b o : Nat) (w : World) : (dD 65 (.pointer (some ⟨b, o, none⟩)) 2).run pg w = .ok (.value (.pointer (some ⟨b, o + 2, none⟩))) w := jG (i := 2) Try.underlying65 rfl A0 (by decide) _
end Go.Proofs.Ytmhokapokchneaa
namespace Go.Pu
set_option linter.unusedVariables false
set_option linter.unusedSectionVars false
section
variable {κ β : Type} [DecidableEq κ]
def lJ (k : κ) : List (κ × β) → Option β
  | [] => none
  | p :: r => if k = p.1 then some p.2 else lJ k r
def vU (k : κ) (v : β) : List (κ × β) → List (κ × β)
  | [] => [(k, v)]
  | p :: r => if k = p.1 then (k, v) :: r else p :: vU k v r
def sZ (k : κ) : List (κ × β) → List (κ × β)
  | [] => []
  | p :: r => if k = p.1 then r else p :: sZ k r
end
abbrev fZ := List (ByteArray × List UInt8)
def dU (c : fZ) : Nat := (c.map fun p => p.2.length).sum
theorem tL (k : ByteArray) : ∀ c : fZ, dU (sZ k c) + ((lJ k c).getD []).length = dU c
  | [] => by simp [sZ, lJ, dU]
  | p :: r => by
    have ih := tL k r
    simp only [sZ, lJ]
    split
    · simp [dU]; omega
    · unfold dU at *
      rw [List.map_cons, List.map_cons, List.sum_cons, List.sum_cons]; omega
theorem vB {c : fZ} {j : Nat} (h : j < c.length) : dU (c.eraseIdx j) + c[j].2.length = dU c := by
  induction c generalizing j with
  | nil => simp at h
  | cons p r ih =>
    cases j with
    | zero => simp [dU]; omega
    | succ j =>
      have := ih (j := j) (by simpa using h)
      unfold dU at *
      rw [List.eraseIdx_cons_succ, List.map_cons, List.map_cons, List.sum_cons, List.sum_cons, List.getElem_cons_succ]; omega
theorem tE {k : ByteArray} {c : fZ} : ((lJ k c).getD []).length ≤ dU c := by have := tL k c; omega
structure sS where
  kind : Nat
  name : ByteArray
  other : ByteArray
  at' : Nat
  bytes : List UInt8
def over (old : List UInt8) (a : Nat) (b : List UInt8) : List UInt8 := (old ++ List.replicate (max old.length (a + b.length) - old.length) 0).take a ++ b ++ (old ++ List.replicate (max old.length (a + b.length) - old.length) 0).drop (a + b.length)
theorem uY (old : List UInt8) (a : Nat) (b : List UInt8) : (over old a b).length = max old.length (a + b.length) := by
  unfold over
  simp only [List.length_append, List.length_take, List.length_drop, List.length_replicate]; omega
def qE (o : sS) (c : fZ) : fZ :=
  if o.kind = 0 then vU o.name (over ((lJ o.name c).getD []) o.at' o.bytes) c
  else if o.kind = 1 then match lJ o.name c with
    | none => c
    | some old => vU o.other old (sZ o.name c)
  else if o.kind = 2 then sZ o.name c else c
end Go.Pu
namespace Go.En
open Go Go.Pu
set_option linter.unusedVariables false
theorem AJ {v : Value} {P Q : Nat → Prop} (h : tR v fun b => P b ∨ Q b) : tR v P ∨ tR v Q := by
  unfold tR at *
  split
  · exact h
  · rename_i hne
    split at h
    · exact absurd rfl (hne _ _ _)
    · exact h.elim
def kO (w : World) (X : Nat → Prop) (v : Value) (b : List UInt8) : Prop := Bs w v b ∧ ¬ tR v X
theorem kO.ext {w w' : World} {X M : Nat → Prop} {v : Value} {b : List UInt8} (h : kO w X v b) (x : dJ w w' M) (hM : ∀ b, M b → X b) : kO w' X v b := ⟨h.1.ext x fun h' => h.2 (mL h' hM), h.2⟩
theorem kO.sub {w : World} {X Y : Nat → Prop} {v : Value} {b : List UInt8} (h : kO w X v b) (hY : ∀ b, Y b → X b ∨ w.heap.size ≤ b) : kO w Y v b :=
  ⟨h.1, fun h' => by
    rcases AJ (mL h' hY) with h' | h'
    · exact h.2 h'
    · exact h.1.old h'⟩
def kQ (w : World) (X : Nat → Prop) : List (ByteArray × Value) → fZ → Prop
  | [], [] => True
  | p :: l, q :: c => p.1 = q.1 ∧ kO w X p.2 q.2 ∧ kQ w X l c
  | _, _ => False
theorem kQ.map {w w' : World} {X Y : Nat → Prop} (hd : ∀ v b, kO w X v b → kO w' Y v b) : ∀ {l : List (ByteArray × Value)} {c : fZ}, kQ w X l c → kQ w' Y l c
  | [], [], _ => trivial
  | p :: l, q :: c, h => ⟨h.1, hd _ _ h.2.1, kQ.map hd h.2.2⟩
theorem kQ.ext {w w' : World} {X M : Nat → Prop} {l : List (ByteArray × Value)} {c : fZ} (h : kQ w X l c) (x : dJ w w' M) (hM : ∀ b, M b → X b) : kQ w' X l c := h.map fun _ _ h => h.ext x hM
theorem kQ.sub {w : World} {X Y : Nat → Prop} {l : List (ByteArray × Value)} {c : fZ} (h : kQ w X l c) (hY : ∀ b, Y b → X b ∨ w.heap.size ≤ b) : kQ w Y l c := h.map fun _ _ h => h.sub hY
theorem kQ.get {w : World} {X : Nat → Prop} (k : ByteArray) : ∀ {l : List (ByteArray × Value)} {c : fZ}, kQ w X l c → (nB k l = none ∧ lJ k c = none) ∨ ∃ v b, nB k l = some v ∧ lJ k c = some b ∧ kO w X v b
  | [], [], _ => .inl ⟨rfl, rfl⟩
  | p :: l, q :: c, h => by
    obtain ⟨h1, h2, h3⟩ := h
    simp only [nB, lJ, ← h1]
    by_cases hk : k = p.1
    · rw [if_pos hk, if_pos hk]; exact .inr ⟨_, _, rfl, rfl, h2⟩
    · rw [if_neg hk, if_neg hk]; exact kQ.get k h3
theorem kQ.set {w : World} {X : Nat → Prop} {k : ByteArray} {v : Value} {b : List UInt8} (hd : kO w X v b) : ∀ {l : List (ByteArray × Value)} {c : fZ}, kQ w X l c → kQ w X (wH k v l) (vU k b c)
  | [], [], _ => ⟨rfl, hd, trivial⟩
  | p :: l, q :: c, h => by
    obtain ⟨h1, h2, h3⟩ := h
    simp only [wH, vU, ← h1]
    by_cases hk : k = p.1
    · rw [if_pos hk, if_pos hk]; exact ⟨rfl, hd, h3⟩
    · rw [if_neg hk, if_neg hk]; exact ⟨h1, h2, kQ.set hd h3⟩
theorem kQ.del {w : World} {X : Nat → Prop} {k : ByteArray} : ∀ {l : List (ByteArray × Value)} {c : fZ}, kQ w X l c → kQ w X (del k l) (sZ k c)
  | [], [], _ => trivial
  | p :: l, q :: c, h => by
    obtain ⟨h1, h2, h3⟩ := h
    simp only [Go.En.del, sZ, ← h1]
    by_cases hk : k = p.1
    · rw [if_pos hk, if_pos hk]; exact h3
    · rw [if_neg hk, if_neg hk]; exact ⟨h1, h2, kQ.del h3⟩
theorem kQ.len {w : World} {X : Nat → Prop} : ∀ {l : List (ByteArray × Value)} {c : fZ}, kQ w X l c → l.length = c.length
  | [], [], _ => rfl
  | p :: l, q :: c, h => by rw [List.length_cons, List.length_cons, kQ.len h.2.2]
theorem kQ.at {w : World} {X : Nat → Prop} : ∀ {l : List (ByteArray × Value)} {c : fZ} {j : Nat} (h : kQ w X l c) (h1 : j < l.length) (h2 : j < c.length), l[j].1 = c[j].1 ∧ kO w X l[j].2 c[j].2
  | [], [], j, _, h1, _ => by simp at h1
  | p :: l, q :: c, 0, h, _, _ => ⟨h.1, h.2.1⟩
  | p :: l, q :: c, j + 1, h, h1, h2 => kQ.at h.2.2 (by simpa using h1) (by simpa using h2)
theorem kQ.erase {w : World} {X : Nat → Prop} : ∀ {l : List (ByteArray × Value)} {c : fZ} (j : Nat) (h : kQ w X l c), kQ w X (l.eraseIdx j) (c.eraseIdx j)
  | [], [], j, _ => by simp [kQ]
  | p :: l, q :: c, 0, h => h.2.2
  | p :: l, q :: c, j + 1, h => by
    rw [List.eraseIdx_cons_succ, List.eraseIdx_cons_succ]
    exact ⟨h.1, h.2.1, kQ.erase j h.2.2⟩
end Go.En
namespace Go.En
open Go
set_option linter.unusedVariables false
theorem vO.ext {w w' : World} {S M : Nat → Prop} {sz n : Nat} {v : Value} {l : List Value} (h : vO w S sz v n l) (hx : dJ w w' M) (hM : ∀ b, S b → ¬ M b) : vO w' S sz v n l := by
  refine ⟨h.1, ?_⟩
  rcases h.2 with h2 | ⟨b, c, rest, h1, h2, h3, h4, h5⟩
  · exact .inl h2
  · exact .inr ⟨b, c, rest, h1, h2, h3.ext hx (hM b h2), h4, h5⟩
theorem vO.len {w : World} {S : Nat → Prop} {sz n : Nat} {v : Value} {l : List Value} (h : vO w S sz v n l) : ∃ a c, v = .slice a n c := by
  rcases h.2 with ⟨h1, rfl⟩ | ⟨b, c, rest, h1, _⟩
  · exact ⟨_, _, h1⟩
  · exact ⟨_, _, h1⟩
end Go.En
namespace Go.En
open Go Go.Pu
set_option linter.unusedVariables false
def qY (o : sS) (v : Value) : List Value := [.int .i64 o.kind, .string o.name, .string o.other, .int .i64 o.at', v]
def rS (w : World) (X : Nat → Prop) : List Value → List sS → Prop
  | cs, [] => cs = []
  | cs, o :: os => ∃ v cs', (∃ x n k, v = .slice x n k) ∧ cs = qY o v ++ cs' ∧ kO w X v o.bytes ∧ rS w X cs' os
theorem rS.nil (w : World) (X : Nat → Prop) : rS w X [] [] := rfl
theorem rS.map {w w' : World} {X Y : Nat → Prop} (hd : ∀ v b, kO w X v b → kO w' Y v b) : ∀ {os : List sS} {cs : List Value}, rS w X cs os → rS w' Y cs os
  | [], cs, h => h
  | o :: os, cs, ⟨v, cs', h1, h2, h3, h4⟩ => ⟨v, cs', h1, h2, hd _ _ h3, rS.map hd h4⟩
theorem rS.ext {w w' : World} {X M : Nat → Prop} {os : List sS} {cs : List Value} (h : rS w X cs os) (x : dJ w w' M) (hM : ∀ b, M b → X b) : rS w' X cs os := h.map fun _ _ h => h.ext x hM
theorem rS.sub {w : World} {X Y : Nat → Prop} {os : List sS} {cs : List Value} (h : rS w X cs os) (hY : ∀ b, Y b → X b ∨ w.heap.size ≤ b) : rS w Y cs os := h.map fun _ _ h => h.sub hY
theorem rS.len {w : World} {X : Nat → Prop} : ∀ {os : List sS} {cs : List Value}, rS w X cs os → cs.length = os.length * 5
  | [], cs, h => by rw [show cs = [] from h] <;> rfl
  | o :: os, cs, ⟨v, cs', h1, h2, h3, h4⟩ => by rw [h2, List.length_append, rS.len h4, List.length_cons]; show 5 + _ = _; omega
theorem rS.snoc {w : World} {X : Nat → Prop} {o : sS} {v : Value} (hv : ∃ x n k, v = .slice x n k) (hd : kO w X v o.bytes) : ∀ {os : List sS} {cs : List Value}, rS w X cs os → rS w X (cs ++ qY o v) (os ++ [o])
  | [], cs, h => ⟨v, [], hv, by rw [show cs = [] from h, List.nil_append, List.append_nil], hd, rfl⟩
  | o' :: os, cs, ⟨v', cs', h1, h2, h3, h4⟩ => ⟨v', cs' ++ qY o v, h1, by rw [h2, List.append_assoc], h3, rS.snoc hv hd h4⟩
theorem rS.at {w : World} {X : Nat → Prop} : ∀ {os : List sS} {cs : List Value} {i : Nat} (h : rS w X cs os) (hi : i < os.length), ∃ v, (∃ x n k, v = .slice x n k) ∧ (cs.drop (i * 5)).take 5 = qY os[i] v ∧ kO w X v os[i].bytes
  | [], cs, i, _, hi => by simp at hi
  | o :: os, cs, 0, ⟨v, cs', h1, h2, h3, h4⟩, _ => ⟨v, h1, by rw [h2] <;> rfl, h3⟩
  | o :: os, cs, i + 1, ⟨v, cs', h1, h2, h3, h4⟩, hi => by
    obtain ⟨v', q1, q2, q3⟩ := rS.at h4 (i := i) (by simpa using hi)
    refine ⟨v', q1, ?_, q3⟩
    rw [show (i + 1) * 5 = 5 + i * 5 from by omega, ← List.drop_drop, h2]
    exact q2
structure pK where
  room : Int
  sure : fZ
  seen : fZ
  under : List sS
  left : Int
  down : Bool
abbrev rE : ByteArray → Value := fun s => .string s
def fN (w : World) (p : Nat) (X D : Nat → Prop) (S : pK) : Prop :=
  ∃ (ms mn : Nat) (sv : Value) (ls ln : List (ByteArray × Value)) (cs : List Value), X p ∧ X ms ∧ X mn ∧ p ≠ ms ∧ p ≠ mn ∧ ms ≠ mn ∧ (∀ b, X b → D b) ∧ (∀ b, D b → b < w.heap.size) ∧
    fT w p [.int .i64 S.room, .map (some ms), .map (some mn), sv, .int .i64 S.left, .bool S.down] ∧ Mp w ms rE ls ∧ Mp w mn rE ln ∧ kQ w D ls S.sure ∧ kQ w D ln S.seen ∧
    vO w (fun b => X b ∧ b ≠ p ∧ b ≠ ms ∧ b ≠ mn) 5 sv S.under.length cs ∧ rS w D cs S.under
theorem fN.ext {w w' : World} {p : Nat} {X D M : Nat → Prop} {S : pK} (h : fN w p X D S) (x : dJ w w' M) (hM : ∀ b, M b → D b ∧ ¬ X b) : fN w' p X D S := by
  obtain ⟨ms, mn, sv, ls, ln, cs, h1, h2, h3, h4, h5, h6, h7, h7', h8, h9, h10, h11, h12, h13, h14⟩ := h
  have hx : ∀ {b}, X b → ¬ M b := fun hb hm => (hM _ hm).2 hb
  have hd : ∀ v b, kO w D v b → kO w' D v b := fun _ _ hd => hd.ext x fun b h => (hM b h).1
  exact ⟨ms, mn, sv, ls, ln, cs, h1, h2, h3, h4, h5, h6, h7, fun b hb => Nat.lt_of_lt_of_le (h7' b hb) x.size, h8.ext x (hx h1), h9.ext x (hx h2), h10.ext x (hx h3), h11.map hd, h12.map hd, h13.ext x (fun b hb => hx hb.1), h14.map hd⟩
theorem fN.new {w w' : World} {p : Nat} {X D : Nat → Prop} {S : pK} (h : fN w p X D S) (x : dJ w w' jU) : fN w' p X D S := h.ext x fun _ h => h.elim
end Go.En
namespace Go.Proofs.Ytmhokapokchneaa
open Go Go.En Go.Pu
set_option maxRecDepth 4000
set_option linter.unusedSimpArgs false
set_option linter.unusedVariables false
def qZ (s : ByteArray) : Bool := decide (1 ≤ s.size ∧ s.size ≤ 32)
theorem zN (s : ByteArray) (w : World) : dG pg jR #[.string s] w (fun r w' => r = .bool (qZ s) ∧ w' = w) := by
  refine tC ?_
  unfold uR oU qZ
  by_cases h1 : 1 ≤ s.size
  · have d1 : decide ((1 : Int) ≤ (s.size : Int)) = true := by simp; omega
    by_cases h2 : s.size ≤ 32
    · have d2 : decide ((s.size : Int) ≤ 32) = true := by simp; omega
      rw [decide_eq_true ⟨h1, h2⟩]
      simp (disch := omega) only [bP, dE, aY, bB, cR, cD, cI, cE, dA, cM, dL, cJ, bK, cS, cO, cZ, cL, cK, cU, cY, cT, cV, cP, cX, bS, cC, cN, cW, fD, fI, fA, fC, fF, fB, fE, eZ, fG, bJ, Result.ok.injEq, Next.value.injEq, true_and, and_true, cB, cF, cQ, cH, cG, dK, Int.toNat_natCast, bV, bR, bT, bU, bM, bL, bN, bH, bG, bF, if_true, if_false, Bool.false_eq_true, Nat.zero_add, Option.isNone_some, Option.isNone_none, Bool.not_true, Bool.not_false, List.getElem?_cons_succ, List.getElem?_cons_zero, aS, aJ, aP, aW, aZ, aQ, bQ, aA, aM, aH, aI, aK, bA, bC, bO, aR, aO, aN, aG, aT, aC, bD, aV, aF, bE, aE, aL, aD, aX, aU, aB, d1, d2]
    · have d2 : decide ((s.size : Int) ≤ 32) = false := by simp; omega
      rw [decide_eq_false (fun h => h2 h.2)]
      simp (disch := omega) only [bP, dE, aY, bB, cR, cD, cI, cE, dA, cM, dL, cJ, bK, cS, cO, cZ, cL, cK, cU, cY, cT, cV, cP, cX, bS, cC, cN, cW, fD, fI, fA, fC, fF, fB, fE, eZ, fG, bJ, Result.ok.injEq, Next.value.injEq, true_and, and_true, cB, cF, cQ, cH, cG, dK, Int.toNat_natCast, bV, bR, bT, bU, bM, bL, bN, bH, bG, bF, if_true, if_false, Bool.false_eq_true, Nat.zero_add, Option.isNone_some, Option.isNone_none, Bool.not_true, Bool.not_false, List.getElem?_cons_succ, List.getElem?_cons_zero, aS, aJ, aP, aW, aZ, aQ, bQ, aA, aM, aH, aI, aK, bA, bC, bO, aR, aO, aN, aG, aT, aC, bD, aV, aF, bE, aE, aL, aD, aX, aU, aB, d1, d2]
  · have d1 : decide ((1 : Int) ≤ (s.size : Int)) = false := by simp; omega
    rw [decide_eq_false (fun h => h1 h.1)]
    simp (disch := omega) only [bP, dE, aY, bB, cR, cD, cI, cE, dA, cM, dL, cJ, bK, cS, cO, cZ, cL, cK, cU, cY, cT, cV, cP, cX, bS, cC, cN, cW, fD, fI, fA, fC, fF, fB, fE, eZ, fG, bJ, Result.ok.injEq, Next.value.injEq, true_and, and_true, cB, cF, cQ, cH, cG, dK, Int.toNat_natCast, bV, bR, bT, bU, bM, bL, bN, bH, bG, bF, if_true, if_false, Bool.false_eq_true, Nat.zero_add, Option.isNone_some, Option.isNone_none, Bool.not_true, Bool.not_false, List.getElem?_cons_succ, List.getElem?_cons_zero, aS, aJ, aP, aW, aZ, aQ, bQ, aA, aM, aH, aI, aK, bA, bC, bO, aR, aO, aN, aG, aT, aC, bD, aV, aF, bE, aE, aL, aD, aX, aU, aB, d1]
theorem AG {m : Nat} {X : Nat → Prop} {ls : List (ByteArray × Value)} {c : fZ} {w : World} (hm : Mp w m rE ls) (hf : kQ w X ls c) (hs : dU c ≤ 1099511627776) :
    dG pg gQ #[.map (some m)] w (fun r w' => r = .int .i64 (dU c : Nat) ∧ dJ w w' jU) := by
  refine oS ?_
  unfold nH iP iH gO iN iF
  have hlt := hm.lt
  refine tA hm fun w1 hi x1 s1 => ?_
  unfold gB iO
  have hf1 : kQ w1 (fun b => X b ∨ w.heap.size ≤ b) ls c := (hf.sub (Y := fun b => X b ∨ w.heap.size ≤ b) fun _ h => h).ext x1 fun _ h => h.elim
  refine kS.rule (fun k (t : Value) w' => ∃ (rest : List (ByteArray × Value)) (cr : fZ) (n : Nat), k = rest.length ∧ t = .int .i64 n ∧ AB w' w.heap.size m rE rest ∧ kQ w' (fun b => X b ∨ w.heap.size ≤ b) rest cr ∧ n + dU cr = dU c ∧ dJ w1 w' (fun y => y = w.heap.size)) ls.length
    ⟨ls, c, 0, rfl, rfl, hi, hf1, by omega, dJ.refl _ _⟩ ?_
  rintro k t w2 ⟨rest, cr, n, rfl, rfl, hi2, hf2, hn, x2⟩
  unfold gF
  refine zQ hi2 (by omega) (fun h0 => ?_) fun w3 j hj hi3 hc x3 s3 => ?_
  · have hl := hf2.len
    rw [h0] at hl
    have hcr : cr = [] := List.length_eq_zero_iff.1 hl.symm
    have hz : dU cr = 0 := by rw [hcr] <;> rfl
    unfold gE
    have e1 : n = dU c := by omega
    simp (disch := omega) only [bP, dE, aY, bB, cR, cD, cI, cE, dA, cM, dL, cJ, bK, cS, cO, cZ, cL, cK, cU, cY, cT, cV, cP, cX, bS, cC, cN, cW, fD, fI, fA, fC, fF, fB, fE, eZ, fG, bJ, Result.ok.injEq, Next.value.injEq, true_and, and_true, cB, cF, cQ, cH, cG, dK, Int.toNat_natCast, bV, bR, bT, bU, bM, bL, bN, bH, bG, bF, if_true, if_false, Bool.false_eq_true, Nat.zero_add, Option.isNone_some, Option.isNone_none, Bool.not_true, Bool.not_false, List.getElem?_cons_succ, List.getElem?_cons_zero, aS, aJ, aP, aW, aZ, aQ, bQ, aA, aM, aH, aI, aK, bA, bC, bO, aR, aO, aN, aG, aT, aC, bD, aV, aF, bE, aE, aL, aD, aX, aU, aB, e1]
    exact x1.new x2 (Nat.le_refl _)
  · have hl := hf2.len
    have hat := hf2.at hj (by omega)
    obtain ⟨va, vc, hv, _⟩ := hat.2.1.len
    rw [List.length_map] at hv
    have he := An (P := pg) hc
    rw [hv] at he
    have hse := vB (c := cr) (j := j) (by omega)
    generalize (cr[j]'(by omega)).2.length = q at *
    have e1 : (n : Int) + (q : Int) = ((n + q : Nat) : Int) := by omega
    simp (disch := omega) only [bP, dE, aY, bB, cR, cD, cI, cE, dA, cM, dL, cJ, bK, cS, cO, cZ, cL, cK, cU, cY, cT, cV, cP, cX, bS, cC, cN, cW, fD, fI, fA, fC, fF, fB, fE, eZ, fG, bJ, Result.ok.injEq, Next.value.injEq, true_and, and_true, cB, cF, cQ, cH, cG, dK, Int.toNat_natCast, bV, bR, bT, bU, bM, bL, bN, bH, bG, bF, if_true, if_false, Bool.false_eq_true, Nat.zero_add, Option.isNone_some, Option.isNone_none, Bool.not_true, Bool.not_false, List.getElem?_cons_succ, List.getElem?_cons_zero, aS, aJ, aP, aW, aZ, aQ, bQ, aA, aM, aH, aI, aK, bA, bC, bO, aR, aO, aN, aG, aT, aC, bD, aV, aF, bE, aE, aL, aD, aX, aU, aB, he, e1]
    refine ⟨(rest.eraseIdx j).length, by rw [List.length_eraseIdx_of_lt hj]; omega, _, cr.eraseIdx j, n + q, rfl, rfl, hi3, (hf2.erase j).ext x3 (fun b h => .inr (by omega)), by omega, x2.seq x3⟩
end Go.Proofs.Ytmhokapokchneaa
namespace Go.Proofs.Ytmhokapokchneaa
open Go Go.En Go.Pu
set_option maxRecDepth 4000
set_option linter.unusedSimpArgs false
set_option linter.unusedVariables false
theorem vW (cs : List Value) (n : Nat) : iM cs n [] = cs := by unfold iM; rfl
theorem Aq (n : Nat) : (List.replicate n (0 : UInt8)).map pW = List.replicate n (Value.int .u8 0) := by rw [List.map_replicate] <;> rfl
theorem AX {m : Nat} {X : Nat → Prop} {ls : List (ByteArray × Value)} {c : fZ} {o : sS} {va : Option Addr} {vc : Nat} {w : World} (hm : Mp w m rE ls) (hmX : X m) (hX : ∀ b, X b → b < w.heap.size) (hf : kQ w X ls c)
    (hd : kO w X (.slice va o.bytes.length vc) o.bytes) (hs : dU c ≤ 1099511627776) (ha : o.at' ≤ 1099511627776) (hb : o.bytes.length ≤ 1099511627776) :
    dG pg gP #[.map (some m), .agg (qY o (.slice va o.bytes.length vc)).toArray] w (fun r w' => r = .tuple #[] ∧ ∃ ls', Mp w' m rE ls' ∧ kQ w' X ls' (qE o c) ∧ dJ w w' (fun b => b = m)) := by
  refine qG ?_
  unfold pX jS
  refine uA fun w1 o1 x1 s1 => ?_
  have o1 : fT w1 w.heap.size [.int .i64 o.kind, .string o.name, .string o.other, .int .i64 o.at', .slice va o.bytes.length vc] := o1
  have hlt := hm.lt
  have hm1 := hm.ext x1 (fun h => h)
  have fin : ∀ {w' : World} {ls' : List (ByteArray × Value)}, Mp w' m rE ls' → kQ w' X ls' (qE o c) → dJ w w' (fun b => b = m) → ∃ ls', Mp w' m rE ls' ∧ kQ w' X ls' (qE o c) ∧ dJ w w' (fun b => b = m) := fun h1 h2 h3 => ⟨_, h1, h2, h3⟩
  have hfx : ∀ {w' : World}, dJ w w' (fun b => b = m) → kQ w' X ls c := fun x => hf.ext x fun b h => h ▸ hmX
  obtain ⟨oa, oc, ob, th, l0, hbo, hnx, hob, hth⟩ : ∃ (oa : Option Addr) (oc : Nat) (ob : List UInt8) (th : Bool), (kD 57 (.map (some m)) (.string o.name) true).run pg w1 = .ok (.value (.tuple #[.slice oa ob.length oc, .bool th])) w1 ∧ Bs w (.slice oa ob.length oc) ob ∧ ¬ tR (.slice oa ob.length oc) X ∧
      (lJ o.name c).getD [] = ob ∧ (th = true ∧ lJ o.name c = some ob ∨ th = false ∧ lJ o.name c = none) := by
    have l0 := lV hm1 o.name
    rcases hf.get o.name with ⟨h1, h2⟩ | ⟨v, b, h1, h2, h3⟩
    · rw [h1] at l0
      exact ⟨none, 0, [], false, l0, Sl.nil _, fun h => h, by rw [h2] <;> rfl, .inr ⟨rfl, h2⟩⟩
    · obtain ⟨a', c', hv, _⟩ := h3.1.len
      rw [List.length_map] at hv
      subst hv
      rw [h1] at l0
      exact ⟨a', c', b, true, l0, h3.1, h3.2, by rw [h2] <;> rfl, .inl ⟨rfl, h2⟩⟩
  have c0 := o1.cell (off := 0)
  have c1 := o1.cell (off := 1)
  have c2 := o1.cell (off := 2)
  have c3 := o1.cell (off := 3)
  have c4 := o1.cell (off := 4)
  simp only [List.getElem?_cons_zero, List.getElem?_cons_succ] at c0 c1 c2 c3 c4
  have holdlen : ob.length ≤ 1099511627776 := by rw [← hob]; have := tE (k := o.name) (c := c); omega
  by_cases k0 : o.kind = 0
  · have n1 : (((o.kind : Nat) : Int) == 0) = true := by rw [k0] <;> rfl
    obtain ⟨M, hM⟩ : ∃ M, M = max ob.length (o.at' + o.bytes.length) := ⟨_, rfl⟩
    have e1 : (o.at' : Int) + (o.bytes.length : Int) = ((o.at' + o.bytes.length : Nat) : Int) := by omega
    have hmax : (if ((o.at' + o.bytes.length : Nat) : Int) > (ob.length : Int) then ((o.at' + o.bytes.length : Nat) : Int) else (ob.length : Int)) = ((M : Nat) : Int) := by
      split <;> omega
    simp (disch := omega) only [bP, dE, aY, bB, cR, cD, cI, cE, dA, cM, dL, cJ, bK, cS, cO, cZ, cL, cK, cU, cY, cT, cV, cP, cX, bS, cC, cN, cW, fD, fI, fA, fC, fF, fB, fE, eZ, fG, bJ, Result.ok.injEq, Next.value.injEq, true_and, and_true, cB, cF, cQ, cH, cG, dK, Int.toNat_natCast, bV, bR, bT, bU, bM, bL, bN, bH, bG, bF, if_true, if_false, Bool.false_eq_true, Nat.zero_add, Option.isNone_some, Option.isNone_none, Bool.not_true, Bool.not_false, List.getElem?_cons_succ, List.getElem?_cons_zero, aS, aJ, aP, aW, aZ, aQ, bQ, aA, aM, aH, aI, aK, bA, bC, bO, aR, aO, aN, aG, aT, aC, bD, aV, aF, bE, aE, aL, aD, aX, aU, aB, c0, c1, c3, c4, l0, n1, e1, hmax]
    refine vH (by omega) (by omega) fun w2 o2 x2 s2 => ?_
    rw [Int.toNat_natCast] at o2 ⊢
    have x02 := x1.seq x2
    have hnb : ¬ tR (.slice oa ob.length oc) (fun y => y = w1.heap.size) := fun h => hbo.old (mL h fun b hb => by omega)
    refine oL o2 (by rw [List.length_replicate]; omega) (hbo.ext x02 (jW _)) (vT _) fun w3 o3 x3 s3 => ?_
    have P3 : iM (List.replicate M (Value.int .u8 0)) 0 ((ob.map pW).take (min (ob.map pW).length M)) = (ob ++ List.replicate (M - ob.length) 0).map pW := by
      rw [List.length_map, Nat.min_eq_left (by omega), List.take_of_length_le (by rw [List.length_map]; omega)]
      have := mA (ob.map pW) [] (List.replicate M (Value.int .u8 0)) (by rw [List.length_map, List.length_replicate]; omega)
      rw [List.nil_append, List.nil_append, List.length_nil] at this
      rw [this, List.map_append, Aq, List.drop_replicate, List.length_map]
    rw [P3] at o3
    have x03 : dJ w w3 jU := x02.new x3 (by omega)
    have o13 := (o1.ext x2 (fun h => h)).ext x3 (by omega)
    have hm3 := hm.ext x03 (fun h => h)
    have q1 := o13.cell (off := 1)
    have q3 := o13.cell (off := 3)
    have q4 := o13.cell (off := 4)
    have q3d := (hO o13).cell (off := 3)
    have q4d := (hO o13).cell (off := 4)
    simp only [List.getElem?_cons_zero, List.getElem?_cons_succ] at q1 q3 q4 q3d q4d
    have hbd : Bs (dr w3) (.slice va o.bytes.length vc) o.bytes := (hd.1.ext x03 (jW _)).ext (dJ.dr _ jU) (jW _)
    have hhm : o.at' ≤ M := by omega
    have hP : (ob ++ List.replicate (M - ob.length) (0 : UInt8)).length = M := by rw [List.length_append, List.length_replicate]; omega
    have hov : over ob o.at' o.bytes = (ob ++ List.replicate (M - ob.length) 0).take o.at' ++ o.bytes ++ (ob ++ List.replicate (M - ob.length) 0).drop (o.at' + o.bytes.length) := by unfold over; rw [← hM]
    have hol := uY ob o.at' o.bytes
    generalize ob ++ List.replicate (M - ob.length) (0 : UInt8) = P at *
    have ending : ∀ (w4 : World), fT w4 w1.heap.size ((over ob o.at' o.bytes).map pW) → dJ w w4 jU →
        bP pg (qL 57 (.map (some m)) (.string o.name) (.slice (some ⟨w1.heap.size, 0, none⟩) M M)) w4 fun _ w' => ∃ ls', Mp w' m rE ls' ∧ kQ w' X ls' (qE o c) ∧ dJ w w' (fun b => b = m) := fun w4 o4 x4 => by
      refine qA (hm.ext x4 (fun h => h)) o.name _ fun w5 hm5 x5 s5 => ?_
      have x05 : dJ w w5 (fun b => b = m) := (x4.mono fun _ _ h => h.elim).seq x5
      have hdo : qE o c = vU o.name (over ob o.at' o.bytes) c := by unfold qE; rw [if_pos k0, hob]
      rw [hdo]
      refine ⟨_, hm5, kQ.set ⟨?_, fun h => ?_⟩ (hfx x05), x05⟩
      · have := fT.whole (c := M) (o4.ext x5 (by omega)) (by omega)
        rw [hol, ← hM] at this
        exact this
      · obtain ⟨M', hM'⟩ : ∃ M', M = M' + 1 ∨ M = 0 := ⟨M - 1, by omega⟩
        rcases hM' with h' | h'
        · rw [h'] at h
          have h : X w1.heap.size := h
          have := hX _ h
          omega
        · rw [h'] at h
          exact h
    by_cases hat : o.at' < M
    · have hsh : iE (some ⟨w1.heap.size, 0, none⟩) M o.at' 1 = some ⟨w1.heap.size, 0 + o.at', none⟩ := vZ (by omega)
      simp (disch := omega) only [bP, dE, aY, bB, cR, cD, cI, cE, dA, cM, dL, cJ, bK, cS, cO, cZ, cL, cK, cU, cY, cT, cV, cP, cX, bS, cC, cN, cW, fD, fI, fA, fC, fF, fB, fE, eZ, fG, bJ, Result.ok.injEq, Next.value.injEq, true_and, and_true, cB, cF, cQ, cH, cG, dK, Int.toNat_natCast, bV, bR, bT, bU, bM, bL, bN, bH, bG, bF, if_true, if_false, Bool.false_eq_true, Nat.zero_add, Option.isNone_some, Option.isNone_none, Bool.not_true, Bool.not_false, List.getElem?_cons_succ, List.getElem?_cons_zero, aS, aJ, aP, aW, aZ, aQ, bQ, aA, aM, aH, aI, aK, bA, bC, bO, aR, aO, aN, aG, aT, aC, bD, aV, aF, bE, aE, aL, aD, aX, aU, aB, q3, q4, q3d, q4d, hsh]
      refine oL (off := o.at') (hO o3) (by rw [List.length_map]; omega) hbd (vT _) fun w4 o4 x4 s4 => ?_
      have P4 : iM (P.map pW) o.at' ((o.bytes.map pW).take (min (o.bytes.map pW).length (M - o.at'))) = (over ob o.at' o.bytes).map pW := by
        rw [List.length_map, Nat.min_eq_left (by omega), List.take_of_length_le (by rw [List.length_map]; omega)]
        have := mA (o.bytes.map pW) ((P.take o.at').map pW) ((P.drop o.at').map pW) (by rw [List.length_map, List.length_map, List.length_drop]; omega)
        rw [← List.map_append, List.take_append_drop, List.length_map, List.length_take, Nat.min_eq_left (by omega)] at this
        rw [this, hov, List.length_map, List.map_append, List.map_append, ← List.map_drop, List.drop_drop]
      rw [P4] at o4
      have x34 : dJ w3 w4 (fun y => y = w1.heap.size) := (dJ.dr _ _).seq x4
      have x04 : dJ w w4 jU := x03.new x34 (by omega)
      have o14 := o13.ext x34 (by omega)
      have q1 := o14.cell (off := 1)
      have q1d := (hO o14).cell (off := 1)
      simp only [List.getElem?_cons_zero, List.getElem?_cons_succ] at q1 q1d
      have e4 := ending w4 o4 x04
      simp (disch := omega) only [bP, dE, aY, bB, cR, cD, cI, cE, dA, cM, dL, cJ, bK, cS, cO, cZ, cL, cK, cU, cY, cT, cV, cP, cX, bS, cC, cN, cW, fD, fI, fA, fC, fF, fB, fE, eZ, fG, bJ, Result.ok.injEq, Next.value.injEq, true_and, and_true, cB, cF, cQ, cH, cG, dK, Int.toNat_natCast, bV, bR, bT, bU, bM, bL, bN, bH, bG, bF, if_true, if_false, Bool.false_eq_true, Nat.zero_add, Option.isNone_some, Option.isNone_none, Bool.not_true, Bool.not_false, List.getElem?_cons_succ, List.getElem?_cons_zero, aS, aJ, aP, aW, aZ, aQ, bQ, aA, aM, aH, aI, aK, bA, bC, bO, aR, aO, aN, aG, aT, aC, bD, aV, aF, bE, aE, aL, aD, aX, aU, aB, q1, q1d]
      exact e4
    · have hE : o.at' = M := by omega
      have hb0 : o.bytes = [] := List.length_eq_zero_iff.1 (by omega)
      have hsh : iE (some ⟨w1.heap.size, 0, none⟩) M o.at' 1 = some ⟨w1.heap.size, 0, none⟩ := by unfold iE; rw [if_pos hE.symm]
      simp (disch := omega) only [bP, dE, aY, bB, cR, cD, cI, cE, dA, cM, dL, cJ, bK, cS, cO, cZ, cL, cK, cU, cY, cT, cV, cP, cX, bS, cC, cN, cW, fD, fI, fA, fC, fF, fB, fE, eZ, fG, bJ, Result.ok.injEq, Next.value.injEq, true_and, and_true, cB, cF, cQ, cH, cG, dK, Int.toNat_natCast, bV, bR, bT, bU, bM, bL, bN, bH, bG, bF, if_true, if_false, Bool.false_eq_true, Nat.zero_add, Option.isNone_some, Option.isNone_none, Bool.not_true, Bool.not_false, List.getElem?_cons_succ, List.getElem?_cons_zero, aS, aJ, aP, aW, aZ, aQ, bQ, aA, aM, aH, aI, aK, bA, bC, bO, aR, aO, aN, aG, aT, aC, bD, aV, aF, bE, aE, aL, aD, aX, aU, aB, q3, q4, q3d, q4d, hsh]
      refine oL (off := 0) (hO o3) (by rw [List.length_map]; omega) hbd (vT _) fun w4 o4 x4 s4 => ?_
      have P4 : iM (P.map pW) 0 ((o.bytes.map pW).take (min (o.bytes.map pW).length (M - o.at'))) = (over ob o.at' o.bytes).map pW := by
        rw [hov, hb0]
        show iM (P.map pW) 0 (List.take (min 0 (M - o.at')) []) = _
        rw [List.take_nil, vW, List.append_nil, List.length_nil, Nat.add_zero, List.take_append_drop]
      rw [P4] at o4
      have x34 : dJ w3 w4 (fun y => y = w1.heap.size) := (dJ.dr _ _).seq x4
      have x04 : dJ w w4 jU := x03.new x34 (by omega)
      have o14 := o13.ext x34 (by omega)
      have q1 := o14.cell (off := 1)
      have q1d := (hO o14).cell (off := 1)
      simp only [List.getElem?_cons_zero, List.getElem?_cons_succ] at q1 q1d
      have e4 := ending w4 o4 x04
      simp (disch := omega) only [bP, dE, aY, bB, cR, cD, cI, cE, dA, cM, dL, cJ, bK, cS, cO, cZ, cL, cK, cU, cY, cT, cV, cP, cX, bS, cC, cN, cW, fD, fI, fA, fC, fF, fB, fE, eZ, fG, bJ, Result.ok.injEq, Next.value.injEq, true_and, and_true, cB, cF, cQ, cH, cG, dK, Int.toNat_natCast, bV, bR, bT, bU, bM, bL, bN, bH, bG, bF, if_true, if_false, Bool.false_eq_true, Nat.zero_add, Option.isNone_some, Option.isNone_none, Bool.not_true, Bool.not_false, List.getElem?_cons_succ, List.getElem?_cons_zero, aS, aJ, aP, aW, aZ, aQ, bQ, aA, aM, aH, aI, aK, bA, bC, bO, aR, aO, aN, aG, aT, aC, bD, aV, aF, bE, aE, aL, aD, aX, aU, aB, q1, q1d]
      exact e4
  have n1 : (((o.kind : Nat) : Int) == 0) = false := beq_eq_false_iff_ne.2 (by omega)
  have self : dJ w w1 (fun b => b = m) := x1.mono fun _ _ h => h.elim
  by_cases k1 : o.kind = 1
  · have n2 : (((o.kind : Nat) : Int) == 1) = true := by rw [k1] <;> rfl
    rcases hth with ⟨rfl, hg⟩ | ⟨rfl, hg⟩
    · have hdo : qE o c = vU o.other ob (sZ o.name c) := by unfold qE; rw [if_neg k0, if_pos k1, hg]
      simp (disch := omega) only [bP, dE, aY, bB, cR, cD, cI, cE, dA, cM, dL, cJ, bK, cS, cO, cZ, cL, cK, cU, cY, cT, cV, cP, cX, bS, cC, cN, cW, fD, fI, fA, fC, fF, fB, fE, eZ, fG, bJ, Result.ok.injEq, Next.value.injEq, true_and, and_true, cB, cF, cQ, cH, cG, dK, Int.toNat_natCast, bV, bR, bT, bU, bM, bL, bN, bH, bG, bF, if_true, if_false, Bool.false_eq_true, Nat.zero_add, Option.isNone_some, Option.isNone_none, Bool.not_true, Bool.not_false, List.getElem?_cons_succ, List.getElem?_cons_zero, aS, aJ, aP, aW, aZ, aQ, bQ, aA, aM, aH, aI, aK, bA, bC, bO, aR, aO, aN, aG, aT, aC, bD, aV, aF, bE, aE, aL, aD, aX, aU, aB, c0, c1, c2, c3, c4, l0, n1, n2]
      refine pY hm1 o.name fun w2 hm2 x2 s2 => ?_
      have x02 := self.seq x2
      have q2 := (o1.ext x2 (by omega)).cell (off := 2)
      simp only [List.getElem?_cons_zero, List.getElem?_cons_succ] at q2
      simp (disch := omega) only [bP, dE, aY, bB, cR, cD, cI, cE, dA, cM, dL, cJ, bK, cS, cO, cZ, cL, cK, cU, cY, cT, cV, cP, cX, bS, cC, cN, cW, fD, fI, fA, fC, fF, fB, fE, eZ, fG, bJ, Result.ok.injEq, Next.value.injEq, true_and, and_true, cB, cF, cQ, cH, cG, dK, Int.toNat_natCast, bV, bR, bT, bU, bM, bL, bN, bH, bG, bF, if_true, if_false, Bool.false_eq_true, Nat.zero_add, Option.isNone_some, Option.isNone_none, Bool.not_true, Bool.not_false, List.getElem?_cons_succ, List.getElem?_cons_zero, aS, aJ, aP, aW, aZ, aQ, bQ, aA, aM, aH, aI, aK, bA, bC, bO, aR, aO, aN, aG, aT, aC, bD, aV, aF, bE, aE, aL, aD, aX, aU, aB, q2]
      refine qA hm2 o.other _ fun w3 hm3 x3 s3 => ?_
      have x03 := x02.seq x3
      rw [hdo]
      refine fin (w' := w3) hm3 ?_ x03 |> fun h => by rw [hdo] at h; exact h
      rw [hdo]
      exact kQ.set ⟨hbo.ext x03 (fun h => hnx (mL h fun b hb => by rw [hb]; exact hmX)), hnx⟩ (kQ.del (hfx x03))
    · have hdo : qE o c = c := by unfold qE; rw [if_neg k0, if_pos k1, hg]
      simp (disch := omega) only [bP, dE, aY, bB, cR, cD, cI, cE, dA, cM, dL, cJ, bK, cS, cO, cZ, cL, cK, cU, cY, cT, cV, cP, cX, bS, cC, cN, cW, fD, fI, fA, fC, fF, fB, fE, eZ, fG, bJ, Result.ok.injEq, Next.value.injEq, true_and, and_true, cB, cF, cQ, cH, cG, dK, Int.toNat_natCast, bV, bR, bT, bU, bM, bL, bN, bH, bG, bF, if_true, if_false, Bool.false_eq_true, Nat.zero_add, Option.isNone_some, Option.isNone_none, Bool.not_true, Bool.not_false, List.getElem?_cons_succ, List.getElem?_cons_zero, aS, aJ, aP, aW, aZ, aQ, bQ, aA, aM, aH, aI, aK, bA, bC, bO, aR, aO, aN, aG, aT, aC, bD, aV, aF, bE, aE, aL, aD, aX, aU, aB, c0, c1, c2, c3, c4, l0, n1, n2]
      exact fin hm1 (by rw [hdo]; exact hfx self) self
  have n2 : (((o.kind : Nat) : Int) == 1) = false := beq_eq_false_iff_ne.2 (by omega)
  by_cases k2 : o.kind = 2
  · have n3 : (((o.kind : Nat) : Int) == 2) = true := by rw [k2] <;> rfl
    have hdo : qE o c = sZ o.name c := by unfold qE; rw [if_neg k0, if_neg k1, if_pos k2]
    simp (disch := omega) only [bP, dE, aY, bB, cR, cD, cI, cE, dA, cM, dL, cJ, bK, cS, cO, cZ, cL, cK, cU, cY, cT, cV, cP, cX, bS, cC, cN, cW, fD, fI, fA, fC, fF, fB, fE, eZ, fG, bJ, Result.ok.injEq, Next.value.injEq, true_and, and_true, cB, cF, cQ, cH, cG, dK, Int.toNat_natCast, bV, bR, bT, bU, bM, bL, bN, bH, bG, bF, if_true, if_false, Bool.false_eq_true, Nat.zero_add, Option.isNone_some, Option.isNone_none, Bool.not_true, Bool.not_false, List.getElem?_cons_succ, List.getElem?_cons_zero, aS, aJ, aP, aW, aZ, aQ, bQ, aA, aM, aH, aI, aK, bA, bC, bO, aR, aO, aN, aG, aT, aC, bD, aV, aF, bE, aE, aL, aD, aX, aU, aB, c0, c1, c2, c3, c4, l0, n1, n2, n3]
    refine pY hm1 o.name fun w2 hm2 x2 s2 => ?_
    have x02 := self.seq x2
    exact fin hm2 (by rw [hdo]; exact kQ.del (hfx x02)) x02
  · have n3 : (((o.kind : Nat) : Int) == 2) = false := beq_eq_false_iff_ne.2 (by omega)
    have hdo : qE o c = c := by unfold qE; rw [if_neg k0, if_neg k1, if_neg k2]
    simp (disch := omega) only [bP, dE, aY, bB, cR, cD, cI, cE, dA, cM, dL, cJ, bK, cS, cO, cZ, cL, cK, cU, cY, cT, cV, cP, cX, bS, cC, cN, cW, fD, fI, fA, fC, fF, fB, fE, eZ, fG, bJ, Result.ok.injEq, Next.value.injEq, true_and, and_true, cB, cF, cQ, cH, cG, dK, Int.toNat_natCast, bV, bR, bT, bU, bM, bL, bN, bH, bG, bF, if_true, if_false, Bool.false_eq_true, Nat.zero_add, Option.isNone_some, Option.isNone_none, Bool.not_true, Bool.not_false, List.getElem?_cons_succ, List.getElem?_cons_zero, aS, aJ, aP, aW, aZ, aQ, bQ, aA, aM, aH, aI, aK, bA, bC, bO, aR, aO, aN, aG, aT, aC, bD, aV, aF, bE, aE, aL, aD, aX, aU, aB, c0, c1, c2, c3, c4, l0, n1, n2, n3]
    exact fin hm1 (by rw [hdo]; exact hfx self) self
end Go.Proofs.Ytmhokapokchneaa

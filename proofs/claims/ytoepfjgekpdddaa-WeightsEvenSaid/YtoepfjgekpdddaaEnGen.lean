/- The engine: what the written-out pieces of a body rest on. -/
import Derived.Test.YtoepfjgekpdddaaEnDen
namespace Go.En
open Go

def sA : Code → Code | .seq a _ => a | c => c
def sB : Code → Code | .seq _ b => b | _ => .skip
def cT : Code → Code | .cond _ a _ => a | c => c
def cE : Code → Code | .cond _ _ b => b | c => c
def bI : Code → Code | .block _ c => c | .loop c => c | .scope c => c | c => c
def bodyOf (f : Func) : Code := match f.body with | some c => c | none => .skip

def takeS : Nat → Code → Code
  | 0, c => c
  | 1, c => sA c
  | n + 1, .seq a b => .seq a (takeS n b)
  | _, c => c
def dropS : Nat → Code → Code
  | 0, c => c
  | n + 1, .seq _ b => dropS n b
  | _, c => c
def hasS : Nat → Code → Bool
  | 1, .seq _ _ => true
  | n + 1, .seq _ b => hasS n b
  | _, _ => false

def dr (w : World) : World := { w with drawn := w.drawn + 1 }

/-- A result that lies in a variable. -/
def LdR (P : Program) (t : TypeId) (a : Value) (w : World) (K : Value → Prop) : Prop := ∃ v, (do loadVar t (← asAddr a) : Sem Value).run P w = .ok v w ∧ K v

def exL : List (Nat × (Env → World → Prop)) → Nat → Env → World → Prop
  | [], _, _, _ => False
  | (j, k) :: r, i, g, w => match Nat.beq i j with | true => k g w | false => exL r i g w

def exQ (kn kr : Env → World → Prop) (l : List (Nat × (Env → World → Prop))) : Exit → Env → World → Prop
  | .normal, g, w => kn g w
  | .ret, g, w => kr g w
  | .exit i, g, w => exL l i g w
  | _, _, _ => False

def Exits (Q : Exit → Env → World → Prop) : List (Nat × (Env → World → Prop)) → Prop
  | [] => True
  | (i, k) :: r => (∀ g w, k g w → Q (.exit i) g w) ∧ Exits Q r

/- THE OPERATIONS, with their operands' values. -/
def sPick (c a b : Value) : Sem Next := do pure (.value (if ← asBool c then a else b))
def sAlloc (t : TypeId) : Sem Next := V (Instr.alloc t true (.tuple #[]))
def sBox (t : TypeId) (x : Value) : Sem Next := V (Instr.box t x)
def sLoad (t : TypeId) (a : Value) : Sem Next := V (Instr.loadAt t a)
def sStore (t : TypeId) (a x : Value) : Sem Next := U (Instr.storeAt t a x)
def sNil (x : Value) : Sem Next := execOp (fun _ => x) ⟨none, .nilCheck (.tmp 0), 0, default, #[], none⟩
def sUn (op : UnOp) (x : Value) : Sem Next := V (Op.unary op x)
def sCvt (s d : TypeId) (x : Value) : Sem Next := V (convert s d x)
def sArr (t : TypeId) (x : Value) : Sem Next := V (Instr.arrayAt t x)
def sIface (t : TypeId) (x : Value) : Sem Next := V (Instr.makeInterface t x)
def sMkMap (t : TypeId) (r : Option Value) : Sem Next := V (Instr.makeMap t r)
def sMkSlice (t : TypeId) (l c : Value) : Sem Next := V (Instr.makeSlice t l c)
def sSlice (t : TypeId) (x : Value) (lo hi mx : Option Value) : Sem Next := V (Instr.sliceAt t x lo hi mx)
def sFAddr (t : TypeId) (x : Value) (f : Nat) : Sem Next := V (Instr.fieldAt t x f)
def sField (t : TypeId) (x : Value) (f : Nat) : Sem Next := V (Instr.field t x f)
def sIAddr (t : TypeId) (x i : Value) : Sem Next := V (Instr.indexAt t x i)
def sIdx (t : TypeId) (x i : Value) : Sem Next := V (Instr.index t x i)
def sLook (t : TypeId) (x i : Value) (ok : Bool) : Sem Next := V (Instr.lookup t x i ok)
def sMapUp (t : TypeId) (m k x : Value) : Sem Next := U (Instr.mapUpdate t m k x)
def sRange (t : TypeId) (x : Value) : Sem Next := V (Instr.range t x)
def sNext (it : Value) (str : Bool) (ty : TypeId) : Sem Next := V (Instr.next it str ty)
def sExtr (t : Value) (i : Nat) : Sem Next := V (Instr.extract t i)

section
variable {P : Program} {ann : FA}

theorem exL_ok {Q : Exit → Env → World → Prop} : ∀ {l : List (Nat × (Env → World → Prop))}, Exits Q l → ∀ {i : Nat} {g : Env} {w : World}, exL l i g w → Q (.exit i) g w := by
  intro l
  induction l with
  | nil => intro _ i g w h; exact h.elim
  | cons p r ih =>
    obtain ⟨j, k⟩ := p
    rintro ⟨h1, h2⟩ i g w h
    simp only [exL] at h
    cases hb : Nat.beq i j with
    | true =>
      simp only [hb] at h
      obtain rfl := Nat.eq_of_beq_eq_true hb
      exact h1 _ _ h
    | false => simp only [hb] at h; exact ih h2 h

theorem den_exQ {c : Code} {kn kr : Env → World → Prop} {l : List (Nat × (Env → World → Prop))} {Q : Exit → Env → World → Prop} {g : Env} {w : World} {A : Prop}
    (e : A = den P ann c (exQ kn kr l) g w) (h : A) (hn : ∀ g w, kn g w → Q .normal g w) (hr : ∀ g w, kr g w → Q .ret g w) (hl : Exits Q l) : den P ann c Q g w := by
  rw [e] at h
  refine den_mono h (fun e g' w' _ hq => ?_)
  cases e with
  | normal => exact hn _ _ hq
  | ret => exact hr _ _ hq
  | exit i => exact exL_ok hl hq
  | _ => exact hq.elim

theorem den_assoc {x y z : Code} {Q : Exit → Env → World → Prop} {g : Env} {w : World} (h : den P ann (.seq (.seq x y) z) Q g w) : den P ann (.seq x (.seq y z)) Q g w := by
  show den P ann x (thenE (fun g w => den P ann y (thenE (fun g w => den P ann z Q g w) Q) g w) Q) g w
  have h : den P ann x (thenE (fun g w => den P ann y (thenE (fun g w => den P ann z Q g w) Q) g w) (thenE (fun g w => den P ann z Q g w) Q)) g w := h
  refine den_mono h (fun e g' w' _ hq => ?_)
  cases e <;> exact hq

theorem thenE_n {K : Env → World → Prop} {Q : Exit → Env → World → Prop} {g : Env} {w : World} (h : K g w) : thenE K Q .normal g w := h

theorem den_split {Q : Exit → Env → World → Prop} : ∀ (n : Nat) (c : Code) (g : Env) (w : World), hasS n c = true → den P ann (.seq (takeS n c) (dropS n c)) Q g w → den P ann c Q g w := by
  intro n
  induction n with
  | zero => intro c g w h; simp [hasS] at h
  | succ n ih =>
    intro c g w h hd
    cases c with
    | seq a b =>
      cases n with
      | zero => exact hd
      | succ n =>
        have hb : hasS (n + 1) b = true := by simpa [hasS] using h
        have hd' : den P ann (.seq (.seq a (takeS (n + 1) b)) (dropS (n + 1) b)) Q g w := hd
        have := den_assoc hd'
        show den P ann a (thenE (fun g w => den P ann b Q g w) Q) g w
        have h2 : den P ann a (thenE (fun g w => den P ann (.seq (takeS (n + 1) b) (dropS (n + 1) b)) Q g w) Q) g w := this
        refine den_mono h2 (fun e g' w' _ hq => ?_)
        cases e with
        | normal => exact ih b g' w' hb hq
        | _ => exact hq
    | _ => cases n <;> simp [hasS] at h

theorem den_seqs {Q : Exit → Env → World → Prop} (n : Nat) (c : Code) (g : Env) (w : World) (h : hasS n c = true)
    (hd : den P ann (takeS n c) (thenE (fun g w => den P ann (dropS n c) Q g w) Q) g w) : den P ann c Q g w := den_split n c g w h hd

def isBlk (id : Nat) : Code → Bool | .block i _ => Nat.beq i id | _ => false
def isLoop : Code → Bool | .loop _ => true | _ => false
def condOp : Code → Option Operand | .cond o _ _ => some o | _ => none

theorem den_blk {Q : Exit → Env → World → Prop} (id : Nat) (c : Code) (g : Env) (w : World) (h : isBlk id c = true) (hd : den P ann (bI c) (blk id Q) g w) : den P ann c Q g w := by
  cases c with
  | block i c =>
    obtain rfl := Nat.eq_of_beq_eq_true (show Nat.beq i id = true from h)
    exact hd
  | _ => cases h

def isScp : Code → Bool | .scope _ => true | _ => false
theorem den_scp {Q : Exit → Env → World → Prop} (c : Code) (g : Env) (w : World) (h : isScp c = true) (hd : den P ann (bI c) Q g w) : den P ann c Q g w := by
  cases c with
  | scope c => exact hd
  | _ => cases h

theorem den_cnd {Q : Exit → Env → World → Prop} (o : Operand) (c : Code) (g : Env) (w : World) (h : condOp c = some o)
    (hd : Cnd (ev g o) (den P ann (cT c) Q g w) (den P ann (cE c) Q g w)) : den P ann c Q g w := by
  cases c with
  | cond o' a b => obtain rfl := Option.some.inj h; exact hd
  | _ => cases h

theorem Cnd_mono {v : Value} {A B A' B' : Prop} (ha : A → A') (hb : B → B') (h : Cnd v A B) : Cnd v A' B' := by
  unfold Cnd at *
  cases v with
  | bool b => cases b <;> first | exact ha h | exact hb h
  | _ => exact h

theorem den_loop {T : Type} (proj : Env → T) (F : (T → World → Prop) → T → World → Prop) {c : Code} {Q : Exit → Env → World → Prop} {g : Env} {w : World}
    (hF : ∀ (X : T → World → Prop) g' w', Agree (dsts c) g g' → F X (proj g') w' → den P ann c (thenE (fun g'' w'' => X (proj g'') w'') Q) g' w')
    (h : LoopD F (proj g) w) : den P ann (.loop c) Q g w := by
  obtain ⟨I, ⟨n, h0⟩, hI⟩ := h
  refine ⟨fun n g' w' => Agree (dsts c) g g' ∧ I n (proj g') w', ⟨n, Agree.refl _ _, h0⟩, ?_⟩
  rintro n g' w' ⟨ha, hi⟩
  have := hF _ g' w' ha (hI n _ _ hi)
  refine den_mono this (fun e g2 w2 ha2 hq => ?_)
  cases e with
  | normal =>
    obtain ⟨m, hm, hh⟩ := hq
    exact ⟨m, hm, ha.trans ha2 (fun _ h => h) (fun _ h => h), hh⟩
  | _ => exact hq

theorem den_loops {T : Type} (proj : Env → T) (F : (T → World → Prop) → T → World → Prop) (c : Code) {Q : Exit → Env → World → Prop} {g : Env} {w : World} (hl : isLoop c = true)
    (h : LoopD F (proj g) w)
    (hF : ∀ (X : T → World → Prop) g' w', Agree (dsts (bI c)) g g' → F X (proj g') w' → den P ann (bI c) (thenE (fun g'' w'' => X (proj g'') w'') Q) g' w') : den P ann c Q g w := by
  cases c with
  | loop c => exact den_loop proj F hF h
  | _ => cases hl

theorem not_mem_of {l : List Nat} {s : Nat} (hs : mem1 s l = false) : s ∉ l := by
  induction l with
  | nil => simp
  | cons a r ih =>
    unfold mem1 at hs
    cases hb : Nat.beq a s with
    | true => simp only [hb] at hs; cases hs
    | false =>
      simp only [hb] at hs
      intro hm
      rcases List.mem_cons.1 hm with e | hm
      · subst e; simp at hb
      · exact ih hs hm

theorem agree_at {l : List Nat} {g g' : Env} (h : Agree l g g') {s : Nat} (hs : mem1 s l = false) : g' s = g s := h s (not_mem_of hs)

/-- the operations of a region of a body -/
def opsIn (id : Nat) : Code → Array Oper
  | .region i ops _ => match Nat.beq i id with | true => ops | false => #[]
  | .seq a b => match (opsIn id a).size with | 0 => opsIn id b | _ + 1 => opsIn id a
  | .cond _ a b => match (opsIn id a).size with | 0 => opsIn id b | _ + 1 => opsIn id a
  | .block _ c => opsIn id c
  | .loop c => opsIn id c
  | .scope c => opsIn id c
  | _ => #[]
theorem Ord_both {b : Bool} {A B : Prop} (ha : A) (hb : B) : Ord b A B := by cases b <;> assumption

/- Loops over named slots. -/
theorem LoopD.rule {α : Type} {F : (α → World → Prop) → α → World → Prop} (I : Nat → α → World → Prop) {g : α} {w : World} (n : Nat) (h0 : I n g w)
    (hr : ∀ n g w, I n g w → F (fun g' w' => ∃ m, m < n ∧ I m g' w') g w) : LoopD F g w := ⟨I, ⟨n, h0⟩, hr⟩

/- The ways of one test. -/
theorem Cnd_bool (b : Bool) (A B : Prop) : Cnd (.bool b) A B ↔ ((b = true → A) ∧ (b = false → B)) := by cases b <;> simp [Cnd]
theorem Cnd_true (A B : Prop) : Cnd (.bool true) A B = A := Eq.trans rfl rfl
theorem Cnd_false (A B : Prop) : Cnd (.bool false) A B = B := Eq.trans rfl rfl
theorem Gd_true (s : (Value → World → Prop) → Prop) (w : World) (K : Value → World → Prop) : Gd true s w K = s K := Eq.trans rfl rfl
theorem Gd_false (s : (Value → World → Prop) → Prop) (w : World) (K : Value → World → Prop) : Gd false s w K = K undef w := Eq.trans rfl rfl
theorem Gs_true (p : Prop) : Gs true p = p := Eq.trans rfl rfl
theorem Gs_false (p : Prop) : Gs false p = True := Eq.trans rfl rfl
theorem isB_tt : isB (.bool true) true = true := Eq.trans rfl rfl
theorem isB_tf : isB (.bool true) false = false := Eq.trans rfl rfl
theorem isB_ft : isB (.bool false) true = false := Eq.trans rfl rfl
theorem isB_ff : isB (.bool false) false = true := Eq.trans rfl rfl
theorem isB_bool (b want : Bool) : isB (.bool b) want = (b == want) := rfl
end
end Go.En

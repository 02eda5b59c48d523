/- The engine is sound: regions in which two operations that may turn the world are unordered; bodies of one known function. -/
import Derived.Test.YtoepfjgekpdddaaEnDraw
import Derived.Laws.Sem
import Derived.Scope
namespace Go.En
open Go

/- A BODY OF A KNOWN FUNCTION. -/
def wpF (P : Program) (f : FuncId) (c : Code) (Q : Exit → Act → World → Prop) (a : Act) (w : World) : Prop :=
  ∀ (b : Frame) (k : List Item) (cs : List Frame), b.fn = f → ∃ e a' w', Q e a' w' ∧ Arrives P (lone (b.at a (.code c :: k)) cs w) b k cs e a' w'

section
variable {P : Program} {f : FuncId} {Q : Exit → Act → World → Prop} {a : Act} {w : World}

theorem wpF_of {c : Code} (h : c.wp P Q a w) : wpF P f c Q a w := fun b k cs _ => h b k cs
theorem wpF_seq {x y : Code} (h : wpF P f x (Exit.then (wpF P f y Q) Q) a w) : wpF P f (.seq x y) Q a w := by
  intro b k cs hb
  obtain ⟨e, a1, w1, hq, har⟩ := h b (.code y :: k) cs hb
  cases e with
  | normal =>
    obtain ⟨e2, a2, w2, hq2, har2⟩ := hq b k cs hb
    exact ⟨e2, a2, w2, hq2, .of_steps (.head step_seq har) har2⟩
  | _ => exact ⟨_, a1, w1, hq, .of_steps (.one step_seq) (.pass (x := .code y) rfl (fun _ _ => .inl (by simp)) har)⟩
theorem wpF_cond {c : Operand} {x y : Code} {t : Bool} (hc : a.eval c = .bool t) (h : wpF P f (if t then x else y) Q a w) : wpF P f (.cond c x y) Q a w :=
  fun b k cs hb => let ⟨e, a1, w1, q, r⟩ := h b k cs hb; ⟨e, a1, w1, q, .of_steps (.one (step_cond hc)) r⟩
theorem wpF_block {id : Nat} {c : Code} (h : wpF P f c (Exit.inBlock id Q) a w) : wpF P f (.block id c) Q a w := by
  intro b k cs hb
  obtain ⟨e, a1, w1, hq, har⟩ := h b (.inBlock id :: k) cs hb
  cases e with
  | normal => exact ⟨.normal, a1, w1, hq, .head step_block (Steps.trans har (.one step_inBlock))⟩
  | exit i =>
    by_cases hid : i = id
    · simp only [Exit.inBlock, hid, if_true] at hq
      exact ⟨.normal, a1, w1, hq, .head step_block (har k (by simp [exitTo, hid]))⟩
    · simp only [Exit.inBlock, hid, if_false] at hq
      refine ⟨.exit i, a1, w1, hq, fun k' hk => .head step_block (har k' ?_)⟩
      have : (id == i) = false := by simp; exact fun h => hid h.symm
      simp [exitTo, this, hk]
  | goto l => exact ⟨_, a1, w1, hq, fun k' hk => .head step_block (har k' (by simp [gotoIn, hk]))⟩
  | outgrown => exact ⟨_, a1, w1, hq, .of_steps (b := b) (k := k) (cs := cs) (e := .outgrown) (.one step_block) har⟩
  | _ => exact ⟨_, a1, w1, hq, .of_steps (.one step_block) har⟩
theorem wpF_scope {c : Code} (h : wpF P f c (Exit.noGoto Q) a w) : wpF P f (.scope c) Q a w := by
  intro b k cs hb
  obtain ⟨e, a1, w1, hq, har⟩ := h b (.inScope c :: k) cs hb
  cases e with
  | normal => exact ⟨.normal, a1, w1, hq, .head step_scope (Steps.trans har (.one step_inScope))⟩
  | exit id => exact ⟨.exit id, a1, w1, hq, fun k' hk => .head step_scope (har k' (by simp [exitTo, hk]))⟩
  | goto l => exact hq.elim
  | _ => exact ⟨_, a1, w1, hq, .of_steps (.one step_scope) har⟩
theorem wpF_loop {c : Code} (I : Act → World → Prop) (μ : Act → World → Nat) (h0 : I a w)
    (round : ∀ a w, I a w → wpF P f c (Exit.then (fun a' w' => I a' w' ∧ μ a' w' < μ a w) Q) a w) : wpF P f (.loop c) Q a w := by
  intro b k cs hb
  have key : ∀ n a w, μ a w = n → I a w →
      ∃ e a' w', Q e a' w' ∧ Arrives P (lone (b.at a (.code c :: .inLoop c :: k)) cs w) b k cs e a' w' := by
    intro n
    induction n using Nat.strongRecOn with
    | _ n ih =>
      intro a w hn hI
      obtain ⟨e, a1, w1, hq, har⟩ := round a w hI b (.inLoop c :: k) cs hb
      cases e with
      | normal =>
        obtain ⟨hI1, hlt⟩ := hq
        obtain ⟨e2, a2, w2, hq2, har2⟩ := ih (μ a1 w1) (hn ▸ hlt) a1 w1 rfl hI1
        exact ⟨e2, a2, w2, hq2, .of_steps (Steps.trans har (.one step_inLoop)) har2⟩
      | _ => exact ⟨_, a1, w1, hq, .pass (x := .inLoop c) rfl (fun _ _ => .inl (by simp)) har⟩
  obtain ⟨e, a', w', hq, har⟩ := key _ a w rfl h0
  exact ⟨e, a', w', hq, .of_steps (.one step_loop) har⟩
theorem wpF_region_draw (hm : P.follows .mixedOrders = true) {id : Nat} {ops : Array Oper}
    (h : wpOps P ops Q (Region.schedule true ops (w.tape w.drawn (.order f id))) a { w with drawn := w.drawn + 1 }) : wpF P f (.region id ops true) Q a w := by
  intro b k cs hb
  obtain ⟨e, a1, w1, q, r⟩ := wp_ops _ a _ h b k cs
  refine ⟨e, a1, w1, q, .of_steps (.one ?_) r⟩
  have := @step_region_draw P b a k cs w ops id
  rw [hm, hb] at this
  exact this

theorem calls_of_wpF {fn : Func} {c : Code} {args : Array Value} {w : World} {R : Ending → World → Prop}
    (hf : P.funcs[f]? = some fn) (hb : fn.body = some c)
    (h : wpF P f c (bodyPost P fn R) { tmps := args ++ Array.replicate (fn.ntmps - args.size) undef, defers := [] } w) : Calls P f args w R := by
  intro cs
  let b : Frame := { (default : Frame) with fn := f, kind := .normal }
  have henter : Frame.enter P f args .normal = b.at { tmps := args ++ Array.replicate (fn.ntmps - args.size) undef, defers := [] } [.code c] := by
    simp [Frame.enter, Frame.at, hf, hb, b]
  obtain ⟨e, a', w', hq, har⟩ := h b [] cs rfl
  rw [← henter] at har
  cases e with
  | normal =>
    obtain ⟨hd, v, hr, hR⟩ := hq
    exact ⟨.returned v, w', _, hR, Steps.trans har (.one step_end), rfl, rfl, hd, rfl, fn, hf, hr⟩
  | ret =>
    obtain ⟨hd, v, hr, hR⟩ := hq
    obtain ⟨todo, hs⟩ := har
    exact ⟨.returned v, w', _, hR, hs, rfl, rfl, hd, rfl, fn, hf, hr⟩
  | panic chain =>
    obtain ⟨hd, hR⟩ := hq
    obtain ⟨todo, hs⟩ := har
    exact ⟨.panicked chain, w', _, hR, hs, rfl, rfl, hd, fn, hf⟩
  | exit id => exact hq.elim
  | goto l => exact hq.elim
  | outgrown => exact ⟨.outgrown, w', b, hq, har.resolve_left (by simp [b]), rfl, trivial⟩
end

/- AN ORDER THAT THE EDGES ALLOW. -/
def LinF (ops : Array Oper) : Nat → Array Bool → List Nat → Prop
  | 0, _, L => L = []
  | _ + 1, listed, [] => Region.ready .any ops listed = []
  | n + 1, listed, i :: L => i ∈ Region.ready .any ops listed ∧ LinF ops n (listed.setIfInBounds i true) L

section
variable {P : Program} {ops : Array Oper} {Q : Exit → Act → World → Prop}

theorem linF_go : ∀ (fuel t : Nat) (listed : Array Bool), LinF ops fuel listed (Region.linearise.go .any ops fuel t listed []) := by
  intro fuel
  induction fuel with
  | zero => intro t listed; simp [Region.linearise.go, LinF]
  | succ fuel ih =>
    intro t listed
    simp only [Region.linearise.go]
    change LinF ops (fuel + 1) listed (match (Region.ready .any ops listed)[t % (Region.ready .any ops listed).length]? with
      | some i => Region.linearise.go .any ops fuel (t / (Region.ready .any ops listed).length) (listed.setIfInBounds i true) [i]
      | none => [].reverse)
    cases hi : (Region.ready .any ops listed)[t % (Region.ready .any ops listed).length]? with
    | none =>
      have : Region.ready .any ops listed = [] := by
        cases hr : Region.ready .any ops listed with
        | nil => rfl
        | cons x xs =>
          rw [hr] at hi
          have hlt : t % (x :: xs).length < (x :: xs).length := Nat.mod_lt _ (by simp)
          rw [List.getElem?_eq_getElem hlt] at hi
          cases hi
      simpa [LinF] using this
    | some i =>
      simp only []
      rw [linearise_go_acc]
      exact ⟨List.mem_of_getElem? hi, ih _ _⟩

theorem wpOps_of_any : ∀ (fuel : Nat) (listed : Array Bool) (L : List Nat) (a : Act) (w : World), wpAny P .any ops Q fuel listed a w → LinF ops fuel listed L → wpOps P ops Q L a w := by
  intro fuel
  induction fuel with
  | zero => intro listed L a w h hL; obtain rfl : L = [] := hL; exact h.2
  | succ fuel ih =>
    intro listed L a w h hL
    cases L with
    | nil => exact h.1 hL
    | cons i L =>
      rw [wpOps_cons]
      exact wpOp_mono (fun a w hh => ih _ _ a w hh hL.2) (h.2 i hL.1)
end

/- THE SAME REGION, WRITTEN IN ANOTHER ORDER. -/
structure Perm (π : List Nat) (ops : Array Oper) : Prop where
  len : π.length = ops.size
  to : ∀ i, i < ops.size → posOf π i < ops.size ∧ π[posOf π i]? = some i
  back : ∀ k, k < ops.size → ∃ i, π[k]? = some i ∧ posOf π i = k ∧ i < ops.size
  after : ∀ (i : Nat) (o : Oper), ops[i]? = some o → ∀ e ∈ o.after, e.on < ops.size
  guard : ∀ (i : Nat) (o : Oper) (j : Nat) (b : Bool), ops[i]? = some o → o.guard = some (j, b) → j < ops.size

theorem perm_of {π : List Nat} {ops : Array Oper} (h : permOk π ops = true) : Perm π ops := by
  unfold permOk at h
  simp only [Bool.and_eq_true] at h
  obtain ⟨⟨⟨h1, h2⟩, h3⟩, h4⟩ := h
  have h1 := Nat.eq_of_beq_eq_true h1
  have at4 : ∀ (i : Nat) (o : Oper), ops[i]? = some o → (o.after.all fun e => Nat.blt e.on ops.size) = true ∧ (match o.guard with | some (j, _) => Nat.blt j ops.size | none => true) = true := by
    intro i o ho
    have hi : i < ops.size := by
      rcases Nat.lt_or_ge i ops.size with h | h
      · exact h
      · rw [Array.getElem?_eq_none h] at ho; cases ho
    have := List.all_eq_true.1 h4 i (List.mem_range.2 hi)
    rw [ho] at this
    simp only [Bool.and_eq_true] at this
    refine ⟨this.1, ?_⟩
    have h := this.2
    revert h
    cases o.guard <;> exact id
  refine ⟨h1, fun i hi => ?_, fun k hk => ?_, fun i o ho e he => ?_, fun i o j b ho hg => ?_⟩
  · have := List.all_eq_true.1 h3 i (List.mem_range.2 hi)
    cases hp : π[posOf π i]? with
    | none => rw [hp] at this; cases this
    | some j =>
      rw [hp] at this
      obtain rfl := Nat.eq_of_beq_eq_true this
      refine ⟨?_, rfl⟩
      rcases Nat.lt_or_ge (posOf π j) π.length with h | h
      · omega
      · rw [List.getElem?_eq_none h] at hp; cases hp
  · have := List.all_eq_true.1 h2 k (List.mem_range.2 hk)
    cases hp : π[k]? with
    | none => rw [hp] at this; cases this
    | some i =>
      rw [hp] at this
      simp only [Bool.and_eq_true] at this
      exact ⟨i, rfl, Nat.eq_of_beq_eq_true this.1, (Nat.blt_eq (x := i) (y := ops.size)) ▸ this.2⟩
  · have := Array.all_eq_true'.1 (at4 i o ho).1 e he
    exact (Nat.blt_eq (x := e.on) (y := ops.size)) ▸ this
  · have := (at4 i o ho).2
    rw [hg] at this
    exact (Nat.blt_eq (x := j) (y := ops.size)) ▸ this

theorem permL_get {π : List Nat} {es : List (Nat × Nat)} {l : List Oper} : ∀ (r : List Nat), (∀ i ∈ r, i < l.length) → (permL π es l r).length = r.length ∧ ∀ k i : Nat, r[k]? = some i → (permL π es l r)[k]? = (l[i]?).map (permOp π es i) := by
  intro r
  induction r with
  | nil => intro _; exact ⟨rfl, fun k i h => by simp at h⟩
  | cons j r ih =>
    intro h
    obtain ⟨h1, h2⟩ := ih fun i hi => h i (List.mem_cons_of_mem _ hi)
    have hj : j < l.length := h j (by simp)
    simp only [permL, List.getElem?_eq_getElem hj]
    refine ⟨by simp [h1], fun k i hk => ?_⟩
    cases k with
    | zero => simp at hk; subst hk; simp [List.getElem?_eq_getElem hj]
    | succ k => simp at hk ⊢; exact h2 k i hk

section
variable {P : Program} {ops : Array Oper} {Q : Exit → Act → World → Prop} {π : List Nat} {es : List (Nat × Nat)}

theorem Perm.mem (p : Perm π ops) : ∀ i ∈ π, i < ops.toList.length := by
  intro i hi
  obtain ⟨k, hk, e⟩ := List.getElem_of_mem hi
  obtain ⟨j, h1, _, h2⟩ := p.back k (by rw [← p.len]; exact hk)
  rw [List.getElem?_eq_getElem hk] at h1
  cases h1
  rw [← e]; simpa using h2
theorem Perm.size (p : Perm π ops) : (permOps π es ops).size = ops.size := by
  unfold permOps
  rw [List.size_toArray, (permL_get (es := es) (π := π) π p.mem).1, p.len]
theorem Perm.get (p : Perm π ops) {i : Nat} (hi : i < ops.size) : (permOps π es ops)[posOf π i]? = (ops[i]?).map (permOp π es i) := by
  unfold permOps
  have := (permL_get (es := es) (π := π) π p.mem).2 (posOf π i) i (p.to i hi).2
  rw [Array.getElem?_toList] at this
  simpa using this

theorem permOp_wp {i : Nat} {o : Oper} {a : Act} {w : World} {K : Act → World → Prop} : (permOp π es i o).wp P a w K Q = o.wp P a w K Q := by
  unfold Oper.wp
  have : execOp a.eval (permOp π es i o) = execOp a.eval o := by
    obtain ⟨d, op, ty, ps, af, g⟩ := o
    cases op <;> rfl
  rw [this]
  generalize (execOp a.eval o).run P w = r
  cases r with
  | ok n w => cases n <;> rfl
  | halt x w => cases x <;> rfl
theorem permOp_asks {i : Nat} {o : Oper} {a : Act} {w : World} : (permOp π es i o).asks P a w = o.asks P a w := by
  unfold Oper.asks
  have : execOp a.eval (permOp π es i o) = execOp a.eval o := by
    obtain ⟨d, op, ty, ps, af, g⟩ := o
    cases op <;> rfl
  rw [this]

theorem perm_wanted (p : Perm π ops) {i : Nat} {o : Oper} (ho : ops[i]? = some o) (tmps : Array Value) :
    Region.wanted (permOp π es i o) (yielded (permOps π es ops) tmps) = Region.wanted o (yielded ops tmps) := by
  unfold Region.wanted permOp
  simp only
  cases hg : o.guard with
  | none => rfl
  | some q =>
    obtain ⟨j, b⟩ := q
    simp only
    have hj := p.guard i o j b ho hg
    have : (permOps π es ops)[posOf π j]?.bind (·.dst) = (ops[j]?).bind (·.dst) := by
      rw [p.get hj]
      cases ops[j]? <;> rfl
    unfold yielded
    rw [this]

theorem wpOps_perm (p : Perm π ops) : ∀ (L : List Nat), (∀ i ∈ L, i < ops.size) → ∀ (a : Act) (w : World), wpOps P (permOps π es ops) Q (L.map (posOf π)) a w → wpOps P ops Q L a w := by
  intro L
  induction L with
  | nil => intro _ a w h; exact h
  | cons i L ih =>
    intro hL a w h
    rw [List.map_cons, wpOps_cons] at h
    rw [wpOps_cons]
    have hi := hL i (by simp)
    have ih := ih fun i hi => hL i (List.mem_cons_of_mem _ hi)
    unfold wpOp at h ⊢
    rw [p.get hi] at h
    rw [Array.getElem?_eq_getElem hi] at h ⊢
    simp only [Option.map_some] at h
    rw [perm_wanted p (Array.getElem?_eq_getElem hi)] at h
    simp only
    split
    · rename_i hw
      rw [if_pos hw, permOp_wp, permOp_asks] at h
      exact h.imp (Oper.wp_mono fun a w => ih a w) id
    · rename_i hw
      rw [if_neg hw] at h
      exact ih _ _ h

theorem ready_mem {ops : Array Oper} {listed : Array Bool} (hsz : listed.size = ops.size) (i : Nat) :
    i ∈ Region.ready .any ops listed ↔ (i < ops.size ∧ listed.getD i false = false ∧ ∀ o, ops[i]? = some o → ∀ e ∈ o.after, Region.binds .any e = true → listed.getD e.on false = true) := by
  unfold Region.ready
  rw [List.mem_filter, List.mem_range]
  constructor
  · rintro ⟨h1, h2⟩
    rw [Array.getElem?_eq_getElem h1] at h2
    simp only [Bool.and_eq_true, Option.map_some, Option.getD_some] at h2
    refine ⟨h1, ?_, fun o ho e he hb => ?_⟩
    · have := h2.1
      rw [Array.getD_eq_getD_getElem?] at this ⊢
      rw [Array.getElem?_eq_getElem (by omega)] at this ⊢
      simpa using this
    · rw [Array.getElem?_eq_getElem h1] at ho
      cases ho
      have := Array.all_eq_true'.1 h2.2 e he
      simpa [hb] using this
  · rintro ⟨h1, h2, h3⟩
    refine ⟨h1, ?_⟩
    rw [Array.getElem?_eq_getElem h1]
    simp only [Bool.and_eq_true, Option.map_some, Option.getD_some]
    refine ⟨?_, Array.all_eq_true'.2 fun e he => ?_⟩
    · rw [Array.getD_eq_getD_getElem?] at h2 ⊢
      rw [Array.getElem?_eq_getElem (by omega)] at h2 ⊢
      simpa using h2
    · by_cases hb : Region.binds .any e = true
      · simp [hb, h3 _ (Array.getElem?_eq_getElem h1) e he hb]
      · simp [hb]

theorem pick_mem {π : List Nat} {i : Nat} : ∀ {es : List (Nat × Nat)} {e : Edge}, e ∈ pickEdges π i es → ∃ a, (a, i) ∈ es ∧ e.on = posOf π a := by
  intro es
  induction es with
  | nil => intro e h; simp [pickEdges] at h
  | cons q r ih =>
    obtain ⟨a, b⟩ := q
    intro e h
    simp only [pickEdges] at h
    cases hb : Nat.beq b i with
    | true =>
      rw [hb] at h
      obtain rfl := Nat.eq_of_beq_eq_true hb
      rcases List.mem_cons.1 h with rfl | h
      · exact ⟨a, by simp, rfl⟩
      · obtain ⟨a, h1, h2⟩ := ih h; exact ⟨a, List.mem_cons_of_mem _ h1, h2⟩
    | false => rw [hb] at h; obtain ⟨a, h1, h2⟩ := ih h; exact ⟨a, List.mem_cons_of_mem _ h1, h2⟩

theorem linF_perm (p : Perm π ops) {L0 : List Nat} (hes : ∀ q ∈ es, L0.idxOf q.1 ≤ L0.idxOf q.2 ∧ q.1 ≠ q.2 ∧ q.1 < ops.size) :
    ∀ (fuel : Nat) (listed listed' : Array Bool) (pre L : List Nat), L0 = pre ++ L → listed.size = ops.size → listed'.size = ops.size →
      (∀ j, j < ops.size → listed'.getD (posOf π j) false = listed.getD j false) → (∀ j ∈ pre, listed.getD j false = true) → (∀ j, listed.getD j false = true → j ∈ pre) →
      LinF ops fuel listed L → LinF (permOps π es ops) fuel listed' (L.map (posOf π)) ∧ ∀ i ∈ L, i < ops.size := by
  intro fuel
  induction fuel with
  | zero => intro listed listed' pre L _ _ _ _ _ _ h; obtain rfl : L = [] := h; exact ⟨rfl, by simp⟩
  | succ fuel ih =>
    intro listed listed' pre L hL0 hs hs' hrel hpre hpre' h
    have hsz : (permOps π es ops).size = ops.size := p.size
    cases L with
    | nil =>
      refine ⟨?_, by simp⟩
      show Region.ready .any (permOps π es ops) listed' = []
      rw [List.eq_nil_iff_forall_not_mem]
      intro k hk
      obtain ⟨h1, h2, h3⟩ := (ready_mem (by omega) k).1 hk
      obtain ⟨i, hi1, hi2, hi3⟩ := p.back k (by omega)
      have : i ∈ Region.ready .any ops listed := by
        refine (ready_mem hs i).2 ⟨hi3, ?_, fun o ho e he hb => ?_⟩
        · rw [← hrel i hi3, hi2]; exact h2
        · have g := p.get (es := es) hi3
          rw [hi2, ho] at g
          have hon := p.after i o ho e he
          have := h3 _ g ⟨posOf π e.on, e.ground⟩ (by
            simp only [permOp, List.mem_toArray, List.mem_append, List.mem_map]
            exact .inl ⟨e, by simpa using he, rfl⟩) (by unfold Region.binds at hb ⊢; exact hb)
          rw [← hrel e.on hon]; exact this
      rw [show Region.ready .any ops listed = [] from h] at this
      cases this
    | cons i L =>
      obtain ⟨h1, h2⟩ := h
      obtain ⟨r1, r2, r3⟩ := (ready_mem hs i).1 h1
      have hnot : i ∉ pre := fun hm => by rw [hpre i hm] at r2; cases r2
      have hidx : L0.idxOf i = pre.length := by
        rw [hL0, List.idxOf_append, if_neg hnot]; simp
      have ready' : posOf π i ∈ Region.ready .any (permOps π es ops) listed' := by
        refine (ready_mem (by omega) _).2 ⟨by rw [hsz]; exact (p.to i r1).1, by rw [hrel i r1]; exact r2, fun o' ho' e' he' hb => ?_⟩
        rw [p.get r1, Array.getElem?_eq_getElem r1] at ho'
        simp only [Option.map_some, Option.some.injEq] at ho'
        subst ho'
        simp only [permOp, List.mem_toArray, List.mem_append, List.mem_map] at he'
        rcases he' with ⟨e, he, rfl⟩ | he'
        · have ho := Array.getElem?_eq_getElem r1
          have he2 : e ∈ ops[i].after := by simpa using he
          rw [hrel e.on (p.after i _ ho e he2)]
          exact r3 _ ho e he2 (by unfold Region.binds at hb ⊢; exact hb)
        · obtain ⟨a, ha, hon⟩ := pick_mem he'
          obtain ⟨q1, q2, q3⟩ := hes _ ha
          simp only at q1 q2 q3
          rw [hon, hrel a q3]
          refine hpre a ?_
          rw [hidx] at q1
          rw [hL0, List.idxOf_append] at q1
          by_cases hm : a ∈ pre
          · exact hm
          · rw [if_neg hm] at q1
            exfalso
            have hz : (i :: L).idxOf a = 0 := by omega
            rw [List.idxOf_cons] at hz
            cases hb : (i == a) with
            | true => exact q2 (by simpa using (beq_iff_eq.1 hb).symm)
            | false => rw [hb] at hz; simp at hz
      have hlen' : listed'.size = ops.size := hs'
      obtain ⟨k1, k2⟩ := ih (listed.setIfInBounds i true) (listed'.setIfInBounds (posOf π i) true) (pre ++ [i]) L (by rw [hL0]; simp) (by simp [hs]) (by simp [hs'])
        (fun j hj => by
          by_cases hji : j = i
          · subst hji
            rw [Array.getD_eq_getD_getElem?, Array.getD_eq_getD_getElem?, Array.getElem?_setIfInBounds_self_of_lt (by rw [hs']; exact (p.to j hj).1), Array.getElem?_setIfInBounds_self_of_lt (by omega)]
          · have hne : posOf π i ≠ posOf π j := fun e => by
              have a1 := (p.to i r1).2
              have a2 := (p.to j hj).2
              rw [e] at a1
              rw [a1] at a2
              exact hji (Option.some.inj a2).symm
            have := hrel j hj
            rw [Array.getD_eq_getD_getElem?, Array.getD_eq_getD_getElem?] at this ⊢
            rw [Array.getElem?_setIfInBounds_ne hne, Array.getElem?_setIfInBounds_ne (fun e => hji e.symm)]
            exact this)
        (fun j hj => by
          rw [Array.getD_eq_getD_getElem?]
          rcases List.mem_append.1 hj with hj | hj
          · by_cases hji : j = i
            · subst hji; rw [Array.getElem?_setIfInBounds_self_of_lt (by omega)]; rfl
            · rw [Array.getElem?_setIfInBounds_ne (fun e => hji e.symm), ← Array.getD_eq_getD_getElem?]; exact hpre j hj
          · have : j = i := by simpa using hj
            subst this
            rw [Array.getElem?_setIfInBounds_self_of_lt (by omega)]; rfl)
        (fun j hj => by
          by_cases hji : j = i
          · subst hji; simp
          · rw [Array.getD_eq_getD_getElem?, Array.getElem?_setIfInBounds_ne (fun e => hji e.symm), ← Array.getD_eq_getD_getElem?] at hj
            exact List.mem_append_left _ (hpre' j hj))
        h2
      exact ⟨⟨ready', k1⟩, fun j hj => (List.mem_cons.1 hj).elim (fun e => e ▸ r1) (k2 j)⟩
end

section
variable {P : Program} {ops : Array Oper}

theorem draw_any_of {N : Nat} {an : Ann} {pl : Plan} (hok : drawOk ops an = true) (hpl : planOk ops.size an pl = true) (hd : AllDst N ops) (hca : AllCall P ops)
    {K : Env → World → Prop} {Q : Exit → Act → World → Prop} (hQ : ∀ g a w, Rel N g a → K g w → Q .normal a w) {g : Env} {a : Act} {w : World} (hr : Rel N g a)
    (h : denDraw P ops ops.toList pl [] g w K) : wpAny P .any ops Q ops.size (Array.replicate ops.size false) a w := by
  have r0 : Run P ops an g w 0 (fun _ => default) (fun _ => g) (fun _ => w) (fun _ => undef) :=
    ⟨rfl, rfl, fun i hi => by omega, fun i hi => by omega, fun i hi => by omega, fun i hi => by omega, fun i j _ hj => by omega⟩
  obtain ⟨O, G, W, V, r, hk⟩ := run_of_draw hpl ops.toList 0 [] _ _ _ _ (fun j => by simp) (by simp) r0 (fun i hi => by omega) h
  simp only [Nat.zero_add, Array.length_toList] at r hk
  have st := static_of hok r.op
  have := draw_any (Q := Q) (n := ops.size) rfl hd hca r st (fun a hra => hQ _ a _ hra hk) ops.size (Array.replicate ops.size false) g a 0 (by simp) hr (by omega)
    (fun j hj hl => by unfold Listed at hl; simp [Array.getD_eq_getD_getElem?, hj] at hl)
    (fun s => .inr ⟨fun j hj hl => by unfold Listed at hl; simp [Array.getD_eq_getD_getElem?, hj] at hl, rfl⟩)
    (fun h hh _ => ⟨fun hl => by unfold Listed at hl; simp [Array.getD_eq_getD_getElem?, hh] at hl, fun hl => by omega⟩)
    (Nat.le_trans (List.length_filter_le _ _) (by simp))
  rw [r.w0] at this
  exact this

theorem allDst_of {N : Nat} {ops : Array Oper} (h : ops.all (dstOk N) = true) : AllDst N ops := by
  intro i o ho t ht
  have := Array.all_eq_true'.1 h o (Array.mem_of_getElem? ho)
  unfold dstOk at this
  rw [ht] at this
  exact (Nat.blt_eq (x := t) (y := N)) ▸ this

theorem allCall_of {ops : Array Oper} (h : ops.all (callOk P) = true) : AllCall P ops :=
  fun _ o ho => Array.all_eq_true'.1 h o (Array.mem_of_getElem? ho)

theorem tree_sound {N : Nat} {f : FuncId} {id : Nat} (hd : AllDst N ops) (hca : AllCall P ops)
    {K : Env → World → Prop} {Q : Exit → Act → World → Prop} (hQ : ∀ g a w, Rel N g a → K g w → Q .normal a w) {g : Env} {a : Act} {w0 w : World} (hr : Rel N g a) :
    ∀ (T : HT) (path : List (Nat × Nat)), treeOk P N ops path T = true →
      (∀ q ∈ path, (Region.schedule true ops (w0.tape w0.drawn (.order f id))).idxOf q.1 ≤ (Region.schedule true ops (w0.tape w0.drawn (.order f id))).idxOf q.2 ∧ q.1 ≠ q.2) →
      denT P f id ops T g w0 w K → wpOps P ops Q (Region.schedule true ops (w0.tape w0.drawn (.order f id))) a w := by
  have lin : LinF ops ops.size (Array.replicate ops.size false) (Region.schedule true ops (w0.tape w0.drawn (.order f id))) := by
    unfold Region.schedule
    simp only [Bool.true_or, if_true]
    exact linF_go _ _ _
  generalize hL : Region.schedule true ops (w0.tape w0.drawn (.order f id)) = L at lin ⊢
  intro T
  induction T with
  | leaf an pl =>
    intro path hok _ h
    simp only [treeOk, Bool.and_eq_true] at hok
    exact wpOps_of_any _ _ _ _ _ (draw_any_of hok.1 hok.2 hd hca hQ hr h) lin
  | perm π es an pl =>
    intro path hok hpath h
    simp only [treeOk, Bool.and_eq_true] at hok
    obtain ⟨⟨⟨⟨⟨h1, h2⟩, h3⟩, h4⟩, h5⟩, h6⟩ := hok
    have p := perm_of h2
    have hes : ∀ q ∈ es, L.idxOf q.1 ≤ L.idxOf q.2 ∧ q.1 ≠ q.2 ∧ q.1 < ops.size := fun q hq => by
      have := List.all_eq_true.1 h1 q hq
      simp only [Bool.and_eq_true] at this
      have hp := hpath q (mem2_mem this.1)
      exact ⟨hp.1, hp.2, (Nat.blt_eq (x := q.1) (y := ops.size)) ▸ this.2⟩
    obtain ⟨k1, k2⟩ := linF_perm (es := es) p hes ops.size (Array.replicate ops.size false) (Array.replicate ops.size false) [] L rfl (by simp) (by simp)
      (fun j hj => by simp [Array.getD_eq_getD_getElem?, hj, (p.to j hj).1]) (by simp)
      (fun j hj => by rw [Array.getD_eq_getD_getElem?] at hj; by_cases hh : j < ops.size <;> simp [hh] at hj) lin
    have hw := draw_any_of h5 h6 (allDst_of h3) (allCall_of h4) hQ hr h
    rw [p.size] at hw
    exact wpOps_perm (es := es) p L k2 a w (wpOps_of_any _ _ _ _ _ hw k1)
  | split x y A B ihA ihB =>
    intro path hok hpath h
    simp only [treeOk, Bool.and_eq_true] at hok
    have hne : x ≠ y := by
      intro e
      have := hok.1.1
      rw [e] at this
      simp at this
    simp only [denT] at h
    unfold Ord ordB at h
    rw [hL] at h
    cases hb : Nat.ble (L.idxOf x) (L.idxOf y) with
    | true =>
      rw [hb] at h
      refine ihA _ hok.1.2 (fun q hq => ?_) h
      rcases List.mem_cons.1 hq with rfl | hq
      · exact ⟨Nat.le_of_ble_eq_true hb, hne⟩
      · exact hpath q hq
    | false =>
      rw [hb] at h
      refine ihB _ hok.2 (fun q hq => ?_) h
      rcases List.mem_cons.1 hq with rfl | hq
      · refine ⟨?_, hne.symm⟩
        simp only
        rcases Nat.lt_or_ge (L.idxOf y) (L.idxOf x) with hh | hh
        · omega
        · have := Nat.ble_eq_true_of_le hh; rw [this] at hb; cases hb
      · exact hpath q hq
end
end Go.En

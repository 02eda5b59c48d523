/- The engine is sound: one operation, a region in the order of its text, a region that draws its order. -/
import Derived.Test.YtoepfjgekpdddaaEn
namespace Go.En
open Go

theorem put_some (g : Env) (d i : Nat) (v : Value) : put g (some d) v i = if i = d then v else g i := by
  unfold put
  by_cases h : i = d
  · subst h; simp
  · have : Nat.beq i d = false := by
      cases hb : Nat.beq i d
      · rfl
      · exact absurd (Nat.eq_of_beq_eq_true hb) h
    simp [this, h]

def Rel (N : Nat) (g : Env) (a : Act) : Prop := a.defers = [] ∧ a.tmps.size = N ∧ ∀ i, a.tmps.getD i undef = g i

theorem Rel.ev {N : Nat} {g : Env} {a : Act} (h : Rel N g a) (x : Operand) : a.eval x = ev g x := by
  cases x <;> simp [Act.eval, En.ev, ← h.2.2]

theorem Rel.evs {N : Nat} {g : Env} {a : Act} (h : Rel N g a) : a.eval = En.ev g := funext h.ev

theorem Rel.put {N : Nat} {g : Env} {a : Act} (h : Rel N g a) (d : Option Tmp) (v : Value) (hd : ∀ t, d = some t → t < N) :
    Rel N (put g d v) (a.put d v) := by
  cases d with
  | none => exact h
  | some t =>
    obtain ⟨h1, h2, h3⟩ := h
    have ht := hd t rfl
    refine ⟨h1, by simp [Act.put, h2], fun i => ?_⟩
    rw [put_some, ← h3 i]
    by_cases hi : i = t
    · subst hi; simp [Act.put, h2, ht]
    · have hi' : t ≠ i := fun e => hi e.symm
      simp [Act.put, hi, Array.getElem?_setIfInBounds_ne hi']

theorem Rel.wanted {N : Nat} {g : Env} {a : Act} (h : Rel N g a) (ops : Array Oper) (o : Oper) :
    Region.wanted o (yielded ops a.tmps) = match o.guard with | none => true | some (j, want) => guardOn g (slotOf ops j) want := by
  unfold Region.wanted
  cases o.guard with
  | none => rfl
  | some p =>
    obtain ⟨j, want⟩ := p
    simp only [yielded, guardOn, slotOf]
    cases (ops[j]?).bind (·.dst) with
    | none => simp
    | some t =>
      have h3 := h.2.2 t
      simp only [Option.bind_some, isB, asB, ← h3]
      simp only [Array.getD_eq_getD_getElem?]
      cases ht : a.tmps[t]? with
      | none => simp [undef]
      | some v => cases v <;> simp

section
variable {P : Program} {ops : Array Oper}

/-- The operation gives just this. -/
def OpYld (P : Program) (ops : Array Oper) (g : Env) (o : Oper) (w : World) (v : Value) (w' : World) : Prop :=
  ∀ K : Value → World → Prop, K v w' → opStep P ops g o w K

theorem Stp_ext {s : Sem Next} {w : World} {K : Value → World → Prop} (h : Stp P s w K) :
    ∃ v w', (∀ K' : Value → World → Prop, K' v w' → Stp P s w K') ∧ K v w' := by
  unfold Stp at *
  generalize s.run P w = r at *
  match r, h with
  | .ok (.value v) w1, h => exact ⟨v, w1, fun _ h' => h', h⟩
  | .ok .skip w1, h => exact ⟨undef, w1, fun _ h' => h', h⟩
  | .ok (.enter f args) w1, h =>
    obtain ⟨v, w', hr, hk⟩ := h
    exact ⟨v, w', fun _ h' => ⟨v, w', hr, h'⟩, hk⟩

theorem opRun_ext {g : Env} {o : Oper} {w : World} {K : Value → World → Prop} (h : opRun P g o w K) :
    ∃ v w', (∀ K' : Value → World → Prop, K' v w' → opRun P g o w K') ∧ K v w' := by
  unfold opRun at *
  split at h
  · exact ⟨_, _, fun _ h' => h', h⟩
  · exact ⟨_, _, fun _ h' => h', h⟩
  · split at h
    · obtain ⟨v, w', a, b⟩ := h
      exact ⟨v, w', fun _ h' => ⟨v, w', a, h'⟩, b⟩
    · exact Stp_ext h
  · exact Stp_ext h

theorem sBin_eq (op : BinOp) (t : TypeId) (ox oy : Operand) (x y : Value) : sBin op t ox oy x y = V (do eqGuard op t ox oy x y; binOp op t x y) := by
  cases op <;> simp [sBin, isEq, eqGuard]

theorem opSem_eq {g : Env} {o : Oper} (ho : callOk P o = true) : opSem g o = execOp (ev g) o := by
  unfold opSem
  split
  · rename_i op t x y yt hx
    simp only [execOp, hx, sBin_eq, V]
  · rename_i t ps hx
    have e : (List.map (fun p : Nat × Operand => (p.1, ev g p.2)) ps.toList).toArray = ps.map (fun p => (p.1, ev g p.2)) := by obtain ⟨l⟩ := ps; simp
    simp only [execOp, hx, sBuild, V, e]
  · rename_i t n ps hx
    have e : (List.map (fun p : Nat × Operand => (p.1, ev g p.2)) ps.toList).toArray = ps.map (fun p => (p.1, ev g p.2)) := by obtain ⟨l⟩ := ps; simp
    simp only [execOp, hx, sBuildSlice, V, e]
  · rename_i c hx
    split
    · rename_i b hb
      simp only [execOp, hx, resolve, hb, pure_bind, invoke, sBi]
      unfold callOk at ho
      simp only [hx, hb] at ho
      have e : (List.map (ev g) c.args.toList).toArray = c.args.map (ev g) := by obtain ⟨l⟩ := c.args; simp
      rw [e]
      cases b <;> first | rfl | (cases ho)
    · rfl
  · rfl

theorem callFunc_run {f : FuncId} {fn : Func} (hf : P.funcs[f]? = some fn) (hb : fn.body.isSome = true) (hn : (fn.name == "runtime.NumGoroutine") = false)
    (args : Array Value) (w : World) : (callFunc f args).run P w = .ok (.enter f args) w := by
  unfold callFunc
  have hb' : fn.body.isNone = false := by cases h : fn.body <;> simp_all
  show Sem.run P (Sem.program fun p => _) w = _
  simp only [Sem.run]
  simp only [bind, Sem.bind, hf, hn, hb', Bool.false_eq_true, if_false]
  rfl

theorem opStep_ext {g : Env} {o : Oper} {w : World} {K : Value → World → Prop} (h : opStep P ops g o w K) :
    ∃ v w', OpYld P ops g o w v w' ∧ K v w' := by
  unfold OpYld
  unfold opStep at *
  split at h
  · obtain ⟨v, w', h1, h2⟩ := opRun_ext h
    exact ⟨v, w', h1, h2⟩
  · rename_i j want hg
    unfold Gd at *
    cases hb : guardOn g (slotOf ops j) want with
    | true =>
      simp only [hb] at h
      obtain ⟨v, w', h1, h2⟩ := opRun_ext h
      exact ⟨v, w', fun K hk => h1 K hk, h2⟩
    | false =>
      simp only [hb] at h
      exact ⟨_, _, fun K hk => hk, h⟩

theorem opStep_mono {g : Env} {o : Oper} {w : World} {K K' : Value → World → Prop} (h : opStep P ops g o w K) (hk : ∀ v w', K v w' → K' v w') :
    opStep P ops g o w K' :=
  let ⟨v, w', h1, h2⟩ := opStep_ext h
  h1 K' (hk v w' h2)

theorem wpOp_of_yld {N i : Nat} {g : Env} {a : Act} {o : Oper} {w w' : World} {v : Value} {Q : Exit → Act → World → Prop} {next : Act → World → Prop}
    (hi : ops[i]? = some o) (hc : callOk P o = true) (hr : Rel N g a) (hy : OpYld P ops g o w v w') (hn : next (a.put o.dst v) w') : wpOp P ops Q i next a w := by
  have h := hy (fun v2 w2 => v2 = v ∧ w2 = w') ⟨rfl, rfl⟩
  unfold wpOp
  rw [hi]
  simp only [hr.wanted]
  have run : opRun P g o w (fun v2 w2 => v2 = v ∧ w2 = w') → o.wp P a w next Q := by
    intro h
    have stp : Stp P (opSem g o) w (fun v2 w2 => v2 = v ∧ w2 = w') → o.upon P a next Q ((execOp (ev g) o).run P w) := by
      intro h
      rw [opSem_eq hc] at h
      unfold Stp at h
      generalize (execOp (ev g) o).run P w = r at *
      match r, h with
      | .ok (.value v) w1, h => obtain ⟨rfl, rfl⟩ := h; exact hn
      | .ok .skip w1, h => obtain ⟨rfl, rfl⟩ := h; exact hn
      | .ok (.enter f args) w1, h =>
        obtain ⟨v2, w2, hret, rfl, rfl⟩ := h
        simp only [Oper.upon_enter]
        refine Calls.mono hret ?_
        rintro e w'' ⟨rfl, rfl⟩
        exact hn
    unfold Oper.wp
    rw [hr.evs]
    unfold opRun at h
    split at h
    · rename_i x hx
      obtain ⟨rfl, rfl⟩ := h
      simp only [execOp, hx]; exact hn
    · rename_i x hx
      obtain ⟨rfl, rfl⟩ := h
      simp only [execOp, hx]; exact hn
    · rename_i c hx
      split at h
      · rename_i f hcal
        obtain ⟨v2, w2, hret, rfl, rfl⟩ := h
        have e : (execOp (ev g) o).run P w = .ok (.enter f (List.map (ev g) c.args.toList).toArray) w := by
          unfold callOk at hc
          simp only [hx, hcal] at hc
          cases hfn : P.funcs[f]? with
          | none => rw [hfn] at hc; cases hc
          | some fn =>
            rw [hfn] at hc
            simp only [Bool.and_eq_true, Bool.not_eq_true'] at hc
            have ea : (List.map (ev g) c.args.toList).toArray = c.args.map (ev g) := by obtain ⟨l⟩ := c.args; simp
            rw [ea]
            simp only [execOp, hx, resolve, hcal, ev, Deferred.ofValue, pure_bind, invoke]
            simp only [Array.empty_append, Array.append_empty]
            exact callFunc_run hfn hc.1 hc.2 _ w
        rw [e]
        simp only [Oper.upon_enter]
        refine Calls.mono hret ?_
        rintro e w'' ⟨rfl, rfl⟩
        exact hn
      · exact stp h
    · exact stp h
  unfold opStep at h
  cases hg : o.guard with
  | none =>
    rw [hg] at h
    simp only [if_true]
    exact .inl (run h)
  | some p =>
    obtain ⟨j, want⟩ := p
    simp only [hg] at h
    simp only
    by_cases hb : guardOn g (slotOf ops j) want = true
    · rw [if_pos hb]
      simp only [hb, Gd] at h
      exact .inl (run h)
    · rw [if_neg hb]
      have hb' : guardOn g (slotOf ops j) want = false := by simpa using hb
      simp only [hb', Gd] at h
      obtain ⟨rfl, rfl⟩ := h
      exact hn

def AllDst (N : Nat) (ops : Array Oper) : Prop := ∀ (i : Nat) (o : Oper), ops[i]? = some o → ∀ t, o.dst = some t → t < N

def AllCall (P : Program) (ops : Array Oper) : Prop := ∀ (i : Nat) (o : Oper), ops[i]? = some o → callOk P o = true

theorem ops_sound {N : Nat} (hd : AllDst N ops) (hca : AllCall P ops) {Q : Exit → Act → World → Prop} {K : Env → World → Prop}
    (hQ : ∀ g a w, Rel N g a → K g w → Q .normal a w) :
    ∀ (l : List Oper) (k : Nat) (g : Env) (a : Act) (w : World), (∀ j, l[j]? = ops[k + j]?) → Rel N g a → denOps P ops l g w K →
      wpOps P ops Q (List.range' k l.length) a w := by
  intro l
  induction l with
  | nil => intro k g a w _ hr h; exact hQ _ _ _ hr h
  | cons o l ih =>
    intro k g a w hl hr h
    have h0 : ops[k]? = some o := by have := hl 0; simpa using this.symm
    obtain ⟨v, w', hy, hk⟩ := opStep_ext h
    rw [List.length_cons, List.range'_succ, wpOps_cons]
    refine wpOp_of_yld h0 (hca k o h0) hr hy ?_
    refine ih (k + 1) _ _ _ (fun j => ?_) (hr.put _ _ (hd k o h0)) hk
    have := hl (j + 1)
    simp only [List.getElem?_cons_succ] at this
    rw [this]; congr 1; omega

/- THE REGION THAT DRAWS. -/
def recOf (an : Ann) (O : Nat → Oper) (G : Nat → Env) (W : Nat → World) (V : Nat → Value) (i : Nat) : Rec :=
  ⟨mem1 i an.1, O i, G i, W i, V i⟩

def chkAt (P : Program) (ops : Array Oper) (an : Ann) (O : Nat → Oper) (G : Nat → Env) (W : Nat → World) (V : Nat → Value) (i j : Nat) : Prop :=
  chkOne P ops (recOf an O G W V i) (O j) (G j) (W (j + 1)) (V j)

structure Run (P : Program) (ops : Array Oper) (an : Ann) (g0 : Env) (w0 : World) (n : Nat) (O : Nat → Oper) (G : Nat → Env) (W : Nat → World) (V : Nat → Value) : Prop where
  g0 : G 0 = g0
  w0 : W 0 = w0
  op : ∀ i, i < n → ops[i]? = some (O i)
  yld : ∀ i, i < n → OpYld P ops (G i) (O i) (W i) (V i) (W (i + 1))
  light : ∀ i, i < n → mem1 i an.1 = false → W (i + 1) = W i
  env : ∀ i, i < n → G (i + 1) = put (G i) (O i).dst (V i)
  chk : ∀ i j, i < j → j < n → mem2 i j an.2 = true → chkAt P ops an O G W V i j

theorem chkP_ext {o : Oper} {g : Env} {w' : World} {v : Value} {hist : List Rec} : ∀ {ks : List Nat}, chkP P ops o g w' v hist ks → ∀ k ∈ ks, ∃ q, nthR hist k = some q ∧ chkOne P ops q o g w' v := by
  intro ks
  induction ks with
  | nil => intro _ k hk; cases hk
  | cons a ks ih =>
    rintro ⟨h1, h2⟩ k hk
    rcases List.mem_cons.1 hk with rfl | hk
    · cases hn : nthR hist k with
      | none => rw [hn] at h1; exact h1.elim
      | some q => rw [hn] at h1; exact ⟨q, rfl, h1⟩
    · exact ih h2 k hk

theorem planOk_at {n : Nat} {an : Ann} {pl : Plan} (h : planOk n an pl = true) {i : Nat} (hi : i < n) :
    ∃ ks, pl[i]? = some (mem1 i an.1, ks) ∧ ∀ j, mem2 j i an.2 = true → j < i ∧ (i - 1 - j) ∈ ks := by
  have := List.all_eq_true.1 h i (List.mem_range.2 hi)
  cases hp : pl[i]? with
  | none => rw [hp] at this; cases this
  | some p =>
    obtain ⟨hv, ks⟩ := p
    rw [hp] at this
    simp only [Bool.and_eq_true] at this
    obtain ⟨h1, h2⟩ := this
    have h1 : hv = mem1 i an.1 := by simpa using h1
    refine ⟨ks, by rw [h1], fun j hj => ?_⟩
    have mm : ∀ (l : List (Nat × Nat)), mem2 j i l = true → (j, i) ∈ l := by
      intro l
      induction l with
      | nil => intro h; cases h
      | cons q r ih =>
        obtain ⟨a, b⟩ := q
        intro h
        unfold mem2 at h
        cases ha : Nat.beq a j with
        | true =>
          simp only [ha] at h
          cases hb : Nat.beq b i with
          | true =>
            obtain rfl := Nat.eq_of_beq_eq_true ha
            obtain rfl := Nat.eq_of_beq_eq_true hb
            exact List.mem_cons_self
          | false => simp only [hb] at h; exact List.mem_cons_of_mem _ (ih h)
        | false => simp only [ha] at h; exact List.mem_cons_of_mem _ (ih h)
    have := List.all_eq_true.1 h2 (j, i) (mm _ hj)
    simp only [Nat.beq_refl, Bool.not_true, Bool.false_or, Bool.and_eq_true] at this
    refine ⟨?_, by simpa using this.2⟩
    have hlt := this.1
    exact (Nat.blt_eq (x := j) (y := i)) ▸ hlt

theorem run_of_draw {an : Ann} {pl : Plan} {g0 : Env} {w0 : World} {K : Env → World → Prop} (hpl : planOk ops.size an pl = true) :
    ∀ (l : List Oper) (m : Nat) (hist : List Rec) (O : Nat → Oper) (G : Nat → Env) (W : Nat → World) (V : Nat → Value),
      (∀ j, l[j]? = ops[m + j]?) → m + l.length = ops.size → Run P ops an g0 w0 m O G W V → (∀ i, i < m → nthR hist (m - 1 - i) = some (recOf an O G W V i)) →
      denDraw P ops l (pl.drop m) hist (G m) (W m) K →
      ∃ (O : Nat → Oper) (G : Nat → Env) (W : Nat → World) (V : Nat → Value), Run P ops an g0 w0 (m + l.length) O G W V ∧ K (G (m + l.length)) (W (m + l.length)) := by
  intro l
  induction l with
  | nil => intro m hist O G W V _ _ hr _ h; exact ⟨O, G, W, V, hr, by unfold denDraw at h; exact h⟩
  | cons o l ih =>
    intro m hist O G W V hl hlen hr hh h
    have h0 : ops[m]? = some o := by have := hl 0; simpa using this.symm
    have hmn : m < ops.size := by rw [List.length_cons] at hlen; omega
    obtain ⟨ks, hk1, hk2⟩ := planOk_at hpl hmn
    have hdrop : pl.drop m = (mem1 m an.1, ks) :: pl.drop (m + 1) := by
      have hlt : m < pl.length := by
        rcases Nat.lt_or_ge m pl.length with h | h
        · exact h
        · rw [List.getElem?_eq_none h] at hk1; cases hk1
      rw [List.drop_eq_getElem_cons hlt]
      rw [List.getElem?_eq_getElem hlt] at hk1
      rw [Option.some.inj hk1]
    rw [hdrop] at h
    obtain ⟨v, w', hy, hk⟩ := opStep_ext h
    have key : (mem1 m an.1 = false → w' = W m) ∧ (∀ k ∈ ks, ∃ q, nthR hist k = some q ∧ chkOne P ops q o (G m) w' v) ∧
        (denDraw P ops l (pl.drop (m + 1)) (⟨mem1 m an.1, o, G m, W m, v⟩ :: hist) (put (G m) o.dst v) w' K) := by
      have nil : ∀ w', ∀ k ∈ ([] : List Nat), ∃ q, nthR hist k = some q ∧ chkOne P ops q o (G m) w' v := fun _ k hk => (by cases hk)
      cases hm : mem1 m an.1 with
      | true =>
        rw [hm] at hk
        cases ks with
        | nil => exact ⟨fun e => (by cases e), nil _, hk⟩
        | cons k ks => exact ⟨fun e => (by cases e), chkP_ext hk.1, hk.2⟩
      | false =>
        rw [hm] at hk
        cases ks with
        | nil => obtain ⟨rfl, hk⟩ := hk; exact ⟨fun _ => rfl, nil _, hk⟩
        | cons k ks => obtain ⟨rfl, hc, hk⟩ := hk; exact ⟨fun _ => rfl, chkP_ext hc, hk⟩
    obtain ⟨kl, c1, c2⟩ := key
    let O' : Nat → Oper := fun i => if i = m then o else O i
    let V' : Nat → Value := fun i => if i = m then v else V i
    let G' : Nat → Env := fun i => if i = m + 1 then put (G m) o.dst v else G i
    let W' : Nat → World := fun i => if i = m + 1 then w' else W i
    have eO : ∀ i, i < m → O' i = O i := fun i hi => if_neg (by omega)
    have eV : ∀ i, i < m → V' i = V i := fun i hi => if_neg (by omega)
    have eG : ∀ i, i ≤ m → G' i = G i := fun i hi => if_neg (by omega)
    have eW : ∀ i, i ≤ m → W' i = W i := fun i hi => if_neg (by omega)
    have oO : O' m = o := if_pos rfl
    have oV : V' m = v := if_pos rfl
    have oG : G' (m + 1) = put (G m) o.dst v := if_pos rfl
    have oW : W' (m + 1) = w' := if_pos rfl
    have eR : ∀ i, i < m → recOf an O' G' W' V' i = recOf an O G W V i := fun i hi => by
      simp only [recOf, eO i hi, eV i hi, eG i (by omega), eW i (by omega)]
    have hr' : Run P ops an g0 w0 (m + 1) O' G' W' V' := by
      refine ⟨by rw [eG 0 (by omega)]; exact hr.g0, by rw [eW 0 (by omega)]; exact hr.w0, fun i hi => ?_, fun i hi => ?_, fun i hi hm => ?_, fun i hi => ?_, fun i j hij hj hm => ?_⟩
      · by_cases hi' : i = m
        · subst hi'; rw [oO]; exact h0
        · rw [eO i (by omega)]; exact hr.op i (by omega)
      · by_cases hi' : i = m
        · subst hi'; rw [oO, oV, oW, eG i (by omega), eW i (by omega)]; exact hy
        · rw [eO i (by omega), eV i (by omega), eG i (by omega), eW i (by omega), eW (i + 1) (by omega)]; exact hr.yld i (by omega)
      · by_cases hi' : i = m
        · subst hi'; rw [oW, eW i (by omega)]; exact kl hm
        · rw [eW i (by omega), eW (i + 1) (by omega)]; exact hr.light i (by omega) hm
      · by_cases hi' : i = m
        · subst hi'; rw [oO, oV, oG, eG i (by omega)]
        · rw [eO i (by omega), eV i (by omega), eG i (by omega), eG (i + 1) (by omega)]; exact hr.env i (by omega)
      · unfold chkAt
        by_cases hj' : j = m
        · subst hj'
          rw [eR i (by omega), oO, oV, oW, eG j (by omega)]
          obtain ⟨q, hq, hc⟩ := c1 _ (hk2 i hm).2
          rw [hh i hij] at hq
          obtain rfl := Option.some.inj hq
          exact hc
        · rw [eR i (by omega), eO j (by omega), eV j (by omega), eG j (by omega), eW (j + 1) (by omega)]
          exact hr.chk i j hij (by omega) hm
    have := ih (m + 1) (⟨mem1 m an.1, o, G m, W m, v⟩ :: hist) O' G' W' V' (fun j => by
        have := hl (j + 1)
        simp only [List.getElem?_cons_succ] at this
        rw [this]; congr 1; omega) (by rw [List.length_cons] at hlen; omega) hr' (fun i hi => by
        by_cases hi' : i = m
        · subst hi'
          rw [show i + 1 - 1 - i = 0 from by omega]
          simp only [nthR, recOf, oO, oV, eG i (by omega), eW i (by omega)]
        · rw [eR i (by omega), show m + 1 - 1 - i = (m - 1 - i) + 1 from by omega]
          exact hh i (by omega)) (by rw [oG, oW]; exact c2)
    rw [List.length_cons, show m + (l.length + 1) = m + 1 + l.length from by omega]
    exact this

end
end Go.En

/- A region that draws its order comes, in whatever order, to what the order of its text comes to. -/
import Derived.Test.YtoepfjgekpdddaaEnSound
namespace Go.En
open Go

section
variable {P : Program} {ops : Array Oper} {an : Ann} {g0 : Env} {w0 : World} {O : Nat → Oper} {G : Nat → Env} {W : Nat → World} {V : Nat → Value}

/-- The slots, when the operations of S have been done. -/
def EnvFor (n : Nat) (O : Nat → Oper) (V : Nat → Value) (g0 : Env) (S : Nat → Prop) (g : Env) : Prop :=
  ∀ s, (∃ j, j < n ∧ S j ∧ (O j).dst = some s ∧ (∀ k, k < n → S k → (O k).dst = some s → k ≤ j) ∧ g s = V j) ∨
    ((∀ j, j < n → S j → (O j).dst ≠ some s) ∧ g s = g0 s)

theorem EnvFor.agree {n : Nat} {S T : Nat → Prop} {g g' : Env} (h : EnvFor n O V g0 S g) (h' : EnvFor n O V g0 T g') (s : Nat)
    (hs : ∀ j, j < n → (O j).dst = some s → (S j ↔ T j)) : g s = g' s := by
  rcases h s with ⟨j, h1, h2, h3, h4, h5⟩ | ⟨h1, h2⟩ <;> rcases h' s with ⟨k, k1, k2, k3, k4, k5⟩ | ⟨k1, k2⟩
  · have a := h4 k k1 ((hs k k1 k3).2 k2) k3
    have b := k4 j h1 ((hs j h1 h3).1 h2) h3
    have : j = k := by omega
    subst this; rw [h5, k5]
  · exact absurd h3 (k1 j h1 ((hs j h1 h3).1 h2))
  · exact absurd k3 (h1 k k1 ((hs k k1 k3).2 k2))
  · rw [h2, k2]

theorem EnvFor.step {n : Nat} {S : Nat → Prop} {g : Env} (h : EnvFor n O V g0 S g) (i : Nat) (hi : i < n)
    (hw : ∀ s, (O i).dst = some s → ∀ j, j < n → j ≠ i → (O j).dst = some s → S j → j < i) :
    EnvFor n O V g0 (fun j => S j ∨ j = i) (put g (O i).dst (V i)) := by
  intro s
  cases hd : (O i).dst with
  | none =>
    rcases h s with ⟨j, h1, h2, h3, h4, h5⟩ | ⟨h1, h2⟩
    · refine .inl ⟨j, h1, .inl h2, h3, fun k k1 k2 k3 => ?_, h5⟩
      rcases k2 with k2 | rfl
      · exact h4 k k1 k2 k3
      · rw [hd] at k3; cases k3
    · refine .inr ⟨fun j h3 h4 h5 => ?_, h2⟩
      rcases h4 with h4 | rfl
      · exact h1 j h3 h4 h5
      · rw [hd] at h5; cases h5
  | some t =>
    rw [put_some]
    by_cases hst : s = t
    · subst hst
      rw [if_pos rfl]
      refine .inl ⟨i, hi, .inr rfl, hd, fun k k1 k2 k3 => ?_, rfl⟩
      rcases k2 with k2 | rfl
      · by_cases hk : k = i
        · omega
        · have := hw s hd k k1 hk k3 k2; omega
      · omega
    · rw [if_neg hst]
      rcases h s with ⟨j, h1, h2, h3, h4, h5⟩ | ⟨h1, h2⟩
      · refine .inl ⟨j, h1, .inl h2, h3, fun k k1 k2 k3 => ?_, h5⟩
        rcases k2 with k2 | rfl
        · exact h4 k k1 k2 k3
        · rw [hd] at k3; exact absurd (Option.some.inj k3).symm hst
      · refine .inr ⟨fun j h3 h4 h5 => ?_, h2⟩
        rcases h4 with h4 | rfl
        · exact h1 j h3 h4 h5
        · rw [hd] at h5; exact absurd (Option.some.inj h5).symm hst

theorem Run.envFor {n : Nat} (r : Run P ops an g0 w0 n O G W V) : ∀ i, i ≤ n → EnvFor n O V g0 (fun j => j < i) (G i) := by
  intro i
  induction i with
  | zero => intro _ s; exact .inr ⟨fun j _ h => absurd h (by omega), by rw [r.g0]⟩
  | succ i ih =>
    intro hi
    have h := ih (by omega)
    have := h.step (V := V) i (by omega) (fun s _ j _ _ _ hj => hj)
    rw [← r.env i (by omega)] at this
    intro s
    rcases this s with ⟨j, h1, h2, h3, h4, h5⟩ | ⟨h1, h2⟩
    · exact .inl ⟨j, h1, by omega, h3, fun k k1 k2 k3 => h4 k k1 (by omega) k3, h5⟩
    · exact .inr ⟨fun j a b => h1 j a (by omega), h2⟩

/-- Between two places with no heavy operation in between the world is one. -/
theorem Run.still {n : Nat} (r : Run P ops an g0 w0 n O G W V) (i : Nat) : ∀ d, i + d ≤ n → (∀ h, i ≤ h → h < i + d → mem1 h an.1 = false) → W (i + d) = W i := by
  intro d
  induction d with
  | zero => intro _ _; rfl
  | succ d ih =>
    intro h1 h2
    rw [← Nat.add_assoc, r.light (i + d) (by omega) (h2 _ (by omega) (by omega))]
    exact ih (by omega) (fun h a b => h2 h a (by omega))

theorem Run.still' {n : Nat} (r : Run P ops an g0 w0 n O G W V) {i k : Nat} (hik : i ≤ k) (hk : k ≤ n) (hh : ∀ h, i ≤ h → h < k → mem1 h an.1 = false) : W k = W i := by
  have := r.still i (k - i) (by omega) (fun h a b => hh h a (by omega))
  rwa [show i + (k - i) = k from by omega] at this

/-- The least heavy operation of a stretch. -/
theorem least_heavy {i k : Nat} : (∃ h, i ≤ h ∧ h < k ∧ mem1 h an.1 = true) → ∃ h, i ≤ h ∧ h < k ∧ mem1 h an.1 = true ∧ ∀ h', i ≤ h' → h' < h → mem1 h' an.1 = false := by
  rintro ⟨h, h1, h2, h3⟩
  induction h using Nat.strongRecOn with
  | _ h ih =>
    by_cases hx : ∃ h', i ≤ h' ∧ h' < h ∧ mem1 h' an.1 = true
    · obtain ⟨h', a, b, c⟩ := hx
      exact ih h' b a (by omega) c
    · refine ⟨h, h1, h2, h3, fun h' a b => ?_⟩
      cases hm : mem1 h' an.1
      · rfl
      · exact absurd ⟨h', a, b, hm⟩ hx

theorem greatest_heavy {i k : Nat} : (∃ h, i ≤ h ∧ h < k ∧ mem1 h an.1 = true) → ∃ h, i ≤ h ∧ h < k ∧ mem1 h an.1 = true ∧ ∀ h', h < h' → h' < k → mem1 h' an.1 = false := by
  rintro ⟨h, h1, h2, h3⟩
  induction hd : k - h using Nat.strongRecOn generalizing h with
  | _ d ih =>
    by_cases hx : ∃ h', h < h' ∧ h' < k ∧ mem1 h' an.1 = true
    · obtain ⟨h', a, b, c⟩ := hx
      exact ih (k - h') (by omega) h' (by omega) b c rfl
    · refine ⟨h, h1, h2, h3, fun h' a b => ?_⟩
      cases hm : mem1 h' an.1
      · rfl
      · exact absurd ⟨h', a, b, hm⟩ hx

structure Static (ops : Array Oper) (an : Ann) (O : Nat → Oper) (b : Array Nat) : Prop where
  back : ∀ i, i < ops.size → ∀ e ∈ (O i).after, Region.binds .any e = true → e.on < i
  closed : ∀ i j, i < ops.size → j < ops.size → bef b i j = true → ∃ e ∈ (O j).after, Region.binds .any e = true ∧ (e.on = i ∨ bef b i e.on = true)
  pair : ∀ i j, i < j → j < ops.size → pairOk ops b an i j (O i) (O j) = true
  sel : ∀ i, i < ops.size → isSel (O i) = false
  fn : ∀ i, i < ops.size → isFn (O i) = true → mem1 i an.1 = true

theorem static_of (h : drawOk ops an = true) (ho : ∀ i, i < ops.size → ops[i]? = some (O i)) : Static ops an O (Region.before ops) := by
  unfold drawOk at h
  simp only [Bool.and_eq_true] at h
  obtain ⟨⟨⟨⟨h1, h2⟩, h3⟩, h5⟩, h6⟩ := h
  refine ⟨fun i hi e he hb => ?_, fun i j hi hj hb => ?_, fun i j hij hj => ?_, fun i hi => ?_, fun i hi hf => ?_⟩
  · unfold edgesBack at h1
    have := List.all_eq_true.1 h1 i (List.mem_range.2 hi)
    rw [ho i hi] at this
    have := Array.all_eq_true'.1 this e he
    simp only [hb, Bool.not_true, Bool.false_or] at this
    exact (Nat.blt_eq (x := e.on) (y := i)) ▸ this
  · unfold befClosed at h2
    have := List.all_eq_true.1 (List.all_eq_true.1 h2 j (List.mem_range.2 hj)) i (List.mem_range.2 hi)
    rw [ho j hj] at this
    simp only [hb, Bool.not_true, Bool.false_or] at this
    obtain ⟨e, he, h⟩ := Array.any_eq_true'.1 this
    simp only [Bool.and_eq_true, Bool.or_eq_true] at h
    refine ⟨e, he, h.1, h.2.imp (fun h => Nat.eq_of_beq_eq_true h) id⟩
  · unfold allPairs at h3
    have := List.all_eq_true.1 (List.all_eq_true.1 h3 j (List.mem_range.2 hj)) i (List.mem_range.2 hij)
    rw [ho i (by omega), ho j hj] at this
    exact this
  · have := Array.all_eq_true'.1 h5 (O i) (Array.mem_of_getElem? (ho i hi))
    simpa using this
  · have := List.all_eq_true.1 h6 i (List.mem_range.2 hi)
    rw [ho i hi] at this
    simpa [hf] using this

theorem mem2_mem {i j : Nat} : ∀ {l : List (Nat × Nat)}, mem2 i j l = true → (i, j) ∈ l := by
  intro l
  induction l with
  | nil => intro h; cases h
  | cons p r ih =>
    obtain ⟨a, b⟩ := p
    intro h
    unfold mem2 at h
    cases ha : Nat.beq a i with
    | true =>
      simp only [ha] at h
      cases hb : Nat.beq b j with
      | true =>
        obtain rfl := Nat.eq_of_beq_eq_true ha
        obtain rfl := Nat.eq_of_beq_eq_true hb
        exact List.mem_cons_self
      | false => simp only [hb] at h; exact List.mem_cons_of_mem _ (ih h)
    | false => simp only [ha] at h; exact List.mem_cons_of_mem _ (ih h)

/-- Whoever writes a slot that another looks at, or writes, is ordered with it. -/
theorem Static.order {b : Array Nat} (st : Static ops an O b) {S : Nat → Prop} {i : Nat} (hi : i < ops.size)
    (hdown : ∀ j k, j < ops.size → k < ops.size → S k → bef b j k = true → S j) (hbi : ∀ j, j < ops.size → bef b j i = true → S j) (hni : ¬ S i)
    {s : Nat} (hs : s ∈ looks ops (O i) ∨ (O i).dst = some s) {j : Nat} (hj : j < ops.size) (hji : j ≠ i) (hd : (O j).dst = some s) : S j ↔ j < i := by
  rcases Nat.lt_or_ge j i with h | h
  · refine ⟨fun _ => h, fun _ => ?_⟩
    have p := st.pair j i h hi
    unfold pairOk at p
    simp only [Bool.or_eq_true, Bool.and_eq_true, Bool.not_eq_true'] at p
    rcases p with p | p
    · exact hbi j hj p
    · exfalso
      have p1 := p.1
      unfold clash at p1
      simp only [hd, Bool.or_eq_false_iff] at p1
      rcases hs with hs | hs
      · have := p1.1.1; simp [hs] at this
      · have := p1.1.2; simp [hs] at this
  · have h' : i < j := by omega
    refine ⟨fun hS => ?_, fun hh => by omega⟩
    exfalso
    have p := st.pair i j h' hj
    unfold pairOk at p
    simp only [Bool.or_eq_true, Bool.and_eq_true, Bool.not_eq_true'] at p
    rcases p with p | p
    · exact hni (hdown i j hi hj hS p)
    · have p1 := p.1
      unfold clash at p1
      simp only [hd, Bool.or_eq_false_iff] at p1
      rcases hs with hs | hs
      · have := p1.2; simp [hs] at this
      · have := p1.1; rw [hs] at this; simp at this

theorem evs_congr {g g' : Env} {o : Oper} (h : ∀ s ∈ looks ops o, g s = g' s) : ∀ x ∈ o.op.operands, ev g x = ev g' x := by
  intro x hx
  cases x with
  | tmp t => exact h t (List.mem_append_left _ (List.mem_filterMap.2 ⟨.tmp t, by simpa using hx, rfl⟩))
  | _ => rfl

theorem opSem_congr {g g' : Env} {o : Oper} (hs : isSel o = false) (h : ∀ s ∈ looks ops o, g s = g' s) : opSem g o = opSem g' o := by
  have e := execOp_congr o (fun cs b he => by simp [isSel, he] at hs) (evs_congr h)
  have k := evs_congr h
  unfold opSem
  split
  · rename_i op t x y yt hx
    rw [k x (by simp [hx, Op.operands]), k y (by simp [hx, Op.operands])]
  · rename_i t ps hx
    congr 1
    refine List.map_congr_left fun p hp => ?_
    rw [k p.2 (by simp [hx, Op.operands]; exact ⟨p.1, by simpa using hp⟩)]
  · rename_i t n ps hx
    congr 1
    refine List.map_congr_left fun p hp => ?_
    rw [k p.2 (by simp [hx, Op.operands]; exact ⟨p.1, by simpa using hp⟩)]
  · rename_i c hx
    split
    · rename_i b hb
      congr 1
      refine List.map_congr_left fun p hp => ?_
      exact k p (by simp [hx, Op.operands, Call.operands, hb]; simpa using hp)
    · exact e
  · exact e

theorem guardOn_congr {g g' : Env} {o : Oper} {j : Nat} {want : Bool} (hg : o.guard = some (j, want)) (h : ∀ s ∈ looks ops o, g s = g' s) :
    guardOn g (slotOf ops j) want = guardOn g' (slotOf ops j) want := by
  cases hs : slotOf ops j with
  | none => rfl
  | some t =>
    have := h t (List.mem_append_right _ (by simp [hg, hs]))
    simp [guardOn, this]

theorem opStep_congr {g g' : Env} {o : Oper} {w : World} {K : Value → World → Prop} (hs : isSel o = false) (h : ∀ s ∈ looks ops o, g s = g' s)
    (hk : opStep P ops g o w K) : opStep P ops g' o w K := by
  have e := opSem_congr (ops := ops) hs h
  have run : opRun P g o w = opRun P g' o w := by
    funext K
    unfold opRun
    split
    · rename_i x hx
      have := evs_congr (ops := ops) h x (by simp [hx, Op.operands])
      rw [this]
    · rename_i x hx
      have := evs_congr (ops := ops) h x (by simp [hx, Op.operands])
      rw [this]
    · rename_i c hx
      have k := evs_congr h
      have : List.map (ev g) c.args.toList = List.map (ev g') c.args.toList := List.map_congr_left fun p hp => k p (by simp [hx, Op.operands, Call.operands]; exact .inr (by simpa using hp))
      rw [this, e]
    · rw [e]
  unfold opStep at *
  cases hg : o.guard with
  | none => rw [hg] at hk; simp only at hk ⊢; rwa [← run]
  | some p =>
    obtain ⟨j, want⟩ := p
    simp only [hg] at hk ⊢
    rw [← run, ← guardOn_congr hg h]
    exact hk

/-- A light operation, done when others than those ahead of it in the text have been done. -/
theorem light_early {n : Nat} (hn : n = ops.size) {b : Array Nat} (r : Run P ops an g0 w0 n O G W V) (st : Static ops an O b) {S : Nat → Prop} {i k : Nat} (hi : i < n) (hk : k ≤ n)
    (hdown : ∀ j k, j < ops.size → k < ops.size → S k → bef b j k = true → S j) (hbi : ∀ j, j < ops.size → bef b j i = true → S j) (hni : ¬ S i)
    (hS : ∀ h, h < n → mem1 h an.1 = true → (S h ↔ h < k)) (hl : mem1 i an.1 = false) :
    OpYld P ops (G i) (O i) (W k) (V i) (W k) := by
  subst hn
  have same : Gs (gOf ops (O i) (G i)) (Same P (opSem (G i) (O i)) (V i) (W k)) → isMove (O i) = false → OpYld P ops (G i) (O i) (W k) (V i) (W k) := by
    intro hs hm K hK
    have run : Same P (opSem (G i) (O i)) (V i) (W k) → opRun P (G i) (O i) (W k) K := by
      intro hs
      unfold Same at hs
      have stp : Stp P (opSem (G i) (O i)) (W k) K := by unfold Stp; rw [hs]; exact hK
      unfold opRun
      split
      · rename_i x hx; simp [isMove, hx] at hm
      · rename_i x hx; simp [isMove, hx] at hm
      · rename_i c hx
        have hf : isFn (O i) = false := by
          cases hh : isFn (O i)
          · rfl
          · rw [st.fn i hi hh] at hl; cases hl
        obtain ⟨cal, cargs, cats⟩ := c
        cases cal with
        | value f =>
          cases f with
          | func f => simp [isFn, hx] at hf
          | _ => exact stp
        | _ => exact stp
      · exact stp
    have hy := r.yld i hi (fun v _ => v = V i) rfl
    unfold opStep at hy ⊢
    unfold gOf at hs
    cases hg : (O i).guard with
    | none => rw [hg] at hs; exact run hs
    | some p =>
      obtain ⟨j, want⟩ := p
      rw [hg] at hs
      simp only [hg] at hs hy ⊢
      cases hb : guardOn (G i) (slotOf ops j) want with
      | true => rw [hb] at hs; exact run hs
      | false =>
        rw [hb] at hy
        have : undef = V i := hy
        show K undef (W k)
        rw [this]; exact hK
  have moved : isMove (O i) = true → OpYld P ops (G i) (O i) (W k) (V i) (W k) := by
    intro hm K hK
    have hy := r.yld i hi (fun v _ => v = V i) rfl
    unfold opStep at hy ⊢
    have mv : ∀ (K' : Value → World → Prop) w, opRun P (G i) (O i) w K' ↔ ∃ x, ((O i).op = .move x ∨ (O i).op = .assign x) ∧ K' (ev (G i) x) w := by
      intro K' w
      unfold opRun
      unfold isMove at hm
      split
      · rename_i x hx; constructor
        · intro h; exact ⟨x, .inl hx, h⟩
        · rintro ⟨y, h | h, h'⟩
          · rw [hx] at h; cases h; exact h'
          · rw [hx] at h; cases h
      · rename_i x hx; constructor
        · intro h; exact ⟨x, .inr hx, h⟩
        · rintro ⟨y, h | h, h'⟩
          · rw [hx] at h; cases h
          · rw [hx] at h; cases h; exact h'
      · rename_i c hx; simp [hx] at hm
      · rename_i h1 h2 _; split at hm
        · rename_i x hx; exact absurd hx (h1 x)
        · rename_i x hx; exact absurd hx (h2 x)
        · cases hm
    cases hg : (O i).guard with
    | none =>
      rw [hg] at hy
      simp only at hy ⊢
      rw [mv] at hy ⊢
      obtain ⟨x, hx, h⟩ := hy
      exact ⟨x, hx, h ▸ hK⟩
    | some p =>
      obtain ⟨j, want⟩ := p
      simp only [hg] at hy ⊢
      unfold Gd at *
      cases hb : guardOn (G i) (slotOf ops j) want with
      | true =>
        simp only [hb] at hy ⊢
        rw [mv] at hy ⊢
        obtain ⟨x, hx, h⟩ := hy
        exact ⟨x, hx, h ▸ hK⟩
      | false =>
        simp only [hb] at hy ⊢
        rwa [hy]
  rcases Nat.le_total k i with hki | hki
  · by_cases hx : ∃ h, k ≤ h ∧ h < i ∧ mem1 h an.1 = true
    · obtain ⟨h, h1, h2, h3, h4⟩ := least_heavy hx
      have e : W h = W k := r.still' h1 (by omega) h4
      have p := st.pair h i h2 hi
      unfold pairOk at p
      simp only [Bool.or_eq_true, Bool.and_eq_true, Bool.not_eq_true'] at p
      rcases p with p | p
      · have := hbi h (by omega) p
        have := (hS h (by omega) h3).1 this
        omega
      · have p2 := p.2
        rw [h3, hl] at p2
        simp only [Bool.or_eq_true] at p2
        cases hmv : isMove (O i) with
        | true => exact moved hmv
        | false =>
          rcases p2 with p2 | p2
          · rw [hmv] at p2; cases p2
          · refine same ?_ hmv
            have c := r.chk h i h2 hi p2
            unfold chkAt chkOne recOf at c
            simp only [h3] at c
            rw [← e]; exact c
    · have e : W i = W k := r.still' hki (by omega) (fun h a b => by
        cases hm : mem1 h an.1
        · rfl
        · exact absurd ⟨h, a, b, hm⟩ hx)
      have hy := r.yld i hi
      rw [r.light i hi hl, e] at hy
      exact hy
  · by_cases hx : ∃ h, i ≤ h ∧ h < k ∧ mem1 h an.1 = true
    · obtain ⟨h, h1, h2, h3, h4⟩ := greatest_heavy hx
      have hne : h ≠ i := fun e => by rw [e, hl] at h3; cases h3
      have e : W k = W (h + 1) := r.still' (by omega) hk (fun h' a b => h4 h' (by omega) b)
      have p := st.pair i h (by omega) (by omega)
      unfold pairOk at p
      simp only [Bool.or_eq_true, Bool.and_eq_true, Bool.not_eq_true'] at p
      rcases p with p | p
      · exact absurd (hdown i h (by omega) (by omega) ((hS h (by omega) h3).2 h2) p) hni
      · have p2 := p.2
        rw [h3, hl] at p2
        simp only [Bool.or_eq_true] at p2
        cases hmv : isMove (O i) with
        | true => exact moved hmv
        | false =>
          rcases p2 with p2 | p2
          · rw [hmv] at p2; cases p2
          · refine same ?_ hmv
            have c := r.chk i h (by omega) (by omega) p2
            unfold chkAt chkOne recOf at c
            simp only [hl] at c
            rw [e]; exact c
    · have e : W k = W i := r.still' hki hk (fun h a b => by
        cases hm : mem1 h an.1
        · rfl
        · exact absurd ⟨h, a, b, hm⟩ hx)
      have hy := r.yld i hi
      rw [r.light i hi hl, ← e] at hy
      exact hy

def Listed (listed : Array Bool) (i : Nat) : Prop := listed.getD i false = true

theorem draw_any {N n : Nat} (hn : n = ops.size) (hd : AllDst N ops) (hca : AllCall P ops) {b : Array Nat} (r : Run P ops an g0 w0 n O G W V) (st : Static ops an O b)
    {Q : Exit → Act → World → Prop} (hQ : ∀ a, Rel N (G n) a → Q .normal a (W n)) :
    ∀ (fuel : Nat) (listed : Array Bool) (g : Env) (a : Act) (k : Nat), listed.size = n → Rel N g a → k ≤ n →
      (∀ j, j < n → Listed listed j → ∀ e ∈ (O j).after, Region.binds .any e = true → Listed listed e.on) →
      EnvFor n O V g0 (Listed listed) g → (∀ h, h < n → mem1 h an.1 = true → (Listed listed h ↔ h < k)) →
      ((List.range n).filter fun i => !listed.getD i false).length ≤ fuel →
      wpAny P .any ops Q fuel listed a (W k) := by
  subst hn
  have ready_iff : ∀ (listed : Array Bool), listed.size = ops.size → ∀ i, i ∈ Region.ready .any ops listed ↔ (i < ops.size ∧ ¬ Listed listed i ∧ ∀ e ∈ (O i).after, Region.binds .any e = true → Listed listed e.on) := by
    intro listed hsz i
    unfold Region.ready Listed
    rw [List.mem_filter, List.mem_range]
    constructor
    · rintro ⟨h1, h2⟩
      rw [r.op i h1] at h2
      simp only [Bool.and_eq_true, Option.map_some, Option.getD_some] at h2
      refine ⟨h1, ?_, fun e he hb => ?_⟩
      · have := h2.1
        rw [Array.getD_eq_getD_getElem?] at this ⊢
        rw [Array.getElem?_eq_getElem (by omega)] at this ⊢
        simpa using this
      · have := Array.all_eq_true'.1 h2.2 e he
        simpa [hb] using this
    · rintro ⟨h1, h2, h3⟩
      refine ⟨h1, ?_⟩
      rw [r.op i h1]
      simp only [Bool.and_eq_true, Option.map_some, Option.getD_some]
      refine ⟨?_, Array.all_eq_true'.2 fun e he => ?_⟩
      · rw [Array.getD_eq_getD_getElem?] at h2 ⊢
        rw [Array.getElem?_eq_getElem (by omega)] at h2 ⊢
        simpa using h2
      · by_cases hb : Region.binds .any e = true
        · simp [hb, h3 e he hb]
        · simp [hb]
  have none_ready : ∀ (listed : Array Bool), listed.size = ops.size → Region.ready .any ops listed = [] → ∀ i, i < ops.size → Listed listed i := by
    intro listed hsz hr i
    induction i using Nat.strongRecOn with
    | _ i ih =>
      intro hi
      refine Classical.byContradiction fun hl => ?_
      have : i ∈ Region.ready .any ops listed := (ready_iff listed hsz i).2 ⟨hi, hl, fun e he hb => by
        have := st.back i hi e he hb
        exact ih e.on this (by omega)⟩
      rw [hr] at this; cases this
  have all_done : ∀ (listed : Array Bool) (g : Env) (a : Act) (k : Nat), Rel N g a → k ≤ ops.size → EnvFor ops.size O V g0 (Listed listed) g →
      (∀ h, h < ops.size → mem1 h an.1 = true → (Listed listed h ↔ h < k)) → (∀ i, i < ops.size → Listed listed i) → Q .normal a (W k) := by
    intro listed g a k hr hk he hh hall
    have e : W ops.size = W k := r.still' hk (Nat.le_refl _) (fun h h1 h2 => by
      cases hm : mem1 h an.1
      · rfl
      · have := (hh h h2 hm).1 (hall h h2); omega)
    have eg : g = G ops.size := funext fun s => he.agree (r.envFor ops.size (Nat.le_refl _)) s (fun j hj _ => ⟨fun _ => hj, fun _ => hall j hj⟩)
    rw [← e]; exact hQ a (eg ▸ hr)
  intro fuel
  induction fuel with
  | zero =>
    intro listed g a k hsz hr hk hdep henv hh hc
    have hall : ∀ i, i < ops.size → Listed listed i := by
      intro i hi
      have hnil : ((List.range ops.size).filter fun i => !listed.getD i false) = [] := List.length_eq_zero_iff.1 (by omega)
      have := List.filter_eq_nil_iff.1 hnil i (List.mem_range.2 hi)
      unfold Listed; simpa using this
    refine ⟨?_, all_done listed g a k hr hk henv hh hall⟩
    rw [List.eq_nil_iff_forall_not_mem]
    intro i hi
    have := (ready_iff listed hsz i).1 hi
    exact this.2.1 (hall i this.1)
  | succ fuel ih =>
    intro listed g a k hsz hr hk hdep henv hh hc
    refine ⟨fun hn => all_done listed g a k hr hk henv hh (none_ready listed hsz hn), fun i hi => ?_⟩
    obtain ⟨h1, h2, h3⟩ := (ready_iff listed hsz i).1 hi
    have hdown : ∀ k j, j < ops.size → k < ops.size → Listed listed k → bef b j k = true → Listed listed j := by
      intro k
      induction k using Nat.strongRecOn with
      | _ k ihk =>
        intro j hj hk hl hb
        obtain ⟨e, he, hbi, h⟩ := st.closed j k hj hk hb
        have hle := hdep k hk hl e he hbi
        rcases h with h | h
        · exact h ▸ hle
        · have hlt := st.back k hk e he hbi
          exact ihk e.on hlt j hj (by omega) hle h
    have hbi : ∀ j, j < ops.size → bef b j i = true → Listed listed j := by
      intro j hj hb
      obtain ⟨e, he, hbi, h⟩ := st.closed j i hj h1 hb
      have hle := h3 e he hbi
      rcases h with h | h
      · exact h ▸ hle
      · have hlt := st.back i h1 e he hbi
        exact hdown e.on j hj (by omega) hle h
    have hdown' : ∀ j k, j < ops.size → k < ops.size → Listed listed k → bef b j k = true → Listed listed j := fun j k => hdown k j
    have hlooks : ∀ s ∈ looks ops (O i), (G i) s = g s := fun s hs =>
      (r.envFor i (by omega)).agree henv s (fun j hj hd => by
        by_cases hji : j = i
        · subst hji
          exact ⟨fun h => absurd h (by omega), fun h => absurd h h2⟩
        · exact (st.order h1 hdown' hbi h2 (.inl hs) hj hji hd).symm)
    have hl' : ∀ j, Listed (listed.setIfInBounds i true) j ↔ (Listed listed j ∨ j = i) := by
      intro j
      unfold Listed
      rw [Array.getD_eq_getD_getElem?, Array.getD_eq_getD_getElem?]
      by_cases hji : j = i
      · subst hji
        rw [Array.getElem?_setIfInBounds_self_of_lt (by omega)]
        simp
      · rw [Array.getElem?_setIfInBounds_ne (fun e => hji e.symm)]
        simp [hji]
    have next : ∀ k', k' ≤ ops.size → (∀ h, h < ops.size → mem1 h an.1 = true → ((Listed listed h ∨ h = i) ↔ h < k')) → OpYld P ops g (O i) (W k) (V i) (W k') →
        wpOp P ops Q i (wpAny P .any ops Q fuel (listed.setIfInBounds i true)) a (W k) := by
      intro k' hk' hh' hy
      refine wpOp_of_yld (r.op i h1) (hca i _ (r.op i h1)) hr hy ?_
      refine ih _ (put g (O i).dst (V i)) _ k' (by simp [hsz]) (hr.put _ _ (hd i _ (r.op i h1))) hk' ?_ ?_ ?_ ?_
      · intro j hj hlj e he hb
        rw [hl'] at hlj ⊢
        rcases hlj with hlj | rfl
        · exact .inl (hdep j hj hlj e he hb)
        · exact .inl (h3 e he hb)
      · have := henv.step i h1 (fun s hs j hj hji hd hlj => (st.order h1 hdown' hbi h2 (.inr hs) hj hji hd).1 hlj)
        intro s
        rcases this s with ⟨j, j1, j2, j3, j4, j5⟩ | ⟨j1, j2⟩
        · exact .inl ⟨j, j1, (hl' j).2 j2, j3, fun k k1 k2 k3 => j4 k k1 ((hl' k).1 k2) k3, j5⟩
        · exact .inr ⟨fun j a b => j1 j a ((hl' j).1 b), j2⟩
      · intro h a b; rw [hl']; exact hh' h a b
      · have hin : i ∈ (List.range ops.size).filter fun i => !listed.getD i false :=
          List.mem_filter.2 ⟨List.mem_range.2 h1, by unfold Listed at h2; simpa using h2⟩
        have e1 : ((List.range ops.size).filter fun j => !(listed.setIfInBounds i true).getD j false) = ((List.range ops.size).filter fun j => !listed.getD j false).filter fun j => j != i := by
          rw [List.filter_filter]
          refine List.filter_congr fun j _ => ?_
          have := hl' j
          unfold Listed at this
          by_cases hji : j = i
          · have hh : (listed.setIfInBounds i true).getD j false = true := this.2 (.inr hji)
            rw [hh, hji]; simp
          · have hne : (j != i) = true := by simpa using hji
            rw [hne, Bool.true_and]
            cases ha : listed.getD j false with
            | true => rw [this.2 (.inl ha)]
            | false =>
              cases hb : (listed.setIfInBounds i true).getD j false with
              | false => rfl
              | true => rcases this.1 hb with h | h
                        · rw [ha] at h; cases h
                        · exact absurd h hji
        have hnd : ((List.range ops.size).filter fun j => !listed.getD j false).Nodup := List.nodup_range.filter _
        rw [e1, ← List.Nodup.erase_eq_filter hnd, List.length_erase_of_mem hin]
        omega
    cases hm : mem1 i an.1 with
    | true =>
      have hS : ∀ h, h < ops.size → mem1 h an.1 = true → (Listed listed h ↔ h < i) := by
        intro h hh1 hhm
        rcases Nat.lt_trichotomy h i with hlt | heq | hgt
        · refine ⟨fun _ => hlt, fun _ => ?_⟩
          have p := st.pair h i hlt h1
          unfold pairOk at p
          rw [hhm, hm] at p
          simp only [Bool.or_eq_true, Bool.and_eq_true, Bool.false_eq_true, and_false, or_false] at p
          exact hbi h hh1 p
        · subst heq; exact ⟨fun hh => absurd hh h2, fun hh => absurd hh (by omega)⟩
        · refine ⟨fun hl => ?_, fun hh => absurd hh (by omega)⟩
          have p := st.pair i h hgt hh1
          unfold pairOk at p
          rw [hhm, hm] at p
          simp only [Bool.or_eq_true, Bool.and_eq_true, Bool.false_eq_true, and_false, or_false] at p
          exact absurd (hdown h i h1 hh1 hl p) h2
      have eW : W k = W i := by
        rcases Nat.le_total k i with hki | hki
        · exact (r.still' hki (by omega) (fun h a b => by
            cases hx : mem1 h an.1
            · rfl
            · have := (hh h (by omega) hx).1 ((hS h (by omega) hx).2 b); omega)).symm
        · exact r.still' hki hk (fun h a b => by
            cases hx : mem1 h an.1
            · rfl
            · have := (hS h (by omega) hx).1 ((hh h (by omega) hx).2 b); omega)
      refine next (i + 1) (by omega) (fun h a b => ?_) ?_
      · rw [hS h a b]; omega
      · rw [eW]
        intro K hK
        exact opStep_congr (ops := ops) (st.sel i h1) hlooks (r.yld i h1 K hK)
    | false =>
      refine next k hk (fun h a b => ?_) ?_
      · rw [← hh h a b]
        constructor
        · rintro (h' | rfl)
          · exact h'
          · rw [hm] at b; cases b
        · exact .inl
      · intro K hK
        exact opStep_congr (ops := ops) (st.sel i h1) hlooks (light_early rfl r st h1 hk hdown' hbi h2 hh hm K hK)

end
end Go.En

/- The engine is sound: whole bodies. -/
import Derived.Test.YtoepfjgekpdddaaEnOrd
namespace Go.En
open Go

section
variable {P : Program} {ann : FA}

/- WHAT A BODY COMES TO IS ONE END; it turns no slot but those that it names. -/
def dstsOps : List Oper → List Nat
  | [] => []
  | o :: r => match o.dst with | some d => d :: dstsOps r | none => dstsOps r
def dsts : Code → List Nat
  | .region _ ops _ => dstsOps ops.toList
  | .seq x y => dsts x ++ dsts y
  | .cond _ x y => dsts x ++ dsts y
  | .block _ c => dsts c
  | .scope c => dsts c
  | .loop c => dsts c
  | _ => []

def Agree (l : List Nat) (g g' : Env) : Prop := ∀ s, s ∉ l → g' s = g s
theorem Agree.refl (l : List Nat) (g : Env) : Agree l g g := fun _ _ => rfl
theorem Agree.trans {l l1 l2 : List Nat} {a b c : Env} (h : Agree l1 a b) (k : Agree l2 b c) (h1 : ∀ s, s ∈ l1 → s ∈ l) (h2 : ∀ s, s ∈ l2 → s ∈ l) : Agree l a c :=
  fun s hs => (k s fun h => hs (h2 s h)).trans (h s fun h => hs (h1 s h))
theorem Agree.mono {l l1 : List Nat} {a b : Env} (h : Agree l1 a b) (h1 : ∀ s, s ∈ l1 → s ∈ l) : Agree l a b := fun s hs => h s fun hh => hs (h1 s hh)
theorem Agree.put {l : List Nat} {a : Env} (d : Option Tmp) (v : Value) (h : ∀ t, d = some t → t ∈ l) : Agree l a (put a d v) := by
  intro s hs
  cases d with
  | none => rfl
  | some t =>
    rw [put_some, if_neg (fun e => hs (by rw [e]; exact h t rfl))]

theorem denOps_ext {ops : Array Oper} {K : Env → World → Prop} : ∀ (l : List Oper) (g : Env) (w : World), denOps P ops l g w K →
    ∃ g' w', K g' w' ∧ Agree (dstsOps l) g g' ∧ ∀ K' : Env → World → Prop, K' g' w' → denOps P ops l g w K' := by
  intro l
  induction l with
  | nil => intro g w h; exact ⟨g, w, h, Agree.refl _ _, fun _ h => h⟩
  | cons o l ih =>
    intro g w h
    obtain ⟨v, w1, hy, h1⟩ := opStep_ext h
    obtain ⟨g', w', hk, ha, hall⟩ := ih _ _ h1
    refine ⟨g', w', hk, ?_, fun K' hk' => hy _ (hall K' hk')⟩
    refine Agree.trans (Agree.put o.dst v (l := dstsOps (o :: l)) fun t ht => by simp [dstsOps, ht]) ha (fun _ h => h) (fun s hs => ?_)
    unfold dstsOps
    split
    · exact List.mem_cons_of_mem _ hs
    · exact hs

theorem denDraw_ext {ops : Array Oper} {K : Env → World → Prop} : ∀ (l : List Oper) (pl : Plan) (hist : List Rec) (g : Env) (w : World), denDraw P ops l pl hist g w K →
    ∃ g' w', K g' w' ∧ Agree (dstsOps l) g g' ∧ ∀ K' : Env → World → Prop, K' g' w' → denDraw P ops l pl hist g w K' := by
  intro l
  induction l with
  | nil => intro pl hist g w h; unfold denDraw at h; exact ⟨g, w, h, Agree.refl _ _, fun _ h => (by unfold denDraw; exact h)⟩
  | cons o l ih =>
    intro pl hist g w h
    cases pl with
    | nil => exact h.elim
    | cons p pl =>
      obtain ⟨hv, ks⟩ := p
      obtain ⟨v, w1, hy, h1⟩ := opStep_ext h
      have tail : ∀ (w2 : World) (hist' : List Rec), denDraw P ops l pl hist' (put g o.dst v) w2 K →
          ∃ g' w', K g' w' ∧ Agree (dstsOps (o :: l)) g g' ∧ ∀ K' : Env → World → Prop, K' g' w' → denDraw P ops l pl hist' (put g o.dst v) w2 K' := by
        intro w2 hist' c2
        obtain ⟨g', w', hk, ha, hall⟩ := ih _ _ _ _ c2
        refine ⟨g', w', hk, ?_, hall⟩
        refine Agree.trans (Agree.put o.dst v (l := dstsOps (o :: l)) fun t ht => by simp [dstsOps, ht]) ha (fun _ h => h) (fun s hs => ?_)
        unfold dstsOps
        split
        · exact List.mem_cons_of_mem _ hs
        · exact hs
      cases hv with
      | true =>
        cases ks with
        | nil =>
          obtain ⟨g', w', hk, ha, hall⟩ := tail w1 _ h1
          exact ⟨g', w', hk, ha, fun K' hk' => hy _ (hall K' hk')⟩
        | cons k ks =>
          obtain ⟨hc, h1⟩ := h1
          obtain ⟨g', w', hk, ha, hall⟩ := tail w1 _ h1
          exact ⟨g', w', hk, ha, fun K' hk' => hy _ ⟨hc, hall K' hk'⟩⟩
      | false =>
        cases ks with
        | nil =>
          obtain ⟨rfl, h1⟩ := h1
          obtain ⟨g', w', hk, ha, hall⟩ := tail w1 _ h1
          exact ⟨g', w', hk, ha, fun K' hk' => hy _ ⟨rfl, hall K' hk'⟩⟩
        | cons k ks =>
          obtain ⟨rfl, hc, h1⟩ := h1
          obtain ⟨g', w', hk, ha, hall⟩ := tail w1 _ h1
          exact ⟨g', w', hk, ha, fun K' hk' => hy _ ⟨rfl, hc, hall K' hk'⟩⟩

theorem dsts_permOp (π : List Nat) (es : List (Nat × Nat)) (i : Nat) (o : Oper) : (permOp π es i o).dst = o.dst := rfl
theorem dstsOps_mem {l : List Oper} {s : Nat} : s ∈ dstsOps l ↔ ∃ o ∈ l, o.dst = some s := by
  induction l with
  | nil => simp [dstsOps]
  | cons o l ih =>
    unfold dstsOps
    cases hd : o.dst with
    | none => simp [ih, hd]
    | some d => simp [ih, hd, eq_comm]
theorem dsts_permL {π : List Nat} {es : List (Nat × Nat)} {l : List Oper} {s : Nat} : ∀ (r : List Nat), s ∈ dstsOps (permL π es l r) → s ∈ dstsOps l := by
  intro r
  induction r with
  | nil => intro h; simp [permL, dstsOps] at h
  | cons i r ih =>
    intro h
    simp only [permL] at h
    cases ho : l[i]? with
    | none => rw [ho] at h; exact ih h
    | some o =>
      rw [ho] at h
      obtain ⟨o', h1, h2⟩ := dstsOps_mem.1 h
      rcases List.mem_cons.1 h1 with rfl | h1
      · exact dstsOps_mem.2 ⟨o, List.mem_of_getElem? ho, h2⟩
      · exact ih (dstsOps_mem.2 ⟨o', h1, h2⟩)

theorem denT_ext {f : FuncId} {id : Nat} {ops : Array Oper} {K : Env → World → Prop} {g : Env} {w0 : World} : ∀ (T : HT) (w : World), denT P f id ops T g w0 w K →
    ∃ g' w', K g' w' ∧ Agree (dstsOps ops.toList) g g' ∧ ∀ K' : Env → World → Prop, K' g' w' → denT P f id ops T g w0 w K' := by
  intro T
  induction T with
  | leaf an pl => intro w h; exact denDraw_ext _ _ _ _ _ h
  | perm π es an pl =>
    intro w h
    obtain ⟨g', w', a, b, c⟩ := denDraw_ext _ _ _ _ _ h
    exact ⟨g', w', a, b.mono (fun s hs => dsts_permL π (by simpa [permOps] using hs)), c⟩
  | split x y A B ihA ihB =>
    intro w h
    simp only [denT, Ord] at h ⊢
    cases hb : ordB f id ops x y w0 with
    | true => rw [hb] at h; exact ihA w h
    | false => rw [hb] at h; exact ihB w h

theorem LoopD.head {α : Type} {F : (α → World → Prop) → α → World → Prop} (hmono : ∀ X Y g w, (∀ g w, X g w → Y g w) → F X g w → F Y g w)
    {g : α} {w : World} (h : F (fun g' w' => LoopD F g' w') g w) (hdet : ∃ g' w', LoopD F g' w' ∧ ∀ X : α → World → Prop, X g' w' → F X g w) : LoopD F g w := by
  obtain ⟨g1, w1, ⟨I, ⟨n1, h1⟩, hI⟩, hF⟩ := hdet
  refine ⟨fun n g' w' => I n g' w' ∨ (n = n1 + 1 ∧ g' = g ∧ w' = w), ⟨n1 + 1, .inr ⟨rfl, rfl, rfl⟩⟩, ?_⟩
  rintro n g' w' (h | ⟨rfl, rfl, rfl⟩)
  · exact hmono _ _ _ _ (fun _ _ ⟨m, hm, hh⟩ => ⟨m, hm, .inl hh⟩) (hI _ _ _ h)
  · exact hF _ ⟨n1, by omega, .inl h1⟩

theorem den_ext : ∀ (c : Code) (Q : Exit → Env → World → Prop) (g : Env) (w : World), den P ann c Q g w →
    ∃ e g' w', Q e g' w' ∧ Agree (dsts c) g g' ∧ ∀ Q' : Exit → Env → World → Prop, Q' e g' w' → den P ann c Q' g w := by
  intro c
  induction c with
  | skip => intro Q g w h; exact ⟨_, _, _, h, Agree.refl _ _, fun _ h => h⟩
  | region id ops draw =>
    intro Q g w h
    cases draw with
    | false =>
      obtain ⟨g', w', a, b, c⟩ := denOps_ext _ _ _ h
      exact ⟨.normal, g', w', a, b, fun Q' h => c _ h⟩
    | true =>
      obtain ⟨g', w', a, b, c⟩ := denT_ext _ _ h
      exact ⟨.normal, g', w', a, b, fun Q' h => c _ h⟩
  | seq x y ihx ihy =>
    intro Q g w h
    obtain ⟨e, g1, w1, a, b, c⟩ := ihx _ _ _ h
    cases e with
    | normal =>
      obtain ⟨e2, g2, w2, a2, b2, c2⟩ := ihy _ _ _ a
      exact ⟨e2, g2, w2, a2, b.trans b2 (fun s h => List.mem_append_left _ h) (fun s h => List.mem_append_right _ h), fun Q' h => c _ (c2 _ h)⟩
    | _ => exact ⟨_, g1, w1, a, b.mono (fun s h => List.mem_append_left _ h), fun Q' h => c _ h⟩
  | cond c x y ihx ihy =>
    intro Q g w h
    simp only [den] at h ⊢
    unfold Cnd at h ⊢
    cases hc : ev g c with
    | bool b =>
      rw [hc] at h
      cases b with
      | true =>
        obtain ⟨e, g', w', a, b, c⟩ := ihx _ _ _ h
        exact ⟨e, g', w', a, b.mono (fun s h => List.mem_append_left _ h), c⟩
      | false =>
        obtain ⟨e, g', w', a, b, c⟩ := ihy _ _ _ h
        exact ⟨e, g', w', a, b.mono (fun s h => List.mem_append_right _ h), c⟩
    | _ => rw [hc] at h; exact h.elim
  | block id c ih =>
    intro Q g w h
    obtain ⟨e, g', w', a, b, c⟩ := ih _ _ _ h
    cases e with
    | exit i =>
      simp only [blk] at a
      cases hb : Nat.beq i id with
      | true =>
        simp only [hb] at a
        refine ⟨.normal, g', w', a, b, fun Q' h => c _ ?_⟩
        simp only [blk, hb]; exact h
      | false =>
        simp only [hb] at a
        refine ⟨.exit i, g', w', a, b, fun Q' h => c _ ?_⟩
        simp only [blk, hb]; exact h
    | _ => exact ⟨_, g', w', a, b, fun Q' h => c _ h⟩
  | loop c ih =>
    intro Q g w h
    have hmono : ∀ (Q : Exit → Env → World → Prop) (X Y : Env → World → Prop) g w, (∀ g w, X g w → Y g w) → den P ann c (thenE X Q) g w → den P ann c (thenE Y Q) g w := by
      intro Q X Y g w hxy h
      obtain ⟨e, g', w', a, _, k⟩ := ih _ _ _ h
      refine k _ ?_
      cases e with
      | normal => exact hxy _ _ a
      | _ => exact a
    obtain ⟨I, ⟨n, h0⟩, hI⟩ := h
    have key : ∀ n g w, I n g w → ∃ e g' w', Q e g' w' ∧ Agree (dsts c) g g' ∧ ∀ Q' : Exit → Env → World → Prop, Q' e g' w' → LoopD (fun X g w => den P ann c (thenE X Q') g w) g w := by
      intro n
      induction n using Nat.strongRecOn with
      | _ n ih2 =>
        intro g w hg
        obtain ⟨e, g1, w1, a, b, k⟩ := ih _ _ _ (hI n g w hg)
        have once : ∀ (Q' : Exit → Env → World → Prop), (∀ X : Env → World → Prop, den P ann c (thenE X Q') g w) → LoopD (fun X g w => den P ann c (thenE X Q') g w) g w := by
          intro Q' h
          refine ⟨fun n g' w' => g' = g ∧ w' = w, ⟨0, rfl, rfl⟩, ?_⟩
          rintro _ g' w' ⟨rfl, rfl⟩
          exact h _
        cases e with
        | normal =>
          obtain ⟨m, hm, hIm⟩ := a
          obtain ⟨e2, g2, w2, a2, b2, k2⟩ := ih2 m hm g1 w1 hIm
          refine ⟨e2, g2, w2, a2, b.trans b2 (fun _ h => h) (fun _ h => h), fun Q' h => ?_⟩
          have hl := k2 Q' h
          exact LoopD.head (hmono Q') (k _ hl) ⟨g1, w1, hl, fun X hx => k _ hx⟩
        | _ => exact ⟨_, g1, w1, a, b, fun Q' h => once Q' fun X => k _ h⟩
    exact key n g w h0
  | exit id => intro Q g w h; exact ⟨_, _, _, h, Agree.refl _ _, fun _ h => h⟩
  | label l => intro Q g w h; exact ⟨_, _, _, h, Agree.refl _ _, fun _ h => h⟩
  | scope c ih => intro Q g w h; exact ih Q g w h
  | ret => intro Q g w h; exact ⟨_, _, _, h, Agree.refl _ _, fun _ h => h⟩
  | _ => intro Q g w h; exact h.elim

theorem den_mono {c : Code} {Q Q' : Exit → Env → World → Prop} {g : Env} {w : World} (h : den P ann c Q g w)
    (hq : ∀ e g' w', Agree (dsts c) g g' → Q e g' w' → Q' e g' w') : den P ann c Q' g w :=
  let ⟨_, _, _, a, b, k⟩ := den_ext c Q g w h
  k _ (hq _ _ _ b a)

def noG (Q : Exit → Env → World → Prop) : Exit → Env → World → Prop
  | .goto _, _, _ => False
  | e, g, w => Q e g w

theorem den_nogoto : ∀ (c : Code) (Q : Exit → Env → World → Prop) (g : Env) (w : World), den P ann c Q g w → den P ann c (noG Q) g w := by
  intro c
  induction c with
  | skip => intro Q g w h; exact h
  | region id ops draw => intro Q g w h; cases draw <;> exact h
  | seq x y ihx ihy =>
    intro Q g w h
    show den P ann x (thenE (fun g w => den P ann y (noG Q) g w) (noG Q)) g w
    refine den_mono (ihx _ _ _ h) (fun e g' w' _ hq => ?_)
    cases e with
    | normal => exact ihy _ _ _ hq
    | goto l => exact hq.elim
    | _ => exact hq
  | cond c x y ihx ihy =>
    intro Q g w h
    simp only [den] at h ⊢
    unfold Cnd at h ⊢
    cases hc : ev g c with
    | bool b =>
      rw [hc] at h
      cases b with
      | true => exact ihx _ _ _ h
      | false => exact ihy _ _ _ h
    | _ => rw [hc] at h; exact h.elim
  | block id c ih =>
    intro Q g w h
    show den P ann c (blk id (noG Q)) g w
    refine den_mono (ih _ _ _ h) (fun e g' w' _ hq => ?_)
    cases e with
    | exit i =>
      simp only [noG, blk] at hq ⊢
      cases hb : Nat.beq i id with
      | true => rw [hb] at hq; exact hq
      | false => rw [hb] at hq; exact hq
    | goto l => exact hq.elim
    | _ => exact hq
  | loop c ih =>
    intro Q g w h
    obtain ⟨I, h0, hI⟩ := h
    refine ⟨I, h0, fun n g w hi => ?_⟩
    refine den_mono (ih _ _ _ (hI n g w hi)) (fun e g' w' _ hq => ?_)
    cases e with
    | normal => exact hq
    | goto l => exact hq.elim
    | _ => exact hq
  | exit id => intro Q g w h; exact h
  | label l => intro Q g w h; exact h
  | scope c ih => intro Q g w h; exact ih Q g w h
  | ret => intro Q g w h; exact h
  | _ => intro Q g w h; exact h.elim

theorem den_sound {N : Nat} (hm : P.follows .mixedOrders = true) : ∀ (c : Code), codeOk P N ann c = true →
    ∀ (Q : Exit → Env → World → Prop) (QA : Exit → Act → World → Prop) (g : Env) (a : Act) (w : World), Rel N g a →
      (∀ e g a w, Rel N g a → Q e g w → QA e a w) → den P ann c Q g w → wpF P ann.f c QA a w := by
  intro c
  induction c with
  | skip => intro _ Q QA g a w hr hq h; exact wpF_of (wp_skip (hq _ _ _ _ hr h))
  | region id ops draw =>
    intro hok Q QA g a w hr hq h
    simp only [codeOk, Bool.and_eq_true, Bool.or_eq_true, Bool.not_eq_true'] at hok
    have hd := allDst_of hok.1.1
    have hca := allCall_of hok.1.2
    cases draw with
    | false =>
      refine wpF_of (wp_region ?_)
      have := ops_sound hd hca (P := P) (Q := QA) (K := Q .normal) (fun g a w => hq .normal g a w) ops.toList 0 g a w (fun j => by simp) hr h
      rw [List.range_eq_range']
      simpa using this
    | true =>
      rcases hok.2 with h1 | h1
      · cases h1
      · exact wpF_region_draw hm (tree_sound hd hca (fun g a w => hq .normal g a w) hr _ [] h1 (by simp) h)
  | seq x y ihx ihy =>
    intro hok Q QA g a w hr hq h
    simp only [codeOk, Bool.and_eq_true] at hok
    refine wpF_seq (ihx hok.1 _ _ g a w hr (fun e g a w hr h => ?_) h)
    cases e with
    | normal => exact ihy hok.2 _ _ g a w hr hq h
    | _ => exact hq _ _ _ _ hr h
  | cond c x y ihx ihy =>
    intro hok Q QA g a w hr hq h
    simp only [codeOk, Bool.and_eq_true] at hok
    simp only [den] at h
    unfold Cnd at h
    have he := hr.ev c
    cases hc : ev g c with
    | bool b =>
      rw [hc] at h he
      refine wpF_cond he ?_
      cases b with
      | true => exact ihx hok.1 _ _ g a w hr hq h
      | false => exact ihy hok.2 _ _ g a w hr hq h
    | _ => rw [hc] at h; exact h.elim
  | block id c ih =>
    intro hok Q QA g a w hr hq h
    refine wpF_block (ih hok _ _ g a w hr (fun e g a w hr h => ?_) h)
    cases e with
    | exit i =>
      unfold Exit.inBlock
      simp only [blk] at h
      by_cases hi : i = id
      · subst hi
        simp only [if_true]
        simp only [Nat.beq_refl] at h
        exact hq _ _ _ _ hr h
      · simp only [hi, if_false]
        have : Nat.beq i id = false := by
          cases hb : Nat.beq i id
          · rfl
          · exact absurd (Nat.eq_of_beq_eq_true hb) hi
        simp only [this] at h
        exact hq _ _ _ _ hr h
    | _ => exact hq _ _ _ _ hr h
  | loop c ih =>
    intro hok Q QA g a w hr hq h
    obtain ⟨I, h0, hround⟩ := h
    have hex : ∀ a w, (∃ n g, Rel N g a ∧ I n g w) → ∃ n, (∃ g, Rel N g a ∧ I n g w) ∧ ∀ m, (∃ g, Rel N g a ∧ I m g w) → n ≤ m := by
      rintro a w ⟨n, hn⟩
      induction n using Nat.strongRecOn with
      | _ n ih2 =>
        by_cases hx : ∃ m, m < n ∧ ∃ g, Rel N g a ∧ I m g w
        · obtain ⟨m, hm, h⟩ := hx; exact ih2 m hm h
        · exact ⟨n, hn, fun m hm => Nat.le_of_not_lt fun hlt => hx ⟨m, hlt, hm⟩⟩
    have hdec : ∀ a w, Decidable (∃ n g, Rel N g a ∧ I n g w) := fun a w => Classical.propDecidable _
    let μ : Act → World → Nat := fun a w => if hh : ∃ n g, Rel N g a ∧ I n g w then Classical.choose (hex a w hh) else 0
    have hμ : ∀ a w n g, Rel N g a → I n g w → μ a w ≤ n ∧ ∃ g, Rel N g a ∧ I (μ a w) g w := by
      intro a w n g hr hI
      have hh : ∃ n g, Rel N g a ∧ I n g w := ⟨n, g, hr, hI⟩
      have e : μ a w = Classical.choose (hex a w hh) := dif_pos hh
      have s := Classical.choose_spec (hex a w hh)
      rw [e]
      exact ⟨s.2 n ⟨g, hr, hI⟩, s.1⟩
    obtain ⟨n0, h0⟩ := h0
    refine wpF_loop (fun a w => ∃ n g, Rel N g a ∧ I n g w) μ ⟨n0, g, hr, h0⟩ ?_
    rintro a w ⟨n, g, hr, hI⟩
    obtain ⟨_, g', hr', hI'⟩ := hμ a w n g hr hI
    refine ih hok _ _ g' a w hr' (fun e g1 a1 w1 hr1 h => ?_) (hround _ _ _ hI')
    cases e with
    | normal =>
      obtain ⟨m, hm, hIm⟩ := h
      have := hμ a1 w1 m g1 hr1 hIm
      exact ⟨⟨m, g1, hr1, hIm⟩, by omega⟩
    | _ => exact hq _ _ _ _ hr1 h
  | label l => intro _ Q QA g a w hr hq h; exact wpF_of (wp_label (hq _ _ _ _ hr h))
  | scope c ih =>
    intro hok Q QA g a w hr hq h
    refine wpF_scope (ih hok (noG Q) _ g a w hr (fun e g a w hr h => ?_) (den_nogoto c _ g w h))
    cases e with
    | goto l => exact h.elim
    | _ => exact hq _ _ _ _ hr h
  | exit id => intro _ Q QA g a w hr hq h; exact wpF_of (wp_exit (hq _ _ _ _ hr h))
  | ret => intro _ Q QA g a w hr hq h; exact wpF_of (wp_ret (hq _ _ _ _ hr h))
  | _ => intro hok; simp [codeOk] at hok

/- RESULTS. -/
def resVals (P : Program) : List ResultVar → Env → World → (List Value → Prop) → Prop
  | [], _, _, K => K []
  | .tmp t :: r, g, w, K => resVals P r g w fun vs => K (g t :: vs)
  | .cell a t :: r, g, w, K => ∃ v, (do loadVar t (← asAddr (g a)) : Sem Value).run P w = .ok v w ∧ resVals P r g w fun vs => K (v :: vs)

def tup : List Value → Value
  | [v] => v
  | vs => .tuple vs.toArray

def retQ (P : Program) (rs : List ResultVar) (R : Value → World → Prop) : Exit → Env → World → Prop
  | .normal, g, w => resVals P rs g w fun vs => R (tup vs) w
  | .ret, g, w => resVals P rs g w fun vs => R (tup vs) w
  | _, _, _ => False

theorem resVals_run {N : Nat} {g : Env} {a : Act} {w : World} (hr : Rel N g a) : ∀ (rs : List ResultVar) (K : List Value → Prop), resVals P rs g w K →
    ∃ vs, K vs ∧ (rs.mapM fun | .tmp t => pure (a.tmps.getD t undef) | .cell b t => do loadVar t (← asAddr (a.tmps.getD b undef)) : Sem (List Value)).run P w = .ok vs w := by
  intro rs
  induction rs with
  | nil => intro K h; exact ⟨[], h, by simp⟩
  | cons r rs ih =>
    intro K h
    cases r with
    | tmp t =>
      obtain ⟨vs, h1, h2⟩ := ih _ h
      refine ⟨_, h1, ?_⟩
      rw [List.mapM_cons]
      rw [pure_bind, Sem.run_bind]
      simp only [h2, Result.andThen, Sem.run_pure, hr.2.2 t]
    | cell b t =>
      obtain ⟨v, hv, h⟩ := h
      obtain ⟨vs, h1, h2⟩ := ih _ h
      refine ⟨_, h1, ?_⟩
      rw [List.mapM_cons]
      rw [← hr.2.2 b] at hv
      rw [Sem.run_bind]
      simp only [hv, Result.andThen]
      rw [Sem.run_bind]
      simp only [h2, Result.andThen]
      rfl

theorem tup_of (vs : Array Value) : (if h : vs.size = 1 then vs[0] else Value.tuple vs) = tup vs.toList := by
  obtain ⟨l⟩ := vs
  match l with
  | [] => rfl
  | [v] => rfl
  | a :: b :: r => simp [tup]

theorem run_results {N : Nat} {g : Env} {a : Act} {w : World} (fn : Func) {rs : List ResultVar} (hrs : fn.results = rs.toArray) (hr : Rel N g a) {R : Value → World → Prop}
    (h : resVals P rs g w fun vs => R (tup vs) w) : ∃ v, (results fn a.tmps).run P w = .ok v w ∧ R v w := by
  obtain ⟨vs, h1, h2⟩ := resVals_run hr rs _ h
  refine ⟨tup vs, ?_, h1⟩
  unfold results
  rw [hrs, Array.mapM_eq_mapM_toList, List.toList_toArray]
  simp only [bind_assoc, map_eq_pure_bind]
  rw [Sem.run_bind]
  refine Eq.trans (congrArg (fun r => Result.andThen r _) h2) ?_
  simp only [Result.andThen]
  simp only [pure_bind, Sem.run_pure, tup_of]

def envOf (args : List Value) : Env := fun i => args.getD i undef

theorem does_of_den {f : FuncId} {fn : Func} {c : Code} {args : List Value} {w : World} {rs : List ResultVar} {R : Value → World → Prop} (hm : P.follows .mixedOrders = true) (hAf : ann.f = f)
    (hf : P.funcs[f]? = some fn) (hb : fn.body = some c) (hrs : fn.results = rs.toArray) {N : Nat} (hN : fn.ntmps = N) (hle : args.length ≤ N)
    (hok : codeOk P N ann c = true) (h : den P ann c (retQ P rs R) (envOf args) w) : Does P f args.toArray w R := by
  obtain ⟨e, g', w', hq, _, hall⟩ := den_ext _ _ _ _ h
  have hrv : resVals P rs g' w' fun vs => R (tup vs) w' := by cases e <;> first | exact hq | exact hq.elim
  have hex : ∃ v, R v w' ∧ ∀ R' : Value → World → Prop, R' v w' → resVals P rs g' w' fun vs => R' (tup vs) w' := by
    have gen : ∀ (rs : List ResultVar) (K : List Value → Prop), resVals P rs g' w' K → ∃ vs, K vs ∧ ∀ K' : List Value → Prop, K' vs → resVals P rs g' w' K' := by
      intro rs
      induction rs with
      | nil => intro K h; exact ⟨_, h, fun _ h => h⟩
      | cons r rs ih =>
        intro K h
        cases r with
        | tmp t =>
          obtain ⟨vs, a, b⟩ := ih _ h
          exact ⟨_, a, fun K' h => b _ h⟩
        | cell b t =>
          obtain ⟨v, hv, h⟩ := h
          obtain ⟨vs, a, b⟩ := ih _ h
          exact ⟨_, a, fun K' h => ⟨v, hv, b _ h⟩⟩
    obtain ⟨vs, a, b⟩ := gen _ _ hrv
    exact ⟨_, a, fun R' h => b _ h⟩
  obtain ⟨v, hv, hrest⟩ := hex
  refine ⟨v, w', ?_, hv⟩
  have hrel : Rel N (envOf args) { tmps := args.toArray ++ Array.replicate (fn.ntmps - args.toArray.size) undef, defers := [] } := by
    refine ⟨rfl, by simp [hN]; omega, fun i => ?_⟩
    simp only [envOf, Array.getD_eq_getD_getElem?, List.getD_eq_getElem?_getD]
    by_cases hi : i < args.length
    · simp [Array.getElem?_append, hi]
    · simp only [Array.getElem?_append, List.size_toArray, hi, if_false, Array.getElem?_replicate]
      rw [List.getElem?_eq_none (by omega)]
      split <;> rfl
  refine calls_of_wpF (f := f) hf hb ?_
  refine hAf ▸ den_sound hm c hok (retQ P rs fun v2 w2 => v2 = v ∧ w2 = w') _ _ _ _ hrel ?_ (hall _ ?_)
  · intro e g a w hr h
    have hx : ∀ {w}, (resVals P rs g w fun vs => tup vs = v ∧ w = w') → a.defers = [] ∧ ∃ v2, (results fn a.tmps).run P w = .ok v2 w ∧ (Ending.returned v2 = .returned v ∧ w = w') := by
      intro w h
      obtain ⟨v2, h1, rfl, h3⟩ := run_results fn hrs hr (R := fun v2 w2 => v2 = v ∧ w2 = w') h
      exact ⟨hr.1, v2, h1, rfl, h3⟩
    cases e with
    | normal => exact hx h
    | ret => exact hx h
    | _ => exact h.elim
  · have := hrest (fun v2 w2 => v2 = v ∧ w2 = w') ⟨rfl, rfl⟩
    cases e <;> first | exact this | exact hq.elim

theorem calls_of_does {f : FuncId} {args : Array Value} {w : World} {R : Value → World → Prop} (h : Does P f args w R) :
    Calls P f args w fun e w' => ∃ v, e = .returned v ∧ R v w' := by
  obtain ⟨v, w', hr, hR⟩ := h
  refine Calls.mono hr ?_
  rintro e w'' ⟨rfl, rfl⟩
  exact ⟨v, rfl, hR⟩
end
end Go.En

/- Contracts: states that bits tell. -/
import Derived.Test.YtcbkdccobhkbpaaBF3
import Derived.Test.YtcbkdccobhkbpaaBF2
import Derived.Test.YtcbkdccobhkbpaaBT1
namespace Go.Proofs.Ytcbkdccobhkbpaa
open Go Go.En Go.Pu
set_option maxRecDepth 4000
set_option linter.unusedSimpArgs false
set_option linter.unusedVariables false

/-- the bits of a state, and the state behind it -/
def bitsAt (L : List T3) (s : Int) : Nat := if 0 ≤ s then (match L[s.toNat]? with | some e => e.2.1.toNat | none => 0) else 0
def nextAt (L : List T3) (s : Int) (x : Nat) : Int := if 0 ≤ s then (match L[s.toNat]? with | some e => e.2.2 + x | none => 0) else 0
theorem bitsAt_le {L : List T3} (h : Low L) (s : Int) : bitsAt L s ≤ 20 := by
  unfold bitsAt
  split
  · split
    · rename_i e he
      obtain ⟨n, h1, h2, _⟩ := h _ (List.mem_of_getElem? he)
      rw [h1]; simpa using h2
    · omega
  · omega
theorem nextAt_bd {L : List T3} (h : Low L) (s : Int) {x : Nat} (hx : x < 2 ^ 20) : 0 ≤ nextAt L s x ∧ nextAt L s x ≤ 2000000 := by
  unfold nextAt
  split
  · split
    · rename_i e he
      obtain ⟨n, h1, h2, h3, h4⟩ := h _ (List.mem_of_getElem? he)
      omega
    · omega
  · omega

theorem fseStart_c {log lo hi : Nat} {a : Option Addr} {k c : Nat} {l : List UInt8} {left : Int} {w : World} (h : Bwd w lo hi l left) (hlh : lo ≤ hi) (hhi : hi < w.heap.size) (hn : log ≤ 20) (h1 : left ≤ 8 * l.length) (h2 : -100000000 ≤ left) (hl : l.length ≤ 1000000) :
    Does pg F_fse_Start #[.agg #[.int .i64 log, .slice a k c], .pointer (some ⟨hi, 0, none⟩)] w (fun r w' => r = .int .i64 (lastN ((bitsB l).take left.toNat) log : Nat) ∧ Bwd w' lo hi l (left - log) ∧ Ext w w' (fun y => y = hi)) := by
  refine fse_Start_does ?_
  unfold fse_Start fse_Start_p1
  refine stp_box fun w1 o1 x1 s1 => ?_
  simp only [Value.cells] at o1
  have c0 := o1.cell (off := 0)
  simp only [List.getElem?_cons_zero, List.getElem?_cons_succ] at c0
  simp (disch := omega) only [Stp, fa_fse_Table_Log, stepR_value, ld_int, c0, ldC_some]
  refine (bwdRead_c (h.ext x1 (fun _ _ _ h => h) hlh) hlh (by omega) h1 (by omega) hl).mono ?_
  rintro r w2 ⟨rfl, b2, x2⟩
  have hlt := lastN_lt ((bitsB l).take left.toNat) log
  have hp : 2 ^ log ≤ 2 ^ 20 := Nat.pow_le_pow_right (by omega) hn
  generalize lastN ((bitsB l).take left.toNat) log = x at *
  simp (disch := omega) only [cv_uint64_int, w_i64, stepR_value, true_and]
  exact ⟨b2, (x1.mono fun _ _ h => h.elim).seq x2⟩

theorem fseNext_c {log base b lo hi : Nat} {L : List T3} {v : Value} {s : Int} {l : List UInt8} {left : Int} {w : World} (ht : Tbl w base b log L v) (hL : Low L) (hlen : L.length ≤ 1000000) (h : Bwd w lo hi l left) (hlh : lo ≤ hi) (hhi : hi < w.heap.size) (hb : b ≠ hi) (h1 : left ≤ 8 * l.length) (h2 : -100000000 ≤ left) (hl : l.length ≤ 1000000) :
    Does pg F_fse_Next #[v, .int .i64 s, .pointer (some ⟨hi, 0, none⟩)] w (fun r w' => r = .int .i64 (nextAt L s (lastN ((bitsB l).take left.toNat) (bitsAt L s))) ∧ Bwd w' lo hi l (left - bitsAt L s) ∧ Ext w w' (fun y => y = hi)) := by
  refine fse_Next_does ?_
  obtain ⟨rfl, hb0, ob⟩ := ht
  unfold fse_Next fse_Next_p1
  refine stp_box fun w1 o1 x1 s1 => ?_
  simp only [Value.cells] at o1
  have c1 := o1.cell (off := 1)
  simp only [List.getElem?_cons_zero, List.getElem?_cons_succ] at c1
  have hbw := h.ext x1 (fun _ _ _ h => h) hlh
  by_cases hs0 : s < 0
  · have d1 : decide (s < 0) = true := by simpa using hs0
    have e1 : bitsAt L s = 0 := by unfold bitsAt; rw [if_neg (by omega)]
    have e2 : ∀ x, nextAt L s x = 0 := fun x => by unfold nextAt; rw [if_neg (by omega)]
    rw [e1]
    simp (disch := omega) only [Stp, r_lss, d1, fa_fse_Table_Entries, Nat.zero_add, stepR_value, Same, and_true, true_and, ld_sl_fse_Entry, isB_tf, r_pick, if_true, Cnd_true, Gd_false]
    exact ⟨by rw [e2], by simpa using hbw, x1.mono fun _ _ h => h.elim⟩
  have d1 : decide (s < 0) = false := by simpa using hs0
  obtain ⟨i, rfl⟩ : ∃ i : Nat, s = i := ⟨s.toNat, by omega⟩
  by_cases hge : L.length ≤ i
  · have d2 : decide ((L.length : Int) ≤ (i : Int)) = true := by simp; omega
    have hnone : L[i]? = none := List.getElem?_eq_none hge
    have e1 : bitsAt L i = 0 := by unfold bitsAt; simp [hnone]
    have e2 : ∀ x, nextAt L i x = 0 := fun x => by unfold nextAt; simp [hnone]
    rw [e1]
    simp (disch := omega) only [Stp, r_lss, d1, fa_fse_Table_Entries, Nat.zero_add, stepR_value, Same, and_true, true_and, ld_sl_fse_Entry, isB_ff, r_pick, Bool.false_eq_true, if_false, Gd_true, c1, ldC_some, ln_sl_fse_Entry, r_geq, d2, Cnd_true]
    exact ⟨by rw [e2], by simpa using hbw, x1.mono fun _ _ h => h.elim⟩
  have d2 : decide ((L.length : Int) ≤ (i : Int)) = false := by simp; omega
  have hlt : i < L.length := by omega
  have l1 := lda_fse_Entry (off := i * 3) (ob.ext x1 (fun h => h)) (by rw [fe_length]; omega)
  rw [fe_take hlt] at l1
  obtain ⟨n, hn, hn2, hb0', hb1⟩ := hL _ (List.getElem_mem hlt)
  have hsome : L[i]? = some L[i] := List.getElem?_eq_getElem hlt
  have e1 : bitsAt L i = n := by unfold bitsAt; simp [hsome, hn]
  have e2 : ∀ x : Nat, nextAt L i x = L[i].2.2 + x := fun x => by unfold nextAt; simp [hsome]
  generalize L[i] = e at *
  obtain ⟨e0, en, eb⟩ := e
  simp only at hn hb0' hb1 l1 e2
  subst hn
  rw [e1, e2]
  simp (disch := omega) only [Stp, r_lss, d1, fa_fse_Table_Entries, Nat.zero_add, stepR_value, Same, and_true, true_and, ld_sl_fse_Entry, isB_ff, r_pick, Bool.false_eq_true, if_false, Gd_true, c1, ldC_some, ln_sl_fse_Entry, r_geq, d2, ia_sl_fse_Entry, Int.toNat_natCast, l1, Cnd_false]
  refine al_fse_Entry fun w3 o3 x3 s3 => ?_
  refine sta_fse_Entry o3 rfl (by simp [one]) (by simp) fun w4 o4 x4 s4 => ?_
  simp only [setAll, List.set_cons_zero, List.set_cons_succ] at o4
  have x14 : Ext w1 w4 nob := x3.new x4 (by omega)
  have od := own_dr o4
  have k1 := o4.cell (off := 1)
  have k2 := o4.cell (off := 2)
  have k1d := od.cell (off := 1)
  have k2d := od.cell (off := 2)
  simp only [List.getElem?_cons_zero, List.getElem?_cons_succ] at k1 k2 k1d k2d
  simp (disch := omega) only [fa_fse_Entry_Base, Nat.zero_add, fa_fse_Entry_Bits, Result.ok.injEq, Next.value.injEq, and_true, stepR_value, ld_int, k1d, ldC_some, true_and, k2d]
  have z3 := x3.size
  refine (bwdRead_c ((hbw.ext x14 (fun _ _ _ h => h) hlh).ext (Ext.dr _ nob) (fun _ _ _ h => h) hlh) hlh (by omega) h1 (by omega) hl).mono ?_
  rintro r w5 ⟨rfl, b5, x5⟩
  have x45 : Ext w4 w5 (fun y => y = hi) := (Ext.dr _ _).seq x5
  have k2e := (o4.ext x45 (by omega)).cell (off := 2)
  simp only [List.getElem?_cons_zero, List.getElem?_cons_succ] at k2e
  have hlt := lastN_lt ((bitsB l).take left.toNat) n
  have hp : 2 ^ n ≤ 2 ^ 20 := Nat.pow_le_pow_right (by omega) hn2
  generalize lastN ((bitsB l).take left.toNat) n = x at *
  simp (disch := omega) only [k2e, ldC_some, cv_uint64_int, w_i64, stepR_value, r_add, true_and]
  exact ⟨b5, ((x1.seq x14).mono fun _ _ h => h.elim).seq x45⟩
end Go.Proofs.Ytcbkdccobhkbpaa
/- Contracts: the reference's states. -/
namespace Go.Proofs.Ytcbkdccobhkbpaa
open Go Go.En Go.Pu
set_option maxRecDepth 4000
set_option linter.unusedSimpArgs false
set_option linter.unusedVariables false

/-- the reference's table -/
def RT (w : World) (b log : Nat) (L : List T3) (v : Value) : Prop := ∃ cc rest, v = .agg #[.int .i64 log, .slice (some ⟨b, 0, none⟩) L.length cc] ∧ Own w b (fe .i64 L ++ rest)
theorem RT.ext {w w' : World} {b log : Nat} {L : List T3} {v : Value} {M : Nat → Prop} (h : RT w b log L v) (hx : Ext w w' M) (hM : ¬ M b) : RT w' b log L v := by
  obtain ⟨cc, rest, h1, h2⟩ := h
  exact ⟨cc, rest, h1, h2.ext hx hM⟩

theorem refOne_c (s : Int) (w : World) : Does pg F_ref07_One #[.int .i64 s] w (fun r w' => ∃ b, w.heap.size ≤ b ∧ RT w' b 0 [(s, 0, 0)] r ∧ Ext w w' nob) := by
  refine ref07_One_does ?_
  unfold ref07_One ref07_One_p1
  refine al_lightermanref07_T fun w1 o1 x1 s1 => ?_
  simp (disch := omega) only [Stp, bd_lightermanref07_E_0, stepR_value]
  refine bs_sl_lightermanref07_E (cells := #[.int .i64 s, .int .i64 0, .int .i64 0]) (by decide) (by decide) (by kernel_rfl) fun w2 o2 x2 s2 => ?_
  simp (disch := omega) only [bd_lightermanref07_T_1, stepR_value]
  have l1 := o1.lt
  refine sta_lightermanref07_T (o1.ext x2 (fun h => h)) rfl (by simp [one]) (by simp) fun w3 o3 x3 s3 => ?_
  refine ldr_lightermanref07_T o3 (by simp [setAll]) ?_
  simp only [setAll, List.set_cons_zero, List.set_cons_succ, List.drop_zero, List.take_succ_cons, List.take_zero]
  exact ⟨w1.heap.size, by omega, ⟨1, [], rfl, o2.ext x3 (by omega)⟩, (x1.seq x2).new x3 (Nat.le_refl _)⟩

theorem refStart_c {log lo hi lack k cc : Nat} {a : Option Addr} {b : Value} {L : List Bool} {w : World} (h : RB w lo hi b L lack) (hhi : hi ≤ w.heap.size) (hn : log ≤ 20) (hL : L.length ≤ 10000000) (hk : lack ≤ 100000000) :
    Does pg F_ref07_Start #[.agg #[.int .i64 log, .slice a k cc], b] w (fun r w' => ∃ b', r = .tuple #[b', .int .i64 (lastN L log : Nat)] ∧ RB w' lo hi b' (L.take (L.length - min log L.length)) (lack + (log - min log L.length)) ∧ Ext w w' nob) := by
  refine ref07_Start_does ?_
  unfold ref07_Start ref07_Start_p1
  have hb := h
  obtain ⟨v, rfl, hs, hat⟩ := h
  obtain ⟨a', c', rfl, hc⟩ := blLen hs
  refine stp_box fun w1 o1 x1 s1 => ?_
  refine stp_box fun w2 o2 x2 s2 => ?_
  refine al_lightermanref05_B fun w3 o3 x3 s3 => ?_
  simp only [Value.cells] at o1 o2
  have o13 := (o1.ext x2 (fun h => h)).ext x3 (fun h => h)
  have o23 := o2.ext x3 (fun h => h)
  have x03 : Ext w w3 nob := (x1.seq x2).seq x3
  have c0 := o13.cell (off := 0)
  have l1 := lda_lightermanref05_B (off := 0) o23 (by simp)
  simp only [List.getElem?_cons_zero, List.getElem?_cons_succ, List.drop_zero, List.take_succ_cons, List.take_zero] at c0 l1
  simp (disch := omega) only [Stp, l1, fa_lightermanref07_T_Log, stepR_value, ld_int, c0, ldC_some]
  refine (refLast_c (hb.ext x03 (fun _ _ _ h => h)) (by omega) hL (by omega)).mono ?_
  rintro r w4 ⟨b', rfl, hb4, x4⟩
  have hlt := lastN_lt L log
  have hp : 2 ^ log ≤ 2 ^ 20 := Nat.pow_le_pow_right (by omega) hn
  generalize lastN L log = x at *
  have hb4' := hb4
  obtain ⟨v4, rfl, hs4, hat4⟩ := hb4
  obtain ⟨a4, c4, rfl, hc4⟩ := blLen hs4
  simp (disch := omega) only [x20, x21, stepR_value, cv_uint64_int, w_i64]
  refine sta_lightermanref05_B (o23.ext x4 (fun h => h)) rfl (by simp [one]) (by simp) fun w5 o5 x5 s5 => ?_
  simp only [setAll, List.set_cons_zero, List.set_cons_succ] at o5
  have l5 := lda_lightermanref05_B (off := 0) o5 (by simp)
  simp only [List.drop_zero, List.take_succ_cons, List.take_zero] at l5
  simp (disch := omega) only [l5, stepR_value]
  refine sta_lightermanref05_B ((o3.ext x4 (fun h => h)).ext x5 (by omega)) rfl (by simp [one]) (by simp) fun w6 o6 x6 s6 => ?_
  refine ldr_lightermanref05_B o6 (by simp [setAll]) ?_
  simp only [setAll, List.set_cons_zero, List.set_cons_succ, List.drop_zero, List.take_succ_cons, List.take_zero]
  have z3 := x3.size
  have x46 : Ext w3 w6 (fun y => y = w1.heap.size ∨ y = w2.heap.size) := ((x4.mono fun _ _ h => h.elim).seq (x5.mono fun _ _ h => .inl h)).seq (x6.mono fun _ _ h => .inr h)
  have x06 : Ext w w6 nob := x03.trans x46 fun b hb h => by omega
  refine ⟨_, rfl, ?_, x06⟩
  exact ⟨_, rfl, hs4.ext ((x5.mono fun _ _ h => .inl h : Ext w4 w5 (fun y => y = w1.heap.size ∨ y = w2.heap.size)).seq (x6.mono fun _ _ h => .inr h)) (hat4 _ fun b hb hh => by omega), hat4⟩

theorem refNext_c {log b lo hi lack : Nat} {v bv : Value} {L : List T3} {s : Int} {B : List Bool} {w : World} (ht : RT w b log L v) (hL : Low L) (hlen : L.length ≤ 1000000) (h : RB w lo hi bv B lack) (hhi : hi ≤ w.heap.size) (hB : B.length ≤ 10000000) (hk : lack ≤ 100000000) :
    Does pg F_ref07_Next #[v, .int .i64 s, bv] w (fun r w' => ∃ b', r = .tuple #[b', .int .i64 (nextAt L s (lastN B (bitsAt L s)))] ∧ RB w' lo hi b' (B.take (B.length - min (bitsAt L s) B.length)) (lack + (bitsAt L s - min (bitsAt L s) B.length)) ∧ Ext w w' nob) := by
  refine ref07_Next_does ?_
  have htt := ht
  obtain ⟨cc, rest, rfl, ob⟩ := ht
  have hb := h
  obtain ⟨v, rfl, hs, hat⟩ := h
  obtain ⟨a', c', rfl, hc⟩ := blLen hs
  unfold ref07_Next ref07_Next_p1
  refine stp_box fun w1 o1 x1 s1 => ?_
  refine stp_box fun w2 o2 x2 s2 => ?_
  refine al_lightermanref05_B fun w3 o3 x3 s3 => ?_
  simp only [Value.cells] at o1 o2
  have o13 := (o1.ext x2 (fun h => h)).ext x3 (fun h => h)
  have o23 := o2.ext x3 (fun h => h)
  have x03 : Ext w w3 nob := (x1.seq x2).seq x3
  have c1 := o13.cell (off := 1)
  have l1 := lda_lightermanref05_B (off := 0) o23 (by simp)
  simp only [List.getElem?_cons_zero, List.getElem?_cons_succ, List.drop_zero, List.take_succ_cons, List.take_zero] at c1 l1
  have hlb := ob.lt
  have bad : bitsAt L s = 0 → (∀ x, nextAt L s x = 0) → ∀ w6, Ext w3 w6 (fun y => y = w2.heap.size) → ∃ b', Value.tuple #[.agg #[.slice a' B.length c', .int .i64 lack], .int .i64 0] = Value.tuple #[b', .int .i64 (nextAt L s (lastN B (bitsAt L s)))] ∧ RB w6 lo hi b' (B.take (B.length - min (bitsAt L s) B.length)) (lack + (bitsAt L s - min (bitsAt L s) B.length)) ∧ Ext w w6 nob := by
    intro e1 e2 w6 x6
    have x06 : Ext w w6 nob := x03.new x6 (by omega)
    refine ⟨_, by rw [e2], ⟨_, ?_, ?_, hat⟩, x06⟩
    · rw [e1]; simp
    · have : B.take (B.length - min (bitsAt L s) B.length) = B := List.take_of_length_le (by omega)
      rw [this]
      exact hs.ext x06 (inB_nob _)
  by_cases hs0 : s < 0
  · have d1 : decide (s < 0) = true := by simpa using hs0
    have e1 : bitsAt L s = 0 := by unfold bitsAt; rw [if_neg (by omega)]
    have e2 : ∀ x, nextAt L s x = 0 := fun x => by unfold nextAt; rw [if_neg (by omega)]
    simp (disch := omega) only [Stp, r_lss, d1, fa_lightermanref07_T_L, Nat.zero_add, stepR_value, Same, and_true, Result.ok.injEq, Next.value.injEq, true_and, ld_sl_lightermanref07_E, isB_tf, r_pick, if_true, Cnd_true, Gd_false, l1]
    refine sta_lightermanref05_B o3 rfl (by simp [one]) (by simp) fun w6 o6 x6 s6 => ?_
    refine ldr_lightermanref05_B o6 (by simp [setAll]) ?_
    simp only [setAll, List.set_cons_zero, List.set_cons_succ, List.drop_zero, List.take_succ_cons, List.take_zero]
    exact bad e1 e2 w6 x6
  have d1 : decide (s < 0) = false := by simpa using hs0
  obtain ⟨i, rfl⟩ : ∃ i : Nat, s = i := ⟨s.toNat, by omega⟩
  by_cases hge : L.length ≤ i
  · have d2 : decide ((L.length : Int) ≤ (i : Int)) = true := by simp; omega
    have hnone : L[i]? = none := List.getElem?_eq_none hge
    have e1 : bitsAt L i = 0 := by unfold bitsAt; simp [hnone]
    have e2 : ∀ x, nextAt L i x = 0 := fun x => by unfold nextAt; simp [hnone]
    simp (disch := omega) only [Stp, r_lss, d1, fa_lightermanref07_T_L, Nat.zero_add, stepR_value, Same, and_true, Result.ok.injEq, Next.value.injEq, true_and, ld_sl_lightermanref07_E, isB_ff, r_pick, Bool.false_eq_true, if_false, Gd_true, c1, ldC_some, ln_sl_lightermanref07_E, r_geq, d2, l1, Cnd_true]
    refine sta_lightermanref05_B o3 rfl (by simp [one]) (by simp) fun w6 o6 x6 s6 => ?_
    refine ldr_lightermanref05_B o6 (by simp [setAll]) ?_
    simp only [setAll, List.set_cons_zero, List.set_cons_succ, List.drop_zero, List.take_succ_cons, List.take_zero]
    exact bad e1 e2 w6 x6
  clear bad
  have d2 : decide ((L.length : Int) ≤ (i : Int)) = false := by simp; omega
  have hlt : i < L.length := by omega
  obtain ⟨n, hn, hn2, hb0', hb1⟩ := hL _ (List.getElem_mem hlt)
  have hsome : L[i]? = some L[i] := List.getElem?_eq_getElem hlt
  have e1 : bitsAt L i = n := by unfold bitsAt; simp [hsome, hn]
  have e2 : ∀ x : Nat, nextAt L i x = L[i].2.2 + x := fun x => by unfold nextAt; simp [hsome]
  obtain ⟨q1, q2, q3⟩ := fe_get' (k := .i64) hsome
  have hq : i * 3 + 2 < (fe .i64 L).length := by rw [fe_length]; omega
  rw [← List.getElem?_append_left (l₂ := rest) (by omega)] at q1 q2 q3
  generalize L[i] = e at *
  obtain ⟨e0, en, eb⟩ := e
  simp only at hn hb0' hb1 q1 q2 q3 e2
  subst hn
  rw [e1, e2]
  have ob3 := ob.ext x03 (fun h => h)
  have od := own_dr o13
  have o2d := own_dr o23
  have obd := own_dr ob3
  have c1d := od.cell (off := 1)
  have l1d := lda_lightermanref05_B (off := 0) o2d (by simp)
  have r2d := obd.cell (off := i * 3 + 1)
  have r2 := ob3.cell (off := i * 3 + 1)
  rw [q2] at r2 r2d
  simp only [List.getElem?_cons_zero, List.getElem?_cons_succ, List.drop_zero, List.take_succ_cons, List.take_zero] at c1d l1d
  simp (disch := omega) only [Stp, r_lss, d1, fa_lightermanref07_T_L, Nat.zero_add, stepR_value, Same, and_true, Result.ok.injEq, Next.value.injEq, true_and, ld_sl_lightermanref07_E, isB_ff, r_pick, Bool.false_eq_true, if_false, Gd_true, c1, ldC_some, ln_sl_lightermanref07_E, r_geq, d2, l1, l1d, c1d, ia_sl_lightermanref07_E, Int.toNat_natCast, fa_lightermanref07_E_Bits, ld_int, r2d, Cnd_false]
  refine (refLast_c ((hb.ext x03 (fun _ _ _ h => h)).ext (Ext.dr _ nob) (fun _ _ _ h => h)) (by omega) hB (by omega)).mono ?_
  rintro r w4 ⟨b', rfl, hb4, x4⟩
  have hlt := lastN_lt B n
  have hp : 2 ^ n ≤ 2 ^ 20 := Nat.pow_le_pow_right (by omega) hn2
  generalize lastN B n = x at *
  obtain ⟨v4, rfl, hs4, hat4⟩ := hb4
  obtain ⟨a4, c4, rfl, hc4⟩ := blLen hs4
  simp (disch := omega) only [x20, x21, Result.ok.injEq, Next.value.injEq, and_true, stepR_value, cv_uint64_int, w_i64, true_and]
  refine sta_lightermanref05_B (o2d.ext x4 (fun h => h)) rfl (by simp [one]) (by simp) fun w5 o5 x5 s5 => ?_
  simp only [setAll, List.set_cons_zero, List.set_cons_succ] at o5
  have z3 := x3.size
  have z4 : w3.heap.size ≤ w4.heap.size := x4.size
  have x35 : Ext w3 w5 (fun y => y = w1.heap.size) := (((Ext.dr w3 nob).seq x4).mono fun _ _ h => h.elim).seq x5
  have o15 := o13.ext x35 (by omega)
  have ob5 := ob3.ext x35 (by omega)
  have o5d := own_dr o5
  have l5 := lda_lightermanref05_B (off := 0) o5d (by simp)
  have c15 := (own_dr o15).cell (off := 1)
  have r3 := (own_dr ob5).cell (off := i * 3 + 2)
  rw [q3] at r3
  simp only [List.getElem?_cons_zero, List.getElem?_cons_succ, List.drop_zero, List.take_succ_cons, List.take_zero] at l5 c15
  simp (disch := omega) only [l5, c15, ldC_some, stepR_value, ia_sl_lightermanref07_E, Int.toNat_natCast, Nat.zero_add, Result.ok.injEq, Next.value.injEq, and_true, fa_lightermanref07_E_Base, true_and, ld_int, r3, r_add, w_i64]
  refine sta_lightermanref05_B (own_dr (o3.ext x35 (by omega))) rfl (by simp [one]) (by simp) fun w6 o6 x6 s6 => ?_
  simp only [setAll, List.set_cons_zero, List.set_cons_succ] at o6
  have x56 : Ext w5 w6 (fun y => y = w2.heap.size) := (Ext.dr _ _).seq x6
  have c16 := (o15.ext x56 (by omega)).cell (off := 1)
  have r36 := (ob5.ext x56 (by omega)).cell (off := i * 3 + 2)
  rw [q3] at r36
  simp only [List.getElem?_cons_zero, List.getElem?_cons_succ] at c16
  simp (disch := omega) only [r36, ldC_some, c16, and_true, true_and]
  refine ldr_lightermanref05_B o6 (by simp) ?_
  simp only [List.drop_zero, List.take_succ_cons, List.take_zero]
  have x36 : Ext w3 w6 (fun y => y = w1.heap.size ∨ y = w2.heap.size) := (x35.mono fun _ _ h => .inl h).seq (x56.mono fun _ _ h => .inr h)
  have x06 : Ext w w6 nob := x03.trans x36 fun b hb h => by omega
  refine ⟨_, rfl, ⟨_, rfl, hs4.ext ((x5.mono fun _ _ h => .inl h : Ext w4 w5 (fun y => y = w1.heap.size ∨ y = w2.heap.size)).seq (x56.mono fun _ _ h => .inr h)) (hat4 _ fun b hb hh => by omega), hat4⟩, x06⟩
end Go.Proofs.Ytcbkdccobhkbpaa
/- The law FseReads: the states that bits tell are the reference's. -/
namespace Go.Proofs.Ytcbkdccobhkbpaa
open Go Go.En Go.Pu
set_option maxRecDepth 4000
set_option linter.unusedSimpArgs false
set_option linter.unusedVariables false

theorem rd_step {l : List UInt8} {left : Int} {n : Nat} (h1 : left ≤ 8 * l.length) :
    ((bitsB l).take left.toNat).take (((bitsB l).take left.toNat).length - min n ((bitsB l).take left.toNat).length) = (bitsB l).take (left - n).toNat ∧
    (-left).toNat + (n - min n ((bitsB l).take left.toNat).length) = (-(left - n)).toNat := by
  have hlen : ((bitsB l).take left.toNat).length = left.toNat := by rw [List.length_take, bitsB_length]; omega
  rw [hlen]
  constructor
  · rw [List.take_take]; congr 1; omega
  · omega

/-- both readers stand alike -/
def Rd (w : World) (lo hi lo2 hi2 : Nat) (l : List UInt8) (left : Int) (bv : Value) : Prop := Bwd w lo hi l left ∧ RB w lo2 hi2 bv ((bitsB l).take left.toNat) (-left).toNat
theorem Rd.ext {w w' : World} {lo hi lo2 hi2 : Nat} {l : List UInt8} {left : Int} {bv : Value} {M : Nat → Prop} (h : Rd w lo hi lo2 hi2 l left bv) (hx : Ext w w' M) (h1 : ∀ b, lo ≤ b → b ≤ hi → ¬ M b) (h2 : ∀ b, lo2 ≤ b → b < hi2 → ¬ M b) (hlh : lo ≤ hi) : Rd w' lo hi lo2 hi2 l left bv :=
  ⟨h.1.ext hx h1 hlh, h.2.ext hx h2⟩

theorem take_len {l : List UInt8} {left : Int} (h1 : left ≤ 8 * l.length) : ((bitsB l).take left.toNat).length = left.toNat := by rw [List.length_take, bitsB_length]; omega

theorem readsLoop_c {n2 lo hi lo2 hi2 b b2 log p10 p12 p16 cc : Nat} {L : List T3} {l : List UInt8} {left : Int} {s : Int} {bv : Value} {rest : List Value} {w0 w : World} (hL : Low L) (hlen : L.length ≤ 1000000) (hl : l.length ≤ 1000000) (hn : n2 < 256)
    (hlh : lo ≤ hi) (hh : b < lo ∧ b2 < lo ∧ p10 < lo ∧ p12 < lo ∧ hi < lo2 ∧ lo2 ≤ p16 ∧ hi2 ≤ p16 ∧ p16 < w.heap.size ∧ w0.heap.size ≤ lo ∧ hi2 ≤ w.heap.size)
    (h1 : left ≤ 8 * l.length) (h2 : -100 ≤ left)
    (o10 : Own w p10 [.int .i64 log, .slice (some ⟨b, 0, none⟩) L.length L.length]) (ob : Own w b (fe .u8 L))
    (o12 : Own w p12 [.int .i64 log, .slice (some ⟨b2, 0, none⟩) L.length cc]) (ob2 : Own w b2 (fe .i64 L ++ rest))
    (o16 : Own w p16 bv.cells.toList) (hrd : Rd w lo hi lo2 hi2 l left bv) (hx : Ext w0 w nob) (hbd : 0 ≤ s ∧ s ≤ 2000000)
    {R : Value → World → Prop} (hR : ∀ w', Ext w0 w' nob → R (.bool true) w') :
    law07_FseReads_p7 R (.int .u8 n2) (.pointer (some ⟨p10, 0, none⟩)) (.pointer (some ⟨p12, 0, none⟩)) (.pointer (some ⟨hi, 0, none⟩)) (.pointer (some ⟨p16, 0, none⟩)) (.int .i64 s) (.int .i64 s) w := by
  unfold law07_FseReads_p7 law07_FseReads_p6 law07_FseReads_p5 law07_FseReads_p4 law07_FseReads_p3
  have eq : (n2 : Int).tmod 40 = ((n2 % 40 : Nat) : Int) := by rw [Int.tmod_eq_emod_of_nonneg (by omega)]; omega
  refine LoopD.rule (fun m (t : Value × Value × Value) w' => ∃ (i : Nat) (s left : Int) (bv : Value), m = n2 % 40 - i ∧ t = (.int .i64 s, .int .i64 s, .int .i64 i) ∧ i ≤ n2 % 40 ∧ left ≤ 8 * l.length ∧ -100 - 20 * (i : Int) ≤ left ∧ 0 ≤ s ∧ s ≤ 2000000 ∧
      Own w' p16 bv.cells.toList ∧ Rd w' lo hi lo2 hi2 l left bv ∧ Ext w w' (fun y => y = hi ∨ y = p16)) (n2 % 40)
    ⟨0, s, left, bv, rfl, rfl, by omega, h1, by omega, hbd.1, hbd.2, o16, hrd, Ext.refl _ _⟩ ?_
  clear o16 hrd h1 h2 hbd
  rintro m t w1 ⟨i, s, left, bv, rfl, rfl, hi', h1, h2, hb1, hb2, o16, hrd, x1⟩
  have x01 : Ext w0 w1 nob := hx.trans x1 fun b hb h => by omega
  have z1 := x1.size
  have hcc : (hrd.2.choose_spec).1 = (hrd.2.choose_spec).1 := rfl
  obtain ⟨hbw, hrb⟩ := hrd
  have hrb' := hrb
  obtain ⟨v, rfl, hs, hat⟩ := hrb
  obtain ⟨a', c', rfl, hc⟩ := blLen hs
  simp only [Value.cells] at o16
  have l16 := lda_lightermanref05_B (off := 0) o16 (by simp)
  have l16d := lda_lightermanref05_B (off := 0) (own_dr o16) (by simp)
  simp only [List.drop_zero, List.take_succ_cons, List.take_zero] at l16 l16d
  have ess : (s == s) = true := by simp
  have ess' : (s != s) = false := by simp
  have ell : (left == left) = true := by simp
  have ell' : (left != left) = false := by simp
  have elen := take_len h1
  have eleft : (((bitsB l).take left.toNat).length : Int) - ((-left).toNat : Nat) = left := by rw [elen]; omega
  by_cases hlt : i < n2 % 40
  · have d1 : decide ((i : Int) < ((n2 % 40 : Nat) : Int)) = true := by simp only [decide_eq_true_eq]; omega
    unfold law07_FseReads_p2
    simp (disch := omega) only [Stp, r_rem, eq, r_neq, ess', Same, and_true, r_add, w_i64, stepR_value, true_and, isB_ff, Gs_true, r_pick, Bool.false_eq_true, if_false, Gd_true, cv_uint8_int, r_lss, d1, l16d, Result.ok.injEq, Next.value.injEq, Cnd_true]
    refine (bwdLeft_c (hbw.ext (Ext.dr _ nob) (fun _ _ _ h => h) hlh)).mono ?_
    rintro r w2 ⟨rfl, rfl⟩
    simp (disch := omega) only [l16d, stepR_value, true_and]
    refine (refLeft_c (hrb'.ext (Ext.dr _ nob) (fun _ _ _ h => h)) (by omega) (by omega)).mono ?_
    rintro r w2 ⟨rfl, x2⟩
    rw [eleft]
    have x02 : Ext w1 w2 nob := (Ext.dr _ _).seq x2
    have x12 : Ext w w2 (fun y => y = hi ∨ y = p16) := x1.seq (x02.mono fun _ _ h => h.elim)
    have l10 := lda_fse_Table (off := 0) (o10.ext x12 (by omega)) (by simp)
    simp only [List.drop_zero, List.take_succ_cons, List.take_zero] at l10
    simp (disch := omega) only [r_neq, ell', l10, stepR_value, Cnd_false, true_and]
    have z2 := x02.size
    refine (fseNext_c (base := 0) (b := b) (L := L) (s := s) ⟨rfl, Nat.zero_le _, ob.ext x12 (by omega)⟩ hL hlen (hbw.ext x02 (fun _ _ _ h => h) hlh) hlh (by omega) (by omega) h1 (by omega) hl).mono ?_
    rintro r w3 ⟨rfl, hbw3, x3⟩
    have x13 : Ext w w3 (fun y => y = hi ∨ y = p16) := x12.seq (x3.mono fun _ _ h => .inl h)
    have o163 := (o16.ext x02 (fun h => h)).ext x3 (by omega)
    have l163 := lda_lightermanref05_B (off := 0) o163 (by simp)
    have l12 := lda_lightermanref07_T (off := 0) (o12.ext x13 (by omega)) (by simp)
    simp only [List.drop_zero, List.take_succ_cons, List.take_zero] at l163 l12
    simp (disch := omega) only [l12, stepR_value, l163]
    have z3 := x3.size
    refine (refNext_c (b := b2) (L := L) (s := s) ⟨cc, rest, rfl, ob2.ext x13 (by omega)⟩ hL hlen ((hrb'.ext x02 (fun _ _ _ h => h)).ext x3 (fun b hb hh => by omega)) (by omega) (by omega) (by omega)).mono ?_
    rintro r w4 ⟨b', rfl, hrb4, x4⟩
    rw [(rd_step h1).1, (rd_step h1).2] at hrb4
    have hbl := bitsAt_le hL s
    have hln := lastN_lt ((bitsB l).take left.toNat) (bitsAt L s)
    have hp : 2 ^ bitsAt L s ≤ 2 ^ 20 := Nat.pow_le_pow_right (by omega) hbl
    have hnb := nextAt_bd hL s (x := lastN ((bitsB l).take left.toNat) (bitsAt L s)) (by omega)
    generalize nextAt L s (lastN ((bitsB l).take left.toNat) (bitsAt L s)) = s' at *
    generalize bitsAt L s = nb at *
    have hrb4' := hrb4
    obtain ⟨v4, rfl, hs4, hat4⟩ := hrb4
    obtain ⟨a4, c4, rfl, hc4⟩ := blLen hs4
    simp (disch := omega) only [x20, x21, stepR_value]
    refine sta_lightermanref05_B (o163.ext x4 (fun h => h)) rfl (by simp [one]) (by simp) fun w5 o5 x5 s5 => ?_
    simp only [setAll, List.set_cons_zero, List.set_cons_succ] at o5
    refine ⟨n2 % 40 - (i + 1), by omega, i + 1, s', left - nb, .agg #[.slice a4 ((bitsB l).take (left - nb).toNat).length c4, .int .i64 ((-(left - nb)).toNat : Nat)], rfl, rfl, by omega, by omega, by omega, hnb.1, hnb.2, o5, ⟨(hbw3.ext x4 (fun _ _ _ h => h) hlh).ext x5 (fun b hb hh => by omega) hlh, hrb4'.ext x5 (fun b hb hh => by omega)⟩, ?_⟩
    exact (x13.seq (x4.mono fun _ _ h => h.elim)).seq (x5.mono fun _ _ h => .inr h)
  · have d1 : decide ((i : Int) < ((n2 % 40 : Nat) : Int)) = false := by simp only [decide_eq_false_iff_not]; omega
    unfold law07_FseReads_p2
    simp (disch := omega) only [Stp, r_rem, eq, r_neq, Same, and_true, r_add, w_i64, stepR_value, true_and, r_pick, cv_uint8_int, r_lss, d1, Cnd_false]
    unfold law07_FseReads_p1
    simp (disch := omega) only [Stp, r_eql, ess, Same, l16d, Result.ok.injEq, Next.value.injEq, and_true, true_and, stepR_value, isB_tt, Gs_true, r_pick, if_true, Gd_true]
    refine (bwdLeft_c (hbw.ext (Ext.dr _ nob) (fun _ _ _ h => h) hlh)).mono ?_
    rintro r w2 ⟨rfl, rfl⟩
    simp (disch := omega) only [l16d, stepR_value, true_and]
    refine (refLeft_c (hrb'.ext (Ext.dr _ nob) (fun _ _ _ h => h)) (by omega) (by omega)).mono ?_
    rintro r w2 ⟨rfl, x2⟩
    rw [eleft]
    simp (disch := omega) only [r_eql, ell, stepR_value, true_and]
    exact hR _ ((x01.seq (Ext.dr _ _)).seq x2)

theorem readsTail_c {n2 b b2 log p10 p12 cc : Nat} {L : List T3} {l : List UInt8} {v : Value} {rest : List Value} {w0 w : World} (hL : Low L) (hlen : L.length ≤ 1000000) (hlog : log ≤ 20) (hl : l.length ≤ 100) (hn : n2 < 256)
    (hh : w0.heap.size ≤ w.heap.size)
    (o10 : Own w p10 [.int .i64 log, .slice (some ⟨b, 0, none⟩) L.length L.length]) (ob : Own w b (fe .u8 L))
    (o12 : Own w p12 [.int .i64 log, .slice (some ⟨b2, 0, none⟩) L.length cc]) (ob2 : Own w b2 (fe .i64 L ++ rest))
    (hs : Bs w v l) (hx : Ext w0 w nob)
    {R : Value → World → Prop} (hR : ∀ w', Ext w0 w' nob → R (.bool true) w') :
    law07_FseReads_p9 R v (.int .u8 n2) (.pointer (some ⟨p10, 0, none⟩)) (.pointer (some ⟨p12, 0, none⟩)) w := by
  have q10 := o10.lt
  have q12 := o12.lt
  have qb := ob.lt
  have qb2 := ob2.lt
  have hlst : lst ⟨l.toArray⟩ = l := lst_mk l
  have hsz : (⟨l.toArray⟩ : ByteArray).size = l.length := by rw [← lst_length, hlst]
  unfold law07_FseReads_p9 law07_FseReads_p8
  cases he : endB l with
  | none =>
    refine (newBackward_bad hs he (by omega)).mono ?_
    rintro r w1 ⟨rfl, rfl⟩
    have hcv := cv_sl_uint8_string hs
    simp (disch := omega) only [Stp, x20, x21, stepR_value, r_neq, hcv]
    refine (refNew_bad (x := ⟨l.toArray⟩) (by rw [hlst]; exact he) (by omega)).mono ?_
    rintro r w2 ⟨rfl, x2⟩
    simp (disch := omega) only [x20, x21, stepR_value, r_neq]
    refine al_lightermanref05_B fun w3 o3 x3 s3 => ?_
    refine sta_lightermanref05_B o3 rfl (by simp [one]) (by simp) fun w4 o4 x4 s4 => ?_
    have e1 : ((11 : Int) != (11 : Int)) = false := rfl
    have e2 : ((11 : Int) != 0) = true := rfl
    simp (disch := omega) only [e1, e2, Cnd_true, Cnd_false]
    have z2 := x2.size
    exact hR _ (((hx.seq x2).seq x3).new x4 (by omega))
  | some k =>
    have hk := endB_some he
    refine (newBackward_ok hs he (by omega)).mono ?_
    rintro r w1 ⟨hi, rfl, hlh, hhi, hbw, x1⟩
    have hcv := cv_sl_uint8_string (hs.ext x1 (inB_nob _))
    simp (disch := omega) only [Stp, x20, x21, stepR_value, r_neq, hcv]
    refine (refNew_ok (x := ⟨l.toArray⟩) (by rw [hlst]; exact he) (by omega)).mono ?_
    rintro r w2 ⟨bv, hi2, rfl, hhi2, hrb, x2⟩
    rw [hlst] at hrb
    have hrb' := hrb
    obtain ⟨v2, rfl, hs2, hat2⟩ := hrb
    obtain ⟨a2, c2, rfl, hc2⟩ := blLen hs2
    simp (disch := omega) only [x20, x21, stepR_value, r_neq]
    refine al_lightermanref05_B fun w3 o3 x3 s3 => ?_
    refine sta_lightermanref05_B o3 rfl (by simp [one]) (by simp) fun w4 o4 x4 s4 => ?_
    simp only [setAll, List.set_cons_zero, List.set_cons_succ] at o4
    have e1 : ((0 : Int) != (0 : Int)) = false := rfl
    have z1 := x1.size
    have z2 := x2.size
    have x24 : Ext w2 w4 nob := x3.new x4 (Nat.le_refl _)
    have x14 : Ext w1 w4 nob := x2.seq x24
    have x04 : Ext w w4 nob := x1.seq x14
    have hbw4 := hbw.ext x14 (fun _ _ _ h => h) hlh
    have hrb4 := hrb'.ext x24 (fun _ _ _ h => h)
    have o104 := o10.ext x04 (fun h => h)
    have o124 := o12.ext x04 (fun h => h)
    have ob4 := ob.ext x04 (fun h => h)
    have ob24 := ob2.ext x04 (fun h => h)
    have l10 := lda_fse_Table (off := 0) o104 (by simp)
    simp only [List.drop_zero, List.take_succ_cons, List.take_zero] at l10
    simp (disch := omega) only [e1, l10, stepR_value, Cnd_false]
    have h1 : (k : Int) ≤ 8 * l.length := by omega
    refine (fseStart_c hbw4 hlh (by omega) hlog h1 (by omega) (by omega)).mono ?_
    rintro r w5 ⟨rfl, hbw5, x5⟩
    have o125 := o124.ext x5 (by omega)
    have o45 := o4.ext x5 (by omega)
    have l12 := lda_lightermanref07_T (off := 0) o125 (by simp)
    have l4 := lda_lightermanref05_B (off := 0) o45 (by simp)
    simp only [List.drop_zero, List.take_succ_cons, List.take_zero] at l12 l4
    simp (disch := omega) only [l12, Int.toNat_natCast, stepR_value, l4]
    have z5 := x5.size
    have e0 : ((k : Int)).toNat = k := Int.toNat_natCast k
    have e00 : (-(k : Int)).toNat = 0 := by omega
    have hrs := rd_step (n := log) h1
    rw [e0, e00] at hrs
    refine (refStart_c (hrb4.ext x5 (fun b hb hh => by omega)) (by omega) hlog (by have := take_len h1; rw [e0] at this; omega) (by omega)).mono ?_
    rintro r w6 ⟨b', rfl, hrb6, x6⟩
    rw [hrs.1, hrs.2] at hrb6
    have hln := lastN_lt ((bitsB l).take k) log
    have hp : 2 ^ log ≤ 2 ^ 20 := Nat.pow_le_pow_right (by omega) hlog
    generalize lastN ((bitsB l).take k) log = s' at *
    have hrb6' := hrb6
    obtain ⟨v6, rfl, hs6, hat6⟩ := hrb6
    obtain ⟨a6, c6, rfl, hc6⟩ := blLen hs6
    simp (disch := omega) only [x20, x21, stepR_value]
    refine sta_lightermanref05_B (o45.ext x6 (fun h => h)) rfl (by simp [one]) (by simp) fun w7 o7 x7 s7 => ?_
    simp only [setAll, List.set_cons_zero, List.set_cons_succ] at o7
    have z6 := x6.size
    have z7 := x7.size
    have z24 := x24.size
    have x47 : Ext w4 w7 (fun y => y = hi ∨ y = w2.heap.size) := ((x5.mono fun _ _ h => .inl h).seq (x6.mono fun _ _ h => h.elim)).seq (x7.mono fun _ _ h => .inr h)
    refine readsLoop_c (w0 := w0) (lo := w.heap.size) (lo2 := w1.heap.size) (hi2 := hi2) (b := b) (b2 := b2) (log := log) (L := L) (l := l) (left := (k : Int) - log) hL hlen (by omega) hn hlh ?_ (by omega) (by omega) (o104.ext x47 (by omega)) (ob4.ext x47 (by omega)) (o124.ext x47 (by omega)) (ob24.ext x47 (by omega)) o7
      ⟨(hbw5.ext x6 (fun _ _ _ h => h) hlh).ext x7 (fun b hb hh => by omega) hlh, hrb6'.ext x7 (fun b hb hh => by omega)⟩ ((hx.seq x04).trans x47 fun b hb h => by omega) (by omega) hR
    have ll := (o7.lt)
    omega
end Go.Proofs.Ytcbkdccobhkbpaa
/- The law FseReads, whole. -/
namespace Go.Proofs.Ytcbkdccobhkbpaa
open Go Go.En Go.Pu
set_option maxRecDepth 4000
set_option linter.unusedSimpArgs false
set_option linter.unusedVariables false

theorem buildAny_c {log : Int} {sv : Value} {ps : List Int} {w : World} (hs : Sl w sv (ps.map (Value.int .i64))) (hl : ps.length ≤ 9223372036854775807) :
    Does pg F_fse_Build #[.agg #[.int .i64 log, sv]] w (fun r w' => ∃ lg b n c e, r = .tuple #[.agg #[.int .i64 lg, .slice b n c], .int .i64 e] ∧ Ext w w' nob) := by
  cases hmay : mayB log ps with
  | false => exact (build_bad hmay hs hl).mono fun r w' ⟨h1, h2⟩ => ⟨_, _, _, _, _, h1, h2⟩
  | true =>
    obtain ⟨l, rfl, hm⟩ := may_of hmay
    refine (build_c hm hs).mono ?_
    rintro r w' ⟨b, v, rfl, ⟨rfl, _, _⟩, h3⟩
    exact ⟨_, _, _, _, _, rfl, h3⟩
theorem refBuildAny_c {log : Int} {sv : Value} {ps : List Int} {w : World} (hs : Sl w sv (ps.map (Value.int .i64))) (hl : ps.length ≤ 9223372036854775807) :
    Does pg F_ref07_Build #[.agg #[.int .i64 log, sv]] w (fun r w' => ∃ lg b n c e, r = .tuple #[.agg #[.int .i64 lg, .slice b n c], .int .i64 e] ∧ Ext w w' nob) := by
  cases hmay : mayB log ps with
  | false => exact (refBuild_bad hmay hs hl).mono fun r w' ⟨h1, h2⟩ => ⟨_, _, _, _, _, h1, h2⟩
  | true =>
    obtain ⟨l, rfl, hm⟩ := may_of hmay
    exact (refBuild_c hm hs).mono fun r w' ⟨b, cc, rest, h1, _, _, h3⟩ => ⟨_, _, _, _, _, h1, h3⟩

theorem fseReads_c {log : Int} {sv bv : Value} {ps : List Int} {l : List UInt8} {w : World} (hs : Sl w sv (ps.map (Value.int .i64))) (hl : ps.length ≤ 9223372036854775807) (hb : Bs w bv l) (n : Nat) (hn : n < 256) (o : Bool) :
    Does pg F_law07_FseReads #[.agg #[.int .i64 log, sv], bv, .int .u8 n, .bool o] w (fun r w' => r = .bool true ∧ Ext w w' nob) := by
  refine law07_FseReads_does ?_
  unfold law07_FseReads law07_FseReads_p11 law07_FseReads_p10
  obtain ⟨a, c, hv, hc⟩ := hs.lenI
  obtain ⟨ba, bn, bc, hbv, hbn, hbc, _⟩ := id hb
  rw [List.length_map] at hbn
  subst hbn
  refine stp_box fun w1 o1 x1 s1 => ?_
  refine (awake7_c w1).mono ?_
  rintro r w2 ⟨rfl, x2⟩
  have o1 := o1.ext x2 (fun h => h)
  have x02 := x1.seq x2
  have hs2 := hs.ext x02 (inB_nob _)
  have c0 := o1.cell (off := 0)
  have c1 := o1.cell (off := 1)
  have l1 := lda_normal_Counts (off := 0) o1 (by simp [Value.cells])
  simp only [Value.cells, List.drop_zero, List.take_succ_cons, List.take_zero, List.getElem?_cons_zero, List.getElem?_cons_succ] at l1 c0 c1
  subst hv
  by_cases h1 : 300 < ps.length
  · have d1 : decide ((300 : Int) < (ps.length : Int)) = true := by simp; omega
    simp (disch := omega) only [Stp, r_not, Bool.not_true, fa_normal_Counts_Part, Nat.zero_add, fa_normal_Counts_Log, stepR_value, true_and, cv_uint8_int, w_i64, ld_sl_int, c1, ldC_some, ln_sl_int, r_gtr, d1, isB_tf, r_pick, if_true, Cnd_true, Gd_false, Cnd_false]
    exact x02
  have d1 : decide ((300 : Int) < (ps.length : Int)) = false := by simp; omega
  by_cases h2 : 9 < log
  · have d2 : decide ((9 : Int) < log) = true := by simpa using h2
    simp (disch := omega) only [Stp, r_not, Bool.not_true, fa_normal_Counts_Part, Nat.zero_add, fa_normal_Counts_Log, stepR_value, true_and, cv_uint8_int, w_i64, ld_sl_int, c1, ldC_some, ln_sl_int, r_gtr, d1, isB_ff, r_pick, Bool.false_eq_true, if_false, Gd_true, ld_int, c0, d2, isB_tf, if_true, Cnd_true, Gd_false, Cnd_false]
    exact x02
  have d2 : decide ((9 : Int) < log) = false := by simpa using h2
  by_cases h3 : 100 < l.length
  · have d3 : decide ((100 : Int) < (l.length : Int)) = true := by simp; omega
    subst hbv
    simp (disch := omega) only [Stp, r_not, Bool.not_true, fa_normal_Counts_Part, Nat.zero_add, fa_normal_Counts_Log, stepR_value, true_and, cv_uint8_int, w_i64, ld_sl_int, c1, ldC_some, ln_sl_int, r_gtr, d1, isB_ff, r_pick, Bool.false_eq_true, if_false, Gd_true, ld_int, c0, d2, ln_sl_uint8, d3, Cnd_true, Cnd_false]
    exact x02
  have d3 : decide ((100 : Int) < (l.length : Int)) = false := by simp; omega
  have hbv' := hbv
  have z1 := o1.lt
  have z02 := x02.size
  cases o with
  | true =>
    subst hbv
    simp (disch := omega) only [Stp, r_not, Bool.not_true, fa_normal_Counts_Part, Nat.zero_add, fa_normal_Counts_Log, stepR_value, true_and, cv_uint8_int, w_i64, Cnd_true, ld_sl_int, c1, ldC_some, ln_sl_int, r_gtr, d1, isB_ff, r_pick, Bool.false_eq_true, if_false, Gd_true, ld_int, c0, d2, ln_sl_uint8, d3, l1, Cnd_false]
    refine (buildAny_c hs2 hl).mono ?_
    rintro r w3 ⟨lg, q1, q2, q3, e, rfl, x3⟩
    have z3 := x3.size
    simp (disch := omega) only [x20, x21, stepR_value]
    refine al_fse_Table fun w4 o4 x4 s4 => ?_
    refine sta_fse_Table o4 rfl (by simp [one]) (by simp) fun w5 o5 x5 s5 => ?_
    simp only [setAll, List.set_cons_zero, List.set_cons_succ] at o5
    have x05 : Ext w w5 nob := ((x02.seq x3).seq x4).new x5 (by omega)
    have o15 := (((o1.ext x3 (fun h => h)).ext x4 (fun h => h))).ext x5 (by omega)
    have l15 := lda_normal_Counts (off := 0) o15 (by simp [Value.cells])
    simp only [Value.cells, List.drop_zero, List.take_succ_cons, List.take_zero] at l15
    simp (disch := omega) only [l15, stepR_value]
    refine (model7_c (hs.ext x05 (inB_nob _))).mono ?_
    rintro r w6 ⟨rfl, x6⟩
    refine (refBuildAny_c ((hs.ext x05 (inB_nob _)).ext x6 (inB_nob _)) hl).mono ?_
    rintro r w7 ⟨lg', q1', q2', q3', e', rfl, x7⟩
    simp (disch := omega) only [x20, x21, stepR_value]
    refine al_lightermanref07_T fun w8 o8 x8 s8 => ?_
    refine sta_lightermanref07_T o8 rfl (by simp [one]) (by simp) fun w9 o9 x9 s9 => ?_
    simp only [setAll, List.set_cons_zero, List.set_cons_succ] at o9
    have z6 := x6.size
    have z7 := x7.size
    have z5 := x05.size
    have l5 := o5.lt
    have o59 := (((o5.ext x6 (fun h => h)).ext x7 (fun h => h)).ext x8 (fun h => h)).ext x9 (by omega)
    have x09 : Ext w w9 nob := ((x05.seq x6).seq x7).seq x8 |>.new x9 (by omega)
    refine (one_c (n : Int) w9).mono ?_
    rintro r w10 ⟨b, ⟨rfl, hb10, ob10⟩, x10⟩
    refine sta_fse_Table (o59.ext x10 (fun h => h)) rfl (by simp [one]) (by simp) fun w11 o11 x11 s11 => ?_
    simp only [setAll, List.set_cons_zero, List.set_cons_succ] at o11
    refine (refOne_c (n : Int) w11).mono ?_
    rintro r w12 ⟨b2, hb12, ⟨cc, rest, rfl, ob12⟩, x12⟩
    have z9 := o9.lt
    have z59 := o59.lt
    have z10 := x10.size
    have z11 := x11.size
    refine sta_lightermanref07_T (((o9.ext x10 (fun h => h)).ext x11 (by omega)).ext x12 (fun h => h)) rfl (by simp [one]) (by simp) fun w13 o13 x13 s13 => ?_
    simp only [setAll, List.set_cons_zero, List.set_cons_succ] at o13
    have x013 : Ext w w13 nob := (((x09.seq x10).new x11 (by omega)).seq x12).new x13 (by omega)
    refine readsTail_c (w0 := w) (log := 0) (L := [((n : Int), 0, 0)]) (l := l) ?_ (by simp) (by omega) (by omega) hn x013.size ((o11.ext x12 (fun h => h)).ext x13 (by omega)) (((ob10.ext x11 (by omega)).ext x12 (fun h => h)).ext x13 (by omega)) o13 (ob12.ext x13 (by omega)) (hb.ext x013 (inB_nob _)) x013 fun w' hx => ⟨rfl, hx⟩
    intro e he
    simp at he
    subst he
    exact ⟨0, rfl, by omega, by simp, by simp⟩
  | false =>
    subst hbv
    cases hmay : mayB log ps with
    | false =>
      simp (disch := omega) only [Stp, r_not, Bool.not_true, fa_normal_Counts_Part, Nat.zero_add, fa_normal_Counts_Log, stepR_value, true_and, cv_uint8_int, w_i64, Cnd_false, ld_sl_int, c1, ldC_some, ln_sl_int, r_gtr, d1, isB_ff, r_pick, Bool.false_eq_true, if_false, Gd_true, ld_int, c0, d2, ln_sl_uint8, d3, l1]
      refine (build_bad hmay hs2 hl).mono ?_
      rintro r w3 ⟨rfl, x3⟩
      have z3 := x3.size
      simp (disch := omega) only [x20, x21, stepR_value, r_neq]
      refine al_fse_Table fun w4 o4 x4 s4 => ?_
      refine sta_fse_Table o4 rfl (by simp [one]) (by simp) fun w5 o5 x5 s5 => ?_
      have x05 : Ext w w5 nob := ((x02.seq x3).seq x4).new x5 (by omega)
      have o15 := (((o1.ext x3 (fun h => h)).ext x4 (fun h => h))).ext x5 (by omega)
      have l15 := lda_normal_Counts (off := 0) o15 (by simp [Value.cells])
      simp only [Value.cells, List.drop_zero, List.take_succ_cons, List.take_zero] at l15
      simp (disch := omega) only [l15, stepR_value]
      refine (model7_c (hs.ext x05 (inB_nob _))).mono ?_
      rintro r w6 ⟨rfl, x6⟩
      refine (refBuild_bad hmay ((hs.ext x05 (inB_nob _)).ext x6 (inB_nob _)) hl).mono ?_
      rintro r w7 ⟨rfl, x7⟩
      simp (disch := omega) only [x20, x21, stepR_value, r_eql]
      refine al_lightermanref07_T fun w8 o8 x8 s8 => ?_
      refine sta_lightermanref07_T o8 rfl (by simp [one]) (by simp) fun w9 o9 x9 s9 => ?_
      have z6 := x6.size
      have z7 := x7.size
      have z5 := x05.size
      have e1 : ((1 : Int) != 0) = true := rfl
      have e2 : ((1 : Int) == 1) = true := rfl
      simp (disch := omega) only [e1, e2, true_and, Cnd_true]
      exact ((x05.seq x6).seq x7).seq x8 |>.new x9 (by omega)
    | true =>
      obtain ⟨lg, rfl, hm⟩ := may_of hmay
      simp (disch := omega) only [Stp, r_not, Bool.not_true, fa_normal_Counts_Part, Nat.zero_add, fa_normal_Counts_Log, stepR_value, true_and, cv_uint8_int, w_i64, Cnd_false, ld_sl_int, c1, ldC_some, ln_sl_int, r_gtr, d1, isB_ff, r_pick, Bool.false_eq_true, if_false, Gd_true, ld_int, c0, d2, ln_sl_uint8, d3, l1]
      refine (build_c hm hs2).mono ?_
      rintro r w3 ⟨b, v, rfl, ⟨rfl, hb3, ob⟩, x3⟩
      have z3 := x3.size
      simp (disch := omega) only [x20, x21, stepR_value, r_neq]
      refine al_fse_Table fun w4 o4 x4 s4 => ?_
      refine sta_fse_Table o4 rfl (by simp [one]) (by simp) fun w5 o5 x5 s5 => ?_
      simp only [setAll, List.set_cons_zero, List.set_cons_succ] at o5
      have lb := ob.lt
      have x05 : Ext w w5 nob := ((x02.seq x3).seq x4).new x5 (by omega)
      have o15 := (((o1.ext x3 (fun h => h)).ext x4 (fun h => h))).ext x5 (by omega)
      have ob5 := (ob.ext x4 (fun h => h)).ext x5 (by omega)
      have l15 := lda_normal_Counts (off := 0) o15 (by simp [Value.cells])
      simp only [Value.cells, List.drop_zero, List.take_succ_cons, List.take_zero] at l15
      simp (disch := omega) only [l15, stepR_value]
      refine (model7_c (hs.ext x05 (inB_nob _))).mono ?_
      rintro r w6 ⟨rfl, x6⟩
      refine (refBuild_c hm ((hs.ext x05 (inB_nob _)).ext x6 (inB_nob _))).mono ?_
      rintro r w7 ⟨b2, cc, rest, rfl, hb2, ob2, x7⟩
      simp (disch := omega) only [x20, x21, stepR_value, r_eql]
      refine al_lightermanref07_T fun w8 o8 x8 s8 => ?_
      refine sta_lightermanref07_T o8 rfl (by simp [one]) (by simp) fun w9 o9 x9 s9 => ?_
      simp only [setAll, List.set_cons_zero, List.set_cons_succ] at o9
      have z6 := x6.size
      have z7 := x7.size
      have z8 := x8.size
      have z5 := x05.size
      have l5 := o5.lt
      have lb2 := ob2.lt
      have lb5 := ob5.lt
      have o59 := (((o5.ext x6 (fun h => h)).ext x7 (fun h => h)).ext x8 (fun h => h)).ext x9 (by omega)
      have ob9 := (((ob5.ext x6 (fun h => h)).ext x7 (fun h => h)).ext x8 (fun h => h)).ext x9 (by omega)
      have ob29 := (ob2.ext x8 (fun h => h)).ext x9 (by omega)
      have x09 : Ext w w9 nob := ((x05.seq x6).seq x7).seq x8 |>.new x9 (by omega)
      have e1 : ((0 : Int) != (0 : Int)) = false := rfl
      simp (disch := omega) only [e1, Cnd_false]
      have hlen : 2 ^ lg = (buildL lg ps).length := (buildL_length lg ps).symm
      have hN2 : 2 ^ lg ≤ 2 ^ 15 := Nat.pow_le_pow_right (by omega) hm.log15
      rw [hlen] at o9
      exact readsTail_c (w0 := w) (log := lg) (L := buildL lg ps) (l := l) (buildL_low hm) (by rw [← hlen]; omega) (by have := hm.log15; omega) (by omega) hn x09.size o59 ob9 o9 ob29 (hb.ext x09 (inB_nob _)) x09 fun w' hx => ⟨rfl, hx⟩
end Go.Proofs.Ytcbkdccobhkbpaa

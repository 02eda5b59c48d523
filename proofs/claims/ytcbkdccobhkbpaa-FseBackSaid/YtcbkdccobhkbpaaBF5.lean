/- Contracts: states that bits tell. -/
import Derived.Test.YtcbkdccobhkbpaaBF3
import Derived.Test.YtcbkdccobhkbpaaBF2
import Derived.Test.YtcbkdccobhkbpaaBT2
import Derived.Test.YtcbkdccobhkbpaaHT
import Derived.Test.YtcbkdccobhkbpaaPuC
namespace Go.Proofs.Ytcbkdccobhkbpaa
open Go Go.En Go.Pu
set_option maxRecDepth 4000
set_option linter.unusedSimpArgs false
set_option linter.unusedVariables false

/-- the bits of a state, and the state behind it -/
def bitsAt (L : List T3) (s : Int) : Nat := if 0 ≤ s then (match L[s.toNat]? with | some e => e.2.1.toNat | none => 0) else 0
def nextAt (L : List T3) (s : Int) (x : Nat) : Int := if 0 ≤ s then (match L[s.toNat]? with | some e => e.2.2 + x | none => 0) else 0
theorem bitsAt_le {L : List T3} (h : Low L) (s : Int) : bitsAt L s ≤ 20 := by
  unfold bitsAt
  split
  · split
    · rename_i e he
      obtain ⟨n, h1, h2, _⟩ := h _ (List.mem_of_getElem? he)
      rw [h1]; simpa using h2
    · omega
  · omega
theorem nextAt_bd {L : List T3} (h : Low L) (s : Int) {x : Nat} (hx : x < 2 ^ 20) : 0 ≤ nextAt L s x ∧ nextAt L s x ≤ 2000000 := by
  unfold nextAt
  split
  · split
    · rename_i e he
      obtain ⟨n, h1, h2, h3, h4⟩ := h _ (List.mem_of_getElem? he)
      omega
    · omega
  · omega

theorem fseStart_c {log lo hi : Nat} {a : Option Addr} {k c : Nat} {l : List UInt8} {left : Int} {w : World} (h : Bwd w lo hi l left) (hlh : lo ≤ hi) (hhi : hi < w.heap.size) (hn : log ≤ 20) (h1 : left ≤ 8 * l.length) (h2 : -100000000 ≤ left) (hl : l.length ≤ 1000000) :
    Does pg F_fse_Start #[.agg #[.int .i64 log, .slice a k c], .pointer (some ⟨hi, 0, none⟩)] w (fun r w' => r = .int .i64 (lastN ((bitsB l).take left.toNat) log : Nat) ∧ Bwd w' lo hi l (left - log) ∧ Ext w w' (fun y => y = hi)) := by
  refine fse_Start_does ?_
  unfold fse_Start fse_Start_p1
  refine stp_box fun w1 o1 x1 s1 => ?_
  simp only [Value.cells] at o1
  have c0 := o1.cell (off := 0)
  simp only [List.getElem?_cons_zero, List.getElem?_cons_succ] at c0
  simp (disch := omega) only [Stp, fa_fse_Table_Log, stepR_value, ld_int, c0, ldC_some]
  refine (bwdRead_c (h.ext x1 (fun _ _ _ h => h) hlh) hlh (by omega) h1 (by omega) hl).mono ?_
  rintro r w2 ⟨rfl, b2, x2⟩
  have hlt := lastN_lt ((bitsB l).take left.toNat) log
  have hp : 2 ^ log ≤ 2 ^ 20 := Nat.pow_le_pow_right (by omega) hn
  generalize lastN ((bitsB l).take left.toNat) log = x at *
  simp (disch := omega) only [cv_uint64_int, w_i64, stepR_value, true_and]
  exact ⟨b2, (x1.mono fun _ _ h => h.elim).seq x2⟩

theorem fseNext_c {log base b lo hi : Nat} {L : List T3} {v : Value} {s : Int} {l : List UInt8} {left : Int} {w : World} (ht : Tbl w base b log L v) (hL : Low L) (hlen : L.length ≤ 1000000) (h : Bwd w lo hi l left) (hlh : lo ≤ hi) (hhi : hi < w.heap.size) (hb : b ≠ hi) (h1 : left ≤ 8 * l.length) (h2 : -100000000 ≤ left) (hl : l.length ≤ 1000000) :
    Does pg F_fse_Next #[v, .int .i64 s, .pointer (some ⟨hi, 0, none⟩)] w (fun r w' => r = .int .i64 (nextAt L s (lastN ((bitsB l).take left.toNat) (bitsAt L s))) ∧ Bwd w' lo hi l (left - bitsAt L s) ∧ Ext w w' (fun y => y = hi)) := by
  refine fse_Next_does ?_
  obtain ⟨rfl, hb0, ob⟩ := ht
  unfold fse_Next fse_Next_p1
  refine stp_box fun w1 o1 x1 s1 => ?_
  simp only [Value.cells] at o1
  have c1 := o1.cell (off := 1)
  simp only [List.getElem?_cons_zero, List.getElem?_cons_succ] at c1
  have hbw := h.ext x1 (fun _ _ _ h => h) hlh
  by_cases hs0 : s < 0
  · have d1 : decide (s < 0) = true := by simpa using hs0
    have e1 : bitsAt L s = 0 := by unfold bitsAt; rw [if_neg (by omega)]
    have e2 : ∀ x, nextAt L s x = 0 := fun x => by unfold nextAt; rw [if_neg (by omega)]
    rw [e1]
    simp (disch := omega) only [Stp, r_lss, d1, fa_fse_Table_Entries, Nat.zero_add, stepR_value, Same, and_true, true_and, ld_sl_fse_Entry, isB_tf, r_pick, if_true, Cnd_true, Gd_false]
    exact ⟨by rw [e2], by simpa using hbw, x1.mono fun _ _ h => h.elim⟩
  have d1 : decide (s < 0) = false := by simpa using hs0
  obtain ⟨i, rfl⟩ : ∃ i : Nat, s = i := ⟨s.toNat, by omega⟩
  by_cases hge : L.length ≤ i
  · have d2 : decide ((L.length : Int) ≤ (i : Int)) = true := by simp; omega
    have hnone : L[i]? = none := List.getElem?_eq_none hge
    have e1 : bitsAt L i = 0 := by unfold bitsAt; simp [hnone]
    have e2 : ∀ x, nextAt L i x = 0 := fun x => by unfold nextAt; simp [hnone]
    rw [e1]
    simp (disch := omega) only [Stp, r_lss, d1, fa_fse_Table_Entries, Nat.zero_add, stepR_value, Same, and_true, true_and, ld_sl_fse_Entry, isB_ff, r_pick, Bool.false_eq_true, if_false, Gd_true, c1, ldC_some, ln_sl_fse_Entry, r_geq, d2, Cnd_true]
    exact ⟨by rw [e2], by simpa using hbw, x1.mono fun _ _ h => h.elim⟩
  have d2 : decide ((L.length : Int) ≤ (i : Int)) = false := by simp; omega
  have hlt : i < L.length := by omega
  have l1 := lda_fse_Entry (off := i * 3) (ob.ext x1 (fun h => h)) (by rw [fe_length]; omega)
  rw [fe_take hlt] at l1
  obtain ⟨n, hn, hn2, hb0', hb1⟩ := hL _ (List.getElem_mem hlt)
  have hsome : L[i]? = some L[i] := List.getElem?_eq_getElem hlt
  have e1 : bitsAt L i = n := by unfold bitsAt; simp [hsome, hn]
  have e2 : ∀ x : Nat, nextAt L i x = L[i].2.2 + x := fun x => by unfold nextAt; simp [hsome]
  generalize L[i] = e at *
  obtain ⟨e0, en, eb⟩ := e
  simp only at hn hb0' hb1 l1 e2
  subst hn
  rw [e1, e2]
  simp (disch := omega) only [Stp, r_lss, d1, fa_fse_Table_Entries, Nat.zero_add, stepR_value, Same, and_true, true_and, ld_sl_fse_Entry, isB_ff, r_pick, Bool.false_eq_true, if_false, Gd_true, c1, ldC_some, ln_sl_fse_Entry, r_geq, d2, ia_sl_fse_Entry, Int.toNat_natCast, l1, Cnd_false]
  refine al_fse_Entry fun w3 o3 x3 s3 => ?_
  refine sta_fse_Entry o3 rfl (by simp [one]) (by simp) fun w4 o4 x4 s4 => ?_
  simp only [setAll, List.set_cons_zero, List.set_cons_succ] at o4
  have x14 : Ext w1 w4 nob := x3.new x4 (by omega)
  have od := own_dr o4
  have k1 := o4.cell (off := 1)
  have k2 := o4.cell (off := 2)
  have k1d := od.cell (off := 1)
  have k2d := od.cell (off := 2)
  simp only [List.getElem?_cons_zero, List.getElem?_cons_succ] at k1 k2 k1d k2d
  simp (disch := omega) only [fa_fse_Entry_Base, Nat.zero_add, fa_fse_Entry_Bits, Result.ok.injEq, Next.value.injEq, and_true, stepR_value, ld_int, k1d, ldC_some, true_and, k2d]
  have z3 := x3.size
  refine (bwdRead_c ((hbw.ext x14 (fun _ _ _ h => h) hlh).ext (Ext.dr _ nob) (fun _ _ _ h => h) hlh) hlh (by omega) h1 (by omega) hl).mono ?_
  rintro r w5 ⟨rfl, b5, x5⟩
  have x45 : Ext w4 w5 (fun y => y = hi) := (Ext.dr _ _).seq x5
  have k2e := (o4.ext x45 (by omega)).cell (off := 2)
  simp only [List.getElem?_cons_zero, List.getElem?_cons_succ] at k2e
  have hlt := lastN_lt ((bitsB l).take left.toNat) n
  have hp : 2 ^ n ≤ 2 ^ 20 := Nat.pow_le_pow_right (by omega) hn2
  generalize lastN ((bitsB l).take left.toNat) n = x at *
  simp (disch := omega) only [k2e, ldC_some, cv_uint64_int, w_i64, stepR_value, r_add, true_and]
  exact ⟨b5, ((x1.seq x14).mono fun _ _ h => h.elim).seq x45⟩
end Go.Proofs.Ytcbkdccobhkbpaa
/- Contracts: bits written. -/
namespace Go.Proofs.Ytcbkdccobhkbpaa
open Go Go.En Go.Pu
set_option maxRecDepth 4000
set_option linter.unusedSimpArgs false
set_option linter.unusedVariables false

theorem ossExt {w w' : World} {S M : Nat → Prop} {sz n : Nat} {v : Value} {l : List Value} (h : OSS w S sz v n l) (hx : Ext w w' M) (hM : ∀ b, S b → ¬ M b) : OSS w' S sz v n l := by
  refine ⟨h.1, ?_⟩
  rcases h.2 with h2 | ⟨b, c, rest, h1, h2, h3, h4, h5⟩
  · exact .inl h2
  · exact .inr ⟨b, c, rest, h1, h2, h3.ext hx (hM b h2), h4, h5⟩

/-- a writer: its block is p, its bytes lie elsewhere from lo on -/
def Wr (w : World) (lo p : Nat) (B : List Bool) : Prop := lo ≤ p ∧ ∃ v bytes, Own w p [v, .int .i64 B.length] ∧ OSS w (fun b => lo ≤ b ∧ b ≠ p) 1 v bytes.length (bytes.map b2v) ∧ Held B bytes
/-- a writer with room for a bit -/
def Rm (w : World) (lo p : Nat) (B : List Bool) : Prop := lo ≤ p ∧ ∃ v bytes, Own w p [v, .int .i64 B.length] ∧ OSS w (fun b => lo ≤ b ∧ b ≠ p) 1 v bytes.length (bytes.map b2v) ∧
  bitsB bytes = B ++ List.replicate (8 * bytes.length - B.length) false ∧ bytes.length = (B.length + 1 + 7) / 8
theorem Wr.ext {w w' : World} {lo p : Nat} {B : List Bool} {M : Nat → Prop} (h : Wr w lo p B) (hx : Ext w w' M) (hM : ∀ b, lo ≤ b → ¬ M b) : Wr w' lo p B := by
  obtain ⟨h0, v, bytes, h1, h2, h3⟩ := h
  exact ⟨h0, v, bytes, h1.ext hx (hM _ h0), ossExt h2 hx fun b hb => hM b hb.1, h3⟩

theorem newWriter_c (w : World) : Does pg F_bits_NewWriter #[] w (fun r w' => r = .pointer (some ⟨w.heap.size, 0, none⟩) ∧ w.heap.size < w'.heap.size ∧ Wr w' w.heap.size w.heap.size [] ∧ Ext w w' nob) := by
  refine bits_NewWriter_does ?_
  unfold bits_NewWriter bits_NewWriter_p1
  simp (disch := omega) only [Stp, bd_bits_Writer_, stepR_value]
  refine stp_box fun w1 o1 x1 s1 => ?_
  simp only [Value.cells] at o1
  exact ⟨rfl, by omega, ⟨Nat.le_refl _, _, [], o1, ⟨rfl, .inl ⟨rfl, rfl⟩⟩, held_nil⟩, x1⟩

theorem put_c {lo p x i : Nat} {B : List Bool} {t17 : Value} {w : World} (h : Rm w lo p B) (hx : x < 2 ^ 64) (hi : i ≤ 60) (hB : B.length ≤ 1000000000)
    {kn : Value → Value → Value → Value → World → Prop} (hR : ∀ w', Wr w' lo p (B ++ [x.testBit i]) → Ext w w' (fun y => lo ≤ y) → kn (.pointer (some ⟨p, 0, none⟩)) (.int .u64 x) t17 (.int .i64 i) w') :
    bits_Writer_Write_p2 kn (.pointer (some ⟨p, 0, none⟩)) (.int .u64 x) (.int .i64 i) t17 (.int .i64 i) w := by
  obtain ⟨h0, v, bytes, o, os, hbits, hlen⟩ := h
  obtain ⟨hlt, hheld, hval, hor⟩ := held_set (y := x.testBit i) hbits hlen
  rcases os.2 with ⟨rfl, hz⟩ | ⟨b, c, rest, rfl, hS, ob, hc, hn⟩
  · rw [hlen] at hz; omega
  generalize hq : B.length = q at *
  have hcell : (bytes.map b2v ++ rest)[q / 8]? = some (.int .u8 ((bytes[q / 8]'hlt).toNat : Nat)) := by
    rw [List.getElem?_append_left (by rw [List.length_map]; exact hlt), List.getElem?_map, List.getElem?_eq_getElem hlt]; rfl
  have hcl : (bytes[q / 8]'hlt).toNat < 2 ^ 8 := UInt8.toNat_lt _
  have hset : (bytes.map b2v ++ rest).set (q / 8) (.int .u8 (((bytes[q / 8]'hlt).toNat + 2 ^ (q % 8) * (x.testBit i).toNat : Nat))) = (bytes.set (q / 8) (UInt8.ofNat ((bytes[q / 8]'hlt).toNat + 2 ^ (q % 8) * (x.testBit i).toNat))).map b2v ++ rest := by
    rw [List.set_append_left _ _ (by rw [List.length_map]; exact hlt), List.map_set, b2v, UInt8.toNat_ofNat_of_lt' (by simpa using hval)]
  have hbl : (bytes.set (q / 8) (UInt8.ofNat ((bytes[q / 8]'hlt).toNat + 2 ^ (q % 8) * (x.testBit i).toNat))).length = bytes.length := List.length_set
  generalize bytes.set (q / 8) (UInt8.ofNat ((bytes[q / 8]'hlt).toNat + 2 ^ (q % 8) * (x.testBit i).toNat)) = bytes' at *
  generalize (bytes[q / 8]'hlt).toNat = y at *
  have e1 : (q : Int).tdiv 8 = ((q / 8 : Nat) : Int) := by rw [Int.tdiv_eq_ediv_of_nonneg (by omega)]; omega
  have e2 : (q : Int).tmod 8 = ((q % 8 : Nat) : Int) := by rw [Int.tmod_eq_emod_of_nonneg (by omega)]; omega
  have e3 := shr_u64 x i (by omega)
  have hxl : x / 2 ^ i < 2 ^ 64 := by have := Nat.div_le_self x (2 ^ i); omega
  have e4 := and1_u64 hxl
  rw [← toNat_bit] at e4
  have hbt : (x.testBit i).toNat ≤ 1 := Bool.toNat_le _
  have hp8 : 2 ^ (q % 8) ≤ 2 ^ 7 := Nat.pow_le_pow_right (by omega) (by omega)
  have hm : (x.testBit i).toNat * 2 ^ (q % 8) ≤ 2 ^ (q % 8) := by
    have := Nat.mul_le_mul_right (2 ^ (q % 8)) hbt
    omega
  have e5 : IntKind.u8.wrap (((x.testBit i).toNat : Int) * 2 ^ (min (q % 8) IntKind.u8.bits)) = (((x.testBit i).toNat * 2 ^ (q % 8) : Nat) : Int) := by
    rw [show min (q % 8) IntKind.u8.bits = q % 8 from Nat.min_eq_left (by have h8 : IntKind.u8.bits = 8 := rfl; omega)]
    have e : ((x.testBit i).toNat : Int) * 2 ^ (q % 8) = (((x.testBit i).toNat * 2 ^ (q % 8) : Nat) : Int) := by simp
    rw [e]
    exact w_u8 (by omega) (by omega)
  have e6 := orI_nat8 (a := y) (b := (x.testBit i).toNat * 2 ^ (q % 8)) hcl (by omega)
  rw [hor] at e6
  have e7 : (q : Int) + 1 = ((q + 1 : Nat) : Int) := by omega
  have od := own_dr o
  have obd := own_dr ob
  have c0 := od.cell (off := 0)
  have c1 := od.cell (off := 1)
  have g := obd.cell (off := q / 8)
  rw [hcell] at g
  simp only [List.getElem?_cons_zero, List.getElem?_cons_succ] at c0 c1
  unfold bits_Writer_Write_p2
  simp (disch := omega) only [Stp, r_nil, cv_int_uint, w_u64, stepR_value, fa_bits_Writer_n, Nat.zero_add, ld_int, c1, ldC_some, r_rem, e2, true_and, r_shr, Int.toNat_natCast, e3, r_and, e4, cv_uint64_uint8, w_u8, r_shl, e5, r_quo, e1, w_i64, fa_bits_Writer_b, ld_sl_uint8, c0, ia_sl_uint8, ld_uint8, g, r_or, e6]
  refine st_uint8 obd rfl (by rw [List.length_append, List.length_map]; omega) fun w2 o2 x2 s2 => ?_
  rw [hset] at o2
  have op2 := od.ext x2 (fun h => hS.2 h.symm)
  have c12 := op2.cell (off := 1)
  simp only [List.getElem?_cons_zero, List.getElem?_cons_succ] at c12
  simp (disch := omega) only [c12, ldC_some, stepR_value, r_add, e7, w_i64]
  refine st_int op2 rfl (by simp) fun w3 o3 x3 s3 => ?_
  simp only [List.set_cons_zero, List.set_cons_succ] at o3
  have hBl : (B ++ [x.testBit i]).length = q + 1 := by rw [List.length_append, hq]; rfl
  refine hR _ ⟨h0, _, bytes', by rw [hBl]; exact o3, ⟨by simp, .inr ⟨b, c, rest, by rw [hbl], hS, o2.ext x3 hS.2, ?_, by rw [hbl]; exact hn⟩⟩, hheld⟩ ?_
  · rw [List.length_append, List.length_map] at hc ⊢; rw [hbl]; exact hc
  · exact ((Ext.dr _ _).seq (x2.mono fun z _ h => by omega)).seq (x3.mono fun z _ h => by omega)

theorem bit_c {lo p x i n : Nat} {B : List Bool} {w : World} (hw : Wr w lo p B) (hx : x < 2 ^ 64) (hi : i ≤ 60) (hB : B.length ≤ 1000000000)
    {kn : Value → Value → Value → Value → World → Prop} (hR : ∀ w', Wr w' lo p (B ++ [x.testBit i]) → Ext w w' (fun y => lo ≤ y) → kn (.pointer (some ⟨p, 0, none⟩)) (.int .u64 x) (.int .i64 n) (.int .i64 i) w') :
    bits_Writer_Write_p4 kn (.pointer (some ⟨p, 0, none⟩)) (.int .u64 x) (.int .i64 n) (.int .i64 i) w := by
  unfold bits_Writer_Write_p4 bits_Writer_Write_p3
  obtain ⟨h0, v, bytes, o, os, hh⟩ := hw
  have c1 := o.cell (off := 1)
  have c0 := o.cell (off := 0)
  simp only [List.getElem?_cons_zero, List.getElem?_cons_succ] at c0 c1
  have e2 : (B.length : Int).tmod 8 = ((B.length % 8 : Nat) : Int) := by rw [Int.tmod_eq_emod_of_nonneg (by omega)]; omega
  by_cases h8 : B.length % 8 = 0
  · have d4 : (((B.length % 8 : Nat) : Int) == 0) = true := by rw [h8]; rfl
    obtain ⟨hr1, hr2⟩ := held_room hh h8
    have hl2 := hh.len
    have lp := o.lt
    simp (disch := omega) only [Stp, r_nil, stepR_value, fa_bits_Writer_b, ld_sl_uint8, fa_bits_Writer_n, Nat.zero_add, ld_int, c1, ldC_some, r_rem, e2, r_eql, d4, c0, Cnd_true]
    refine bs_sl_uint8 (cells := #[.int .u8 0]) (by decide) (by decide) (by kernel_rfl) fun w2 o2 x2 s2 => ?_
    refine stp_appendS (m := 1) (news := [b2v 0]) (i := Try.t5) Try.underlying52 Try.underlying52 inf5 rfl rfl rfl (ossExt os x2 (fun _ _ h => h)) (o2.cl (off := 0) (l := [b2v 0]) (n := 1) rfl (fun i hi => by rw [Nat.zero_add]; rfl)) (by simp [one, b2v]) (fun b hb => ⟨by omega, by omega⟩) (by omega) (by rw [show Try.t5.bytes = 1 from rfl]; omega) (by decide) fun v3 w3 o3 x3 => ?_
    have x13 : Ext w w3 (fun y => lo ≤ y ∧ y ≠ p) := (x2.mono fun _ _ h => h.elim).seq x3
    have op3 := o.ext x13 (fun h => h.2 rfl)
    have hv3 : ∃ a n c, v3 = .slice a n c := by
      rcases o3.2 with ⟨rfl, _⟩ | ⟨b, c, rest, rfl, _⟩
      · exact ⟨_, _, _, rfl⟩
      · exact ⟨_, _, _, rfl⟩
    obtain ⟨a3, n3, c3, rfl⟩ := hv3
    refine st_sl_uint8 op3 rfl (by simp) fun w4 o4 x4 s4 => ?_
    simp only [List.set_cons_zero, List.set_cons_succ] at o4
    have x14 : Ext w w4 (fun y => lo ≤ y) := (x13.mono fun y _ h => h.1).seq (x4.mono fun y _ h => by omega)
    refine put_c (w := w4) ⟨h0, _, bytes ++ [0], o4, ?_, ?_, hr2⟩ hx hi hB fun w5 h5 x5 => hR w5 h5 (x14.seq x5)
    · have := ossExt o3 x4 (fun b hb h => hb.2 h)
      rw [List.length_append, List.map_append]
      exact this
    · rw [List.length_append]; exact hr1
  · have d4 : (((B.length % 8 : Nat) : Int) == 0) = false := by simp; omega
    simp (disch := omega) only [Stp, r_nil, stepR_value, fa_bits_Writer_b, ld_sl_uint8, fa_bits_Writer_n, Nat.zero_add, ld_int, c1, ldC_some, r_rem, e2, r_eql, d4, Cnd_false]
    refine put_c (w := w) ⟨h0, v, bytes, o, os, hh.bits, ?_⟩ hx hi hB fun w5 h5 x5 => hR w5 h5 x5
    rw [hh.len]; omega

theorem write_c {lo p x n : Nat} {B : List Bool} {w : World} (h : Wr w lo p B) (hx : x < 2 ^ 64) (hn : n ≤ 56) (hB : B.length ≤ 100000000) :
    Does pg F_bits_Writer_Write #[.pointer (some ⟨p, 0, none⟩), .int .u64 x, .int .i64 n] w (fun r w' => r = .tuple #[] ∧ Wr w' lo p (B ++ bitsN x n) ∧ Ext w w' (fun y => lo ≤ y)) := by
  refine bits_Writer_Write_does ?_
  unfold bits_Writer_Write bits_Writer_Write_p12 bits_Writer_Write_p11
  by_cases hn0 : n = 0
  · subst hn0
    have d1 : decide (((0 : Nat) : Int) < 1) = true := rfl
    simp (disch := omega) only [Stp, peql_p_bits_Writer, Option.isNone_some, true_and, stepR_value, isB_ff, r_pick, Bool.false_eq_true, if_false, Gd_true, r_lss, d1, isB_tf, if_true, Cnd_true, Gd_false]
    exact ⟨by rw [bitsN_zero, List.append_nil]; exact h, Ext.refl _ _⟩
  have d1 : decide ((n : Int) < 1) = false := by simp; omega
  have d2 : decide ((56 : Int) < (n : Int)) = false := by simp; omega
  simp (disch := omega) only [Stp, peql_p_bits_Writer, Option.isNone_some, true_and, stepR_value, isB_ff, r_pick, Bool.false_eq_true, if_false, Gd_true, r_lss, d1, r_gtr, d2, Cnd_false]
  unfold bits_Writer_Write_p10 bits_Writer_Write_p9
  refine LoopD.rule (fun m (t : Value) w' => ∃ i : Nat, m = n - i ∧ t = .int .i64 i ∧ i ≤ n ∧ Wr w' lo p (B ++ bitsN x i) ∧ Ext w w' (fun y => lo ≤ y)) n
    ⟨0, rfl, rfl, by omega, by rw [bitsN_zero, List.append_nil]; exact h, Ext.refl _ _⟩ ?_
  rintro m t w1 ⟨i, rfl, rfl, hi, hw, x1⟩
  unfold bits_Writer_Write_p8 bits_Writer_Write_p7
  by_cases hlt : i < n
  · have d3 : decide ((i : Int) < (n : Int)) = true := by simp; omega
    simp (disch := omega) only [Stp, r_lss, d3, stepR_value, Cnd_true]
    unfold bits_Writer_Write_p6 bits_Writer_Write_p5
    refine bit_c hw hx (by omega) (by rw [List.length_append, bitsN_length]; omega) fun w3 hw3 x3 => ?_
    unfold bits_Writer_Write_p1
    simp (disch := omega) only [Stp, r_add, w_i64, stepR_value]
    refine ⟨n - (i + 1), by omega, i + 1, rfl, rfl, by omega, ?_, x1.seq x3⟩
    rw [bitsN_succ, ← List.append_assoc]
    exact hw3
  · have d3 : decide ((i : Int) < (n : Int)) = false := by simp; omega
    obtain rfl : i = n := by omega
    simp (disch := omega) only [Stp, r_lss, d3, stepR_value, Cnd_false]
    exact ⟨hw, x1⟩

theorem closed_c {lo p : Nat} {B : List Bool} {w : World} (h : Wr w lo p B) (hB : B.length ≤ 10000000) :
    Does pg F_bits_Writer_Closed #[.pointer (some ⟨p, 0, none⟩)] w (fun r w' => ∃ bytes, Bs w' r bytes ∧ Held (B ++ [true]) bytes ∧ AtI r w.heap.size w'.heap.size ∧ Ext w w' nob) := by
  refine bits_Writer_Closed_does ?_
  obtain ⟨h0, v, bytes, o, os, hh⟩ := h
  have c0 := (own_dr o).cell (off := 0)
  have c1 := (own_dr o).cell (off := 1)
  simp only [List.getElem?_cons_zero, List.getElem?_cons_succ] at c0 c1
  have hs : Bs w v bytes := by
    have h1 := os.1
    rcases os.2 with ⟨rfl, h2⟩ | ⟨b, c, rest, rfl, h2, h3, h4, h5⟩
    · exact ⟨_, _, _, rfl, by omega, by omega, fun h => by omega⟩
    · refine ⟨_, _, _, rfl, by omega, h5, fun _ => ⟨b, 0, rfl, fun i hi => ?_⟩⟩
      rw [h3.cell, Nat.zero_add, List.getElem?_append_left (by omega)]
  have hl := hh.len
  unfold bits_Writer_Closed bits_Writer_Closed_p1
  simp (disch := omega) only [Stp, peql_p_bits_Writer, Option.isNone_some, r_nil, Same, Result.ok.injEq, Next.value.injEq, and_true, true_and, stepR_value, fa_bits_Writer_n, Nat.zero_add, ld_int, fa_bits_Writer_b, ld_sl_uint8, c0, ldC_some, c1, Cnd_false]
  refine (clone_c (hs.ext (Ext.dr _ nob) (inB_nob _)) (by omega)).mono ?_
  rintro r w1 ⟨o1, x1⟩
  have z1 := x1.size
  have x01 : Ext w w1 nob := (Ext.dr w nob).seq x1
  have c11 := (o.ext x01 (fun h => h)).cell (off := 1)
  simp only [List.getElem?_cons_zero, List.getElem?_cons_succ] at c11
  have hdr : (dr w).heap.size = w.heap.size := rfl
  rw [hdr] at o1 z1
  obtain ⟨a1, cc1, rfl⟩ := o1.len
  simp (disch := omega) only [c11, ldC_some, stepR_value, bd_bits_Writer_0_1, true_and]
  refine stp_box fun w2 o2 x2 s2 => ?_
  simp only [Value.cells] at o2
  have hw : Wr w2 w.heap.size w1.heap.size B := by
    refine ⟨z1, _, bytes, o2, ⟨o1.1, ?_⟩, hh⟩
    rcases o1.2 with h2 | ⟨b, c, rest, h1, h2, h3, h4, h5⟩
    · exact .inl h2
    · have := h3.lt
      exact .inr ⟨b, c, rest, h1, ⟨h2, by omega⟩, h3.ext x2 (fun h => h), h4, h5⟩
  refine (write_c (x := 1) (n := 1) hw (by omega) (by omega) (by omega)).mono ?_
  rintro r w3 ⟨rfl, ⟨h0', v3, bytes3, o3, os3, hh3⟩, x3⟩
  have c03 := o3.cell (off := 0)
  simp only [List.getElem?_cons_zero, List.getElem?_cons_succ] at c03
  simp (disch := omega) only [r_nil, stepR_value, fa_bits_Writer_b, ld_sl_uint8, c03, ldC_some]
  have e1 : bitsN 1 1 = [true] := by decide
  rw [e1] at hh3
  refine ⟨bytes3, ?_, hh3, ?_, ?_⟩
  · have h1 := os3.1
    rcases os3.2 with ⟨rfl, h2⟩ | ⟨b, c, rest, rfl, h2, h3, h4, h5⟩
    · exact ⟨_, _, _, rfl, by omega, by omega, fun h => by omega⟩
    · refine ⟨_, _, _, rfl, by omega, h5, fun _ => ⟨b, 0, rfl, fun i hi => ?_⟩⟩
      rw [h3.cell, Nat.zero_add, List.getElem?_append_left (by omega)]
  · intro M hM
    rcases os3.2 with ⟨rfl, h2⟩ | ⟨b, c, rest, rfl, h2, h3, h4, h5⟩
    · exact fun h => h
    · exact At.at b 0 _ c M (hM b h2.1 h3.lt)
  · exact (x01.seq x2).trans x3 fun b hb h => by omega
end Go.Proofs.Ytcbkdccobhkbpaa
/- The law FseBack: symbols written as states, and read again. -/
namespace Go.Proofs.Ytcbkdccobhkbpaa
open Go Go.En Go.Pu
set_option maxRecDepth 4000
set_option linter.unusedSimpArgs false
set_option linter.unusedVariables false

/-- the symbols that are picked -/
def symsOf (L : List T3) (pk : List Int) : List Int := pk.map fun p => (L.getD (p.toNat % L.length) (0, 0, 0)).1
theorem symsOf_length (L : List T3) (pk : List Int) : (symsOf L pk).length = pk.length := by simp [symsOf]
theorem symsOf_get {L : List T3} {pk : List Int} {i : Nat} (h : i < pk.length) (hL : 0 < L.length) : ∃ e, L[(pk[i]).toNat % L.length]? = some e ∧ (symsOf L pk)[i]? = some e.1 ∧ e ∈ L := by
  have hm : (pk[i]).toNat % L.length < L.length := Nat.mod_lt _ hL
  refine ⟨L[(pk[i]).toNat % L.length], List.getElem?_eq_getElem hm, ?_, List.getElem_mem hm⟩
  unfold symsOf
  rw [List.getElem?_map, List.getElem?_eq_getElem h]
  simp only [Option.map_some]
  rw [List.getD_eq_getElem?_getD, List.getElem?_eq_getElem hm]; rfl

theorem back_syms {p6 b : Nat} {lg : Int} {L : List T3} {pk : List Int} {pv : Value} {w : World} (o6 : Own w p6 [.int .i64 lg, .slice (some ⟨b, 0, none⟩) L.length L.length]) (ob : Own w b (fe .u8 L))
    (hp : Sl w pv (pk.map (Value.int .u16))) (hL0 : 0 < L.length) (hL : L.length ≤ 1000000) (hsy : ∀ e ∈ L, 0 ≤ e.1 ∧ e.1 < 256) (hpk : ∀ p ∈ pk, 0 ≤ p ∧ p ≤ 65535) (hpl : pk.length ≤ 60) {R : Value → World → Prop}
    (hR : ∀ v w', OSl w' w.heap.size 1 v pk.length ((symsOf L pk).map (Value.int .u8)) → Ext w w' nob → law07_FseBack_p19 R (.pointer (some ⟨p6, 0, none⟩)) v w') :
    law07_FseBack_p25 R pv (.pointer (some ⟨p6, 0, none⟩)) (.slice none 0 0) w := by
  unfold law07_FseBack_p25 law07_FseBack_p24 law07_FseBack_p23 law07_FseBack_p22 law07_FseBack_p21
  refine LoopD.rule (fun m (t : Value × Value) w' => ∃ (i : Nat) (v : Value), m = pk.length - i ∧ t = (v, .int .i64 i) ∧ i ≤ pk.length ∧ OSl w' w.heap.size 1 v i (((symsOf L pk).take i).map (Value.int .u8)) ∧ Ext w w' nob) pk.length
    ⟨0, _, rfl, rfl, by omega, by rw [List.take_zero]; exact OSl.nil _ _ _, Ext.refl _ _⟩ ?_
  rintro m t w1 ⟨i, v, rfl, rfl, hi, ho, x1⟩
  obtain ⟨a, c, hv, hc⟩ := hp.lenI
  unfold law07_FseBack_p20
  by_cases hlt : i < pk.length
  · have d1 : decide ((i : Int) < (pk.length : Int)) = true := by simp; omega
    obtain ⟨e, he, hse, hem⟩ := symsOf_get hlt hL0
    have hse' := hsy e hem
    obtain ⟨b', off', c', hv', _, hcell⟩ := (hp.ext (x1.seq (Ext.dr _ nob)) (inB_nob _)).openI (by omega)
    have g1 := hcell i hlt
    have hpb := hpk _ (List.getElem_mem hlt)
    subst hv'
    generalize pk[i] = p at *
    obtain ⟨p, rfl⟩ : ∃ q : Nat, p = q := ⟨p.toNat, by omega⟩
    rw [Int.toNat_natCast] at he
    have x1d : Ext w (dr w1) nob := x1.seq (Ext.dr _ _)
    have c6 := (o6.ext x1d (fun h => h)).cell (off := 1)
    have c6' : w1.cell? ⟨p6, 1, none⟩ = _ := c6
    simp only [List.getElem?_cons_zero, List.getElem?_cons_succ] at c6
    have e1 : IntKind.i64.wrap (p : Int) = (p : Int) := w_i64 (by omega) (by omega)
    have e2 : (p : Int).tmod (L.length : Int) = ((p % L.length : Nat) : Int) := by rw [Int.tmod_eq_emod_of_nonneg (by omega)]; simp
    have hml : p % L.length < L.length := Nat.mod_lt _ hL0
    have n0 : ((L.length : Int) == 0) = false := beq_eq_false_iff_ne.2 (by omega)
    have g0 := (ob.ext x1d (fun h => h)).cell (off := p % L.length * 3)
    rw [(fe_get' he).1] at g0
    obtain ⟨e0, ee⟩ := e
    simp only at hse' g0 hse
    obtain ⟨y, rfl⟩ : ∃ y : Nat, e0 = y := ⟨e0.toNat, by omega⟩
    have z1 := x1.size
    simp (disch := omega) only [Stp, ln_sl_uint16, fa_fse_Table_Entries, Nat.zero_add, ia_sl_uint16, Int.toNat_natCast, r_add, w_i64, stepR_value, true_and, ld_sl_fse_Entry, ld_uint16, r_lss, d1, c6, ldC_some, g1, ln_sl_fse_Entry, cv_uint16_int, e1, r_rem, e2, ia_sl_fse_Entry, fa_fse_Entry_Symbol, ld_uint8, g0, Cnd_true]
    refine bs_sl_uint8 (cells := #[.int .u8 (y : Nat)]) (by decide) (by decide) (by kernel_rfl) fun w2 o2 x2 s2 => ?_
    have x2 := (Ext.dr w1 _).seq x2
    have z2 := (x1.seq x2).size
    refine ap_sl_uint8_sl_uint8 (m := 1) (news := [.int .u8 (y : Nat)]) (ho.ext x2 (fun _ _ h => h)) (o2.cl (off := 0) (l := [.int .u8 (y : Nat)]) (n := 1) rfl (fun i hi => by rw [Nat.zero_add])) (by simp [one]) (by omega) (by omega) fun v3 w3 o3 x3 => ?_
    have hts : ((symsOf L pk).take i).map (Value.int .u8) ++ [Value.int .u8 (y : Nat)] = ((symsOf L pk).take (i + 1)).map (Value.int .u8) := by
      rw [List.take_add_one, hse, List.map_append]; rfl
    rw [hts] at o3
    have x13 : Ext w w3 nob := (x1.seq x2).trans x3 fun b hb h => by omega
    obtain ⟨a3, c3, rfl⟩ := o3.len
    exact ⟨pk.length - (i + 1), by omega, i + 1, _, rfl, rfl, by omega, o3, x13⟩
  · have d1 : decide ((i : Int) < (pk.length : Int)) = false := by simp; omega
    obtain rfl : i = pk.length := by omega
    subst hv
    simp (disch := omega) only [Stp, ln_sl_uint16, fa_fse_Table_Entries, Nat.zero_add, r_add, w_i64, stepR_value, true_and, ld_sl_fse_Entry, r_lss, d1, Cnd_false]
    refine hR _ _ ?_ x1
    rw [List.take_of_length_le (by rw [symsOf_length]; omega)] at ho
    exact ho
end Go.Proofs.Ytcbkdccobhkbpaa
/- The law FseBack: the loop that writes, and the loop that reads. -/
namespace Go.Proofs.Ytcbkdccobhkbpaa
open Go Go.En Go.Pu
set_option maxRecDepth 4000
set_option linter.unusedSimpArgs false
set_option linter.unusedVariables false

/-- what stands fast while bits are written and read -/
structure BkTbl (w : World) (p6 b log lo : Nat) (L : List T3) (lv : Value) (S : List Int) : Prop where
  o6 : Own w p6 [.int .i64 log, .slice (some ⟨b, 0, none⟩) L.length L.length]
  ob : Own w b (fe .u8 L)
  sl : Sl w lv (S.map (Value.int .u8))
  at' : AtI lv 0 lo
  lp : p6 < lo
  lb : b < lo
theorem BkTbl.ext {w w' : World} {p6 b log lo : Nat} {L : List T3} {lv : Value} {S : List Int} {M : Nat → Prop} (h : BkTbl w p6 b log lo L lv S) (hx : Ext w w' M) (hM : ∀ y, y < lo → ¬ M y) : BkTbl w' p6 b log lo L lv S :=
  ⟨h.o6.ext hx (hM _ h.lp), h.ob.ext hx (hM _ h.lb), h.sl.ext hx (h.at' M fun b _ hb => hM b hb), h.at', h.lp, h.lb⟩

theorem back_write {p6 b log lo p : Nat} {L : List T3} {lv : Value} {S : List Int} {w : World} (hm : ∃ ps, May log ps ∧ buildL log ps = L) (hL : L.length ≤ 1000000) (hlow : Low L) (hS : ∀ y ∈ S, ∃ e, e ∈ L ∧ e.1 = y) (hS1 : 1 ≤ S.length) (hS2 : S.length ≤ 60)
    (h : BkTbl w p6 b log lo L lv S) (hw : Wr w lo p []) {s : Nat} (hc : Chain L (S.drop (S.length - 1)) s []) {R : Value → World → Prop}
    (hR : ∀ (s : Nat) (B : List Bool) w', Chain L S s B → B.length ≤ 1200 → Wr w' lo p B → Ext w w' (fun y => lo ≤ y) → law07_FseBack_p11 R (.pointer (some ⟨p6, 0, none⟩)) lv (.pointer (some ⟨p, 0, none⟩)) (.int .i64 s) w') :
    law07_FseBack_p17 R (.pointer (some ⟨p6, 0, none⟩)) lv (.pointer (some ⟨p, 0, none⟩)) (.int .i64 s) w := by
  unfold law07_FseBack_p17 law07_FseBack_p16 law07_FseBack_p15
  obtain ⟨b', off', c', hv', hc', hcell⟩ := h.sl.openI (by omega)
  have hlv := hv'
  subst hv'
  simp (disch := omega) only [Stp, ln_sl_uint8, stepR_value, r_sub, w_i64]
  unfold law07_FseBack_p14 law07_FseBack_p13
  refine LoopD.rule (fun m (t : Value × Value) w' => ∃ (s : Nat) (B : List Bool), m + 1 ≤ S.length ∧ t = (.int .i64 s, .int .i64 ((m : Int) - 1)) ∧ Chain L (S.drop m) s B ∧ B.length + 20 * m ≤ 1200 ∧ Wr w' lo p B ∧ Ext w w' (fun y => lo ≤ y)) (S.length - 1)
    ⟨s, [], by omega, by congr 2; omega, hc, by rw [List.length_nil]; omega, hw, Ext.refl _ _⟩ ?_
  rintro m t w1 ⟨s, B, hm1, rfl, hch, hB, hw1, x1⟩
  unfold law07_FseBack_p12
  rcases m with _ | m
  · have d1 : decide ((0 : Int) ≤ ((0 : Nat) : Int) - 1) = false := rfl
    simp (disch := omega) only [Stp, r_geq, d1, r_sub, w_i64, stepR_value, true_and, Cnd_false]
    exact hR s B w1 (by simpa using hch) (by omega) hw1 x1
  · have e1 : ((m + 1 : Nat) : Int) - 1 = (m : Int) := by omega
    have d1 : decide ((0 : Int) ≤ (m : Int)) = true := by simp
    have h1 := (h.ext x1 (fun y hy => by omega)).ext (Ext.dr _ nob) (fun y _ h => h)
    have hmS : m < S.length := by omega
    obtain ⟨b'', off'', c'', hv'', _, hcell1⟩ := h1.sl.openI (by omega)
    cases hv''
    have g1 := hcell1 m hmS
    have hdrop : S.drop m = S[m] :: S.drop (m + 1) := List.drop_eq_getElem_cons hmS
    obtain ⟨e, heL, hey⟩ := hS _ (List.getElem_mem hmS)
    rw [e1]
    generalize S[m] = y at *
    have l1 := lda_fse_Table (off := 0) h1.o6 (by simp [Value.cells])
    simp only [Value.cells, List.drop_zero, List.take_succ_cons, List.take_zero] at l1
    have hs := hch.lt
    simp (disch := omega) only [Stp, r_geq, d1, ia_sl_uint8, Int.toNat_natCast, r_sub, w_i64, stepR_value, true_and, ld_uint8, l1, g1, ldC_some, Cnd_true]
    refine (before_c (w := dr w1) (base := 0) ⟨rfl, Nat.zero_le _, h1.ob⟩ hlow hL s hs y).mono ?_
    rintro r w2 ⟨hbo, x2⟩
    obtain ⟨ps, hmay, hbl⟩ := hm
    have hlenL : L.length = 2 ^ log := by rw [← hbl, buildL_length]
    obtain ⟨i, e', hi, hin, rfl⟩ : ∃ (i : Nat) (e : T3), L[i]? = some e ∧ inE y s e = true ∧ r = .tuple #[.int .i64 (i : Nat), .int .u64 (s - e.2.2), .int .i64 e.2.1, .int .i64 0] := by
      rcases hbo with h | ⟨h, _⟩
      · exact h
      · exfalso
        obtain ⟨j, hj, hje⟩ := List.getElem_of_mem heL
        have hj' : (buildL log ps)[j]? = some e := by rw [hbl, List.getElem?_eq_getElem hj, hje]
        obtain ⟨sy, hsy⟩ : ∃ sy : Nat, y = sy := by
          have := buildL_sy hmay e (by rw [hbl]; exact heL)
          exact ⟨y.toNat, by omega⟩
        subst hsy
        rcases no_or_one hmay (s := s) (sy := sy) (by omega) with h' | ⟨i, e', h1', h2', _⟩
        · exact h' j e hj' hey
        · rw [hbl] at h1'
          rw [h i e' h1'] at h2'; cases h2'
    obtain ⟨n, hn, hn2, hb0, hb1⟩ := hlow e' (List.mem_of_getElem? hi)
    unfold inE at hin
    rw [hn] at hin
    simp only [decide_eq_true_eq, Int.toNat_natCast] at hin
    obtain ⟨j1, j2, j3⟩ := hin
    have hpw : ((2 ^ n : Nat) : Int) = (2 : Int) ^ n := by simp
    rw [← hpw] at j3
    obtain ⟨x, hx⟩ : ∃ x : Nat, (s : Int) - e'.2.2 = x := ⟨((s : Int) - e'.2.2).toNat, by omega⟩
    have hxn : x < 2 ^ n := by omega
    have hp20 : 2 ^ n ≤ 2 ^ 20 := Nat.pow_le_pow_right (by omega) hn2
    rw [hx, hn]
    have n0 : ((0 : Int) != 0) = false := rfl
    have x12 : Ext w1 w2 nob := (Ext.dr w1 nob).seq x2
    simp (disch := omega) only [x40, x41, x42, x43, stepR_value, r_neq, n0, Cnd_false, true_and]
    refine (write_c (n := n) (x := x) (hw1.ext x12 (fun _ _ h => h)) (by omega) (by omega) (by omega)).mono ?_
    rintro r w3 ⟨rfl, hw3, x3⟩
    refine ⟨m, by omega, i, B ++ bitsN x n, by omega, rfl, ?_, ?_, hw3, (x1.seq (x12.mono fun _ _ h => h.elim)).seq x3⟩
    · rw [hdrop, ← j1]
      exact .cons hi hn hxn (by omega) hch
    · rw [List.length_append, bitsN_length]; omega
end Go.Proofs.Ytcbkdccobhkbpaa
/- The law FseBack, whole. -/
namespace Go.Proofs.Ytcbkdccobhkbpaa
open Go Go.En Go.Pu
set_option maxRecDepth 4000
set_option linter.unusedSimpArgs false
set_option linter.unusedVariables false

theorem bitsAt_of {L : List T3} {s n : Nat} {e : T3} (h : L[s]? = some e) (hn : e.2.1 = n) : bitsAt L (s : Int) = n := by unfold bitsAt; simp [h, hn]
theorem nextAt_of {L : List T3} {s : Nat} {e : T3} (h : L[s]? = some e) (x : Nat) : nextAt L (s : Int) x = e.2.2 + x := by unfold nextAt; simp [h]

theorem back_read {p6 b log lo lo2 hi : Nat} {L : List T3} {lv : Value} {S : List Int} {l : List UInt8} {w w0 : World} (hL : L.length ≤ 1000000) (hlow : Low L) (hS2 : S.length ≤ 60) (hS1 : 1 ≤ S.length)
    (h : BkTbl w p6 b log lo L lv S) (hlo : lo ≤ lo2) (hlh : lo2 ≤ hi) (hhi : hi < w.heap.size) (hl : l.length ≤ 1000000) {s : Nat} {B : List Bool} (hB : B.length ≤ 1200) (hBl : B.length ≤ 8 * l.length) (hc : Chain L S s B) (hb : Bwd w lo2 hi l B.length) (htk : (bitsB l).take B.length = B)
    (hx : Ext w0 w nob) (hw0 : w0.heap.size ≤ hi) :
    law07_FseBack_p9 (fun r w' => r = .bool true ∧ Ext w0 w' nob) (.pointer (some ⟨p6, 0, none⟩)) lv (.int .i64 s) (.pointer (some ⟨hi, 0, none⟩)) w := by
  unfold law07_FseBack_p9 law07_FseBack_p8 law07_FseBack_p7 law07_FseBack_p6 law07_FseBack_p5
  obtain ⟨b', off', c', hv', hc', hcell⟩ := h.sl.openI (by omega)
  subst hv'
  refine LoopD.rule (fun m (t : Value × Value) w' => ∃ (j s : Nat) (B : List Bool), m = S.length - j ∧ t = (.int .i64 s, .int .i64 j) ∧ j ≤ S.length ∧ (j < S.length → Chain L (S.drop j) s B) ∧ (j = S.length → B = []) ∧ B.length ≤ 1200 ∧ B.length ≤ 8 * l.length ∧ Bwd w' lo2 hi l B.length ∧ (bitsB l).take B.length = B ∧ Ext w w' (fun y => y = hi)) S.length
    ⟨0, s, B, rfl, rfl, by omega, fun _ => hc, fun h => by omega, hB, hBl, hb, htk, Ext.refl _ _⟩ ?_
  rintro m t w1 ⟨j, s, B, rfl, rfl, hj, hch, hend, hB, hBl, hb1, htk, x1⟩
  have z1 := x1.size
  unfold law07_FseBack_p4 law07_FseBack_p3
  by_cases hlt : j < S.length
  · have hch := hch hlt
    have h1 := (h.ext x1 (fun y hy => by omega)).ext (Ext.dr _ nob) (fun y _ h => h)
    obtain ⟨_, _, _, hv1, _, hcell1⟩ := h1.sl.openI (by omega)
    cases hv1
    have g1 := hcell1 j hlt
    have hdrop : S.drop j = S[j] :: S.drop (j + 1) := List.drop_eq_getElem_cons hlt
    have hs := hch.lt
    have d1 : decide ((j : Int) < (S.length : Int)) = true := by simp; omega
    have d2 : decide ((s : Int) < 0) = false := by simp
    have d3 : decide ((L.length : Int) ≤ (s : Int)) = false := by simp; omega
    have c61 := h1.o6.cell (off := 1)
    simp only [List.getElem?_cons_zero, List.getElem?_cons_succ] at c61
    have c61' : w1.cell? ⟨p6, 1, none⟩ = _ := c61
    obtain ⟨y, rest, e, hyl, hse, hey⟩ := hch.get
    rw [hdrop] at hyl
    obtain ⟨rfl, _⟩ := List.cons.inj hyl
    have gb := h1.ob.cell (off := s * 3)
    rw [(fe_get' hse).1, hey] at gb
    generalize hy : S[j] = y at *
    have n1 : (y != y) = false := by simp
    have l1 := lda_fse_Table (off := 0) h1.o6 (by simp [Value.cells])
    simp only [Value.cells, List.drop_zero, List.take_succ_cons, List.take_zero] at l1
    by_cases hlast : j + 1 < S.length
    · have d4 : decide ((j : Int) < (S.length : Int) - 1) = true := by simp; omega
      have hdrop2 : S.drop (j + 1) = S[j + 1] :: S.drop (j + 2) := List.drop_eq_getElem_cons hlast
      rw [hdrop, hdrop2] at hch
      obtain ⟨e', n, x, s', B', k1, k2, k3, k4, k5, k6⟩ := hch.step
      obtain ⟨n', hn', hn2, _, _⟩ := hlow e' (List.mem_of_getElem? k1)
      have hn20 : n ≤ 20 := by omega
      have hBB : B.length = B'.length + n := by rw [k5, List.length_append, bitsN_length]
      simp (disch := omega) only [Stp, ln_sl_uint8, r_lss, d2, fa_fse_Table_Entries, Nat.zero_add, stepR_value, r_sub, w_i64, d4, Cnd_true, true_and, isB_ff, r_pick, Bool.false_eq_true, if_false, Gd_true, ld_sl_fse_Entry, d1, c61, ldC_some, l1, ln_sl_fse_Entry, r_geq, d3, ia_sl_uint8, Int.toNat_natCast, ld_uint8, g1, ia_sl_fse_Entry, fa_fse_Entry_Symbol, gb, r_neq, n1, Cnd_false]
      refine (fseNext_c (w := dr w1) (base := 0) (L := L) ⟨rfl, Nat.zero_le _, h1.ob⟩ hlow hL (hb1.ext (Ext.dr _ nob) (fun _ _ _ h => h) hlh) hlh ((by omega : hi < w1.heap.size)) (by have := h.lb; omega) (by omega) (by omega) hl).mono ?_
      rintro r w2 ⟨rfl, hb2, x2⟩
      rw [bitsAt_of k1 k2, Int.toNat_natCast, htk, nextAt_of k1, k5, lastN_bits k3, k4]
      rw [bitsAt_of k1 k2] at hb2
      unfold law07_FseBack_p2
      simp (disch := omega) only [Stp, r_add, w_i64, stepR_value]
      refine ⟨S.length - (j + 1), by omega, j + 1, s', B', rfl, rfl, by omega, fun _ => by rw [hdrop2]; exact k6, fun h => by omega, by omega, by omega, ?_, ?_, x1.seq ((Ext.dr _ _).seq x2)⟩
      · rw [show (B'.length : Int) = (B.length : Int) - (n : Int) from by omega]; exact hb2
      · have := congrArg (List.take B'.length) htk
        rw [List.take_take, show min B'.length B.length = B'.length from by omega, k5, List.take_left] at this
        exact this
    · have d4 : decide ((j : Int) < (S.length : Int) - 1) = false := by simp; omega
      have hj1 : j + 1 = S.length := by omega
      rw [hdrop, List.drop_eq_nil_of_le (by omega)] at hch
      obtain rfl := hch.one_nil
      simp (disch := omega) only [Stp, ln_sl_uint8, r_lss, d2, fa_fse_Table_Entries, Nat.zero_add, stepR_value, r_sub, w_i64, d4, Cnd_false, true_and, isB_ff, r_pick, Bool.false_eq_true, if_false, Gd_true, ld_sl_fse_Entry, d1, c61, ldC_some, ln_sl_fse_Entry, r_geq, d3, ia_sl_uint8, Int.toNat_natCast, ld_uint8, g1, ia_sl_fse_Entry, fa_fse_Entry_Symbol, gb, r_neq, n1, Cnd_true]
      unfold law07_FseBack_p2
      simp (disch := omega) only [Stp, r_add, w_i64, stepR_value]
      refine ⟨S.length - (j + 1), by omega, j + 1, s, [], rfl, rfl, by omega, fun h => by omega, fun _ => rfl, by simp, by simp, ?_, by simp, ?_⟩
      · exact hb1.ext (Ext.dr _ nob) (fun _ _ _ h => h) hlh
      · exact x1.seq (Ext.dr _ _)
  · have d1 : decide ((j : Int) < (S.length : Int)) = false := by simp; omega
    obtain rfl := hend (by omega)
    simp (disch := omega) only [Stp, ln_sl_uint8, r_lss, fa_fse_Table_Entries, Nat.zero_add, stepR_value, r_sub, w_i64, true_and, r_pick, d1, Cnd_false]
    unfold law07_FseBack_p1
    refine (bwdLeft_c hb1).mono ?_
    rintro r w2 ⟨rfl, rfl⟩
    have n1 : (((([] : List Bool).length : Nat) : Int) == 0) = true := rfl
    simp (disch := omega) only [Stp, r_eql, n1, stepR_value, true_and]
    exact hx.trans x1 fun b hb h => by omega

theorem back_turn {p6 b log lo p : Nat} {L : List T3} {lv : Value} {S : List Int} {w w0 : World} (hL : L.length = 2 ^ log) (hlog : log ≤ 15) (hlow : Low L) (hS2 : S.length ≤ 60) (hS1 : 1 ≤ S.length)
    (h : BkTbl w p6 b log lo L lv S) {s : Nat} {B : List Bool} (hB : B.length ≤ 1200) (hc : Chain L S s B) (hw : Wr w lo p B) (hx : Ext w0 w nob) (hw0 : w0.heap.size ≤ lo) :
    law07_FseBack_p11 (fun r w' => r = .bool true ∧ Ext w0 w' nob) (.pointer (some ⟨p6, 0, none⟩)) lv (.pointer (some ⟨p, 0, none⟩)) (.int .i64 s) w := by
  unfold law07_FseBack_p11 law07_FseBack_p10
  have hp20 : 2 ^ log ≤ 2 ^ 15 := Nat.pow_le_pow_right (by omega) hlog
  have hs := hc.lt
  have c60 := h.o6.cell (off := 0)
  simp only [List.getElem?_cons_zero, List.getElem?_cons_succ] at c60
  have hplt := hw.2
  have hp : p < w.heap.size := by obtain ⟨_, _, o, _⟩ := hplt; exact o.lt
  have hlp := hw.1
  simp (disch := omega) only [Stp, cv_int_uint64, w_u64, fa_fse_Table_Log, stepR_value, ld_int, c60, ldC_some]
  refine (write_c (x := s) (n := log) hw (by omega) (by omega) (by omega)).mono ?_
  rintro r w1 ⟨rfl, hw1, x1⟩
  have z1 := x1.size
  refine (closed_c hw1 (by rw [List.length_append, bitsN_length]; omega)).mono ?_
  rintro r w2 ⟨l, hbs, hheld, hat, x2⟩
  have z2 := x2.size
  obtain ⟨he, htk⟩ := held_end hheld
  have hhl := hheld.len
  have hBl : (B ++ bitsN s log).length = B.length + log := by rw [List.length_append, bitsN_length]
  have hBl1 : (B ++ bitsN s log ++ [true]).length = B.length + log + 1 := by rw [List.length_append, hBl]; rfl
  rw [hBl1] at hhl
  rw [hBl] at he htk
  refine (newBackward_ok hbs he (by omega)).mono ?_
  rintro r w3 ⟨hi, rfl, hi1, hi2, hb3, x3⟩
  have n0 : ((0 : Int) != 0) = false := rfl
  have x13 : Ext w w3 (fun y => lo ≤ y) := (x1.seq (x2.mono fun _ _ h => h.elim)).seq (x3.mono fun _ _ h => h.elim)
  have x03 : Ext w0 w3 nob := hx.trans x13 fun b hb h => by omega
  have h3 := h.ext x13 (fun y hy => by omega)
  have l1 := lda_fse_Table (off := 0) h3.o6 (by simp [Value.cells])
  simp only [Value.cells, List.drop_zero, List.take_succ_cons, List.take_zero] at l1
  simp (disch := omega) only [x20, x21, stepR_value, r_neq, n0, Cnd_false, l1]
  refine (fseStart_c hb3 hi1 hi2 (by omega) (by omega) (by omega) (by omega)).mono ?_
  rintro r w4 ⟨rfl, hb4, x4⟩
  have z4 := x4.size
  rw [Int.toNat_natCast, htk, lastN_bits (x := s) (n := log) (hL ▸ hs)]
  refine back_read (lo2 := w2.heap.size) (l := l) (by omega) hlow hS2 hS1 (h3.ext x4 (fun y hy => by omega)) (by omega) hi1 (by omega) (by omega) hB (by omega) hc ?_ ?_ (x03.trans x4 fun b hb h => by omega) (by omega)
  · rw [show (B.length : Int) = ((B.length + log : Nat) : Int) - (log : Int) from by omega]; exact hb4
  · have := congrArg (List.take B.length) htk
    rw [List.take_take, show min B.length (B.length + log) = B.length from by omega, List.take_left] at this
    exact this

theorem fseBack_c {log : Int} {sv pv : Value} {ps pk : List Int} {w : World} (hs : Sl w sv (ps.map (Value.int .i64))) (hl : ps.length ≤ 9223372036854775807) (hp : Sl w pv (pk.map (Value.int .u16))) (hpk : ∀ p ∈ pk, 0 ≤ p ∧ p ≤ 65535) :
    Does pg F_law07_FseBack #[.agg #[.int .i64 log, sv], pv] w (fun r w' => r = .bool true ∧ Ext w w' nob) := by
  refine law07_FseBack_does ?_
  unfold law07_FseBack law07_FseBack_p27 law07_FseBack_p26
  obtain ⟨a, c, hv, hc⟩ := hs.lenI
  obtain ⟨pa, pc, hpv, hpc⟩ := hp.lenI
  refine stp_box fun w1 o1 x1 s1 => ?_
  refine (awake7_c w1).mono ?_
  rintro r w2 ⟨rfl, x2⟩
  have o1 := o1.ext x2 (fun h => h)
  have x02 := x1.seq x2
  have hs2 := hs.ext x02 (inB_nob _)
  have c0 := o1.cell (off := 0)
  have c1 := o1.cell (off := 1)
  have l1 := lda_normal_Counts (off := 0) o1 (by simp [Value.cells])
  simp only [Value.cells, List.drop_zero, List.take_succ_cons, List.take_zero, List.getElem?_cons_zero, List.getElem?_cons_succ] at l1 c0 c1
  subst hv
  by_cases h1 : 300 < ps.length
  · have d1 : decide ((300 : Int) < (ps.length : Int)) = true := by simp; omega
    simp (disch := omega) only [Stp, r_not, Bool.not_true, fa_normal_Counts_Part, Nat.zero_add, fa_normal_Counts_Log, stepR_value, true_and, ld_sl_int, c1, ldC_some, ln_sl_int, r_gtr, d1, isB_tf, r_pick, if_true, Cnd_true, Gd_false, Cnd_false]
    exact x02
  have d1 : decide ((300 : Int) < (ps.length : Int)) = false := by simp; omega
  by_cases h2 : 10 < log
  · have d2 : decide ((10 : Int) < log) = true := by simpa using h2
    simp (disch := omega) only [Stp, r_not, Bool.not_true, fa_normal_Counts_Part, Nat.zero_add, fa_normal_Counts_Log, stepR_value, true_and, ld_sl_int, c1, ldC_some, ln_sl_int, r_gtr, d1, isB_ff, r_pick, Bool.false_eq_true, if_false, Gd_true, ld_int, c0, d2, isB_tf, if_true, Cnd_true, Gd_false, Cnd_false]
    exact x02
  have d2 : decide ((10 : Int) < log) = false := by simpa using h2
  have hpv' := hpv
  subst hpv'
  by_cases h3 : pk.length = 0
  · have d3 : ((pk.length : Int) == 0) = true := by rw [h3]; rfl
    simp (disch := omega) only [Stp, r_not, Bool.not_true, fa_normal_Counts_Part, Nat.zero_add, fa_normal_Counts_Log, stepR_value, true_and, ld_sl_int, c1, ldC_some, ln_sl_int, r_gtr, d1, isB_ff, r_pick, Bool.false_eq_true, if_false, Gd_true, ld_int, c0, d2, ln_sl_uint16, r_eql, d3, isB_tf, if_true, Cnd_true, Gd_false, Cnd_false]
    exact x02
  have d3 : ((pk.length : Int) == 0) = false := beq_eq_false_iff_ne.2 (by omega)
  by_cases h4 : 60 < pk.length
  · have d4 : decide ((60 : Int) < (pk.length : Int)) = true := by simp; omega
    simp (disch := omega) only [Stp, r_not, Bool.not_true, fa_normal_Counts_Part, Nat.zero_add, fa_normal_Counts_Log, stepR_value, true_and, ld_sl_int, c1, ldC_some, ln_sl_int, r_gtr, d1, isB_ff, r_pick, Bool.false_eq_true, if_false, Gd_true, ld_int, c0, d2, ln_sl_uint16, r_eql, d3, d4, Cnd_true, Cnd_false]
    exact x02
  have d4 : decide ((60 : Int) < (pk.length : Int)) = false := by simp; omega
  cases hmay : mayB log ps with
  | false =>
    simp (disch := omega) only [Stp, r_not, Bool.not_true, fa_normal_Counts_Part, Nat.zero_add, fa_normal_Counts_Log, stepR_value, true_and, ld_sl_int, c1, ldC_some, ln_sl_int, r_gtr, d1, isB_ff, r_pick, Bool.false_eq_true, if_false, Gd_true, ld_int, c0, d2, ln_sl_uint16, r_eql, d3, d4, l1, Cnd_false]
    refine (build_bad hmay hs2 hl).mono ?_
    rintro r w3 ⟨rfl, x3⟩
    have e1 : ((1 : Int) != 0) = true := rfl
    have e2 : (((0 : Nat) : Int) == 0) = true := rfl
    simp (disch := omega) only [x20, x21, stepR_value, r_neq]
    refine al_fse_Table fun w4 o4 x4 s4 => ?_
    refine sta_fse_Table o4 rfl (by simp [one]) (by simp) fun w5 o5 x5 s5 => ?_
    simp only [setAll, List.set_cons_zero, List.set_cons_succ] at o5
    have c5 := o5.cell (off := 1)
    simp only [List.getElem?_cons_zero, List.getElem?_cons_succ] at c5
    simp (disch := omega) only [e1, fa_fse_Table_Entries, Nat.zero_add, stepR_value, ld_sl_fse_Entry, c5, ldC_some, ln_sl_fse_Entry, r_eql, e2, true_and, Cnd_true]
    have := x02.size
    have := x3.size
    exact ((x02.seq x3).seq x4).new x5 (by omega)
  | true =>
    obtain ⟨l, rfl, hm⟩ := may_of hmay
    have hlow := buildL_low hm
    have hlen := buildL_length l ps
    have hN := Nat.two_pow_pos l
    have hN2 : 2 ^ l ≤ 2 ^ 10 := Nat.pow_le_pow_right (by omega) (by omega)
    simp (disch := omega) only [Stp, r_not, Bool.not_true, fa_normal_Counts_Part, Nat.zero_add, fa_normal_Counts_Log, stepR_value, true_and, ld_sl_int, c1, ldC_some, ln_sl_int, r_gtr, d1, isB_ff, r_pick, Bool.false_eq_true, if_false, Gd_true, ld_int, c0, d2, ln_sl_uint16, r_eql, d3, d4, l1, Cnd_false]
    refine (build_c hm hs2).mono ?_
    rintro r w3 ⟨b, v, rfl, ⟨rfl, hb, ob⟩, x3⟩
    have hsyl := buildL_sy hm
    have hbuild : ∃ ps, May l ps ∧ buildL l ps = buildL l ps := ⟨ps, hm, rfl⟩
    have hbuild : ∃ ps', May l ps' ∧ buildL l ps' = buildL l ps := ⟨ps, hm, rfl⟩
    generalize hB : buildL l ps = L at *
    have e1 : ((0 : Int) != 0) = false := rfl
    simp (disch := omega) only [x20, x21, stepR_value, r_neq]
    refine al_fse_Table fun w4 o4 x4 s4 => ?_
    refine sta_fse_Table o4 rfl (by simp [one]) (by simp) fun w5 o5 x5 s5 => ?_
    simp only [setAll, List.set_cons_zero, List.set_cons_succ] at o5
    have lb := ob.lt
    have g3 := x3.size
    have g2 := x02.size
    have ob5 := (ob.ext x4 (fun h => h)).ext x5 (by omega)
    have x05 : Ext w w5 nob := ((x02.seq x3).seq x4).new x5 (by omega)
    have z5 := x05.size
    simp (disch := omega) only [e1, fa_fse_Table_Entries, Nat.zero_add, stepR_value, ld_sl_fse_Entry, Cnd_false]
    refine back_syms o5 ob5 (hp.ext x05 (inB_nob _)) (by omega) (by omega) hsyl hpk (by omega) fun lv w6 o6 x6 => ?_
    have hat6 : AtI lv 0 w6.heap.size := fun M hM => OSl.atI o6 M fun b _ hb => hM b (Nat.zero_le _) hb
    have z6 := x6.size
    have l5 := o5.lt
    have lb5 := ob5.lt
    have hS : ∀ y ∈ symsOf L pk, ∃ e, e ∈ L ∧ e.1 = y := fun y hy => by
      obtain ⟨i, hi, rfl⟩ := List.getElem_of_mem hy
      obtain ⟨e, _, q2, q3⟩ := symsOf_get (L := L) (pk := pk) (i := i) (by rw [symsOf_length] at hi; exact hi) (by omega)
      rw [List.getElem?_eq_getElem hi] at q2
      exact ⟨e, q3, (Option.some.inj q2).symm⟩
    have hSl := symsOf_length L pk
    generalize symsOf L pk = S at *
    unfold law07_FseBack_p19 law07_FseBack_p18
    refine (newWriter_c w6).mono ?_
    rintro r w7 ⟨rfl, hlt7, hw7, x7⟩
    have z7 := x7.size
    have hk : BkTbl w7 w3.heap.size b l w6.heap.size L lv S := ⟨(o5.ext x6 (fun h => h)).ext x7 (fun h => h), (ob5.ext x6 (fun h => h)).ext x7 (fun h => h), (o6.sl).ext x7 (inB_nob _), hat6, by omega, by omega⟩
    have hk' := hk.ext (Ext.dr w7 nob) (fun _ _ h => h)
    obtain ⟨b', off', c', hv', _, hcell⟩ := hk'.sl.openI (by omega)
    have g1 := hcell (S.length - 1) (by omega)
    have l2 := lda_fse_Table (off := 0) hk'.o6 (by simp [Value.cells])
    simp only [Value.cells, List.drop_zero, List.take_succ_cons, List.take_zero] at l2
    have e3 : (S.length : Int) - 1 = ((S.length - 1 : Nat) : Int) := by omega
    obtain ⟨e, heL, hey⟩ := hS _ (List.getElem_mem (show S.length - 1 < S.length by omega))
    have hdrop : S.drop (S.length - 1) = [S[S.length - 1]'(by omega)] := by
      rw [List.drop_eq_getElem_cons (by omega), List.drop_eq_nil_of_le (by omega)]
    generalize (S[S.length - 1]'(by omega)) = y at *
    subst hv'
    simp (disch := omega) only [Stp, l2, ln_sl_uint8, true_and, stepR_value, r_sub, e3, w_i64, ia_sl_uint8, Int.toNat_natCast, ld_uint8, g1, ldC_some]
    refine (first_c (w := dr w7) (base := 0) ⟨rfl, Nat.zero_le _, hk'.ob⟩ (by omega) y).mono ?_
    rintro r w8 ⟨hfo, x8⟩
    obtain ⟨i, hi, rfl, hi1, _⟩ : ∃ i, ∃ h : i < L.length, r = .tuple #[.int .i64 (i : Nat), .int .i64 0] ∧ L[i].1 = y ∧ ∀ j (hj : j < i), L[j].1 ≠ y := by
      rcases hfo with h | ⟨_, h⟩
      · exact h
      · exfalso
        obtain ⟨j, hj, rfl⟩ := List.getElem_of_mem heL
        exact h j hj hey
    have x78 : Ext w7 w8 nob := (Ext.dr w7 nob).seq x8
    have x08 : Ext w w8 nob := ((x05.seq x6).seq x7).seq x78
    have z8 := x78.size
    simp (disch := omega) only [x20, x21, stepR_value, r_neq, e1, Cnd_false, true_and]
    refine back_write (lo := w6.heap.size) (p := w6.heap.size) (log := l) (b := b) (S := S) hbuild (by omega) hlow hS (by omega) (by omega) (hk.ext x78 (fun _ _ h => h)) (hw7.ext x78 (fun _ _ h => h)) (s := i) (by rw [hdrop, ← hi1]; exact .one (List.getElem?_eq_getElem hi)) fun s B w9 hc hB hw9 x9 => ?_
    refine back_turn hlen (by omega) hlow (by omega) (by omega) ((hk.ext x78 (fun _ _ h => h)).ext x9 (fun y hy => by omega)) hB hc hw9 (x08.trans x9 fun b hb h => by omega) (by omega)
end Go.Proofs.Ytcbkdccobhkbpaa

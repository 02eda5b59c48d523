/- Parts of the proof of SequencesMany: merged and given short names by a program of ours. -/
import Derived.Laws.StructEq
import Derived.KernelRfl
import Derived.WalkKit
import Derived.ProofKit
import Derived.OpenShut
import Derived.Test.YtaggdjhhmbnhoaaDoorSmE
set_option linter.unusedVariables false
set_option linter.unusedSimpArgs false
open Bool renaming not_true → aHB, and_eq_true → aHb
open Int renaming toNat_natCast → aGO
open List renaming length_map → aG1, getD_eq_getElem?_getD → aG3, length_take → aG4, getElem?_append_left → aG6, take_succ_cons → aGN, drop_zero → aGT, take_zero → aGV, getElem?_eq_getElem → aGX, length_append → aGY, mem_singleton → aH2, map_congr_left → aH4, append_nil → aHC, mem_cons → aHE, getElem?_map → aHg, getElem?_take_of_lt → aHr, nil_append → aHv, map_append → aHw, mem_of_mem_take → aI9, mem_append_right → aIG, mem_append_left → aIj
open Nat renaming zero_add → aGP, le_refl → aGZ, zero_le → aHZ, lt_or_ge → aHd, two_pow_pos → aHp
namespace Go.Proofs.YtaggdjhhmbnhoaaDoor
open Go Go.En Go.Pu
set_option maxRecDepth 4000
theorem aEf {ox oy : Operand} (a b c a' b' c' : Int) (w : aJa) : (aG .neq 47 ox oy (.agg #[.int .u32 a, .int .u32 b, .int .u32 c]) (.agg #[.int .u32 a', .int .u32 b', .int .u32 c'])).run pg w = .ok (.value (.bool (!(a == a' && b == b' && c == c')))) w := by
 have a3 : ∀ w, (isAgg 43).run pg w = .ok false w := fun w => by kernel_rfl
 have u3 := Tryd.underlying43
 have g0 : pg.eqGuardType pg.depth 47 = false := by kernel_rfl
 have g1 : pg.underlying 47 = some (.struct (pg.fieldsOf 47)) := by kernel_rfl
 have g2 : pg.stoodInHeld 47 = false := by kernel_rfl
 unfold aG
 simp only [JY, pW, Sem.run_bind, run_eqGuard_agg w .neq 47 ox oy _ _ g0, Result.andThen_ok, run_neq_struct]
 rw [run_equalIn_agg w 9999 47 _ _ g1 g2]
 simp only [Program.fieldsOf, Tryd.underlying47, Op.eqFields]
 simp [part, a3, run_equalIn_int w 9998 43 _ _ _ _ u3]
 by_cases h1 : a = a' <;> by_cases h2 : b = b' <;> by_cases h3 : c = c' <;> simp [h1, h2, h3]
theorem aCh {v u : aJb} {l : List Sq} {w : aJa} (h1 : Cl w 3 v l.length (Zn l)) (h2 : Cl w 3 u l.length (Zn l)) (hl : l.length <= 1000000) :
 aR pg IL #[v, u] w (fun r w' => r = .bool true /\ aS w w' cM) := by
 refine aiU ?_
 have f1 := h1
 have f2 := h2
 obtain ⟨va, vc, rfl, _⟩ := f1
 obtain ⟨ua, uc, rfl, _⟩ := f2
 unfold alD Ms Nc
 have n1 : (((l.length : Nat) : Int) != ((l.length : Nat) : Int)) = false := by simp
 simp (disch := omega) only [aC, fH, aA, eT, n1, aE]
 unfold Og NP Ob Ok Mr
 refine cG.rule (fun m (t : aJb) w' => ∃ i : Nat, m = l.length - i /\ t = .int .i64 i /\ i <= l.length /\ aS w w' cM) l.length ⟨0, rfl, rfl, by omega, aS.refl _ _⟩ ?_
 rintro m t w1 ⟨i, rfl, rfl, hi, x1⟩
 unfold Fy
 by_cases hlt : i < l.length
 .have d3 : decide ((i : Int) < (l.length : Int)) = true := by simp; omega
  obtain ⟨q, hq⟩ : ∃ q, l[i]? = some q := ⟨_, aGX hlt⟩
  obtain ⟨b, off, c, e, l1⟩ := akG (TG h1 x1 (cD _) (by omega)) hq
  obtain ⟨b', off', c', e', l2⟩ := akG (TG h2 x1 (cD _) (by omega)) hq
  cases e
  cases e'
  have q1 := l1 w1 (fun _ => rfl)
  have q2 := l2 w1 (fun _ => rfl)
  have q1d := l1 (dr w1) (fun _ => rfl)
  have q2d := l2 (dr w1) (fun _ => rfl)
  simp only [YB] at q1 q2 q1d q2d
  have nn : ∀ a c d : Int, (!(a == a && c == c && d == d)) = false := fun a c d => by simp
  have e1 : (i : Int) + 1 = ((i + 1 : Nat) : Int) := by omega
  simp (disch := omega) only [aC, fH, nG, aGO, bM, e1, aT, aA, true_and, aX, d3, q1d, q2d, aEf, nn, aE, aF]
  exact ⟨l.length - (i + 1), by omega, i + 1, rfl, rfl, by omega, x1.seq (aS.dr _ _)⟩
 .have d3 : decide ((i : Int) < (l.length : Int)) = false := by simp; omega
  unfold FY
  simp (disch := omega) only [aC, fH, bM, aT, aA, true_and, aX, d3, aE]
  exact x1
theorem arU {k v : Nat} (h : k = 0 ∨ k = 2) (hl : Ac k <= v) : ∀ i, zW k + i <= kZ k -> v < eS k i -> ∃ c, tW k v c
 | 0, _, hv => by
   have := aFa h
   unfold eS at hv
   exact ⟨_, alP h hl (by omega)⟩
 | i + 1, hi, hv => by
   rcases aHd v (eS k i) with h' | h'
   .exact arU h hl i (by omega) h'
   .exact ⟨_, apN h (by omega) h' (by unfold eS at hv; exact hv)⟩
theorem aDa {v : Nat} (h : v < 131072) : ∃ c, tW 0 v c := by
 have e : eS 0 20 = 131072 := by decide
 exact arU (.inl rfl) (aHZ _) 20 (by decide) (by omega)
theorem aCH {v : Nat} (h0 : 3 <= v) (h : v < 131075) : ∃ c, tW 2 v c := by
 have e : eS 2 21 = 131075 := by decide
 exact arU (.inr rfl) h0 21 (by decide) (by omega)
theorem aB0 {l : List Sq} (h : ∀ q ∈ l, q.ll < 131072 /\ 3 <= q.ml /\ q.ml < 131075 /\ 0 < q.of /\ q.of < 4294967296) : atY l := fun q hq k hk => by
 obtain ⟨h1, h2, h3, h4, h5⟩ := h q hq
 rcases (show k = 0 ∨ k = 1 ∨ k = 2 by omega) with rfl | rfl | rfl
 .exact aDa h1
 .exact ⟨_, avF h4 h5⟩
 .exact aCH h2 h3
theorem ayA {l : List UInt8} {o t : Nat -> TT} {q : List Sq} (ho : aoH o) (h : tZ l o = .ok (q, t)) (hq : q ≠ []) : ∀ k, k < 3 -> yQ k (t k) := by
 unfold tZ at h
 cases hn : St l with
 | error e => rw [hn] at h; cases h
 | ok y =>
   obtain ⟨n, r⟩ := y
   rw [hn] at h
   by_cases h0 : n = 0
   .simp only [if_pos h0] at h
    split at h
    .cases h; exact absurd rfl hq
    .cases h
   .simp only [if_neg h0] at h
    rw [Q0] at h
    cases hh : LP o r with
    | error e => rw [hh] at h; cases h
    | ok z =>
      obtain ⟨t0, r'⟩ := z
      rw [hh] at h
      simp only at h
      unfold DI at h
      split at h
      .cases h
      .split at h
       .cases h
       .split at h
        .cases h
        .cases h
         exact (PB ho hh).1
def oN : Nat -> TT := fun _ => (0, [])
def aN : Nat -> Option Addr := fun _ => none
theorem awP : aoH oN := fun k _ h => absurd rfl h
theorem aGc (w : aJa) : Ol w oN aN := fun k _ => .inl ⟨rfl, rfl⟩
theorem aGr (w : aJa) : Rb3 w oN aN (fun _ => 0) := fun k _ => .inl ⟨rfl, rfl⟩
theorem aFc {w : aJa} {base : Nat} {v : aJb} {l : List UInt8} (h : sN w base 1 v l.length (l.map FQ)) : Bs w v l := h.sl
def ex2 : List Sq := [⟨20, 3, 9⟩, ⟨0, 70, 1⟩]
theorem aBc {w : aJa} (hg : uA w) : aR pg FJ #[] w (fun r w' => r = .bool true /\ aS w w' cM) := by
 refine acP ?_
 obtain ⟨RR, hRR⟩ : ∃ RR : aJb -> aJa -> Prop, RR = fun r w' => r = .bool true /\ aS w w' cM := ⟨_, rfl⟩
 rw [<- hRR]
 unfold agA KD
 have hc0 : Cl w 3 (.slice none 0 0) ([] : List Sq).length (Zn []) := ⟨none, 0, rfl, rfl, fun h => by simp at h⟩
 refine (anK (l := []) hg hc0 (fun q hq => by cases hq) (by simp)).mono ?_
 rintro r w1 ⟨hr, x1⟩
 rcases hr with ⟨hno, _⟩ | ⟨_, bv, bytes, rfl, ob, _, _, hb0, _⟩
 .exact absurd (fun q hq => by cases hq) hno
 have hb0 := hb0 rfl
 subst hb0
 simp (disch := omega) only [aC, Ch, B7, wL, dU, aA]
 refine BG (cells := #[.int .u32 20, .int .u32 3, .int .u32 9, .int .u32 0, .int .u32 70, .int .u32 1]) (by decide) (by decide) (by kernel_rfl) fun w2 o2 x2 s2 => ?_
 have o2 : cJ w2 w1.heap.size (Zn ex2) := o2
 have x02 := x1.seq x2
 have hcl : Cl w2 3 (.slice (some ⟨w1.heap.size, 0, none⟩) 2 2) ex2.length (Zn ex2) := o2.cl (off := 0) (l := Zn ex2) (n := 2) rfl (fun i hi => by rw [aGP])
 refine (anK (l := ex2) (hg.ext x02) hcl (fun q hq k => ?_) (by decide)).mono ?_
 .rcases aHE.1 hq with rfl | hq
  .unfold kv; split <;> (try split) <;> decide
  .obtain rfl := aH2.1 hq
   unfold kv; split <;> (try split) <;> decide
 rintro r w3 ⟨hr, x3⟩
 have hcd : atY ex2 := aB0 (by decide)
 rcases hr with ⟨hno, _⟩ | ⟨_, bv2, bytes2, rfl, ob2, hlen, _, _, hrd⟩
 .exact absurd hcd hno
 have x03 := x02.seq x3
 obtain ⟨t', ht', _⟩ := hrd oN
 simp (disch := omega) only [Ch, B7, aA]
 refine (apJ (o := oN) (a := aN) (hg.ext x03) (aFc ob2) (by omega) (aGc _) awP).mono ?_
 rintro r w4 ⟨hr, x4⟩
 rw [ht'] at hr
 obtain ⟨v, ta, rfl, os, hT⟩ := hr
 have hgt := ayA awP ht' (by decide)
 have x04 := x03.seq x4
 have hp0 : 0 < (t' 0).2.length := by rw [(hgt 0 (by omega)).len]; exact aHp _
 simp only [c6]
 simp (disch := omega) only [SE, SF, SD, aA]
 refine jQ fun w5 o5 x5 s5 => ?_
 refine kD o5 rfl (by simp [one]) (by simp) fun w6 o6 x6 s6 => ?_
 have o6 : cJ w6 w4.heap.size (c6 t' ta) := o6
 have x46 : aS w4 w6 cM := x5.new x6 (aGZ _)
 rcases os.2 with ⟨_, hz⟩ | ⟨b, c, rest, rfl, hbase, ho, hc, hn⟩
 .cases hz
 rcases ob.2 with ⟨_, hz⟩ | ⟨b1, c1, rest1, rfl, hbase1, ho1, hc1, hn1⟩
 .cases hz
 have ho6 := ho.ext x46 (fun h => h)
 have ho16 := ((ho1.ext (x2.seq x3) (fun h => h)).ext x4 (fun h => h)).ext x46 (fun h => h)
 have g1 := ho16.cell (off := 0)
 have g2 := ho6.cell (off := 0)
 have g3 := ho6.cell (off := 2)
 have g4 := ho6.cell (off := 4)
 have g5 := ho6.cell (off := 5)
 have g6 := o6.cell (off := 1)
 rw [aG6 (by decide)] at g1
 rw [aG6 (by decide)] at g2 g3 g4 g5
 have f1 : (List.map FQ [0])[0]? = some (.int .u8 0) := rfl
 have f2 : (Zn ex2)[0]? = some (.int .u32 20) := rfl
 have f3 : (Zn ex2)[2]? = some (.int .u32 9) := rfl
 have f4 : (Zn ex2)[4]? = some (.int .u32 70) := rfl
 have f5 : (Zn ex2)[5]? = some (.int .u32 1) := rfl
 have f6 : (c6 t' ta)[1]? = some (.slice (ta 0) (t' 0).2.length (t' 0).2.length) := rfl
 rw [f1] at g1
 rw [f2] at g2
 rw [f3] at g3
 rw [f4] at g4
 rw [f5] at g5
 rw [f6] at g6
 have t0 : (0 : Int).toNat = 0 := rfl
 have t1 : (1 : Int).toNat = 1 := rfl
 have el : ((ex2.length : Nat) : Int) = 2 := rfl
 have eb : ((([0] : List UInt8).length : Nat) : Int) = 1 := rfl
 have dl : decide (0 < (((t' 0).2.length : Nat) : Int)) = true := by simp; exact hp0
 have k0 : ((0 : Int) == 0) = true := rfl
 have k1 : ((1 : Int) == 1) = true := rfl
 have k2 : ((2 : Int) == 2) = true := rfl
 have k9 : ((9 : Int) == 9) = true := rfl
 have k20 : ((20 : Int) == 20) = true := rfl
 have k70 : ((70 : Int) == 70) = true := rfl
 simp (disch := omega) only [fO, eb, eK, t0, aGP, aA, cW, k1, tR, bO, if_true, bP, oM, mI, g1, aI, k0, fH, el, k2, nG, jN, tL, g2, k20, kP, g3, k9, t1, lH, g4, k70, g5, bY, dS, g6, hY, dP, dl]
 rw [hRR]
 exact ⟨rfl, x04.seq x46⟩
def xe (x : Except Int (List Sq × (Nat -> TT))) : Int := match x with | .error e => e | .ok _ => 0
def xq (x : Except Int (List Sq × (Nat -> TT))) : List Sq := match x with | .error _ => [] | .ok (q, _) => q
theorem aCF (w : aJa) : Cl w 3 (.slice none 0 0) ([] : List Sq).length (Zn []) := ⟨none, 0, rfl, rfl, fun h => by simp at h⟩
theorem axA {w : aJa} {base : Nat} {x : Except Int (List Sq × (Nat -> TT))} {r : aJb} (h : apL w base x r) : ∃ pv cs, r = .tuple #[pv, .agg (List.toArray cs), .int .i64 (xe x)] /\ cs.length = 6 /\ (∀ y ∈ cs, one y = true) /\ Cl w 3 pv (xq x).length (Zn (xq x)) := by
 cases x with
 | error e => exact ⟨_, z6, h, rfl, by simp [z6, one], aCF w⟩
 | ok y =>
   obtain ⟨q, t⟩ := y
   obtain ⟨v, a, rfl, os, _⟩ := h
   exact ⟨v, _, rfl, rfl, by simp [c6, one], os.cl⟩
theorem axF {w : aJa} {base : Nat} {x : Except Int (List Sq × (Nat -> TT))} {r : aJb} (h : agJ w base x r) : ∃ pv cs, r = .tuple #[pv, .agg (List.toArray cs), .int .i64 (xe x)] /\ cs.length = 6 /\ (∀ y ∈ cs, one y = true) /\ Cl w 3 pv (xq x).length (Zn (xq x)) := by
 cases x with
 | error e => exact ⟨_, z6, h, rfl, by simp [z6, one], aCF w⟩
 | ok y =>
   obtain ⟨q, t⟩ := y
   obtain ⟨v, a, c, rfl, os, _⟩ := h
   exact ⟨v, _, rfl, rfl, by simp [r6, one], os.cl⟩
theorem aBy {l : List UInt8} {o : Nat -> TT} (ho : aoH o) : (xq (tZ l o)).length <= 1000000 := by
 cases h : tZ l o with
 | error e => simp [xq]
 | ok y =>
   obtain ⟨q, t⟩ := y
   show q.length <= _
   unfold tZ at h
   cases hn : St l with
   | error e => rw [hn] at h; cases h
   | ok y =>
     obtain ⟨n, r⟩ := y
     obtain ⟨hn1, _⟩ := asI hn
     rw [hn] at h
     by_cases h0 : n = 0
     .simp only [if_pos h0] at h
      split at h
      .cases h; simp
      .cases h
     .simp only [if_neg h0] at h
      rw [Q0] at h
      cases hh : LP o r with
      | error e => rw [hh] at h; cases h
      | ok z =>
        obtain ⟨t0, r'⟩ := z
        rw [hh] at h
        simp only at h
        unfold DI at h
        cases he : Zp r' with
        | none => rw [he] at h; cases h
        | some k =>
          rw [he] at h
          simp only at h
          split at h
          .cases h
          .split at h
           .cases h
           .cases h
            have hG := (PB ho hh).1
            obtain ⟨g, _⟩ := anC hG (bE r') (fun _ => 0) (k : Int)
            have := (anH (B := bE r') (n := n) (left := (sts t (bE r') 3 (fun _ => 0) (k : Int)).2) g).2.2
            rw [<- amD] at this
            omega
theorem ajQ {bv : aJb} {l : List UInt8} {n1 : Nat} {w : aJa} (hg : uA w) (hb : Bs w bv l) (hl : l.length <= 9223372036854775807) (hn : n1 < 256) :
 aR pg wI #[bv, .int .u8 n1] w (fun r w' => r = .bool true /\ aS w w' cM) := by
 refine MK ?_
 obtain ⟨RR, hRR⟩ : ∃ RR : aJb -> aJa -> Prop, RR = fun r w' => r = .bool true /\ aS w w' cM := ⟨_, rfl⟩
 rw [<- hRR]
 have hgood : ∀ w', aS w w' cM -> RR (.bool true) w' := fun w' x => by rw [hRR]; exact ⟨rfl, x⟩
 obtain ⟨y, rfl⟩ : ∃ y : UInt8, y.toNat = n1 := ⟨UInt8.ofNat n1, by simp; omega⟩
 obtain ⟨va, vc, rfl, _⟩ := hb.len
 rw [aG1] at hb ⊢
 unfold H5 uT
 refine (aBc hg).mono ?_
 rintro r w1 ⟨rfl, x1⟩
 by_cases h4 : 4 < l.length
 .have d1 : decide (4 < (l.length : Int)) = true := by simp; omega
  simp (disch := omega) only [aC, Il, aHB, fO, dU, aA, dP, d1, aF, aE]
  exact hgood _ x1
 have d1 : decide (4 < (l.length : Int)) = false := by simp; omega
 simp (disch := omega) only [aC, Il, aHB, fO, dU, aA, dP, d1, aE]
 refine agY Tryd.underlying22 Vb fun w2 o2 x2 s2 => ?_
 have x02 := x1.seq x2
 have hos : sN w2 w1.heap.size 1 (.slice (some ⟨w1.heap.size, 0, none⟩) 0 0) 0 [] := ⟨rfl, .inr ⟨_, 0, [], rfl, aGZ _, o2, rfl, aGZ _⟩⟩
 have hcl := (hb.ext x02 (cD _)).cl
 rw [aG1] at hcl
 refine xO hos hcl (asN _) x2.size (by omega) fun v3 w3 o3 x3 => ?_
 have x03 : aS w w3 cM := x02.trans x3 fun b hb h => by have := x1.size; omega
 rw [aGP, aHv] at o3
 refine tY (cells := #[FQ y]) (by decide) (by decide) (by kernel_rfl) fun w4 o4 x4 s4 => ?_
 have z2 := x2.size
 have z3 := x3.size
 have z4 := x4.size
 refine xO (m := 1) (news := [FQ y]) (o3.ext x4 (fun _ _ h => h)) (o4.cl (off := 0) (l := [FQ y]) (n := 1) rfl (fun i hi => by rw [aGP])) (by simp [FQ, one]) (by omega) (by omega) fun v5 w5 o5 x5 => ?_
 have x05 : aS w w5 cM := (x03.seq x4).trans x5 fun b hb h => by have := x1.size; omega
 have hb5 : Bs w5 v5 (l ++ [y]) := by
  have := o5.sl
  unfold Bs
  rw [aHw]
  exact this
 have hlen : (l ++ [y]).length <= 5 := by rw [aGY]; simp; omega
 generalize l ++ [y] = c at *
 refine (apJ (o := oN) (a := aN) (hg.ext x05) hb5 (by omega) (aGc _) awP).mono ?_
 rintro r w6 ⟨hr, x6⟩
 obtain ⟨pv, cs, rfl, hcs, hone, hcl6⟩ := axA hr
 simp (disch := omega) only [SE, SF, SD, aA]
 refine jQ fun w7 o7 x7 s7 => ?_
 refine kD o7 (by simpa using hcs) (by simpa using hone) (by simp) fun w8 o8 x8 s8 => ?_
 have x68 : aS w6 w8 cM := x7.new x8 (aGZ _)
 have x08 := (x05.seq x6).seq x68
 refine lL fun w9 o9 x9 s9 => ?_
 have x09 := x08.seq x9
 have hb9 := hb5.ext ((x6.seq x68).seq x9) (cD _)
 have l9 := gM (off := 0) o9 (by simp)
 simp only [aGT, aGN, aGV] at l9
 have cv := Xn hb9
 simp (disch := omega) only [cv, aA, l9]
 refine (arL (x := ⟨c.toArray⟩) (o := oN) (a := aN) (c := fun _ => 0) (by show c.toArray.size <= _; simp; omega) (aGr _) awP).mono ?_
 rintro r w10 ⟨hr2, x10⟩
 rw [aFg] at hr2
 obtain ⟨rv', cs', rfl, hcs', hone', hcl10⟩ := axF hr2
 simp (disch := omega) only [SE, SF, SD, aA, cW, bO]
 refine lL fun w11 o11 x11 s11 => ?_
 refine mY o11 (by simpa using hcs') (by simpa using hone') (by simp) fun w12 o12 x12 s12 => ?_
 have x1012 : aS w10 w12 cM := x11.new x12 (aGZ _)
 have ne : (xe (tZ c oN) == xe (tZ c oN)) = true := by simp
 simp (disch := omega) only [ne, tR, if_true, bP]
 refine (aCh (TG hcl6 (((x68.seq x9).seq x10).seq x1012) (cD _) (by omega)) (TG hcl10 x1012 (cD _) (by omega)) (aBy awP)).mono ?_
 rintro r w13 ⟨rfl, x13⟩
 exact hgood _ (((x09.seq x10).seq x1012).seq x13)
end Go.Proofs.YtaggdjhhmbnhoaaDoor
namespace Go.En
open Go Go.ChangeShapes Go.WideShapes Go.ChangeAt Go.RowKit
theorem aoP {H : Type} {enc : TypeId × aJb -> H} {P : Program} (hl : laidOutB P = true) {W W' : aJa} (hb : Below W.heap.size W W') : ∀ (ts : List TypeId) (vs : List aJb) (ds : List (DataW H)) (ps : List MemPlace),
 (ts.all fun t => P.readableRec t && decide (t < P.types.size)) = true -> DataW.TrodAll enc P W 0 (fun _ => true) true ts vs ds ps -> (∀ x ∈ ps, x.block < W.heap.size) →
 DataW.TrodAll enc P W' 0 (fun b => decide (b < W.heap.size)) true ts vs ds ps := by
 intro ts
 induction ts with
 | nil =>
   intro vs ds ps _ h _
   cases vs <;> cases ds <;> simp [DataW.TrodAll] at h ⊢
   exact h
 | cons t ts ih =>
   intro vs ds ps hr h hlt
   cases vs with
   | nil => simp [DataW.TrodAll] at h
   | cons v vs =>
     cases ds with
     | nil => simp [DataW.TrodAll] at h
     | cons d ds =>
       obtain ⟨p, q, h1, h2, rfl⟩ := h
       rw [List.all_cons, aHb, aHb, decide_eq_true_eq] at hr
       exact ⟨p, q, Below.trod hl hr.1.1 hr.1.2 h1 hb (fun x hx => hlt x (aIj _ hx)), ih _ _ _ hr.2 h2 (fun x hx => hlt x (aIG _ hx)), rfl⟩
theorem aDl {H : Type} {enc : TypeId × aJb -> H} {P : Program} {f : Func} {s : ChangeSpec} {apart fresh handsOn : Bool} {tb : TypeId} {W W' : aJa} {args : Array aJb} {ds gs : List (DataW H)} {before : List MemPlace}
 (hl : laidOutB P = true) (hr : (f.params.toList.all fun t => P.readableRec t && decide (t < P.types.size)) = true) (hres : f.resultTypes = #[tb]) (hbool : P.underlying tb = some .bool)
 (hW : DataW.Whole enc P f.params.toList s.vars apart W args.toList ds gs before) (hvars : s.vars = []) (h1 : (s.fn H (ds ++ gs)).results = [.lit (.bool true)]) (h2 : (s.fn H (ds ++ gs)).args = ds) (h3 : (s.fn H (ds ++ gs)).vars = [])
 (hx : aS W W' cM) : s.post enc P f apart fresh handsOn false W args (.bool true) W' := by
 have hb := hx.below
 have hlt : ∀ x ∈ before, x.block < W.heap.size := fun x hx => hW.lt x hx
 have hW' := hW
 obtain ⟨p, q, hA, hV, rfl, _, _⟩ := hW
 rw [hvars] at hV
 obtain ⟨_, rfl⟩ := trodVars_none hV
 rw [aHC] at hW' hlt
 refine ⟨ds, gs, p, [], p, [], hW', ?_, ?_, ?_, hb.frame _, fun h => by cases h⟩
 .rw [h1, hres]
  exact trodAll_cons_mk (shut_bool hbool _) trodAll_mk0
 .rw [h2]; exact aoP hl hb _ _ _ _ hr hA hlt
 .rw [h3, hvars] <;> rfl
theorem aDJ {H : Type} {enc : TypeId × aJb -> H} {P : Program} {W : aJa} {base b0 : Nat} {r : Reach} {sp : Nat -> Bool} {hd : Bool} {t e : TypeId} {k : IntKind} {v : aJb} {d : DataW H} {ps : List MemPlace} (ht : P.underlying t = some (.slice e)) (he : P.underlying e = some (.int k)) (hc : P.cellsOf e = 1)
 (hval : Value.okWide P W r b0 t v) (h : DataW.Trod enc P W base sp hd t v d ps) :
 ∃ zs : List Int, Sl W v (zs.map (Value.int k)) /\ zs.length <= 9223372036854775807 /\ ∀ z ∈ zs, (Lit.int k z).wf = true := by
 obtain ⟨a0, len, cap, rfl⟩ := okWide_slice ht hval
 obtain ⟨fuel, hf⟩ := h
 rcases open_ints ht he hc hf with ⟨hcs, -⟩ | ⟨a, len', cap', zs, hcs, _, hl, hm, hz, -, hcell, hwz⟩
 .have : Value.slice a0 len cap = .slice none 0 0 := by simpa [Value.cells] using hcs
  cases this
  exact ⟨[], ⟨none, 0, 0, rfl, rfl, aGZ _, fun h => absurd h (by simp)⟩, by simp, by simp⟩
 .have : Value.slice a0 len cap = .slice (some a) len' cap' := by simpa [Value.cells] using hcs
  cases this
  unfold maxLen at hm
  have hle : len <= zs.length := by rw [hz]; split <;> omega
  refine ⟨zs.take len, ⟨some a, len, cap, rfl, by rw [aG1, aG4]; omega, hl, fun h0 => ?_⟩, by rw [aG4]; omega, fun z hz => hwz z (aI9 hz)⟩
  obtain ⟨b, off, spot⟩ := a
  have hs : spot = none := by
   have h0 := hcell 0 (by omega)
   unfold World.cell? at h0
   split at h0
   .cases spot
    .rfl
    .simp [Addr.add] at h0
   .cases h0
  subst hs
  refine ⟨b, off, rfl, fun i hi => ?_⟩
  rw [<- Ek, hcell i (by omega), aHg, aHr hi, aG3, aGX (by omega)]
  rfl
theorem aB8 (zs : List Int) (h : ∀ z ∈ zs, (Lit.int .u8 z).wf = true) : ∃ l : List UInt8, zs.map (Value.int .u8) = l.map FQ /\ l.length = zs.length := by
 refine ⟨zs.map fun z => UInt8.ofNat z.toNat, ?_, by simp⟩
 rw [List.map_map]
 refine aH4 fun z hz => ?_
 have := h z hz
 have hx : 0 <= z /\ z <= 255 := by simpa [Lit.wf, IntKind.min, IntKind.max, IntKind.signed, IntKind.bits] using this
 show _ = FQ (UInt8.ofNat z.toNat)
 unfold FQ
 rw [UInt8.toNat_ofNat']
 congr 1
 omega
end Go.En

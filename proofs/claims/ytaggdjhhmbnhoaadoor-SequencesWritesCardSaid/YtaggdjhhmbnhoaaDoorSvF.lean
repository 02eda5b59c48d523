/- Parts of the proof of SequencesWrites: merged and given short names by a program of ours. -/
import Derived.Laws.StructEq
import Derived.KernelRfl
import Derived.WalkKit
import Derived.ProofKit
import Derived.OpenShut
import Derived.Deep.Slices
import Derived.Deep.Strs
import Derived.Laws.IdiomArrays
import Derived.Test.YtaggdjhhmbnhoaaDoorSvE
set_option linter.unusedVariables false
set_option linter.unusedSimpArgs false
open Bool renaming false_eq_true → aI5, not_false → aJT, and_eq_true → aJn, not_true → aJx
open Int renaming toNat_natCast → aIY, tdiv_eq_ediv_of_nonneg → aJs, tmod_eq_emod_of_nonneg → aJt
open List renaming getElem?_cons_zero → aI0, getElem?_cons_succ → aI1, set_cons_zero → aI2, set_cons_succ → aI3, drop_zero → aI4, take_zero → aI6, getElem?_eq_getElem → aI7, length_append → aI8, take_succ_cons → aIX, mem_cons_self → aJ6, take_add_one → aJE, getElem?_take_of_lt → aJF, getElem?_append_right → aJG, map_append → aJJ, mem_range → aJN, mem_map → aJO, append_nil → aJP, mem_cons → aJQ, length_pos_iff → aJR, mem_of_getElem? → aJX, length_map → aJb, getElem?_append_left → aJd, getElem_mem → aJh, mem_cons_of_mem → aJi, getElem?_eq_none → aJk, length_cons → aJo, getElem?_map → aJq, length_eq_zero_iff → aJr, take_of_length_le → aJw, getElem_of_mem → aJy, take_length → aKA, length_range → aKH, mem_append_right → aKR, getElem?_range → aKZ, getElem?_drop → aKe, mem_singleton → aKf, mem_append_left → aKv
open Nat renaming le_refl → aI9, zero_add → aIZ, eq_zero_or_pos → aJU, zero_le → aJW, pow_le_pow_right → aJa, lt_or_ge → aJl, two_pow_pos → aJv, mod_lt → aKj, add_assoc → aKn
open Option renaming isNone_some → aJm, isNone_none → aKu
namespace Go.Proofs.YtaggdjhhmbnhoaaDoor
open Go Go.En Go.Pu
set_option maxRecDepth 4000
theorem aGr {ox oy : Operand} (a b c a' b' c' : Int) (w : aLl) : (aH .neq 47 ox oy (.agg #[.int .u32 a, .int .u32 b, .int .u32 c]) (.agg #[.int .u32 a', .int .u32 b', .int .u32 c'])).run pg w = .ok (.value (.bool (!(a == a' && b == b' && c == c')))) w := by
 have a3 : ∀ w, (isAgg 43).run pg w = .ok false w := fun w => by kernel_rfl
 have u3 := Tryd.underlying43
 have g0 : pg.eqGuardType pg.depth 47 = false := by kernel_rfl
 have g1 : pg.underlying 47 = some (.struct (pg.fieldsOf 47)) := by kernel_rfl
 have g2 : pg.stoodInHeld 47 = false := by kernel_rfl
 unfold aH
 simp only [L8, sO, Sem.run_bind, run_eqGuard_agg w .neq 47 ox oy _ _ g0, Result.andThen_ok, run_neq_struct]
 rw [run_equalIn_agg w 9999 47 _ _ g1 g2]
 simp only [Program.fieldsOf, Tryd.underlying47, Op.eqFields]
 simp [part, a3, run_equalIn_int w 9998 43 _ _ _ _ u3]
 by_cases h1 : a = a' <;> by_cases h2 : b = b' <;> by_cases h3 : c = c' <;> simp [h1, h2, h3]
theorem aAB {v u : aLm} {l : List Sq} {w : aLl} (h1 : Cl w 3 v l.length (TR l)) (h2 : Cl w 3 u l.length (TR l)) (hl : l.length <= 1000000) :
 aR pg EA #[v, u] w (fun r w' => r = .bool true /\ aS w w' cI) := by
 refine alE ?_
 have f1 := h1
 have f2 := h2
 obtain ⟨va, vc, rfl, _⟩ := f1
 obtain ⟨ua, uc, rfl, _⟩ := f2
 unfold aqM OX Pv
 have n1 : (((l.length : Nat) : Int) != ((l.length : Nat) : Int)) = false := by simp
 simp (disch := omega) only [aC, cB, aA, fB, n1, aD]
 unfold Ov NK Pq Pb O8
 refine cC.rule (fun m (t : aLm) w' => ∃ i : Nat, m = l.length - i /\ t = .int .i64 i /\ i <= l.length /\ aS w w' cI) l.length ⟨0, rfl, rfl, by omega, aS.refl _ _⟩ ?_
 rintro m t w1 ⟨i, rfl, rfl, hi, x1⟩
 unfold Hc
 by_cases hlt : i < l.length
 .have d3 : decide ((i : Int) < (l.length : Int)) = true := by simp; omega
  obtain ⟨q, hq⟩ : ∃ q, l[i]? = some q := ⟨_, aI7 hlt⟩
  obtain ⟨b, off, c, e, l1⟩ := aoE (zI h1 x1 (bU _) (by omega)) hq
  obtain ⟨b', off', c', e', l2⟩ := aoE (zI h2 x1 (bU _) (by omega)) hq
  cases e
  cases e'
  have q1 := l1 w1 (fun _ => rfl)
  have q2 := l2 w1 (fun _ => rfl)
  have q1d := l1 (dr w1) (fun _ => rfl)
  have q2d := l2 (dr w1) (fun _ => rfl)
  simp only [TQ] at q1 q2 q1d q2d
  have nn : ∀ a c d : Int, (!(a == a && c == c && d == d)) = false := fun a c d => by simp
  have e1 : (i : Int) + 1 = ((i + 1 : Nat) : Int) := by omega
  simp (disch := omega) only [aC, cB, iC, aIY, bN, e1, aT, aA, true_and, aW, d3, q1d, q2d, aGr, nn, aD, aF]
  exact ⟨l.length - (i + 1), by omega, i + 1, rfl, rfl, by omega, x1.seq (aS.dr _ _)⟩
 .have d3 : decide ((i : Int) < (l.length : Int)) = false := by simp; omega
  unfold GM
  simp (disch := omega) only [aC, cB, bN, aT, aA, true_and, aW, d3, aD]
  exact x1
theorem awI {k v : Nat} (h : k = 0 ∨ k = 2) (hl : Bt k <= v) : ∀ i, Bn k + i <= lI k -> v < eS k i -> ∃ c, sV k v c
 | 0, _, hv => by
   have := aHA h
   unfold eS at hv
   exact ⟨_, apK h hl (by omega)⟩
 | i + 1, hi, hv => by
   rcases aJl v (eS k i) with h' | h'
   .exact awI h hl i (by omega) h'
   .exact ⟨_, auL h (by omega) h' (by unfold eS at hv; exact hv)⟩
theorem aEb {v : Nat} (h : v < 131072) : ∃ c, sV 0 v c := by
 have e : eS 0 20 = 131072 := by decide
 exact awI (.inl rfl) (aJW _) 20 (by decide) (by omega)
theorem aEm {v : Nat} (h0 : 3 <= v) (h : v < 131075) : ∃ c, sV 2 v c := by
 have e : eS 2 21 = 131075 := by decide
 exact awI (.inr rfl) h0 21 (by decide) (by omega)
theorem aEF {l : List Sq} (h : ∀ q ∈ l, q.ll < 131072 /\ 3 <= q.ml /\ q.ml < 131075 /\ 0 < q.of /\ q.of < 4294967296) : auZ l := fun q hq k hk => by
 obtain ⟨h1, h2, h3, h4, h5⟩ := h q hq
 rcases (show k = 0 ∨ k = 1 ∨ k = 2 by omega) with rfl | rfl | rfl
 .exact aEb h1
 .exact ⟨_, axZ h4 h5⟩
 .exact aEm h2 h3
theorem aBC {l : List UInt8} {o t : Nat -> TT} {q : List Sq} (ho : Nl o) (h : BM l o = .ok (q, t)) (hq : q ≠ []) : ∀ k, k < 3 -> yT k (t k) := by
 unfold BM at h
 cases hn : Vr l with
 | error e => rw [hn] at h; cases h
 | ok y =>
   obtain ⟨n, r⟩ := y
   rw [hn] at h
   by_cases h0 : n = 0
   .simp only [if_pos h0] at h
    split at h
    .cases h; exact absurd rfl hq
    .cases h
   .simp only [if_neg h0] at h
    rw [XL] at h
    cases hh : P2 o r with
    | error e => rw [hh] at h; cases h
    | ok z =>
      obtain ⟨t0, r'⟩ := z
      rw [hh] at h
      simp only at h
      unfold Fp at h
      split at h
      .cases h
      .split at h
       .cases h
       .split at h
        .cases h
        .cases h
         exact (Y1 ho hh).1
def oN : Nat -> TT := fun _ => (0, [])
def aN : Nat -> Option Addr := fun _ => none
theorem aEK : Nl oN := fun k _ h => absurd rfl h
theorem aIj (w : aLl) : JV w oN aN := fun k _ => .inl ⟨rfl, rfl⟩
theorem aEO {w : aLl} {base : Nat} {v : aLm} {l : List UInt8} (h : uD w base 1 v l.length (l.map KY)) : Bs w v l := h.sl
def ex2 : List Sq := [⟨20, 3, 9⟩, ⟨0, 70, 1⟩]
theorem aC2 {w : aLl} (hg : vW w) : aR pg Gv #[] w (fun r w' => r = .bool true /\ aS w w' cI) := by
 refine aeH ?_
 obtain ⟨RR, hRR⟩ : ∃ RR : aLm -> aLl -> Prop, RR = fun r w' => r = .bool true /\ aS w w' cI := ⟨_, rfl⟩
 rw [<- hRR]
 unfold akI L9
 have hc0 : Cl w 3 (.slice none 0 0) ([] : List Sq).length (TR []) := ⟨none, 0, rfl, rfl, fun h => by simp at h⟩
 refine (X7 (l := []) hg hc0 (fun q hq => by cases hq) (by simp)).mono ?_
 rintro r w1 ⟨hr, x1⟩
 rcases hr with ⟨hno, _⟩ | ⟨_, bv, bytes, rfl, ob, _, _, hb0, _⟩
 .exact absurd (fun q hq => by cases hq) hno
 have hb0 := hb0 rfl
 subst hb0
 simp (disch := omega) only [aC, Bc, A6, jY, dK, aA]
 refine yF (cells := #[.int .u32 20, .int .u32 3, .int .u32 9, .int .u32 0, .int .u32 70, .int .u32 1]) (by decide) (by decide) (by kernel_rfl) fun w2 o2 x2 s2 => ?_
 have o2 : cM w2 w1.heap.size (TR ex2) := o2
 have x02 := x1.seq x2
 have hcl : Cl w2 3 (.slice (some ⟨w1.heap.size, 0, none⟩) 2 2) ex2.length (TR ex2) := o2.cl (off := 0) (l := TR ex2) (n := 2) rfl (fun i hi => by rw [aIZ])
 refine (X7 (l := ex2) (hg.ext x02) hcl (fun q hq k => ?_) (by decide)).mono ?_
 .rcases aJQ.1 hq with rfl | hq
  .unfold kv; split <;> (try split) <;> decide
  .obtain rfl := aKf.1 hq
   unfold kv; split <;> (try split) <;> decide
 rintro r w3 ⟨hr, x3⟩
 have hcd : auZ ex2 := aEF (by decide)
 rcases hr with ⟨hno, _⟩ | ⟨_, bv2, bytes2, rfl, ob2, hlen, _, _, hrd⟩
 .exact absurd hcd hno
 have x03 := x02.seq x3
 obtain ⟨t', ht', _⟩ := hrd oN
 simp (disch := omega) only [Bc, A6, aA]
 refine (atT (o := oN) (a := aN) (hg.ext x03) (aEO ob2) (by omega) (aIj _) aEK).mono ?_
 rintro r w4 ⟨hr, x4⟩
 rw [ht'] at hr
 obtain ⟨v, ta, rfl, os, hT⟩ := hr
 have hgt := aBC aEK ht' (by decide)
 have x04 := x03.seq x4
 have hp0 : 0 < (t' 0).2.length := by rw [(hgt 0 (by omega)).len]; exact aJv _
 simp only [c6]
 simp (disch := omega) only [Kh, Ka, J3, aA]
 refine iH fun w5 o5 x5 s5 => ?_
 refine jK o5 rfl (by simp [one]) (by simp) fun w6 o6 x6 s6 => ?_
 have o6 : cM w6 w4.heap.size (c6 t' ta) := o6
 have x46 : aS w4 w6 cI := x5.new x6 (aI9 _)
 rcases os.2 with ⟨_, hz⟩ | ⟨b, c, rest, rfl, hbase, ho, hc, hn⟩
 .cases hz
 rcases ob.2 with ⟨_, hz⟩ | ⟨b1, c1, rest1, rfl, hbase1, ho1, hc1, hn1⟩
 .cases hz
 have ho6 := ho.ext x46 (fun h => h)
 have ho16 := ((ho1.ext (x2.seq x3) (fun h => h)).ext x4 (fun h => h)).ext x46 (fun h => h)
 have g1 := ho16.cell (off := 0)
 have g2 := ho6.cell (off := 0)
 have g3 := ho6.cell (off := 2)
 have g4 := ho6.cell (off := 4)
 have g5 := ho6.cell (off := 5)
 have g6 := o6.cell (off := 1)
 rw [aJd (by decide)] at g1
 rw [aJd (by decide)] at g2 g3 g4 g5
 have f1 : (List.map KY [0])[0]? = some (.int .u8 0) := rfl
 have f2 : (TR ex2)[0]? = some (.int .u32 20) := rfl
 have f3 : (TR ex2)[2]? = some (.int .u32 9) := rfl
 have f4 : (TR ex2)[4]? = some (.int .u32 70) := rfl
 have f5 : (TR ex2)[5]? = some (.int .u32 1) := rfl
 have f6 : (c6 t' ta)[1]? = some (.slice (ta 0) (t' 0).2.length (t' 0).2.length) := rfl
 rw [f1] at g1
 rw [f2] at g2
 rw [f3] at g3
 rw [f4] at g4
 rw [f5] at g5
 rw [f6] at g6
 have t0 : (0 : Int).toNat = 0 := rfl
 have t1 : (1 : Int).toNat = 1 := rfl
 have el : ((ex2.length : Nat) : Int) = 2 := rfl
 have eb : ((([0] : List UInt8).length : Nat) : Int) = 1 := rfl
 have dl : decide (0 < (((t' 0).2.length : Nat) : Int)) = true := by simp; exact hp0
 have k0 : ((0 : Int) == 0) = true := rfl
 have k1 : ((1 : Int) == 1) = true := rfl
 have k2 : ((2 : Int) == 2) = true := rfl
 have k9 : ((9 : Int) == 9) = true := rfl
 have k20 : ((20 : Int) == 20) = true := rfl
 have k70 : ((70 : Int) == 70) = true := rfl
 simp (disch := omega) only [fH, eb, cL, t0, aIZ, aA, cK, k1, mU, bM, if_true, bP, mJ, kJ, g1, aG, k0, cB, el, k2, iC, eP, mB, g2, k20, fI, g3, k9, t1, fY, g4, k70, g5, bR, cW, g6, fK, dO, dl]
 rw [hRR]
 exact ⟨rfl, x04.seq x46⟩
def xe (x : Except Int (List Sq × (Nat -> TT))) : Int := match x with | .error e => e | .ok _ => 0
def ahD (q : Sq) : Sq := ⟨q.ll % 131072, 3 + q.ml % 131072, 1 + q.of % 2147483648⟩
theorem aAx {l : List Sq} {v : aLm} {w : aLl} (h : Cl w 3 v l.length (TR l)) {i : Nat} {q : Sq} (hq : l[i]? = some q) : ∃ b off c, v = .slice (some ⟨b, off, none⟩) l.length c /\
 w.cell? ⟨b, off + i * 3, none⟩ = some (.int .u32 q.ll) /\ w.cell? ⟨b, off + i * 3 + 1, none⟩ = some (.int .u32 q.ml) /\ w.cell? ⟨b, off + i * 3 + 2, none⟩ = some (.int .u32 q.of) := by
 obtain ⟨a, c, rfl, h1, h2⟩ := h
 have hi : i < l.length := by
  rcases aJl i l.length with h | h
  .exact h
  .rw [aJk h] at hq; cases hq
 obtain ⟨b, off, rfl, h3⟩ := h2 (by omega)
 have key : ∀ j, j < 3 -> w.cell? ⟨b, off + i * 3 + j, none⟩ = (TQ q)[j]? := fun j hj => by
  have h4 := h3 (i * 3 + j) (by rw [h1]; omega)
  rw [aKn, h4, <- aCE hq, aJF hj, aKe]
 exact ⟨b, off, c, rfl, key 0 (by omega), key 1 (by omega), key 2 (by omega)⟩
theorem aFl {v : aLm} {l : List Sq} {w : aLl} (h : Cl w 3 v l.length (TR l)) (hu : ∀ q ∈ l, ∀ k, kv q k < 4294967296) (hl : l.length <= 1000000) :
 aR pg Ei #[v] w (fun r w' => uD w' w.heap.size 3 r l.length (TR (l.map ahD)) /\ aS w w' cI) := by
 refine aaU ?_
 have hf := h
 obtain ⟨va, vc, rfl, _⟩ := hf
 unfold Zo Iw IB IG IS IW Iu IX
 refine cC.rule (fun m (t : aLm × aLm) w' => ∃ i : Nat, m = l.length - i /\ t.2 = .int .i64 i /\ i <= l.length /\ uD w' w.heap.size 3 t.1 i (TR ((l.take i).map ahD)) /\ aS w w' cI) l.length
  ⟨0, rfl, rfl, by omega, uD.nil _ _ _, aS.refl _ _⟩ ?_
 rintro m ⟨t1, t2⟩ w1 ⟨i, rfl, rfl, hi, os, x1⟩
 have z1 := x1.size
 unfold Cn
 by_cases hlt : i < l.length
 .have d3 : decide ((i : Int) < (l.length : Int)) = true := by simp; omega
  obtain ⟨q, hq⟩ : ∃ q, l[i]? = some q := ⟨_, aI7 hlt⟩
  have hm := hu q (aJX hq)
  have u0 := hm 0
  have u1 := hm 1
  have u2 := hm 2
  unfold kv at u0 u1 u2
  simp at u0 u1 u2
  obtain ⟨b, off, c, e, c0, c1, c2⟩ := aAx (zI h x1 (bU _) (by omega)) hq
  cases e
  have c0d : (dr w1).cell? ⟨b, off + i * 3, none⟩ = some (.int .u32 q.ll) := c0
  have c1d : (dr w1).cell? ⟨b, off + i * 3 + 1, none⟩ = some (.int .u32 q.ml) := c1
  have c2d : (dr w1).cell? ⟨b, off + i * 3 + 2, none⟩ = some (.int .u32 q.of) := c2
  have m0 : ((q.ll : Int).tmod 131072) = ((q.ll % 131072 : Nat) : Int) := by rw [aJt (by omega)]; omega
  have m1 : ((q.ml : Int).tmod 131072) = ((q.ml % 131072 : Nat) : Int) := by rw [aJt (by omega)]; omega
  have m2 : ((q.of : Int).tmod 2147483648) = ((q.of % 2147483648 : Nat) : Int) := by rw [aJt (by omega)]; omega
  have e1 : (i : Int) + 1 = ((i + 1 : Nat) : Int) := by omega
  have w1' : IntKind.u32.wrap (3 + ((q.ml % 131072 : Nat) : Int)) = ((3 + q.ml % 131072 : Nat) : Int) := by rw [w32 (by omega) (by omega)]; omega
  have w2' : IntKind.u32.wrap (1 + ((q.of % 2147483648 : Nat) : Int)) = ((1 + q.of % 2147483648 : Nat) : Int) := by rw [w32 (by omega) (by omega)]; omega
  simp (disch := omega) only [aC, cB, iC, aIY, bN, e1, aT, aA, true_and, fI, mB, fY, eP, aW, d3, c0d, aG, c1d, c2d, yV, m2, w2', m1, w1', m0, jY, aF]
  refine yF (cells := #[.int .u32 ((ahD q).ll : Nat), .int .u32 ((ahD q).ml : Nat), .int .u32 ((ahD q).of : Nat)]) (by decide) (by decide) (by kernel_rfl) fun w6 o6 x6 s6 => ?_
  have z6 := x6.size
  have zd : (dr w1).heap.size = w1.heap.size := rfl
  have os6 := (os.ext (aS.dr _ cI) (fun _ _ h => h)).ext x6 (fun _ _ h => h)
  refine nX (m := 1) (news := TQ (ahD q)) os6 (o6.cl (off := 0) (l := TQ (ahD q)) (n := 1) rfl (fun i hi => by rw [aIZ] <;> rfl)) (by simp [TQ, one]) (by omega) (by omega) fun v7 w7 o7 x7 => ?_
  have e7 : (l.take (i + 1)).map ahD = (l.take i).map ahD ++ [ahD q] := by rw [aJE, hq, aJJ] <;> rfl
  rw [<- arG, <- e7] at o7
  exact ⟨l.length - (i + 1), by omega, i + 1, rfl, rfl, by omega, o7, ((x1.seq (aS.dr _ _)).seq x6).trans x7 fun b hb h => by omega⟩
 .have d3 : decide ((i : Int) < (l.length : Int)) = false := by simp; omega
  unfold BT
  obtain rfl : i = l.length := by omega
  rw [aKA] at os
  simp (disch := omega) only [aC, cB, bN, aT, aA, true_and, aW, d3, aD]
  exact ⟨os, x1⟩
theorem aG4 (l : List Sq) : ∀ q ∈ l.map ahD, q.ll < 131072 /\ 3 <= q.ml /\ q.ml < 131075 /\ 0 < q.of /\ q.of < 4294967296 := fun q hq => by
 obtain ⟨p, _, rfl⟩ := aJO.1 hq
 have h1 := aKj p.ll (show 0 < 131072 by decide)
 have h2 := aKj p.ml (show 0 < 131072 by decide)
 have h3 := aKj p.of (show 0 < 2147483648 by decide)
 unfold ahD
 refine ⟨h1, ?_, ?_, ?_, ?_⟩ <;> simp only <;> omega
theorem aHX {l : List Sq} (h : ∀ q ∈ l, q.ll < 131072 /\ 3 <= q.ml /\ q.ml < 131075 /\ 0 < q.of /\ q.of < 4294967296) : ∀ q ∈ l, ∀ k, kv q k < 4294967296 := fun q hq k => by
 obtain ⟨h1, h2, h3, h4, h5⟩ := h q hq
 unfold kv
 split <;> (try split) <;> omega
end Go.Proofs.YtaggdjhhmbnhoaaDoor
namespace Go.En
open Go Go.ChangeShapes Go.WideShapes Go.ChangeAt Go.RowKit
theorem asX {H : Type} {enc : TypeId × aLm -> H} {P : Program} (hl : laidOutB P = true) {W W' : aLl} (hb : Below W.heap.size W W') : ∀ (ts : List TypeId) (vs : List aLm) (ds : List (DataW H)) (ps : List MemPlace),
 (ts.all fun t => P.readableRec t && decide (t < P.types.size)) = true -> DataW.TrodAll enc P W 0 (fun _ => true) true ts vs ds ps -> (∀ x ∈ ps, x.block < W.heap.size) →
 DataW.TrodAll enc P W' 0 (fun b => decide (b < W.heap.size)) true ts vs ds ps := by
 intro ts
 induction ts with
 | nil =>
   intro vs ds ps _ h _
   cases vs <;> cases ds <;> simp [DataW.TrodAll] at h ⊢
   exact h
 | cons t ts ih =>
   intro vs ds ps hr h hlt
   cases vs with
   | nil => simp [DataW.TrodAll] at h
   | cons v vs =>
     cases ds with
     | nil => simp [DataW.TrodAll] at h
     | cons d ds =>
       obtain ⟨p, q, h1, h2, rfl⟩ := h
       rw [List.all_cons, aJn, aJn, decide_eq_true_eq] at hr
       exact ⟨p, q, Below.trod hl hr.1.1 hr.1.2 h1 hb (fun x hx => hlt x (aKv _ hx)), ih _ _ _ hr.2 h2 (fun x hx => hlt x (aKR _ hx)), rfl⟩
theorem aFe {H : Type} {enc : TypeId × aLm -> H} {P : Program} {f : Func} {s : ChangeSpec} {apart fresh handsOn : Bool} {tb : TypeId} {W W' : aLl} {args : Array aLm} {ds gs : List (DataW H)} {before : List MemPlace}
 (hl : laidOutB P = true) (hr : (f.params.toList.all fun t => P.readableRec t && decide (t < P.types.size)) = true) (hres : f.resultTypes = #[tb]) (hbool : P.underlying tb = some .bool)
 (hW : DataW.Whole enc P f.params.toList s.vars apart W args.toList ds gs before) (hvars : s.vars = []) (h1 : (s.fn H (ds ++ gs)).results = [.lit (.bool true)]) (h2 : (s.fn H (ds ++ gs)).args = ds) (h3 : (s.fn H (ds ++ gs)).vars = [])
 (hx : aS W W' cI) : s.post enc P f apart fresh handsOn false W args (.bool true) W' := by
 have hb := hx.below
 have hlt : ∀ x ∈ before, x.block < W.heap.size := fun x hx => hW.lt x hx
 have hW' := hW
 obtain ⟨p, q, hA, hV, rfl, _, _⟩ := hW
 rw [hvars] at hV
 obtain ⟨_, rfl⟩ := trodVars_none hV
 rw [aJP] at hW' hlt
 refine ⟨ds, gs, p, [], p, [], hW', ?_, ?_, ?_, hb.frame _, fun h => by cases h⟩
 .rw [h1, hres]
  exact trodAll_cons_mk (shut_bool hbool _) trodAll_mk0
 .rw [h2]; exact asX hl hb _ _ _ _ hr hA hlt
 .rw [h3, hvars] <;> rfl
end Go.En
namespace Go.En
open Go Go.ChangeShapes Go.WideShapes Go.ChangeAt Go.RowKit Go.Deep
def st3 (k : IntKind) (z : Int × Int × Int) : List aLm := [.int k z.1, .int k z.2.1, .int k z.2.2]
def wf3 (k : IntKind) (z : Int × Int × Int) : Prop := (Lit.int k z.1).wf = true /\ (Lit.int k z.2.1).wf = true /\ (Lit.int k z.2.2).wf = true
theorem aEo {H : Type} {enc : TypeId × aLm -> H} {P : Program} {W : aLl} {base : Nat} {sp : Nat -> Bool} {hd : Bool} {t : TypeId} {f0 f1 f2 : Field} {k : IntKind} {fuel : Nat} {cs : List aLm} {x : DataW H × List MemPlace}
 (ht : P.underlying t = some (.struct #[f0, f1, f2])) (h0 : P.underlying f0.type = some (.int k)) (h1 : P.underlying f1.type = some (.int k)) (h2 : P.underlying f2.type = some (.int k))
 (o0 : f0.offset = 0) (o1 : f1.offset = 1) (o2 : f2.offset = 2) (c0 : P.cellsOf f0.type = 1) (c1 : P.cellsOf f1.type = 1) (c2 : P.cellsOf f2.type = 1) (ct : P.cellsOf t = 3)
 (hf : DataW.trod enc P W base sp hd fuel t cs = some x) : ∃ z : Int × Int × Int, cs = st3 k z /\ wf3 k z := by
 obtain ⟨y0, y1, y2, n, _, hl, hf0, hf1, hf2⟩ := trod_struct3 ht hf
 rw [o0, c0] at hf0
 rw [o1, c1] at hf1
 rw [o2, c2] at hf2
 obtain ⟨a0, e0, _, w0⟩ := DataW.trod_int h0 hf0
 obtain ⟨a1, e1, _, w1⟩ := DataW.trod_int h1 hf1
 obtain ⟨a2, e2, _, w2⟩ := DataW.trod_int h2 hf2
 rw [ct] at hl
 match cs, hl with
 | [x0, x1, x2], _ =>
   simp at e0 e1 e2
   exact ⟨(a0, a1, a2), by rw [e0, e1, e2] <;> rfl, w0, w1, w2⟩
theorem aDj {H : Type} {enc : TypeId × aLm -> H} {P : Program} {W : aLl} {base b0 : Nat} {r : Reach} {sp : Nat -> Bool} {hd : Bool} {t e : TypeId} {f0 f1 f2 : Field} {k : IntKind} {v : aLm} {d : DataW H} {ps : List MemPlace}
 (hs : P.underlying t = some (.slice e)) (ht : P.underlying e = some (.struct #[f0, f1, f2])) (h0 : P.underlying f0.type = some (.int k)) (h1 : P.underlying f1.type = some (.int k)) (h2 : P.underlying f2.type = some (.int k))
 (o0 : f0.offset = 0) (o1 : f1.offset = 1) (o2 : f2.offset = 2) (c0 : P.cellsOf f0.type = 1) (c1 : P.cellsOf f1.type = 1) (c2 : P.cellsOf f2.type = 1) (ct : P.cellsOf e = 3)
 (hval : Value.okWide P W r b0 t v) (h : DataW.Trod enc P W base sp hd t v d ps) :
 ∃ zs : List (Int × Int × Int), Cl W 3 v zs.length (zs.flatMap (st3 k)) /\ zs.length <= 9223372036854775807 /\ ∀ z ∈ zs, wf3 k z := by
 obtain ⟨a0, len, cap, rfl⟩ := okWide_slice hs hval
 obtain ⟨fuel, hf⟩ := h
 have fl : ∀ zs : List (Int × Int × Int), (zs.flatMap (st3 k)).length = zs.length * 3 := fun zs => by
  induction zs with
  | nil => rfl
  | cons z zs ih => rw [List.flatMap_cons, aI8, ih, aJo]; simp [st3]; omega
 rcases open_slice hs hf with ⟨hcs, -⟩ | ⟨a, len', cap', m, n, D, Pl, hcs, _, hl, hm, hmm, _, hx⟩
 .have : Value.slice a0 len cap = .slice none 0 0 := by simpa [Value.cells] using hcs
  cases this
  exact ⟨[], ⟨none, 0, rfl, rfl, fun h => absurd h (by simp)⟩, by simp, by simp⟩
 .have : Value.slice a0 len cap = .slice (some a) len' cap' := by simpa [Value.cells] using hcs
  cases this
  unfold maxLen at hm
  have hlm : len <= m := by rw [hmm]; split <;> omega
  obtain ⟨Z, hZ⟩ := choose_lt (α := Int × Int × Int) (n := len) (p := fun i z => wf3 k z /\ ∀ j, j < 3 -> W.cell? ((a.add (i * 3)).add j) = (st3 k z)[j]?) (fun i hi => by
   obtain ⟨cs', h1', h2'⟩ := hx i (by omega)
   rw [ct] at h1'
   obtain ⟨z, rfl, hw⟩ := aEo ht h0 h1 h2 o0 o1 o2 c0 c1 c2 ct h2'
   obtain ⟨_, hlen, hc⟩ := World.cells?_some h1'
   exact ⟨z, hw, fun j hj => hc j hj⟩)
  refine ⟨(List.range len).map Z, ⟨some a, cap, by simp, by rw [fl], fun hpos => ?_⟩, by simp; omega, fun z hz => ?_⟩
  .have hpos : 0 < len := by simpa using hpos
   obtain ⟨b, off, spot⟩ := a
   have hs : spot = none := by
    have h0 := (hZ 0 hpos).2 0 (by omega)
    simp [st3] at h0
    unfold World.cell? at h0
    split at h0
    .cases spot
     .rfl
     .simp [Addr.add] at h0
    .cases h0
   subst hs
   refine ⟨b, off, rfl, fun i hi => ?_⟩
   rw [fl, aJb, aKH] at hi
   have hq : i / 3 < len := by omega
   have key := (hZ (i / 3) hq).2 (i % 3) (aKj _ (by omega))
   rw [add_add, show i / 3 * 3 + i % 3 = i from by omega, FU] at key
   rw [key]
   have get : ∀ (zs : List (Int × Int × Int)) (i j : Nat), j < 3 -> (zs.flatMap (st3 k))[i * 3 + j]? = (zs[i]?).bind fun z => (st3 k z)[j]? := by
    intro zs
    induction zs with
    | nil => intro i j _; simp
    | cons z zs ih =>
      intro i j hj
      have e3 : (st3 k z).length = 3 := rfl
      rw [List.flatMap_cons]
      cases i with
      | zero => rw [aJd (by rw [e3]; omega)]; simp
      | succ i =>
        rw [aJG (by rw [e3]; omega), e3, show (i + 1) * 3 + j - 3 = i * 3 + j from by omega, ih i j hj]
        simp
   have h3 := get ((List.range len).map Z) (i / 3) (i % 3) (aKj _ (by omega))
   rw [show i / 3 * 3 + i % 3 = i from by omega] at h3
   rw [h3, aJq, aKZ hq]
   rfl
  .obtain ⟨i, hi, rfl⟩ := aJO.1 hz
   exact (hZ i (aJN.1 hi)).1
theorem aEV {H : Type} {enc : TypeId × aLm -> H} {P : Program} {W : aLl} {base b0 : Nat} {r : Reach} {sp : Nat -> Bool} {hd : Bool} {t e : TypeId} {k : IntKind} {v : aLm} {d : DataW H} {ps : List MemPlace}
 (ht : P.underlying t = some (.array 3 e)) (he : P.underlying e = some (.int k)) (hc : P.cellsOf e = 1) (ct : P.cellsOf t = 3)
 (hval : Value.okWide P W r b0 t v) (h : DataW.Trod enc P W base sp hd t v d ps) : ∃ z : Int × Int × Int, v = .agg (st3 k z).toArray /\ wf3 k z := by
 obtain ⟨cs, rfl, hsz⟩ : ∃ cs, v = .agg cs /\ cs.size = P.cellsOf t := by
  simp only [Value.okWide, ht] at hval
  obtain ⟨cs, h1, h2, _⟩ := hval
  exact ⟨cs, h1, h2⟩
 obtain ⟨fuel, hf⟩ := h
 rw [ct] at hsz
 obtain ⟨l⟩ := cs
 match l, hsz with
 | [x, y, z], _ =>
   obtain ⟨y0, y1, y2, n, _, hf0, hf1, hf2⟩ := trod_array3 ht hc hf
   obtain ⟨a0, e0, _, w0⟩ := DataW.trod_int he hf0
   obtain ⟨a1, e1, _, w1⟩ := DataW.trod_int he hf1
   obtain ⟨a2, e2, _, w2⟩ := DataW.trod_int he hf2
   simp at e0 e1 e2
   exact ⟨(a0, a1, a2), by rw [e0, e1, e2] <;> rfl, w0, w1, w2⟩
end Go.En
namespace Go.Proofs.YtaggdjhhmbnhoaaDoor
open Go Go.En Go.Pu
set_option maxRecDepth 4000
def sqI (z : Int × Int × Int) : Sq := ⟨z.1.toNat, z.2.1.toNat, z.2.2.toNat⟩
theorem wf_u32 {x : Int} (h : (Lit.int .u32 x).wf = true) : 0 <= x /\ x <= 4294967295 := by simpa [Lit.wf, IntKind.min, IntKind.max, IntKind.signed, IntKind.bits] using h
theorem wf_u8 {x : Int} (h : (Lit.int .u8 x).wf = true) : 0 <= x /\ x <= 255 := by simpa [Lit.wf, IntKind.min, IntKind.max, IntKind.signed, IntKind.bits] using h
theorem aGK {z : Int × Int × Int} (h : wf3 .u32 z) : st3 .u32 z = TQ (sqI z) /\ ∀ k, kv (sqI z) k < 4294967296 := by
 obtain ⟨h0, h1, h2⟩ := h
 have g0 := wf_u32 h0
 have g1 := wf_u32 h1
 have g2 := wf_u32 h2
 refine ⟨?_, fun k => ?_⟩
 .unfold st3 TQ sqI
  simp only
  rw [Int.toNat_of_nonneg g0.1, Int.toNat_of_nonneg g1.1, Int.toNat_of_nonneg g2.1]
 .unfold kv sqI
  split <;> (try split) <;> simp only <;> omega
theorem aIv : ∀ {zs : List (Int × Int × Int)}, (∀ z ∈ zs, wf3 .u32 z) -> zs.flatMap (st3 .u32) = TR (zs.map sqI)
 | [], _ => rfl
 | z :: zs, h => by
   have e : TR ((z :: zs).map sqI) = TQ (sqI z) ++ TR (zs.map sqI) := rfl
   rw [List.flatMap_cons, aIv fun x hx => h x (aJi _ hx), e, (aGK (h z (aJ6 ..))).1]
theorem kvI {zs : List (Int × Int × Int)} (h : ∀ z ∈ zs, wf3 .u32 z) : ∀ q ∈ zs.map sqI, ∀ k, kv q k < 4294967296 := fun q hq => by
 obtain ⟨z, hz, rfl⟩ := aJO.1 hq
 exact (aGK (h z hz)).2
theorem aG9 (k : IntKind) (L M : List T3) : fe k (L ++ M) = fe k L ++ fe k M := by
 induction L with
 | nil => rfl
 | cons e L ih => obtain ⟨a, b, c⟩ := e; simp [fe, ih]
theorem aGb {k : IntKind} {L : List T3} {i : Nat} (h : i < L.length) : fe k (L.take (i + 1)) = fe k (L.take i) ++ [.int k L[i].1, .int .i64 L[i].2.1, .int .i64 L[i].2.2] := by
 rw [aJE, aI7 h, aG9] <;> rfl
theorem TY {T : TT} {v : aLm} {base : Nat} {w : aLl} (h : F3 w base T v) (hz : T.2 = [] -> T = (0, [])) (hsy : ∀ e ∈ T.2, 0 <= e.1 /\ e.1 < 256) (hl : T.2.length <= 1000000) :
 aR pg uG #[v] w (fun r w' => ∃ a c, r = tvR T a c /\ RtV w' w.heap.size T r /\ aS w w' cI) := by
 refine Xl ?_
 obtain ⟨va, rfl⟩ := h.form
 obtain ⟨log, L⟩ := T
 simp only at *
 unfold WW F7 FP
 refine gA fun w1 o1 x1 s1 => ?_
 simp only [Value.cells] at o1
 refine gE fun w2 o2 x2 s2 => ?_
 have o1 := o1.ext x2 (fun h => h)
 have k0 := o1.cell (off := 0)
 simp only [aI0, aI1] at k0
 simp (disch := omega) only [aC, mV, aA, bZ, k0, aG, jJ]
 refine gE fun w3 o3 x3 s3 => ?_
 refine eJ o3 rfl (by simp [one]) (by simp) fun w4 o4 x4 s4 => ?_
 simp only [aV, aI2, aI3] at o4
 have x24 : aS w2 w4 cI := x3.new x4 (aI9 _)
 have x02 := x1.seq x2
 have x04 := x02.seq x24
 have z1 := x1.size
 have z2 := x2.size
 have l2 := o2.lt
 have o1 := o1.ext x24 (fun h => h)
 have o2 := o2.ext x24 (fun h => h)
 have l1 := o1.lt
 have ht : L = [] ∨ ∃ b, va = some ⟨b, 0, none⟩ /\ cM w4 b (fe .u8 L) := by
  rcases h with ⟨e, _⟩ | ⟨b, e, _, ob⟩
  .cases e; exact .inl rfl
  .cases e; exact .inr ⟨b, rfl, ob.ext x04 (fun h => h)⟩
 unfold Gf Gm Ge Gl FM
 refine cC.rule (fun m (t : aLm) w' => ∃ (i : Nat) (sv : aLm), m = L.length - i /\ t = .int .i64 i /\ i <= L.length /\ cM w' w2.heap.size [.int .i64 log, sv] /\ uD w' (w2.heap.size + 1) 3 sv i (fe .i64 (L.take i)) /\ (i = 0 -> sv = .slice none 0 0) /\ aS w4 w' (fun y => w2.heap.size <= y)) L.length
  ⟨0, _, rfl, rfl, by omega, o4, uD.nil _ _ _, fun _ => rfl, aS.refl _ _⟩ ?_
 rintro m t w5 ⟨i, sv, rfl, rfl, hi, o5, os5, hsv, x5⟩
 have z5 := x5.size
 have o15 := o1.ext x5 (by omega)
 have k1 := o15.cell (off := 1)
 have k5 := o5.cell (off := 1)
 simp only [aI0, aI1] at k1 k5
 have x05 : aS w w5 cI := x04.trans x5 fun b hb h => by omega
 unfold Be
 by_cases hlt : i < L.length
 .have d3 : decide ((i : Int) < (L.length : Int)) = true := by simp; omega
  rcases ht with ht | ⟨b, rfl, ob⟩
  .rw [ht] at hlt; simp at hlt
  have lb : b < w2.heap.size := by
   rcases h with ⟨e, _⟩ | ⟨b', e, _, ob'⟩
   .cases e; simp at hlt
   .cases e; have := ob'.lt; omega
  have q1 := GD (off := i * 3) (ob.ext x5 (by omega)) (by rw [lY]; omega)
  rw [aoA hlt] at q1
  have hs1 := hsy _ (aJh hlt)
  have hsn := aGb (k := .i64) hlt
  generalize L[i] = e at *
  obtain ⟨e1, e2, e3⟩ := e
  simp only at hs1 q1 hsn
  simp (disch := omega) only [aC, bR, aIZ, bF, bN, aT, aA, bA, cW, k1, aG, fK, aW, d3, iU, aIY, q1, aF]
  refine Kf fun w6 o6 x6 s6 => ?_
  refine Gx o6 rfl (by simp [one]) (by simp) fun w7 o7 x7 s7 => ?_
  simp only [aV, aI2, aI3] at o7
  have x57 : aS w5 w7 cI := x6.new x7 (aI9 _)
  have z57 := x57.size
  have os7 := ((os5.ne (aI9 _)).ext x6 (fun b _ h => h)).ext x7 (fun b h1 h2 => h1.2 h2)
  have os7 := os7.osl
  have o57 := o5.ext x57 (fun h => h)
  have k5 := o57.cell (off := 1)
  have f0 := o7.cell (off := 0)
  have f1 := o7.cell (off := 1)
  have f2 := o7.cell (off := 2)
  simp only [aI0, aI1] at k5 f0 f1 f2
  have we : IntKind.i64.wrap e1 = e1 := aT (by omega) (by omega)
  simp (disch := omega) only [k5, aG, eH, gJ, aIZ, gV, aA, bZ, kJ, f0, kX, we, f1, f2, iX]
  refine wT (cells := #[.int .i64 e1, .int .i64 e2, .int .i64 e3]) (by decide) (by decide) (by kernel_rfl) fun w8 o8 x8 s8 => ?_
  have z8 := x8.size
  have l5 := o5.lt
  refine oI (m := 1) (news := [.int .i64 e1, .int .i64 e2, .int .i64 e3]) (os7.ext x8 (fun _ _ h => h)) (o8.cl (off := 0) (l := [.int .i64 e1, .int .i64 e2, .int .i64 e3]) (n := 1) rfl (fun i hi => by rw [aIZ])) (by simp [one]) (by omega) (by omega) fun v9 w9 o9 x9 => ?_
  rw [<- hsn] at o9
  have z9 := x9.size
  have o59 := (o57.ext x8 (fun h => h)).ext x9 (by omega)
  refine Di o59 (by obtain ⟨a, c, e⟩ := o9.len; rw [e] <;> rfl) (by simp) fun wa oa xa sa => ?_
  simp only [aI2, aI3] at oa
  refine ⟨L.length - (i + 1), by omega, i + 1, v9, rfl, rfl, by omega, oa, o9.ext xa (fun b hb h => by omega), fun h => by omega, ?_⟩
  have y59 : aS w5 w9 (fun y => w2.heap.size <= y) := ((x57.seq x8).mono fun _ _ h => h.elim).seq (x9.mono fun b _ h => by omega)
  exact (x5.seq y59).seq (xa.mono fun b _ h => by omega)
 .have d3 : decide ((i : Int) < (L.length : Int)) = false := by simp; omega
  obtain rfl : i = L.length := by omega
  rw [aJw (aI9 _)] at os5
  obtain ⟨sa, sc, rfl⟩ := os5.len
  have q5 := dD (off := 0) o5 (by simp)
  simp only [aI4, aIX, aI6] at q5
  unfold Bj
  simp (disch := omega) only [aC, bR, aIZ, bF, bN, aT, aA, bA, cW, k1, aG, fK, aW, d3, q5, aD]
  refine eJ (o2.ext x5 (by omega)) rfl (by simp [one]) (by simp) fun w6 o6 x6 s6 => ?_
  refine pW o6 (by simp [aV]) ?_
  simp only [aV, aI2, aI3, aI4, aIX, aI6]
  refine ⟨sa, sc, rfl, ?_, x05.new x6 (by omega)⟩
  rcases aJU L.length with h0 | h0
  .have hL := aJr.1 h0
   have hv := hsv h0
   have := hz hL
   simp only [Prod.mk.injEq] at this
   rw [hv, this.1]
   exact .inl ⟨by rw [hL, <- this.1], rfl⟩
  .rcases os5.2 with ⟨e, e0⟩ | ⟨b, c, rest, e, hb, q, _⟩
   .omega
   .simp only [Value.slice.injEq] at e
    obtain ⟨rfl, _, rfl⟩ := e
    exact .inr ⟨b, by omega, _, rest, rfl, q.ext x6 (by omega)⟩
theorem UE {o : Nat -> TT} {a : Nat -> Option Addr} {w : aLl} (h : JV w o a) (hz : ∀ k, k < 3 -> (o k).2 = [] -> o k = (0, [])) (hg : Nl o) :
 aR pg uH #[.agg (c6 o a).toArray] w (fun r w' => ∃ a' c', r = .agg (r6 o a' c').toArray /\ Rb3 w' o a' c' /\ aS w w' cI) := by
 refine Xs ?_
 have hsy : ∀ k, k < 3 -> ∀ e ∈ (o k).2, 0 <= e.1 /\ e.1 < 256 := fun k hk e he => by
  obtain ⟨c, h1, h2⟩ := (hg k hk (fun h0 => by rw [h0] at he; cases he)).sym e he
  have : lI k <= 53 := by rcases (show k = 0 ∨ k = 1 ∨ k = 2 by omega) with rfl | rfl | rfl <;> decide
  omega
 have hlen : ∀ k, k < 3 -> (o k).2.length <= 1000000 := fun k hk => by
  rcases aJU (o k).2.length with h0 | h0
  .omega
  .have hG := hg k hk (aJR.1 h0)
   rw [hG.len]
   have : 2 ^ (o k).1 <= 2 ^ 9 := aJa (by omega) hG.lg
   omega
 unfold Xi Gh
 refine gA fun w1 o1 x1 s1 => ?_
 have o1 : cM w1 w.heap.size (c6 o a) := o1
 refine jW fun w2 o2 x2 s2 => ?_
 have o1 := o1.ext x2 (fun h => h)
 have hT := h.ext (x1.seq x2)
 have t0 : (0 : Int).toNat = 0 := rfl
 have t1 : (1 : Int).toNat = 1 := rfl
 have t2 : (2 : Int).toNat = 2 := rfl
 have od := dT o1
 have l0 := fZ (off := 0 * 2) od (by simp [c6])
 rw [abG _ _ (by omega)] at l0
 have l1 : ∀ {w' : aLl}, aS w2 w' cI -> (aI 27 (.pointer (some ⟨w.heap.size, 1 * 2, none⟩))).run pg w' = .ok (.value (.agg #[.int .i64 (o 1).1, .slice (a 1) (o 1).2.length (o 1).2.length])) w' := fun x => by
  have := fZ (off := 1 * 2) (o1.ext x (fun h => h)) (by simp [c6])
  rw [abG _ _ (by omega)] at this
  exact this
 have l2 : ∀ {w' : aLl}, aS w2 w' cI -> (aI 27 (.pointer (some ⟨w.heap.size, 2 * 2, none⟩))).run pg w' = .ok (.value (.agg #[.int .i64 (o 2).1, .slice (a 2) (o 2).2.length (o 2).2.length])) w' := fun x => by
  have := fZ (off := 2 * 2) (o1.ext x (fun h => h)) (by simp [c6])
  rw [abG _ _ (by omega)] at this
  exact this
 have xd : aS w2 (dr w2) cI := aS.dr _ _
 have d1 := l1 xd
 have d2 := l2 xd
 simp (disch := omega) only [aC, cL, t0, aIZ, t1, dS, Result.ok.injEq, Next.value.injEq, and_true, t2, aA, true_and, l0]
 refine (TY (T := o 0) (hT.ext xd 0 (by omega)) (hz 0 (by omega)) (hsy 0 (by omega)) (hlen 0 (by omega))).mono ?_
 rintro r w3 ⟨a0, c0, rfl, r0, x3⟩
 have x23 := xd.seq x3
 have e1 := l1 x23
 have e2 := l2 x23
 simp (disch := omega) only [e1, d1, Result.ok.injEq, Next.value.injEq, and_true, aA, true_and]
 refine (TY (T := o 1) (hT.ext x23 1 (by omega)) (hz 1 (by omega)) (hsy 1 (by omega)) (hlen 1 (by omega))).mono ?_
 rintro r w4 ⟨a1, c1, rfl, r1, x4⟩
 have x24 := x23.seq x4
 have f2 := l2 x24
 simp (disch := omega) only [f2, e2, Result.ok.injEq, Next.value.injEq, and_true, d2, aA, true_and]
 refine (TY (T := o 2) (hT.ext x24 2 (by omega)) (hz 2 (by omega)) (hsy 2 (by omega)) (hlen 2 (by omega))).mono ?_
 rintro r w5 ⟨a2, c2, rfl, r2, x5⟩
 have x25 := x24.seq x5
 unfold tvR
 simp (disch := omega) only [gN, aA, true_and]
 refine jE (o2.ext x25 (fun h => h)) rfl (by simp [one]) (by simp) fun w6 o6 x6 s6 => ?_
 refine uA o6 (by simp [aV]) ?_
 simp only [aV, aI2, aI3, aI4, aIX, aI6]
 have x06 := ((x1.seq x2).seq x25).new x6 (by have := x1.size; omega)
 have lz := o2.lt
 have zd : (dr w2).heap.size = w2.heap.size := rfl
 have z3 := x3.size
 have z4 := x4.size
 have z6 : ∀ {T : TT} {v : aLm} {w' : aLl} {base : Nat}, RtV w' base T v -> aS w' w5 cI -> w2.heap.size <= base -> RtV w6 0 T v := fun {T v w' base} hr x hb => by
  rcases hr with hr | ⟨b, h0, hr⟩
  .exact .inl hr
  .exact .inr ⟨b, aJW _, (hr.ext x (fun h => h)).ext x6 (by omega)⟩
 refine ⟨fun k => if k = 0 then a0 else if k = 1 then a1 else a2, fun k => if k = 0 then c0 else if k = 1 then c1 else c2, rfl, fun k hk => ?_, x06⟩
 rcases (show k = 0 ∨ k = 1 ∨ k = 2 by omega) with rfl | rfl | rfl
 .exact z6 r0 (x4.seq x5) (by omega)
 .exact z6 r1 x5 (by omega)
 .exact z6 r2 (aS.refl _ _) (by omega)
theorem aFT {o : Nat -> TT} {k : Nat} {T : TT} (h : Nl o) (hT : yT k T) : Nl (QU o k T) := fun i hi hne => by
 unfold QU at hne ⊢
 by_cases e : i = k
 .rw [if_pos e]; rw [e]; exact hT
 .rw [if_neg e] at hne ⊢; exact h i hi hne
theorem aIg {z : Int × Int × Int} {w : aLl} (hg : vW w) (hw : wf3 .u8 z) :
 aR pg NA #[.agg (st3 .u8 z).toArray] w (fun r w' => ∃ o a, r = .agg (c6 o a).toArray /\ JV w' o a /\ Nl o /\ (∀ k, k < 3 -> (o k).2 = [] -> o k = (0, [])) /\ aS w w' cI) := by
 refine apC ?_
 obtain ⟨h0, h1, h2⟩ := hw
 have g0 := wf_u8 h0
 have g1 := wf_u8 h1
 have g2 := wf_u8 h2
 obtain ⟨z0, z1, z2⟩ := z
 simp only at g0 g1 g2
 unfold auN NU NR
 refine gA fun w1 o1 x1 s1 => ?_
 have o1 : cM w1 w.heap.size [.int .u8 z0, .int .u8 z1, .int .u8 z2] := o1
 refine iH fun w2 o2 x2 s2 => ?_
 refine iH fun w3 o3 x3 s3 => ?_
 have o1 := (o1.ext x2 (fun h => h)).ext x3 (fun h => h)
 have o2 := o2.ext x3 (fun h => h)
 have x03 := (x1.seq x2).seq x3
 have o3 : cM w3 w2.heap.size (c6 oN aN) := o3
 have y1 := x1.size
 have y2 := x2.size
 have lz1 := o1.lt
 have lz2 := o2.lt
 unfold RY Q2 R7 RL Sf
 refine cC.rule (fun m (t : aLm) w' => ∃ (i : Nat) (o : Nat -> TT) (a : Nat -> Option Addr), m = 3 - i /\ t = .int .i64 i /\ i <= 3 /\ cM w' w2.heap.size (c6 o a) /\ JV w' o a /\ Nl o /\ (∀ k, k < 3 -> (o k).2 = [] -> o k = (0, [])) /\ aS w3 w' (fun y => y = w2.heap.size)) 3
  ⟨0, oN, aN, rfl, rfl, by omega, o3, aIj _, aEK, fun _ _ _ => rfl, aS.refl _ _⟩ ?_
 rintro m t w4 ⟨i, o, a, rfl, rfl, hi, o4, hT, hG, hz, x4⟩
 have z4 := x4.size
 have p1 := o1.ext x4 (by omega)
 have p2 := o2.ext x4 (by omega)
 unfold J6 Sc
 by_cases hlt : i < 3
 .have d3 : decide ((i : Int) < 3) = true := by simp; omega
  obtain ⟨u, hu, hc⟩ : ∃ u : Nat, u < 256 /\ [Value.int .u8 z0, .int .u8 z1, .int .u8 z2][i]? = some (.int .u8 u) := by
   rcases (show i = 0 ∨ i = 1 ∨ i = 2 by omega) with rfl | rfl | rfl
   .exact ⟨z0.toNat, by omega, by simp; omega⟩
   .exact ⟨z1.toNat, by omega, by simp; omega⟩
   .exact ⟨z2.toNat, by omega, by simp; omega⟩
  have k1 := p1.cell (off := i)
  rw [hc] at k1
  have a3 : aeC .u8 (u : Int) 3 = ((u % 4 : Nat) : Int) := by
   have : ∀ k : Fin 256, aeC .u8 (k.val : Int) 3 = ((k.val % 4 : Nat) : Int) := by decide +kernel
   exact this ⟨u, hu⟩
  have e1 : (i : Int) + 1 = ((i + 1 : Nat) : Int) := by omega
  have ret : ∀ {w5 : aLl} {o' : Nat -> TT} {a' : Nat -> Option Addr}, cM w5 w2.heap.size (c6 o' a') -> JV w5 o' a' -> Nl o' -> (∀ k, k < 3 -> (o' k).2 = [] -> o' k = (0, [])) -> aS w3 w5 (fun y => y = w2.heap.size) →
      ∃ m, m < 3 - i /\ ∃ (j : Nat) (o : Nat -> TT) (a : Nat -> Option Addr), m = 3 - j /\ Value.int .i64 (i + 1 : Nat) = .int .i64 j /\ j <= 3 /\ cM w5 w2.heap.size (c6 o a) /\ JV w5 o a /\ Nl o /\ (∀ k, k < 3 -> (o k).2 = [] -> o k = (0, [])) /\ aS w3 w5 (fun y => y = w2.heap.size) :=
   fun q1 q2 q3 q4 q5 => ⟨3 - (i + 1), by omega, i + 1, _, _, rfl, rfl, by omega, q1, q2, q3, q4, q5⟩
  have put : ∀ {w5 w6 : aLl} {T : TT} {x : Option Addr}, aS w4 w5 cI -> cM w6 w2.heap.size (aV (c6 o a) (i * 2) [.int .i64 T.1, .slice x T.2.length T.2.length]) -> aS w5 w6 (fun y => y = w2.heap.size) -> yT i T -> (∃ b, w4.heap.size <= b /\ Tbl w5 0 b T.1 T.2 (tvL T x)) →
      ∃ m, m < 3 - i /\ ∃ (j : Nat) (o : Nat -> TT) (a : Nat -> Option Addr), m = 3 - j /\ Value.int .i64 (i + 1 : Nat) = .int .i64 j /\ j <= 3 /\ cM w6 w2.heap.size (c6 o a) /\ JV w6 o a /\ Nl o /\ (∀ k, k < 3 -> (o k).2 = [] -> o k = (0, [])) /\ aS w3 w6 (fun y => y = w2.heap.size) :=
   fun {w5 w6 T x} q1 q2 q3 q4 ⟨b, q5, q6⟩ => by
    rw [awA _ _ hlt] at q2
    have hb : b ≠ w2.heap.size := by have := o4.lt; omega
    have hne : T.2 ≠ [] := aJR.1 (by rw [q4.len]; exact aJv _)
    refine ret q2 (JV.up ((hT.ext q1).own (o4.ext q1 (fun h => h)) (by simp [c6]) (fun u => by simp [c6]) q3) (.inr ⟨b, q6.1, aJW _, q6.2.2.ext q3 hb⟩)) (aFT hG q4) (fun k hk h => ?_) ((x4.more q1).seq q3)
    unfold QU at h ⊢
    split
    .rename_i e; rw [if_pos e] at h; exact absurd h hne
    .rename_i e; rw [if_neg e] at h; exact hz k hk h
  by_cases h1 : u % 4 = 1
  .have n1 : (((u % 4 : Nat) : Int) == 1) = true := by simp; omega
   simp (disch := omega) only [aC, aW, d3, sD, aIY, aIZ, cL, aA, kJ, k1, aG, EN, a3, cK, n1, zX, yV, aF]
   refine (atJ (hg.ext (x03.trans x4 (fun b hb h => by omega)))).mono ?_
   rintro r w5 ⟨t, e, rfl, ht, x5⟩
   unfold Nt wY at ht
   rw [if_pos (by omega)] at ht
   obtain ⟨⟨b, ⟨rfl, hb, ob⟩⟩, rfl⟩ := ht
   simp (disch := omega) only [Bc, A6, aA]
   refine eL (off := i * 2) (o4.ext x5 (fun h => h)) rfl (by simp [one]) (by simp [c6]; omega) fun w6 o6 x6 s6 => ?_
   unfold A2
   simp (disch := omega) only [aC, bN, e1, aT, aA]
   exact put (T := (YC (i : Int), lQ (YC (i : Int)) (gvP (i : Int)))) x5 o6 x6 (abX hlt) ⟨b, hb, rfl, aJW _, ob⟩
  .have n1 : (((u % 4 : Nat) : Int) == 1) = false := by simp; omega
   by_cases h2 : u % 4 = 2
   .have n2 : (((u % 4 : Nat) : Int) == 2) = true := by simp; omega
    have q1 : (u : Int).tdiv 4 = ((u / 4 : Nat) : Int) := by rw [aJs (by omega)]; omega
    have q2 : IntKind.u8.wrap ((u / 4 : Nat) : Int) = ((u / 4 : Nat) : Int) := JG (by omega) (by omega)
    have q3 : ((u / 4 : Nat) : Int).tmod 30 = ((u / 4 % 30 : Nat) : Int) := by rw [aJt (by omega)]; omega
    simp (disch := omega) only [aC, aW, d3, sD, aIY, aIZ, cL, aA, kJ, k1, aG, EN, a3, cK, n1, n2, aF, zX, q1, q2, yV, q3, aD]
    refine (ayW _ _).mono ?_
    rintro r w5 ⟨b, ⟨rfl, hb, ob⟩, x5⟩
    refine eL (off := i * 2) (o4.ext x5 (fun h => h)) rfl (by simp [one]) (by simp [c6]; omega) fun w6 o6 x6 s6 => ?_
    unfold A2
    simp (disch := omega) only [aC, bN, e1, aT, aA]
    have hc30 : u / 4 % 30 < lI i := by
     have := aKj (u / 4) (show 0 < 30 by decide)
     have : 30 <= lI i := by rcases (show i = 0 ∨ i = 1 ∨ i = 2 by omega) with rfl | rfl | rfl <;> decide
     omega
    exact put (T := (0, [(((u / 4 % 30 : Nat) : Int), 0, 0)])) x5 o6 x6 (azI hc30) ⟨b, hb, rfl, aJW _, ob⟩
   .have n2 : (((u % 4 : Nat) : Int) == 2) = false := by simp; omega
    unfold A2
    simp (disch := omega) only [aC, aW, d3, sD, aIY, aIZ, cL, bN, e1, aT, aA, kJ, k1, aG, EN, a3, cK, n1, n2, aD, aF]
    exact ret o4 hT hG hz x4
 .have d3 : decide ((i : Int) < 3) = false := by simp; omega
  unfold JX
  have l1 := kT (off := 0) o4 (by simp [c6])
  simp only [c6, aI4, aIX, aI6] at l1
  simp (disch := omega) only [aC, aW, d3, aA, l1, aD]
  refine jK p2 rfl (by simp [one]) (by simp) fun w6 o6 x6 s6 => ?_
  refine Aq o6 (by simp [aV]) ?_
  simp only [aV, aI2, aI3, aI4, aIX, aI6]
  refine ⟨o, a, rfl, hT.own p2 (by simp) (fun u => by simp) x6, hG, hz, (x03.trans x4 fun b hb h => by omega).new x6 (by omega)⟩
def Zi (l : List Sq) (i : Nat) : Prop := ∀ j, j < i -> ∀ q, l[j]? = some q -> ∀ k, k < 3 -> ∃ c, sV k (kv q k) c
theorem aAy {l : List Sq} : Zi l l.length ↔ auZ l := by
 constructor
 .intro h q hq k hk
  obtain ⟨j, hj, rfl⟩ := aJy hq
  exact h j hj _ (aI7 hj) k hk
 .intro h j hj q hq k hk
  exact h q (aJX hq) k hk
theorem axD {l : List Sq} {i : Nat} {q : Sq} (hq : l[i]? = some q) : Zi l (i + 1) ↔ Zi l i /\ ∀ k, k < 3 -> ∃ c, sV k (kv q k) c := by
 constructor
 .exact fun h => ⟨fun j hj => h j (by omega), h i (by omega) q hq⟩
 .rintro ⟨h1, h2⟩ j hj p hp
  rcases (show j < i ∨ j = i by omega) with h | rfl
  .exact h1 j h p hp
  .rw [hq] at hp; cases hp; exact h2
theorem OfR.form {k v : Nat} {r : aLm} (h : OfR k v r) : ∃ (x y e : Int), r = .tuple #[.int .i64 x, .int .u32 y, .int .i64 e] /\ ((e == (0 : Int)) = true ↔ ∃ c, sV k v c) := by
 rcases h with ⟨c, hc, rfl⟩ | ⟨hc, rfl⟩
 .exact ⟨_, _, _, rfl, fun _ => ⟨c, hc⟩, fun _ => rfl⟩
 .exact ⟨_, _, _, rfl, fun h => absurd h (by decide), fun ⟨c, h⟩ => absurd h (hc c)⟩
theorem abW {rv : aLm} {l0 : List Sq} {cs : Bool} {z : Int × Int × Int} {w : aLl} (hg : vW w) (hr0 : Cl w 3 rv l0.length (TR l0)) (hu0 : ∀ q ∈ l0, ∀ k, kv q k < 4294967296) (hw : wf3 .u8 z) (hl : l0.length <= 9223372036854775807) :
 aR pg lX #[rv, .bool cs, .agg (st3 .u8 z).toArray] w (fun r w' => r = .bool true /\ aS w w' cI) := by
 refine KD ?_
 obtain ⟨RR, hRR⟩ : ∃ RR : aLm -> aLl -> Prop, RR = fun r w' => r = .bool true /\ aS w w' cI := ⟨_, rfl⟩
 rw [<- hRR]
 have hgood : ∀ w', aS w w' cI -> RR (.bool true) w' := fun w' x => by rw [hRR]; exact ⟨rfl, x⟩
 have hf := hr0
 obtain ⟨ra, rc, rfl, _⟩ := hf
 unfold Fo tW tY
 refine gA fun w1 o1 x1 s1 => ?_
 have o1 : cM w1 w.heap.size (st3 .u8 z) := o1
 refine (aC2 (hg.ext x1)).mono ?_
 rintro r w2 ⟨rfl, x2⟩
 have x02 := x1.seq x2
 by_cases h1 : 200 < l0.length
 .have d1 : decide (200 < (l0.length : Int)) = true := by simp; omega
  simp (disch := omega) only [aC, Bm, aJx, cB, aA, dO, d1, aF, aD]
  exact hgood _ x02
 have d1 : decide (200 < (l0.length : Int)) = false := by simp; omega
 have main : ∀ (w3 : aLl) (la : Option Addr) (lc : Nat) (l : List Sq), aS w1 w3 cI -> Cl w3 3 (.slice la l.length lc) l.length (TR l) -> (∀ q ∈ l, ∀ k, kv q k < 4294967296) -> l.length <= 200 -> pV RR (.pointer (some ⟨w.heap.size, 0, none⟩)) (.slice la l.length lc) w3 := by
  intro w3 la lc l x13 hcl hu hl200
  have x03 := x1.seq x13
  have o3 := o1.ext x13 (fun h => h)
  unfold pV uC vM uZ vF vV vJ
  refine cC.rule (fun m (t : aLm × aLm) w' => ∃ (i : Nat) (b : Bool), m = l.length - i /\ t = (.bool b, .int .i64 i) /\ i <= l.length /\ (b = true ↔ Zi l i) /\ aS w3 w' cI) l.length
   ⟨0, true, rfl, rfl, by omega, ⟨fun _ j hj => by omega, fun _ => rfl⟩, aS.refl _ _⟩ ?_
  rintro m t w4 ⟨i, b, rfl, rfl, hi, hb, x4⟩
  unfold qH
  by_cases hlt : i < l.length
  .have d3 : decide ((i : Int) < (l.length : Int)) = true := by simp; omega
   obtain ⟨q, hq⟩ : ∃ q, l[i]? = some q := ⟨_, aI7 hlt⟩
   have hm := hu q (aJX hq)
   have e1 : (i : Int) + 1 = ((i + 1 : Nat) : Int) := by omega
   have hc4 := zI hcl x4 (bU _) (by omega)
   obtain ⟨bk, off, c, e, c0, c1, c2⟩ := aAx hc4 hq
   cases e
   simp (disch := omega) only [aC, cB, iC, aIY, bM, bN, aT, aA, fY, mB, fI, eP, aW, d3, c0, aG, aF]
   refine (awM (k := 0) (v := q.ll) (by omega) (hm 0)).mono ?_
   rintro r w5 ⟨hr0, x5⟩
   obtain ⟨y0, u0, f0, rfl, hf0⟩ := hr0.form
   have g2 := Ut c2 x5 (fun h => h)
   simp (disch := omega) only [Kh, Ka, J3, aA, g2, aG]
   refine (awM (k := 1) (v := q.of) (by omega) (hm 1)).mono ?_
   rintro r w6 ⟨hr1, x6⟩
   obtain ⟨y1, u1, f1, rfl, hf1⟩ := hr1.form
   have g1 := Ut c1 (x5.seq x6) (fun h => h)
   simp (disch := omega) only [Kh, Ka, J3, aA, g1, aG]
   refine (awM (k := 2) (v := q.ml) (by omega) (hm 2)).mono ?_
   rintro r w7 ⟨hr2, x7⟩
   obtain ⟨y2, u2, f2, rfl, hf2⟩ := hr2.form
   have x47 := ((x4.seq x5).seq x6).seq x7
   have fin : ∀ b' : Bool, (b' = true ↔ b = true /\ (f0 == (0 : Int)) = true /\ (f1 == (0 : Int)) = true /\ (f2 == (0 : Int)) = true) -> ∃ m, m < l.length - i /\ ∃ (j : Nat) (b : Bool), m = l.length - j /\ (Value.bool b', Value.int .i64 (i + 1 : Nat)) = (.bool b, .int .i64 j) /\ j <= l.length /\ (b = true ↔ Zi l j) /\ aS w3 w7 cI := fun b' h => by
    refine ⟨l.length - (i + 1), by omega, i + 1, b', rfl, rfl, by omega, ?_, x47⟩
    rw [h, axD hq, hb, hf0, hf1, hf2]
    constructor
    .rintro ⟨a1, a2, a3, a4⟩
     refine ⟨a1, fun k hk => ?_⟩
     rcases (show k = 0 ∨ k = 1 ∨ k = 2 by omega) with rfl | rfl | rfl
     .exact a2
     .exact a3
     .exact a4
    .rintro ⟨a1, a2⟩
     exact ⟨a1, a2 0 (by omega), a2 1 (by omega), a2 2 (by omega)⟩
   clear hf0 hf1 hf2
   cases b with
   | false => simp (disch := omega) only [Kh, Ka, J3, vN, aI5, if_false, bM, e1, aA, dH]; exact fin false (by simp)
   | true =>
     cases n0 : (f0 == (0 : Int)) with
     | false => simp (disch := omega) only [Kh, Ka, J3, mU, if_true, e1, bP, cK, n0, aA, vN, bM, aI5, if_false, dH]; exact fin false (by simp [n0])
     | true =>
       cases n1 : (f1 == (0 : Int)) with
       | false => simp (disch := omega) only [Kh, Ka, J3, mU, if_true, e1, bP, cK, n0, aA, bM, n1, vN, aI5, if_false, dH]; exact fin false (by simp [n0, n1])
       | true =>
         cases n2 : (f2 == (0 : Int)) with
         | false => simp (disch := omega) only [Kh, Ka, J3, mU, if_true, e1, bP, cK, n0, aA, bM, n1, n2]; exact fin false (by simp [n0, n1, n2])
         | true => simp (disch := omega) only [Kh, Ka, J3, mU, if_true, e1, bP, cK, n0, aA, bM, n1, n2]; exact fin true (by simp [n0, n1, n2])
  .have d3 : decide ((i : Int) < (l.length : Int)) = false := by simp; omega
   obtain rfl : i = l.length := by omega
   rw [aAy] at hb
   have hg4 := hg.ext (x03.seq x4)
   unfold vS vK
   simp (disch := omega) only [aC, cB, bM, bN, aT, aA, Bm, dS, and_true, true_and, aW, d3, aD]
   refine (X7 (l := l) hg4 (zI hcl x4 (bU _) (by omega)) hu (by omega)).mono ?_
   rintro r w5 ⟨hr, x5⟩
   have x05 := (x03.seq x4).seq x5
   rcases hr with ⟨hno, rfl⟩ | ⟨hyes, bv, bytes, rfl, ob, hlen, hpos, hnil, hrd⟩
   .obtain rfl : b = false := by
     cases b with
     | false => rfl
     | true => exact absurd (hb.1 rfl) hno
    have n1 : ((1 : Int) == 1) = true := rfl
    have n0 : (((0 : Nat) : Int) == 0) = true := rfl
    simp (disch := omega) only [Bc, A6, aJT, aF, aA, cK, n1, mU, bM, if_true, bP, fH, n0]
    exact hgood _ x05
   .obtain rfl : b = true := hb.2 hyes
    have o5 := (o3.ext x4 (fun h => h)).ext x5 (fun h => h)
    have l5 := asS (off := 0) o5 (by simp [st3])
    simp only [st3, aI4, aIX, aI6] at l5
    simp (disch := omega) only [Bc, A6, aJx, aD, aA, l5]
    refine (aIg (z := z) (hg.ext x05) hw).mono ?_
    rintro r w6 ⟨o, a, rfl, hT, hG, hz, x6⟩
    have x06 := x05.seq x6
    simp only [c6]
    refine iH fun w7 o7 x7 s7 => ?_
    refine jK o7 rfl (by simp [one]) (by simp) fun w8 o8 x8 s8 => ?_
    have o8 : cM w8 w6.heap.size (c6 o a) := o8
    have x68 : aS w6 w8 cI := x7.new x8 (aI9 _)
    have x08 := x06.seq x68
    have hT8 := hT.ext x68
    have x58 := x6.seq x68
    have x48 := x5.seq x58
    have hbs : Bs w8 bv bytes := (aEO ob).ext x58 (bU _)
    have hc8 := zI hcl (x4.seq x48) (bU _) (by omega)
    obtain ⟨t', ht', _⟩ := hrd o
    have hbf := hbs
    obtain ⟨ba, bn, bc, rfl, hbn, _⟩ := hbf
    rw [aJb] at hbn
    subst hbn
    have cvt : ∀ {w' : aLl}, aS w8 w' cI -> (gF 22 9 (.slice ba bytes.length bc)).run pg w' = .ok (.value (.string ⟨bytes.toArray⟩)) w' := fun x => XD (hbs.ext x (bU _))
    have l8 : ∀ {w' : aLl}, aS w8 w' cI -> (aI 29 (.pointer (some ⟨w6.heap.size, 0, none⟩))).run pg w' = .ok (.value (.agg (c6 o a).toArray)) w' := fun x => by
     have := kT (off := 0) (o8.ext x (fun h => h)) (by simp [c6])
     exact this
    have tail : ∀ (w9 : aLl) (mv : aLm), aS w8 w9 cI -> Cl w9 3 mv l.length (TR l) -> nO RR (.slice la l.length lc) (.slice ba bytes.length bc) (.int .i64 0) (.pointer (some ⟨w6.heap.size, 0, none⟩)) mv (.int .i64 0) w9 := by
     intro w9 mv x9 hm
     have q1 := l8 x9
     have x09 := x08.seq x9
     unfold nO
     simp only [c6] at q1
     simp (disch := omega) only [aC, q1, cK, aA, bM]
     refine (atT (o := o) (a := a) (hg.ext x09) (hbs.ext x9 (bU _)) (by omega) (hT8.ext x9) hG).mono ?_
     rintro r w10 ⟨hr, x10⟩
     rw [ht'] at hr
     obtain ⟨v2, a2, rfl, os2, hT2⟩ := hr
     simp only [c6]
     simp (disch := omega) only [Kh, Ka, J3, aA]
     refine iH fun w11 o11 x11 s11 => ?_
     refine jK o11 rfl (by simp [one]) (by simp) fun w12 o12 x12 s12 => ?_
     have x1012 : aS w10 w12 cI := x11.new x12 (aI9 _)
     have x912 := x10.seq x1012
     have n0 : ((0 : Int) == 0) = true := rfl
     have hm12 := zI hm x912 (bU _) (by omega)
     have hc12 := zI hc8 (x9.seq x912) (bU _) (by omega)
     have hv12 := zI os2.cl x1012 (bU _) (by omega)
     obtain ⟨ma, mc, rfl, _⟩ := hm
     simp (disch := omega) only [n0, mU, if_true, bP, cK, aA, bM]
     refine (aAB (l := l) hm12 hc12 (by omega)).mono ?_
     rintro r w13 ⟨rfl, x13'⟩
     simp (disch := omega) only [mU, bM, if_true, aA, bP, cK, n0]
     refine (aAB (l := l) (zI hv12 x13' (bU _) (by omega)) (zI hc12 x13' (bU _) (by omega)) (by omega)).mono ?_
     rintro r w14 ⟨rfl, x14⟩
     have xe := ((x09.seq x912).seq x13').seq x14
     by_cases h0 : 0 < l.length
     .have d0 : decide (0 < (l.length : Int)) = true := by simp; exact h0
      simp (disch := omega) only [mU, bM, if_true, aA, bP, cB, dO, d0, jH, dH]
      exact hgood _ xe
     .have d0 : decide (0 < (l.length : Int)) = false := decide_eq_false (by omega)
      have hl0 : l = [] := aJr.1 (by omega)
      have nb : ((bytes.length : Int) == 1) = true := by rw [hnil hl0] <;> rfl
      simp (disch := omega) only [mU, bM, if_true, aA, bP, cB, dO, d0, dG, aI5, if_false, fH, cK, nb]
      exact hgood _ xe
    refine Ek (Ek ?_ ?_) ?_
    .have c0 := cvt (aS.dr w8 cI)
     have q0 := l8 (aS.dr w8 cI)
     simp only [c6] at q0
     simp (disch := omega) only [c0, q0, aA, true_and]
     refine (UE (hT8.ext (aS.dr _ _)) hz hG).mono ?_
     rintro r w9 ⟨a', c', rfl, hR, x9⟩
     have y9 : aS w8 w9 cI := (aS.dr _ _).seq x9
     have c1 := cvt y9
     simp only [r6]
     simp (disch := omega) only [c1, true_and]
     refine (Sm (x := ⟨bytes.toArray⟩) (o := o) (a := a') (c := c') (by show bytes.toArray.size <= _; simp; omega) hR hG).mono ?_
     rintro r w10 ⟨hr, x10⟩
     rw [aBb, ht'] at hr
     obtain ⟨v, a3, c3, rfl, os, _⟩ := hr
     simp only [r6]
     try simp (disch := omega) only [Kh, Ka, J3, Result.ok.injEq, Next.value.injEq, and_true, aA, true_and]
     refine jW fun w11 o11 x11 s11 => ?_
     try simp (disch := omega) only [aC, dS, aA, stepR_skip, bN, dZ, pX, zX, yV, EN, ahI, auB, Qh, mO, vY, cK, fB, aW, ZH, dO, oD, arW, auF, Bm, bM, aoT, Vf, rI, Bc, A6, Kh, Ka, J3, x40, x41, x42, x43, aG, Result.ok.injEq, Next.value.injEq, true_and, and_true, aT, iI, avD, Qe, auY, JG, aIY, mU, jH, vN, dG, bP, dH, VR, QT, aF, aD, if_true, if_false, aI5, aIZ, aJm, aKu, aJx, aJT, aI1, aI0, jY, dK, fH, mJ, kJ, cB, iC, eP, mB, fI, fY, cL, bR, cW, fK, rS, bZ, lL, tL, kZ, dV, iN, eX, sP, pI, cR, dB, dA, pD, eE, lW, jB, fF, nQ, cF, sD, gN, oB, iQ, jU, jT, fS, mF, mE, mV, iU, eH, kX, oQ, gV, gJ, jO, iY, qD, nU, cG, bF, bA, gG, jA, nZ, vH, GW, sN, lA, jS, eB, fA, iE, iF, fJ, pF, gH, pH, kS, jV, lH, vE, dU, eT, rW, jI, bC, lC, vC, kG, mH, tJ, tA, jJ, iX, sI, sX, mC, oX, yC, yJ, jG, mQ, lD, gI, jP, bW, aU, xN, vO, mZ, vD, rZ, iS, rT, rQ, dF, cP, oP, rP, pS, iB, iT, gM, oA, nY, rY, rX, gQ, jQ, gW, rV, rU, tE, pA, kB, nE, lB, zH, wW]
     refine jE o11 rfl (by simp [one]) (by simp) fun w12 o12 x12 s12 => ?_
     try simp (disch := omega) only [aC, dS, aA, stepR_skip, bN, dZ, pX, zX, yV, EN, ahI, auB, Qh, mO, vY, cK, fB, aW, ZH, dO, oD, arW, auF, Bm, bM, aoT, Vf, rI, Bc, A6, Kh, Ka, J3, x40, x41, x42, x43, aG, Result.ok.injEq, Next.value.injEq, true_and, and_true, aT, iI, avD, Qe, auY, JG, aIY, mU, jH, vN, dG, bP, dH, VR, QT, aF, aD, if_true, if_false, aI5, aIZ, aJm, aKu, aJx, aJT, aI1, aI0, jY, dK, fH, mJ, kJ, cB, iC, eP, mB, fI, fY, cL, bR, cW, fK, rS, bZ, lL, tL, kZ, dV, iN, eX, sP, pI, cR, dB, dA, pD, eE, lW, jB, fF, nQ, cF, sD, gN, oB, iQ, jU, jT, fS, mF, mE, mV, iU, eH, kX, oQ, gV, gJ, jO, iY, qD, nU, cG, bF, bA, gG, jA, nZ, vH, GW, sN, lA, jS, eB, fA, iE, iF, fJ, pF, gH, pH, kS, jV, lH, vE, dU, eT, rW, jI, bC, lC, vC, kG, mH, tJ, tA, jJ, iX, sI, sX, mC, oX, yC, yJ, jG, mQ, lD, gI, jP, bW, aU, xN, vO, mZ, vD, rZ, iS, rT, rQ, dF, cP, oP, rP, pS, iB, iT, gM, oA, nY, rY, rX, gQ, jQ, gW, rV, rU, tE, pA, kB, nE, lB, zH, wW]
     exact tail w12 v (y9.seq (x10.seq (x11.new x12 (aI9 _)))) (zI os.cl (x11.new x12 (aI9 _)) (bU _) (by omega))
    .have c0 := cvt (aS.dr w8 cI)
     have q0 := l8 (aS.dr w8 cI)
     simp only [c6] at q0
     simp (disch := omega) only [c0, q0, aA, true_and]
     refine (UE (hT8.ext (aS.dr _ _)) hz hG).mono ?_
     rintro r w9 ⟨a', c', rfl, hR, x9⟩
     have y9 : aS w8 w9 cI := (aS.dr _ _).seq x9
     have c1 := cvt y9
     simp only [r6]
     simp (disch := omega) only [c1, true_and]
     refine jW fun w10 o10 x10 s10 => ?_
     have c2 := cvt (y9.seq x10)
     simp (disch := omega) only [c2, true_and]
     refine (Sm (x := ⟨bytes.toArray⟩) (o := o) (a := a') (c := c') (by show bytes.toArray.size <= _; simp; omega) (hR.ext x10) hG).mono ?_
     rintro r w11 ⟨hr, x11⟩
     rw [aBb, ht'] at hr
     obtain ⟨v, a3, c3, rfl, os, _⟩ := hr
     simp only [r6]
     try simp (disch := omega) only [Kh, Ka, J3, Result.ok.injEq, Next.value.injEq, and_true, aA, true_and]
     refine jE (o10.ext x11 (fun h => h)) rfl (by simp [one]) (by simp) fun w12 o12 x12 s12 => ?_
     try simp (disch := omega) only [aC, dS, aA, stepR_skip, bN, dZ, pX, zX, yV, EN, ahI, auB, Qh, mO, vY, cK, fB, aW, ZH, dO, oD, arW, auF, Bm, bM, aoT, Vf, rI, Bc, A6, Kh, Ka, J3, x40, x41, x42, x43, aG, Result.ok.injEq, Next.value.injEq, true_and, and_true, aT, iI, avD, Qe, auY, JG, aIY, mU, jH, vN, dG, bP, dH, VR, QT, aF, aD, if_true, if_false, aI5, aIZ, aJm, aKu, aJx, aJT, aI1, aI0, jY, dK, fH, mJ, kJ, cB, iC, eP, mB, fI, fY, cL, bR, cW, fK, rS, bZ, lL, tL, kZ, dV, iN, eX, sP, pI, cR, dB, dA, pD, eE, lW, jB, fF, nQ, cF, sD, gN, oB, iQ, jU, jT, fS, mF, mE, mV, iU, eH, kX, oQ, gV, gJ, jO, iY, qD, nU, cG, bF, bA, gG, jA, nZ, vH, GW, sN, lA, jS, eB, fA, iE, iF, fJ, pF, gH, pH, kS, jV, lH, vE, dU, eT, rW, jI, bC, lC, vC, kG, mH, tJ, tA, jJ, iX, sI, sX, mC, oX, yC, yJ, jG, mQ, lD, gI, jP, bW, aU, xN, vO, mZ, vD, rZ, iS, rT, rQ, dF, cP, oP, rP, pS, iB, iT, gM, oA, nY, rY, rX, gQ, jQ, gW, rV, rU, tE, pA, kB, nE, lB, zH, wW]
     have x0 := (y9.seq x10).seq x11
     have z9 := x9.size
     have z8 : (dr w8).heap.size = w8.heap.size := rfl
     exact tail w12 v (x0.new x12 (by omega)) (os.ext x12 (fun b hb => by have := o10.lt; omega)).cl
    .have c0 := cvt (aS.dr w8 cI)
     have q0 := l8 (aS.dr w8 cI)
     simp only [c6] at q0
     simp (disch := omega) only [c0, q0, aA, true_and]
     refine jW fun w9 o9 x9 s9 => ?_
     have y9 : aS w8 w9 cI := (aS.dr _ _).seq x9
     have c1 := cvt y9
     have q1 := l8 y9
     simp only [c6] at q1
     simp (disch := omega) only [q1, c1, and_true, true_and]
     refine (UE (hT8.ext y9) hz hG).mono ?_
     rintro r w10 ⟨a', c', rfl, hR, x10⟩
     have c2 := cvt (y9.seq x10)
     simp only [r6]
     simp (disch := omega) only [c2, true_and]
     refine (Sm (x := ⟨bytes.toArray⟩) (o := o) (a := a') (c := c') (by show bytes.toArray.size <= _; simp; omega) hR hG).mono ?_
     rintro r w11 ⟨hr, x11⟩
     rw [aBb, ht'] at hr
     obtain ⟨v, a3, c3, rfl, os, _⟩ := hr
     simp only [r6]
     try simp (disch := omega) only [Kh, Ka, J3, Result.ok.injEq, Next.value.injEq, and_true, aA, true_and]
     refine jE ((o9.ext x10 (fun h => h)).ext x11 (fun h => h)) rfl (by simp [one]) (by simp) fun w12 o12 x12 s12 => ?_
     try simp (disch := omega) only [aC, dS, aA, stepR_skip, bN, dZ, pX, zX, yV, EN, ahI, auB, Qh, mO, vY, cK, fB, aW, ZH, dO, oD, arW, auF, Bm, bM, aoT, Vf, rI, Bc, A6, Kh, Ka, J3, x40, x41, x42, x43, aG, Result.ok.injEq, Next.value.injEq, true_and, and_true, aT, iI, avD, Qe, auY, JG, aIY, mU, jH, vN, dG, bP, dH, VR, QT, aF, aD, if_true, if_false, aI5, aIZ, aJm, aKu, aJx, aJT, aI1, aI0, jY, dK, fH, mJ, kJ, cB, iC, eP, mB, fI, fY, cL, bR, cW, fK, rS, bZ, lL, tL, kZ, dV, iN, eX, sP, pI, cR, dB, dA, pD, eE, lW, jB, fF, nQ, cF, sD, gN, oB, iQ, jU, jT, fS, mF, mE, mV, iU, eH, kX, oQ, gV, gJ, jO, iY, qD, nU, cG, bF, bA, gG, jA, nZ, vH, GW, sN, lA, jS, eB, fA, iE, iF, fJ, pF, gH, pH, kS, jV, lH, vE, dU, eT, rW, jI, bC, lC, vC, kG, mH, tJ, tA, jJ, iX, sI, sX, mC, oX, yC, yJ, jG, mQ, lD, gI, jP, bW, aU, xN, vO, mZ, vD, rZ, iS, rT, rQ, dF, cP, oP, rP, pS, iB, iT, gM, oA, nY, rY, rX, gQ, jQ, gW, rV, rU, tE, pA, kB, nE, lB, zH, wW]
     have x0 := (y9.seq x10).seq x11
     have z8 : (dr w8).heap.size = w8.heap.size := rfl
     have z10 := x10.size
     exact tail w12 v (x0.new x12 (by omega)) (os.ext x12 (fun b hb => by have := o9.lt; omega)).cl
 cases cs with
 | true =>
   simp (disch := omega) only [aC, Bm, aJx, cB, aA, aD, dO, d1]
   exact main w2 ra rc l0 x2 (zI hr0 x02 (bU _) (by omega)) hu0 (by omega)
 | false =>
   simp (disch := omega) only [aC, Bm, aJx, cB, aJT, aA, aF, dO, d1, aD]
   refine (aFl (zI hr0 x02 (bU _) (by omega)) hu0 (by omega)).mono ?_
   rintro r w3 ⟨os, x3⟩
   obtain ⟨la, lc, rfl⟩ := os.len
   have hcl := os.cl
   have hll : (l0.map ahD).length = l0.length := by rw [aJb]
   rw [<- hll] at hcl ⊢
   exact main w3 la lc _ (x2.seq x3) hcl (aHX (aG4 l0)) (by omega)
theorem YH {v : aLm} {zs : List (Int × Int × Int)} {cs : Bool} {z : Int × Int × Int} {w : aLl} (hg : vW w) (hc : Cl w 3 v zs.length (zs.flatMap (st3 .u32))) (h : ∀ z ∈ zs, wf3 .u32 z) (hw : wf3 .u8 z) (hl : zs.length <= 9223372036854775807) :
 aR pg lX #[v, .bool cs, .agg (st3 .u8 z).toArray] w (fun r w' => r = .bool true /\ aS w w' cI) :=
 abW (l0 := zs.map sqI) hg (by rw [<- aIv h, aJb]; exact hc) (kvI h) hw (by rw [aJb]; exact hl)
end Go.Proofs.YtaggdjhhmbnhoaaDoor

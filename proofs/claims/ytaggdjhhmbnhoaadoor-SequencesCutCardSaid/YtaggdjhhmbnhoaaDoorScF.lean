/- Parts of the proof of SequencesCut: merged and given short names by a program of ours. -/
import Derived.Laws.StructEq
import Derived.KernelRfl
import Derived.WalkKit
import Derived.ProofKit
import Derived.OpenShut
import Derived.Deep.Slices
import Derived.Deep.Strs
import Derived.Laws.IdiomArrays
import Derived.Test.YtaggdjhhmbnhoaaDoorScE
set_option linter.unusedVariables false
set_option linter.unusedSimpArgs false
open Bool renaming and_eq_true → aH4, false_eq_true → aHP, not_true → aIt
open Int renaming toNat_natCast → aHH, tmod_eq_emod_of_nonneg → aIa
open List renaming mem_cons_of_mem → aH0, getElem?_eq_none → aH3, length_cons → aH5, getElem?_map → aH9, take_succ_cons → aHG, drop_zero → aHM, take_zero → aHO, getElem?_eq_getElem → aHQ, length_append → aHR, length_map → aHU, getElem?_append_left → aHW, length_take → aHZ, mem_cons_self → aIL, getElem?_drop → aIV, mem_singleton → aIW, mem_of_getElem? → aIX, getElem?_take_of_lt → aIl, getElem?_append_right → aIn, map_append → aIo, take_add_one → aIr, mem_range → aIw, mem_map → aIx, append_nil → aIy, mem_cons → aIz, mem_append_right → aJA, mem_append_left → aJd, take_length → aJi, length_range → aJp, map_take → aJu
open Nat renaming lt_or_ge → aH6, zero_add → aHI, le_refl → aHS, mod_lt → aI1, add_assoc → aI5, zero_le → aIT, two_pow_pos → aIj
namespace Go.Proofs.YtaggdjhhmbnhoaaDoor
open Go Go.En Go.Pu
set_option maxRecDepth 4000
theorem aFc {ox oy : Operand} (a b c a' b' c' : Int) (w : aJ2) : (aG .neq 47 ox oy (.agg #[.int .u32 a, .int .u32 b, .int .u32 c]) (.agg #[.int .u32 a', .int .u32 b', .int .u32 c'])).run pg w = .ok (.value (.bool (!(a == a' && b == b' && c == c')))) w := by
 have a3 : ∀ w, (isAgg 43).run pg w = .ok false w := fun w => by kernel_rfl
 have u3 := Tryd.underlying43
 have g0 : pg.eqGuardType pg.depth 47 = false := by kernel_rfl
 have g1 : pg.underlying 47 = some (.struct (pg.fieldsOf 47)) := by kernel_rfl
 have g2 : pg.stoodInHeld 47 = false := by kernel_rfl
 unfold aG
 simp only [JY, qG, Sem.run_bind, run_eqGuard_agg w .neq 47 ox oy _ _ g0, Result.andThen_ok, run_neq_struct]
 rw [run_equalIn_agg w 9999 47 _ _ g1 g2]
 simp only [Program.fieldsOf, Tryd.underlying47, Op.eqFields]
 simp [part, a3, run_equalIn_int w 9998 43 _ _ _ _ u3]
 by_cases h1 : a = a' <;> by_cases h2 : b = b' <;> by_cases h3 : c = c' <;> simp [h1, h2, h3]
theorem axJ {v u : aJ3} {l : List Sq} {w : aJ2} (h1 : Cl w 3 v l.length (Tb l)) (h2 : Cl w 3 u l.length (Tb l)) (hl : l.length <= 1000000) :
 aR pg vG #[v, u] w (fun r w' => r = .bool true /\ aS w w' cM) := by
 refine ajM ?_
 have f1 := h1
 have f2 := h2
 obtain ⟨va, vc, rfl, _⟩ := f1
 obtain ⟨ua, uc, rfl, _⟩ := f2
 unfold apV Ot Nk
 have n1 : (((l.length : Nat) : Int) != ((l.length : Nat) : Int)) = false := by simp
 simp (disch := omega) only [aC, dO, aA, eT, n1, aE]
 unfold Na M6 Ns MN MY
 refine cG.rule (fun m (t : aJ3) w' => ∃ i : Nat, m = l.length - i /\ t = .int .i64 i /\ i <= l.length /\ aS w w' cM) l.length ⟨0, rfl, rfl, by omega, aS.refl _ _⟩ ?_
 rintro m t w1 ⟨i, rfl, rfl, hi, x1⟩
 unfold F7
 by_cases hlt : i < l.length
 .have d3 : decide ((i : Int) < (l.length : Int)) = true := by simp; omega
  obtain ⟨q, hq⟩ : ∃ q, l[i]? = some q := ⟨_, aHQ hlt⟩
  obtain ⟨b, off, c, e, l1⟩ := alS (Om h1 x1 (cB _) (by omega)) hq
  obtain ⟨b', off', c', e', l2⟩ := alS (Om h2 x1 (cB _) (by omega)) hq
  cases e
  cases e'
  have q1 := l1 w1 (fun _ => rfl)
  have q2 := l2 w1 (fun _ => rfl)
  have q1d := l1 (dr w1) (fun _ => rfl)
  have q2d := l2 (dr w1) (fun _ => rfl)
  simp only [Tc] at q1 q2 q1d q2d
  have nn : ∀ a c d : Int, (!(a == a && c == c && d == d)) = false := fun a c d => by simp
  have e1 : (i : Int) + 1 = ((i + 1 : Nat) : Int) := by omega
  simp (disch := omega) only [aC, dO, lY, aHH, bM, e1, aT, aA, true_and, aX, d3, q1d, q2d, aFc, nn, aE, aF]
  exact ⟨l.length - (i + 1), by omega, i + 1, rfl, rfl, by omega, x1.seq (aS.dr _ _)⟩
 .have d3 : decide ((i : Int) < (l.length : Int)) = false := by simp; omega
  unfold F2
  simp (disch := omega) only [aC, dO, bM, aT, aA, true_and, aX, d3, aE]
  exact x1
theorem atK {k v : Nat} (h : k = 0 ∨ k = 2) (hl : Aw k <= v) : ∀ i, Ai k + i <= lC k -> v < eS k i -> ∃ c, uK k v c
 | 0, _, hv => by
   have := aFL h
   unfold eS at hv
   exact ⟨_, apY h hl (by omega)⟩
 | i + 1, hi, hv => by
   rcases aH6 v (eS k i) with h' | h'
   .exact atK h hl i (by omega) h'
   .exact ⟨_, arG h (by omega) h' (by unfold eS at hv; exact hv)⟩
theorem aEe {v : Nat} (h : v < 131072) : ∃ c, uK 0 v c := by
 have e : eS 0 20 = 131072 := by decide
 exact atK (.inl rfl) (aIT _) 20 (by decide) (by omega)
theorem aDV {v : Nat} (h0 : 3 <= v) (h : v < 131075) : ∃ c, uK 2 v c := by
 have e : eS 2 21 = 131075 := by decide
 exact atK (.inr rfl) h0 21 (by decide) (by omega)
theorem avT {l : List Sq} (h : ∀ q ∈ l, q.ll < 131072 /\ 3 <= q.ml /\ q.ml < 131075 /\ 0 < q.of /\ q.of < 4294967296) : avC l := fun q hq k hk => by
 obtain ⟨h1, h2, h3, h4, h5⟩ := h q hq
 rcases (show k = 0 ∨ k = 1 ∨ k = 2 by omega) with rfl | rfl | rfl
 .exact aEe h1
 .exact ⟨_, axA h4 h5⟩
 .exact aDV h2 h3
theorem azM {l : List UInt8} {o t : Nat -> TT} {q : List Sq} (ho : anQ o) (h : tC l o = .ok (q, t)) (hq : q ≠ []) : ∀ k, k < 3 -> yD k (t k) := by
 unfold tC at h
 cases hn : SP l with
 | error e => rw [hn] at h; cases h
 | ok y =>
   obtain ⟨n, r⟩ := y
   rw [hn] at h
   by_cases h0 : n = 0
   .simp only [if_pos h0] at h
    split at h
    .cases h; exact absurd rfl hq
    .cases h
   .simp only [if_neg h0] at h
    rw [Qm] at h
    cases hh : MB o r with
    | error e => rw [hh] at h; cases h
    | ok z =>
      obtain ⟨t0, r'⟩ := z
      rw [hh] at h
      simp only at h
      unfold Dd at h
      split at h
      .cases h
      .split at h
       .cases h
       .split at h
        .cases h
        .cases h
         exact (Q9 ho hh).1
def oN : Nat -> TT := fun _ => (0, [])
def aN : Nat -> Option Addr := fun _ => none
theorem aiA : anQ oN := fun k _ h => absurd rfl h
theorem aGj (w : aJ2) : OO w oN aN := fun k _ => .inl ⟨rfl, rfl⟩
theorem aGQ (w : aJ2) : Rb3 w oN aN (fun _ => 0) := fun k _ => .inl ⟨rfl, rfl⟩
theorem aC1 {w : aJ2} {base : Nat} {v : aJ3} {l : List UInt8} (h : rN w base 1 v l.length (l.map GI)) : Bs w v l := h.sl
def ex2 : List Sq := [⟨20, 3, 9⟩, ⟨0, 70, 1⟩]
theorem aBH {w : aJ2} (hg : tR w) : aR pg AS #[] w (fun r w' => r = .bool true /\ aS w w' cM) := by
 refine afV ?_
 obtain ⟨RR, hRR⟩ : ∃ RR : aJ3 -> aJ2 -> Prop, RR = fun r w' => r = .bool true /\ aS w w' cM := ⟨_, rfl⟩
 rw [<- hRR]
 unfold aiK Lk
 have hc0 : Cl w 3 (.slice none 0 0) ([] : List Sq).length (Tb []) := ⟨none, 0, rfl, rfl, fun h => by simp at h⟩
 refine (X1 (l := []) hg hc0 (fun q hq => by cases hq) (by simp)).mono ?_
 rintro r w1 ⟨hr, x1⟩
 rcases hr with ⟨hno, _⟩ | ⟨_, bv, bytes, rfl, ob, _, _, hb0, _⟩
 .exact absurd (fun q hq => by cases hq) hno
 have hb0 := hb0 rfl
 subst hb0
 simp (disch := omega) only [aC, B9, B7, rJ, dL, aA]
 refine uR (cells := #[.int .u32 20, .int .u32 3, .int .u32 9, .int .u32 0, .int .u32 70, .int .u32 1]) (by decide) (by decide) (by kernel_rfl) fun w2 o2 x2 s2 => ?_
 have o2 : cJ w2 w1.heap.size (Tb ex2) := o2
 have x02 := x1.seq x2
 have hcl : Cl w2 3 (.slice (some ⟨w1.heap.size, 0, none⟩) 2 2) ex2.length (Tb ex2) := o2.cl (off := 0) (l := Tb ex2) (n := 2) rfl (fun i hi => by rw [aHI])
 refine (X1 (l := ex2) (hg.ext x02) hcl (fun q hq k => ?_) (by decide)).mono ?_
 .rcases aIz.1 hq with rfl | hq
  .unfold kv; split <;> (try split) <;> decide
  .obtain rfl := aIW.1 hq
   unfold kv; split <;> (try split) <;> decide
 rintro r w3 ⟨hr, x3⟩
 have hcd : avC ex2 := avT (by decide)
 rcases hr with ⟨hno, _⟩ | ⟨_, bv2, bytes2, rfl, ob2, hlen, _, _, hrd⟩
 .exact absurd hcd hno
 have x03 := x02.seq x3
 obtain ⟨t', ht', _⟩ := hrd oN
 simp (disch := omega) only [B9, B7, aA]
 refine (afD (o := oN) (a := aN) (hg.ext x03) (aC1 ob2) (by omega) (aGj _) aiA).mono ?_
 rintro r w4 ⟨hr, x4⟩
 rw [ht'] at hr
 obtain ⟨v, ta, rfl, os, hT⟩ := hr
 have hgt := azM aiA ht' (by decide)
 have x04 := x03.seq x4
 have hp0 : 0 < (t' 0).2.length := by rw [(hgt 0 (by omega)).len]; exact aIj _
 simp only [c6]
 simp (disch := omega) only [RQ, Sd, RN, aA]
 refine iO fun w5 o5 x5 s5 => ?_
 refine jF o5 rfl (by simp [one]) (by simp) fun w6 o6 x6 s6 => ?_
 have o6 : cJ w6 w4.heap.size (c6 t' ta) := o6
 have x46 : aS w4 w6 cM := x5.new x6 (aHS _)
 rcases os.2 with ⟨_, hz⟩ | ⟨b, c, rest, rfl, hbase, ho, hc, hn⟩
 .cases hz
 rcases ob.2 with ⟨_, hz⟩ | ⟨b1, c1, rest1, rfl, hbase1, ho1, hc1, hn1⟩
 .cases hz
 have ho6 := ho.ext x46 (fun h => h)
 have ho16 := ((ho1.ext (x2.seq x3) (fun h => h)).ext x4 (fun h => h)).ext x46 (fun h => h)
 have g1 := ho16.cell (off := 0)
 have g2 := ho6.cell (off := 0)
 have g3 := ho6.cell (off := 2)
 have g4 := ho6.cell (off := 4)
 have g5 := ho6.cell (off := 5)
 have g6 := o6.cell (off := 1)
 rw [aHW (by decide)] at g1
 rw [aHW (by decide)] at g2 g3 g4 g5
 have f1 : (List.map GI [0])[0]? = some (.int .u8 0) := rfl
 have f2 : (Tb ex2)[0]? = some (.int .u32 20) := rfl
 have f3 : (Tb ex2)[2]? = some (.int .u32 9) := rfl
 have f4 : (Tb ex2)[4]? = some (.int .u32 70) := rfl
 have f5 : (Tb ex2)[5]? = some (.int .u32 1) := rfl
 have f6 : (c6 t' ta)[1]? = some (.slice (ta 0) (t' 0).2.length (t' 0).2.length) := rfl
 rw [f1] at g1
 rw [f2] at g2
 rw [f3] at g3
 rw [f4] at g4
 rw [f5] at g5
 rw [f6] at g6
 have t0 : (0 : Int).toNat = 0 := rfl
 have t1 : (1 : Int).toNat = 1 := rfl
 have el : ((ex2.length : Nat) : Int) = 2 := rfl
 have eb : ((([0] : List UInt8).length : Nat) : Int) = 1 := rfl
 have dl : decide (0 < (((t' 0).2.length : Nat) : Int)) = true := by simp; exact hp0
 have k0 : ((0 : Int) == 0) = true := rfl
 have k1 : ((1 : Int) == 1) = true := rfl
 have k2 : ((2 : Int) == 2) = true := rfl
 have k9 : ((9 : Int) == 9) = true := rfl
 have k20 : ((20 : Int) == 20) = true := rfl
 have k70 : ((70 : Int) == 70) = true := rfl
 simp (disch := omega) only [gB, eb, eL, t0, aHI, aA, cR, k1, sX, bN, if_true, bP, oU, mU, g1, aI, k0, dO, el, k2, lY, iI, rT, g2, k20, jI, g3, k9, t1, jW, g4, k70, g5, bZ, dU, g6, iA, dM, dl]
 rw [hRR]
 exact ⟨rfl, x04.seq x46⟩
def xe (x : Except Int (List Sq × (Nat -> TT))) : Int := match x with | .error e => e | .ok _ => 0
def xq (x : Except Int (List Sq × (Nat -> TT))) : List Sq := match x with | .error _ => [] | .ok (q, _) => q
theorem arB {l : List UInt8} {o : Nat -> TT} (ho : anQ o) : (xq (tC l o)).length <= 1000000 := by
 cases h : tC l o with
 | error e => simp [xq]
 | ok y =>
   obtain ⟨q, t⟩ := y
   show q.length <= _
   unfold tC at h
   cases hn : SP l with
   | error e => rw [hn] at h; cases h
   | ok y =>
     obtain ⟨n, r⟩ := y
     obtain ⟨hn1, _⟩ := atC hn
     rw [hn] at h
     by_cases h0 : n = 0
     .simp only [if_pos h0] at h
      split at h
      .cases h; simp
      .cases h
     .simp only [if_neg h0] at h
      rw [Qm] at h
      cases hh : MB o r with
      | error e => rw [hh] at h; cases h
      | ok z =>
        obtain ⟨t0, r'⟩ := z
        rw [hh] at h
        simp only at h
        unfold Dd at h
        cases he : YK r' with
        | none => rw [he] at h; cases h
        | some k =>
          rw [he] at h
          simp only at h
          split at h
          .cases h
          .split at h
           .cases h
           .cases h
            have hG := (Q9 ho hh).1
            obtain ⟨g, _⟩ := amJ hG (bE r') (fun _ => 0) (k : Int)
            have := (anO (B := bE r') (n := n) (left := (sts t (bE r') 3 (fun _ => 0) (k : Int)).2) g).2.2
            rw [<- apK] at this
            omega
def aeS (q : Sq) : Sq := ⟨q.ll % 131072, 3 + q.ml % 131072, 1 + q.of % 2147483648⟩
theorem aD4 {l : List Sq} {v : aJ3} {w : aJ2} (h : Cl w 3 v l.length (Tb l)) {i : Nat} {q : Sq} (hq : l[i]? = some q) : ∃ b off c, v = .slice (some ⟨b, off, none⟩) l.length c /\
 w.cell? ⟨b, off + i * 3, none⟩ = some (.int .u32 q.ll) /\ w.cell? ⟨b, off + i * 3 + 1, none⟩ = some (.int .u32 q.ml) /\ w.cell? ⟨b, off + i * 3 + 2, none⟩ = some (.int .u32 q.of) := by
 obtain ⟨a, c, rfl, h1, h2⟩ := h
 have hi : i < l.length := by
  rcases aH6 i l.length with h | h
  .exact h
  .rw [aH3 h] at hq; cases hq
 obtain ⟨b, off, rfl, h3⟩ := h2 (by omega)
 have key : ∀ j, j < 3 -> w.cell? ⟨b, off + i * 3 + j, none⟩ = (Tc q)[j]? := fun j hj => by
  have h4 := h3 (i * 3 + j) (by rw [h1]; omega)
  rw [aI5, h4, <- aBc hq, aIl hj, aIV]
 exact ⟨b, off, c, rfl, key 0 (by omega), key 1 (by omega), key 2 (by omega)⟩
theorem aC5 {v : aJ3} {l : List Sq} {w : aJ2} (h : Cl w 3 v l.length (Tb l)) (hu : ∀ q ∈ l, ∀ k, kv q k < 4294967296) (hl : l.length <= 1000000) :
 aR pg zC #[v] w (fun r w' => rN w' w.heap.size 3 r l.length (Tb (l.map aeS)) /\ aS w w' cM) := by
 refine ZL ?_
 have hf := h
 obtain ⟨va, vc, rfl, _⟩ := hf
 unfold aaV GX Hs Hg GP HO HC GQ
 refine cG.rule (fun m (t : aJ3 × aJ3) w' => ∃ i : Nat, m = l.length - i /\ t.2 = .int .i64 i /\ i <= l.length /\ rN w' w.heap.size 3 t.1 i (Tb ((l.take i).map aeS)) /\ aS w w' cM) l.length
  ⟨0, rfl, rfl, by omega, rN.nil _ _ _, aS.refl _ _⟩ ?_
 rintro m ⟨t1, t2⟩ w1 ⟨i, rfl, rfl, hi, os, x1⟩
 have z1 := x1.size
 unfold Bf
 by_cases hlt : i < l.length
 .have d3 : decide ((i : Int) < (l.length : Int)) = true := by simp; omega
  obtain ⟨q, hq⟩ : ∃ q, l[i]? = some q := ⟨_, aHQ hlt⟩
  have hm := hu q (aIX hq)
  have u0 := hm 0
  have u1 := hm 1
  have u2 := hm 2
  unfold kv at u0 u1 u2
  simp at u0 u1 u2
  obtain ⟨b, off, c, e, c0, c1, c2⟩ := aD4 (Om h x1 (cB _) (by omega)) hq
  cases e
  have c0d : (dr w1).cell? ⟨b, off + i * 3, none⟩ = some (.int .u32 q.ll) := c0
  have c1d : (dr w1).cell? ⟨b, off + i * 3 + 1, none⟩ = some (.int .u32 q.ml) := c1
  have c2d : (dr w1).cell? ⟨b, off + i * 3 + 2, none⟩ = some (.int .u32 q.of) := c2
  have m0 : ((q.ll : Int).tmod 131072) = ((q.ll % 131072 : Nat) : Int) := by rw [aIa (by omega)]; omega
  have m1 : ((q.ml : Int).tmod 131072) = ((q.ml % 131072 : Nat) : Int) := by rw [aIa (by omega)]; omega
  have m2 : ((q.of : Int).tmod 2147483648) = ((q.of % 2147483648 : Nat) : Int) := by rw [aIa (by omega)]; omega
  have e1 : (i : Int) + 1 = ((i + 1 : Nat) : Int) := by omega
  have w1' : IntKind.u32.wrap (3 + ((q.ml % 131072 : Nat) : Int)) = ((3 + q.ml % 131072 : Nat) : Int) := by rw [w32 (by omega) (by omega)]; omega
  have w2' : IntKind.u32.wrap (1 + ((q.of % 2147483648 : Nat) : Int)) = ((1 + q.of % 2147483648 : Nat) : Int) := by rw [w32 (by omega) (by omega)]; omega
  simp (disch := omega) only [aC, dO, lY, aHH, bM, e1, aT, aA, true_and, jI, rT, jW, iI, aX, d3, c0d, aI, c1d, c2d, CA, m2, w2', m1, w1', m0, rJ, aF]
  refine uR (cells := #[.int .u32 ((aeS q).ll : Nat), .int .u32 ((aeS q).ml : Nat), .int .u32 ((aeS q).of : Nat)]) (by decide) (by decide) (by kernel_rfl) fun w6 o6 x6 s6 => ?_
  have z6 := x6.size
  have zd : (dr w1).heap.size = w1.heap.size := rfl
  have os6 := (os.ext (aS.dr _ cM) (fun _ _ h => h)).ext x6 (fun _ _ h => h)
  refine lX (m := 1) (news := Tc (aeS q)) os6 (o6.cl (off := 0) (l := Tc (aeS q)) (n := 1) rfl (fun i hi => by rw [aHI] <;> rfl)) (by simp [Tc, one]) (by omega) (by omega) fun v7 w7 o7 x7 => ?_
  have e7 : (l.take (i + 1)).map aeS = (l.take i).map aeS ++ [aeS q] := by rw [aIr, hq, aIo] <;> rfl
  rw [<- amG, <- e7] at o7
  exact ⟨l.length - (i + 1), by omega, i + 1, rfl, rfl, by omega, o7, ((x1.seq (aS.dr _ _)).seq x6).trans x7 fun b hb h => by omega⟩
 .have d3 : decide ((i : Int) < (l.length : Int)) = false := by simp; omega
  unfold A8
  obtain rfl : i = l.length := by omega
  rw [aJi] at os
  simp (disch := omega) only [aC, dO, bM, aT, aA, true_and, aX, d3, aE]
  exact ⟨os, x1⟩
theorem aFR (l : List Sq) : ∀ q ∈ l.map aeS, q.ll < 131072 /\ 3 <= q.ml /\ q.ml < 131075 /\ 0 < q.of /\ q.of < 4294967296 := fun q hq => by
 obtain ⟨p, _, rfl⟩ := aIx.1 hq
 have h1 := aI1 p.ll (show 0 < 131072 by decide)
 have h2 := aI1 p.ml (show 0 < 131072 by decide)
 have h3 := aI1 p.of (show 0 < 2147483648 by decide)
 unfold aeS
 refine ⟨h1, ?_, ?_, ?_, ?_⟩ <;> simp only <;> omega
theorem aGM {l : List Sq} (h : ∀ q ∈ l, q.ll < 131072 /\ 3 <= q.ml /\ q.ml < 131075 /\ 0 < q.of /\ q.of < 4294967296) : ∀ q ∈ l, ∀ k, kv q k < 4294967296 := fun q hq k => by
 obtain ⟨h1, h2, h3, h4, h5⟩ := h q hq
 unfold kv
 split <;> (try split) <;> omega
theorem arV {w : aJ2} {base : Nat} {x : Except Int (List Sq × (Nat -> TT))} {r : aJ3} (h : arY w base x r) : ∃ pv cs, r = .tuple #[pv, .agg (List.toArray cs), .int .i64 (xe x)] /\ cs.length = 6 /\ (∀ y ∈ cs, one y = true) /\ rN w base 3 pv (xq x).length (Tb (xq x)) := by
 cases x with
 | error e => exact ⟨_, z6, h, rfl, by simp [z6, one], rN.nil _ _ _⟩
 | ok y =>
   obtain ⟨q, t⟩ := y
   obtain ⟨v, a, rfl, os, _⟩ := h
   exact ⟨v, _, rfl, rfl, by simp [c6, one], os⟩
theorem arR {w : aJ2} {base : Nat} {x : Except Int (List Sq × (Nat -> TT))} {r : aJ3} (h : aiC w base x r) : ∃ pv cs, r = .tuple #[pv, .agg (List.toArray cs), .int .i64 (xe x)] /\ cs.length = 6 /\ (∀ y ∈ cs, one y = true) /\ rN w base 3 pv (xq x).length (Tb (xq x)) := by
 cases x with
 | error e => exact ⟨_, z6, h, rfl, by simp [z6, one], rN.nil _ _ _⟩
 | ok y =>
   obtain ⟨q, t⟩ := y
   obtain ⟨v, a, c, rfl, os, _⟩ := h
   exact ⟨v, _, rfl, rfl, by simp [r6, one], os⟩
theorem aoC {rv : aJ3} {l0 : List Sq} {at' n : Nat} {w : aJ2} (hg : tR w) (hr0 : Cl w 3 rv l0.length (Tb l0)) (hu0 : ∀ q ∈ l0, ∀ k, kv q k < 4294967296) (hat : at' < 65536) (hn : n < 256) :
 aR pg sP #[rv, .int .u16 at', .int .u8 n] w (fun r w' => r = .bool true /\ aS w w' cM) := by
 refine PC ?_
 obtain ⟨RR, hRR⟩ : ∃ RR : aJ3 -> aJ2 -> Prop, RR = fun r w' => r = .bool true /\ aS w w' cM := ⟨_, rfl⟩
 rw [<- hRR]
 have hgood : ∀ w', aS w w' cM -> RR (.bool true) w' := fun w' x => by rw [hRR]; exact ⟨rfl, x⟩
 obtain ⟨y, rfl⟩ : ∃ y : UInt8, y.toNat = n := ⟨UInt8.ofNat n, by simp; omega⟩
 have hf := hr0
 obtain ⟨ra, rc, rfl, _⟩ := hf
 unfold Kd wU
 refine (aBH hg).mono ?_
 rintro r w1 ⟨rfl, x1⟩
 by_cases h1 : 100 < l0.length
 .have d1 : decide (100 < (l0.length : Int)) = true := by simp; omega
  simp (disch := omega) only [aC, Gz, aIt, dO, AO, aT, dL, aA, dM, d1, jE, bN, if_true, aF, dV, aE]
  exact hgood _ x1
 have d1 : decide (100 < (l0.length : Int)) = false := by simp; omega
 by_cases h0 : l0.length = 0
 .have n0 : ((l0.length : Int) == 0) = true := by rw [h0] <;> rfl
  simp (disch := omega) only [aC, Gz, aIt, dO, AO, aT, dL, aA, dM, d1, dB, bN, aHP, if_false, bP, cR, n0, aF, aE]
  exact hgood _ x1
 have n0 : ((l0.length : Int) == 0) = false := by simp; intro h; subst h; exact h0 rfl
 simp (disch := omega) only [aC, Gz, aIt, dO, AO, aT, dL, aA, dM, d1, dB, bN, aHP, if_false, bP, cR, n0, aE]
 refine (aC5 (Om hr0 x1 (cB _) (by omega)) hu0 (by omega)).mono ?_
 rintro v w2 ⟨os2, x2⟩
 have x02 := x1.seq x2
 obtain ⟨l, hl⟩ : ∃ l, l = l0.map aeS := ⟨_, rfl⟩
 have hll : l.length = l0.length := by rw [hl, aHU]
 have hfx : ∀ q ∈ l, q.ll < 131072 /\ 3 <= q.ml /\ q.ml < 131075 /\ 0 < q.of /\ q.of < 4294967296 := by rw [hl]; exact aFR l0
 rw [<- hl, <- hll] at os2
 refine (X1 (l := l) (hg.ext x02) os2.cl (aGM hfx) (by omega)).mono ?_
 rintro r w3 ⟨hr, x3⟩
 rcases hr with ⟨hno, _⟩ | ⟨_, bv, bs, rfl, ob, hlen, hpos, _, _⟩
 .exact absurd (avT hfx) hno
 have x03 := x02.seq x3
 rcases ob.2 with ⟨_, hz⟩ | ⟨b, c, rest, rfl, hbase, ho, hc, hn1⟩
 .omega
 obtain ⟨k, hk⟩ : ∃ k, k = at' % bs.length := ⟨_, rfl⟩
 have hk2 : k < bs.length := by rw [hk]; exact aI1 _ hpos
 have z3 : ((0 : Int) != 0) = false := rfl
 have d0 : ((bs.length : Int) == 0) = false := by simp; intro h; subst h; simp at hpos
 have m0 : ((at' : Int).tmod (bs.length : Int)) = ((k : Nat) : Int) := by rw [aIa (by omega), hk]; omega
 have m1 : IntKind.i64.wrap ((at' : Nat) : Int) = ((at' : Nat) : Int) := aT (by omega) (by omega)
 simp (disch := omega) only [B9, B7, aA, eT, z3, aE, gB, CA, m0, LJ, aHH]
 refine jS fun w4 o4 x4 s4 => ?_
 have ho4 := ho.ext x4 (fun h => h)
 have l4 := ho4.lt
 have hbs : Bs w4 (.slice (some ⟨b, 0, none⟩) bs.length c) bs := by
  have := aC1 ob
  exact this.ext x4 (cB _)
 obtain ⟨l1, hl1⟩ : ∃ l1, l1 = bs.take k := ⟨_, rfl⟩
 have hll1 : l1.length = k := by rw [hl1, aHZ]; omega
 have hcut : Bs w4 (.slice (iH (some ⟨b, 0, none⟩) c 0 1) (k - 0) (c - 0)) l1 := by
  rw [hl1]
  unfold Bs
  rw [aJu]
  exact Sl.take hbs (by omega)
 generalize hcv : Value.slice (iH (some ⟨b, 0, none⟩) c 0 1) (k - 0) (c - 0) = cv at *
 refine (afD (o := oN) (a := aN) ((hg.ext x03).ext x4) hcut (by omega) (aGj _) aiA).mono ?_
 rintro r w5 ⟨hr, x5⟩
 obtain ⟨pv, cs, rfl, hcs, hone, os5⟩ := arV hr
 simp (disch := omega) only [RQ, Sd, RN, aA]
 refine iO fun w6 o6 x6 s6 => ?_
 refine jF o6 (by simpa using hcs) (by simpa using hone) (by simp) fun w7 o7 x7 s7 => ?_
 have x57 : aS w5 w7 cM := x6.new x7 (aHS _)
 have x47 := x5.seq x57
 have o47 := o4.ext x47 (fun h => h)
 have l9 := fO (off := 0) o47 (by simp)
 simp only [aHM, aHG, aHO] at l9
 have cvt := Ks (hcut.ext x47 (cB _))
 simp (disch := omega) only [cvt, aA, l9]
 refine (Zz (x := ⟨l1.toArray⟩) (o := oN) (a := aN) (c := fun _ => 0) (by show l1.toArray.size <= _; simp; omega) (aGQ _) aiA).mono ?_
 rintro r w8 ⟨hr2, x8⟩
 rw [aD5] at hr2
 obtain ⟨rv', cs', rfl, hcs', hone', os8⟩ := arR hr2
 simp (disch := omega) only [RQ, Sd, RN, aA, cR, bN]
 refine jS fun w9 o9 x9 s9 => ?_
 refine lA o9 (by simpa using hcs') (by simpa using hone') (by simp) fun wa oa xa sa => ?_
 have x8a : aS w8 wa cM := x9.new xa (aHS _)
 refine uM (cells := #[GI y]) (by decide) (by decide) (by kernel_rfl) fun wb obb xb sb => ?_
 have x4b := ((x47.seq x8).seq x8a).seq xb
 have z4b := x4b.size
 have hob : OSS wb (fun z => z = b ∨ wb.heap.size <= z) 1 (.slice (some ⟨b, 0, none⟩) bs.length c) bs.length (bs.map GI) := ⟨by simp, .inr ⟨b, c, rest, rfl, .inl rfl, ho4.ext x4b (fun h => h), hc, hn1⟩⟩
 refine uL (m := 1) (news := [GI y]) (i := Tryd.t5) Tryd.underlying22 Tryd.underlying22 U9 rfl rfl rfl hob (obb.cl (off := 0) (l := [GI y]) (n := 1) rfl (fun i hi => by rw [aHI])) (by simp [GI, one]) (fun b hb => .inr hb) (by omega) (by rw [show Tryd.t5.bytes = 1 from rfl]; omega) (by decide) fun vd wd od xd => ?_
 have xd := xd.mono (N := fun z => z = b) fun z hz h => by rcases h with h | h <;> omega
 have x0d : aS w wd cM := ((x03.seq x4).seq x4b).trans xd fun z hz h => by have := x02.size; omega
 have hbd : Bs wd vd (bs ++ [y]) := by
  unfold Bs
  rw [aIo]
  exact auB od
 obtain ⟨l2, hl2⟩ : ∃ l2, l2 = bs ++ [y] := ⟨_, rfl⟩
 have hll2 : l2.length <= 500001 := by rw [hl2, aHR]; simp; omega
 rw [<- hl2] at hbd
 refine (afD (o := oN) (a := aN) (hg.ext x0d) hbd (by omega) (aGj _) aiA).mono ?_
 rintro r we ⟨hr3, xe1⟩
 obtain ⟨pv2, cs2, rfl, hcs2, hone2, ose⟩ := arV hr3
 simp (disch := omega) only [RQ, Sd, RN, aA]
 refine iO fun wf of xf sf => ?_
 refine jF of (by simpa using hcs2) (by simpa using hone2) (by simp) fun wg og xg sg => ?_
 have xeg : aS we wg cM := xf.new xg (aHS _)
 have xdg := xe1.seq xeg
 have z4' := x4.size
 have ogg := ((o47.ext (((x8.seq x8a).seq xb)) (fun h => h)).ext xd (by have := ho.lt; omega)).ext xdg (fun h => h)
 have l9 := fO (off := 0) ogg (by simp)
 simp only [aHM, aHG, aHO] at l9
 have cvt := Ks (hbd.ext xdg (cB _))
 simp (disch := omega) only [cvt, aA, l9]
 refine (Zz (x := ⟨l2.toArray⟩) (o := oN) (a := aN) (c := fun _ => 0) (by show l2.toArray.size <= _; simp; omega) (aGQ _) aiA).mono ?_
 rintro r wh ⟨hr4, xh⟩
 rw [aD5] at hr4
 obtain ⟨rv2, cs4, rfl, hcs4, hone4, osh⟩ := arR hr4
 simp (disch := omega) only [RQ, Sd, RN, aA]
 refine jS fun wi oi xi si => ?_
 refine lA oi (by simpa using hcs4) (by simpa using hone4) (by simp) fun wj oj xj sj => ?_
 have xhj : aS wh wj cM := xi.new xj (aHS _)
 have n1 : (xe (tC l1 oN) == xe (tC l1 oN)) = true := by simp
 have n2 : (xe (tC l2 oN) == xe (tC l2 oN)) = true := by simp
 have xall : aS w5 wj (fun z => z = b) := ((((((x57.seq x8).seq x8a).seq xb).mono fun _ _ h => h.elim).seq xd).more xdg).more (xh.seq xhj)
 have x8j : aS w8 wj (fun z => z = b) := (((x8a.seq xb).mono fun _ _ h => h.elim).seq xd).more (xdg.seq (xh.seq xhj))
 have z5 := x5.size
 have z58 := (x57.seq x8).size
 have z57 := x57.size
 have p1 := (os5.ext xall (fun z hz => by omega)).cl
 have p2 := (os8.ext x8j (fun z hz => by omega)).cl
 have p3 := (ose.ext (xeg.seq (xh.seq xhj)) (fun _ _ h => h)).cl
 have p4 := (osh.ext xhj (fun _ _ h => h)).cl
 simp (disch := omega) only [n1, sX, if_true, bP]
 refine (axJ p1 p2 (arB aiA)).mono ?_
 rintro r wk ⟨rfl, xk⟩
 simp (disch := omega) only [sX, bN, if_true, aA, bP, cR, n2]
 refine (axJ (Om p3 xk (cB _) (by omega)) (Om p4 xk (cB _) (by omega)) (arB aiA)).mono ?_
 rintro r wl ⟨rfl, xl⟩
 exact hgood _ ((((x0d.seq xdg).seq (xh.seq xhj)).seq xk).seq xl)
end Go.Proofs.YtaggdjhhmbnhoaaDoor
namespace Go.En
open Go Go.ChangeShapes Go.WideShapes Go.ChangeAt Go.RowKit
theorem aqC {H : Type} {enc : TypeId × aJ3 -> H} {P : Program} (hl : laidOutB P = true) {W W' : aJ2} (hb : Below W.heap.size W W') : ∀ (ts : List TypeId) (vs : List aJ3) (ds : List (DataW H)) (ps : List MemPlace),
 (ts.all fun t => P.readableRec t && decide (t < P.types.size)) = true -> DataW.TrodAll enc P W 0 (fun _ => true) true ts vs ds ps -> (∀ x ∈ ps, x.block < W.heap.size) →
 DataW.TrodAll enc P W' 0 (fun b => decide (b < W.heap.size)) true ts vs ds ps := by
 intro ts
 induction ts with
 | nil =>
   intro vs ds ps _ h _
   cases vs <;> cases ds <;> simp [DataW.TrodAll] at h ⊢
   exact h
 | cons t ts ih =>
   intro vs ds ps hr h hlt
   cases vs with
   | nil => simp [DataW.TrodAll] at h
   | cons v vs =>
     cases ds with
     | nil => simp [DataW.TrodAll] at h
     | cons d ds =>
       obtain ⟨p, q, h1, h2, rfl⟩ := h
       rw [List.all_cons, aH4, aH4, decide_eq_true_eq] at hr
       exact ⟨p, q, Below.trod hl hr.1.1 hr.1.2 h1 hb (fun x hx => hlt x (aJd _ hx)), ih _ _ _ hr.2 h2 (fun x hx => hlt x (aJA _ hx)), rfl⟩
theorem aDk {H : Type} {enc : TypeId × aJ3 -> H} {P : Program} {f : Func} {s : ChangeSpec} {apart fresh handsOn : Bool} {tb : TypeId} {W W' : aJ2} {args : Array aJ3} {ds gs : List (DataW H)} {before : List MemPlace}
 (hl : laidOutB P = true) (hr : (f.params.toList.all fun t => P.readableRec t && decide (t < P.types.size)) = true) (hres : f.resultTypes = #[tb]) (hbool : P.underlying tb = some .bool)
 (hW : DataW.Whole enc P f.params.toList s.vars apart W args.toList ds gs before) (hvars : s.vars = []) (h1 : (s.fn H (ds ++ gs)).results = [.lit (.bool true)]) (h2 : (s.fn H (ds ++ gs)).args = ds) (h3 : (s.fn H (ds ++ gs)).vars = [])
 (hx : aS W W' cM) : s.post enc P f apart fresh handsOn false W args (.bool true) W' := by
 have hb := hx.below
 have hlt : ∀ x ∈ before, x.block < W.heap.size := fun x hx => hW.lt x hx
 have hW' := hW
 obtain ⟨p, q, hA, hV, rfl, _, _⟩ := hW
 rw [hvars] at hV
 obtain ⟨_, rfl⟩ := trodVars_none hV
 rw [aIy] at hW' hlt
 refine ⟨ds, gs, p, [], p, [], hW', ?_, ?_, ?_, hb.frame _, fun h => by cases h⟩
 .rw [h1, hres]
  exact trodAll_cons_mk (shut_bool hbool _) trodAll_mk0
 .rw [h2]; exact aqC hl hb _ _ _ _ hr hA hlt
 .rw [h3, hvars] <;> rfl
end Go.En
namespace Go.En
open Go Go.ChangeShapes Go.WideShapes Go.ChangeAt Go.RowKit Go.Deep
def st3 (k : IntKind) (z : Int × Int × Int) : List aJ3 := [.int k z.1, .int k z.2.1, .int k z.2.2]
def wf3 (k : IntKind) (z : Int × Int × Int) : Prop := (Lit.int k z.1).wf = true /\ (Lit.int k z.2.1).wf = true /\ (Lit.int k z.2.2).wf = true
theorem aDa {H : Type} {enc : TypeId × aJ3 -> H} {P : Program} {W : aJ2} {base : Nat} {sp : Nat -> Bool} {hd : Bool} {t : TypeId} {f0 f1 f2 : Field} {k : IntKind} {fuel : Nat} {cs : List aJ3} {x : DataW H × List MemPlace}
 (ht : P.underlying t = some (.struct #[f0, f1, f2])) (h0 : P.underlying f0.type = some (.int k)) (h1 : P.underlying f1.type = some (.int k)) (h2 : P.underlying f2.type = some (.int k))
 (o0 : f0.offset = 0) (o1 : f1.offset = 1) (o2 : f2.offset = 2) (c0 : P.cellsOf f0.type = 1) (c1 : P.cellsOf f1.type = 1) (c2 : P.cellsOf f2.type = 1) (ct : P.cellsOf t = 3)
 (hf : DataW.trod enc P W base sp hd fuel t cs = some x) : ∃ z : Int × Int × Int, cs = st3 k z /\ wf3 k z := by
 obtain ⟨y0, y1, y2, n, _, hl, hf0, hf1, hf2⟩ := trod_struct3 ht hf
 rw [o0, c0] at hf0
 rw [o1, c1] at hf1
 rw [o2, c2] at hf2
 obtain ⟨a0, e0, _, w0⟩ := DataW.trod_int h0 hf0
 obtain ⟨a1, e1, _, w1⟩ := DataW.trod_int h1 hf1
 obtain ⟨a2, e2, _, w2⟩ := DataW.trod_int h2 hf2
 rw [ct] at hl
 match cs, hl with
 | [x0, x1, x2], _ =>
   simp at e0 e1 e2
   exact ⟨(a0, a1, a2), by rw [e0, e1, e2] <;> rfl, w0, w1, w2⟩
theorem aBN {H : Type} {enc : TypeId × aJ3 -> H} {P : Program} {W : aJ2} {base b0 : Nat} {r : Reach} {sp : Nat -> Bool} {hd : Bool} {t e : TypeId} {f0 f1 f2 : Field} {k : IntKind} {v : aJ3} {d : DataW H} {ps : List MemPlace}
 (hs : P.underlying t = some (.slice e)) (ht : P.underlying e = some (.struct #[f0, f1, f2])) (h0 : P.underlying f0.type = some (.int k)) (h1 : P.underlying f1.type = some (.int k)) (h2 : P.underlying f2.type = some (.int k))
 (o0 : f0.offset = 0) (o1 : f1.offset = 1) (o2 : f2.offset = 2) (c0 : P.cellsOf f0.type = 1) (c1 : P.cellsOf f1.type = 1) (c2 : P.cellsOf f2.type = 1) (ct : P.cellsOf e = 3)
 (hval : Value.okWide P W r b0 t v) (h : DataW.Trod enc P W base sp hd t v d ps) :
 ∃ zs : List (Int × Int × Int), Cl W 3 v zs.length (zs.flatMap (st3 k)) /\ zs.length <= 9223372036854775807 /\ ∀ z ∈ zs, wf3 k z := by
 obtain ⟨a0, len, cap, rfl⟩ := okWide_slice hs hval
 obtain ⟨fuel, hf⟩ := h
 have fl : ∀ zs : List (Int × Int × Int), (zs.flatMap (st3 k)).length = zs.length * 3 := fun zs => by
  induction zs with
  | nil => rfl
  | cons z zs ih => rw [List.flatMap_cons, aHR, ih, aH5]; simp [st3]; omega
 rcases open_slice hs hf with ⟨hcs, -⟩ | ⟨a, len', cap', m, n, D, Pl, hcs, _, hl, hm, hmm, _, hx⟩
 .have : Value.slice a0 len cap = .slice none 0 0 := by simpa [Value.cells] using hcs
  cases this
  exact ⟨[], ⟨none, 0, rfl, rfl, fun h => absurd h (by simp)⟩, by simp, by simp⟩
 .have : Value.slice a0 len cap = .slice (some a) len' cap' := by simpa [Value.cells] using hcs
  cases this
  unfold maxLen at hm
  have hlm : len <= m := by rw [hmm]; split <;> omega
  obtain ⟨Z, hZ⟩ := choose_lt (α := Int × Int × Int) (n := len) (p := fun i z => wf3 k z /\ ∀ j, j < 3 -> W.cell? ((a.add (i * 3)).add j) = (st3 k z)[j]?) (fun i hi => by
   obtain ⟨cs', h1', h2'⟩ := hx i (by omega)
   rw [ct] at h1'
   obtain ⟨z, rfl, hw⟩ := aDa ht h0 h1 h2 o0 o1 o2 c0 c1 c2 ct h2'
   obtain ⟨_, hlen, hc⟩ := World.cells?_some h1'
   exact ⟨z, hw, fun j hj => hc j hj⟩)
  refine ⟨(List.range len).map Z, ⟨some a, cap, by simp, by rw [fl], fun hpos => ?_⟩, by simp; omega, fun z hz => ?_⟩
  .have hpos : 0 < len := by simpa using hpos
   obtain ⟨b, off, spot⟩ := a
   have hs : spot = none := by
    have h0 := (hZ 0 hpos).2 0 (by omega)
    simp [st3] at h0
    unfold World.cell? at h0
    split at h0
    .cases spot
     .rfl
     .simp [Addr.add] at h0
    .cases h0
   subst hs
   refine ⟨b, off, rfl, fun i hi => ?_⟩
   rw [fl, aHU, aJp] at hi
   have hq : i / 3 < len := by omega
   have key := (hZ (i / 3) hq).2 (i % 3) (aI1 _ (by omega))
   rw [add_add, show i / 3 * 3 + i % 3 = i from by omega, Fb] at key
   rw [key]
   have get : ∀ (zs : List (Int × Int × Int)) (i j : Nat), j < 3 -> (zs.flatMap (st3 k))[i * 3 + j]? = (zs[i]?).bind fun z => (st3 k z)[j]? := by
    intro zs
    induction zs with
    | nil => intro i j _; simp
    | cons z zs ih =>
      intro i j hj
      have e3 : (st3 k z).length = 3 := rfl
      rw [List.flatMap_cons]
      cases i with
      | zero => rw [aHW (by rw [e3]; omega)]; simp
      | succ i =>
        rw [aIn (by rw [e3]; omega), e3, show (i + 1) * 3 + j - 3 = i * 3 + j from by omega, ih i j hj]
        simp
   have h3 := get ((List.range len).map Z) (i / 3) (i % 3) (aI1 _ (by omega))
   rw [show i / 3 * 3 + i % 3 = i from by omega] at h3
   rw [h3, aH9, List.getElem?_range hq]
   rfl
  .obtain ⟨i, hi, rfl⟩ := aIx.1 hz
   exact (hZ i (aIw.1 hi)).1
end Go.En
namespace Go.Proofs.YtaggdjhhmbnhoaaDoor
open Go Go.En Go.Pu
set_option maxRecDepth 4000
def sqI (z : Int × Int × Int) : Sq := ⟨z.1.toNat, z.2.1.toNat, z.2.2.toNat⟩
theorem wf_u32 {x : Int} (h : (Lit.int .u32 x).wf = true) : 0 <= x /\ x <= 4294967295 := by simpa [Lit.wf, IntKind.min, IntKind.max, IntKind.signed, IntKind.bits] using h
theorem aFp {z : Int × Int × Int} (h : wf3 .u32 z) : st3 .u32 z = Tc (sqI z) /\ ∀ k, kv (sqI z) k < 4294967296 := by
 obtain ⟨h0, h1, h2⟩ := h
 have g0 := wf_u32 h0
 have g1 := wf_u32 h1
 have g2 := wf_u32 h2
 refine ⟨?_, fun k => ?_⟩
 .unfold st3 Tc sqI
  simp only
  rw [Int.toNat_of_nonneg g0.1, Int.toNat_of_nonneg g1.1, Int.toNat_of_nonneg g2.1]
 .unfold kv sqI
  split <;> (try split) <;> simp only <;> omega
theorem aHa : ∀ {zs : List (Int × Int × Int)}, (∀ z ∈ zs, wf3 .u32 z) -> zs.flatMap (st3 .u32) = Tb (zs.map sqI)
 | [], _ => rfl
 | z :: zs, h => by
   have e : Tb ((z :: zs).map sqI) = Tc (sqI z) ++ Tb (zs.map sqI) := rfl
   rw [List.flatMap_cons, aHa fun x hx => h x (aH0 _ hx), e, (aFp (h z (aIL ..))).1]
theorem kvI {zs : List (Int × Int × Int)} (h : ∀ z ∈ zs, wf3 .u32 z) : ∀ q ∈ zs.map sqI, ∀ k, kv q k < 4294967296 := fun q hq => by
 obtain ⟨z, hz, rfl⟩ := aIx.1 hq
 exact (aFp (h z hz)).2
theorem ajB {v : aJ3} {zs : List (Int × Int × Int)} {at' n : Nat} {w : aJ2} (hg : tR w) (hc : Cl w 3 v zs.length (zs.flatMap (st3 .u32))) (h : ∀ z ∈ zs, wf3 .u32 z) (hat : at' < 65536) (hn : n < 256) :
 aR pg sP #[v, .int .u16 at', .int .u8 n] w (fun r w' => r = .bool true /\ aS w w' cM) :=
 aoC (l0 := zs.map sqI) hg (by rw [<- aHa h, aHU]; exact hc) (kvI h) hat hn
end Go.Proofs.YtaggdjhhmbnhoaaDoor

/- Parts of the proof of LiteralsBehind: merged and given short names by a program of ours. -/
import Derived.WalkKit
import Derived.ProofKit
import Derived.OpenShut
import Derived.Test.YtgpimhlgaokobaaZdC
set_option linter.unusedVariables false
set_option linter.unusedSimpArgs false
open Bool renaming false_eq_true → aiD, and_eq_true → aiN, not_true → ajB
open Int renaming toNat_natCast → aiB, tmod_eq_emod_of_nonneg → ajO, tdiv_eq_ediv_of_nonneg → akG, fdiv_eq_ediv_of_nonneg → alK
open List renaming getElem?_cons_zero → ahZ, getElem?_cons_succ → aiA, length_append → aiE, set_cons_succ → aiF, set_cons_zero → aiG, getElem?_eq_getElem → aiH, length_map → aiI, getD_eq_getElem?_getD → aiJ, getElem?_eq_none → aiO, length_cons → aiP, take_succ_cons → aiQ, length_take → aiR, mem_cons_of_mem → aiT, drop_zero → aiU, length_drop → aiV, take_zero → aiW, getElem?_append_left → aiX, map_append → aiZ, getElem?_map → ajA, map_congr_left → ajH, append_assoc → ajI, mem_range → ajL, length_eq_zero_iff → ajM, mem_append → ajT, mem_cons → ajW, getElem?_take_of_lt → akA, append_nil → akB, mem_of_getElem? → akH, cons_append → akJ, getElem_mem → akK, take_of_length_le → akP, mem_append_left → akS, length_replicate → akW, map_cons → akZ, mem_of_mem_take → alB, take_add_one → alD, nil_append → alE, take_append_of_le_length → alT, drop_succ_cons → alV, getElem_of_mem → amI, map_drop → amJ, take_left' → amL, mem_singleton → amM, mem_append_right → amO, map_take → amT, drop_left' → amZ, getElem_cons_zero → anE, map_nil → anO, map_map → anQ
open Nat renaming zero_add → aiC, pow_le_pow_right → aiK, le_refl → aiM, lt_or_ge → aiS, two_pow_pos → aiY, mul_comm → ajD, mul_le_mul_right → ajG, mod_eq_of_lt → ajJ, add_mul → ajR, pow_succ → ajU, min_eq_left → ajY, pow_add → akC, add_sub_cancel → akO, le_trans → akT, div_le_self → alG, add_assoc → alJ, mod_two_eq_zero_or_one → alL, mod_lt → amD, zero_le → amE, one_mul → amU, mul_add → amV, lt_trichotomy → anC, div_eq_of_lt → anL
open Option renaming map_some → ajS
open Prod.mk renaming inj → alR
open UInt8 renaming toNat_lt → ajV, toNat_ofNat_of_lt' → akY
namespace Go.Proofs.Ytgpimhlgaokobaa
open Go Go.En Go.Pu
set_option maxRecDepth 4000
abbrev kJ (m : List Nat) : List UInt8 := m.map UInt8.ofNat
theorem Qa {m : List Nat} (h : ∀ x ∈ m, x < 256) : aU (kJ m) = m := by
 unfold aU kJ
 rw [anQ]
 conv => rhs; rw [<- List.map_id m]
 apply ajH
 intro x hx
 show (UInt8.ofNat x).toNat = x
 exact akY (h x hx)
theorem Ut {x : Nat} (h : x < 256) : lL (UInt8.ofNat x) = .int .u8 (x : Nat) := by
 unfold lL; rw [akY h]
theorem Ti (l : List UInt8) : kJ (aU l) = l := by
 unfold kJ aU
 rw [anQ]
 conv => rhs; rw [<- List.map_id l]
 apply ajH
 intro x _
 show UInt8.ofNat x.toNat = x
 simp
theorem agG {x : Nat} (h : x < 256) : Jn .u8 (x : Int) 15 = ((x % 16 : Nat) : Int) := by
 have : ∀ k : Fin 256, Jn .u8 (k.val : Int) 15 = ((k.val % 16 : Nat) : Int) := by decide +kernel
 exact this ⟨x, h⟩
theorem QU {base i c : Nat} {bv t15 t16 v' : anV} {cells : List anV} {w : anU} (o : oI w base 1 v' i cells) (hb : base <= w.heap.size) (hi : i <= 100000) (hc : c < 256) {kn : anV -> anV -> anV -> anV -> anU -> Prop}
 (hK : ∀ v2 w2, oI w2 base 1 v2 (i + 1) (cells ++ [.int .u8 (c % 16 : Nat)]) -> aR w w2 (fun y => base <= y) -> kn bv v2 t15 t16 w2) : mJ kn bv v' (.int .u8 c) t15 t16 w := by
 unfold mJ
 have e6 := agG (x := c) hc
 obtain ⟨av, cv, rfl⟩ := o.len
 simp (disch := omega) only [aD, He, e6, aA]
 refine iC (cells := #[.int .u8 (c % 16 : Nat)]) (by decide) (by decide) (by kernel_rfl) fun w5 o5 x5 s5 => ?_
 have z5 := x5.size
 refine fA (m := 1) (news := [.int .u8 (c % 16 : Nat)]) (o.ext x5 (fun _ _ h => h)) (o5.cl (off := 0) (l := [.int .u8 (c % 16 : Nat)]) (n := 1) rfl (fun i hi => by rw [aiC])) (by simp [one]) (by omega) (by omega) fun v6 w6 o6 x6 => ?_
 exact hK v6 w6 o6 ((x5.mono fun _ _ h => h.elim).seq x6)
theorem ZQ {v : anV} {l : List UInt8} {n : Nat} {w : anU} (h : Bs w v l) (hl : l.length <= 100000) (hn : n <= 100000) :
 aP pg tX #[v, .int .i64 n] w (fun r w' => ((l.length < (n + 1) / 2 /\ r = .tuple #[.slice none 0 0, .int .i64 10]) ∨
  ((n + 1) / 2 <= l.length /\ ∃ v', r = .tuple #[v', .int .i64 0] /\ oI w' w.heap.size 1 v' n ((kJ (gF (aU l) n)).map lL))) /\ aR w w' dH) := by
 refine LS ?_
 obtain ⟨a, n', c, rfl, hn', hc, hh⟩ := id h
 rw [aiI] at hn'
 subst hn'
 have e1 : (n : Int) + 1 = ((n + 1 : Nat) : Int) := by omega
 have e2 : ((n + 1 : Nat) : Int).tdiv 2 = (((n + 1) / 2 : Nat) : Int) := by rw [akG (by omega)]; omega
 unfold KF xF vZ
 by_cases hsh : l.length < (n + 1) / 2
 .have d1 : decide ((l.length : Int) < (((n + 1) / 2 : Nat) : Int)) = true := by simp only [decide_eq_true_eq]; omega
  simp (disch := omega) only [aD, aN, bQ, e1, aT, and_true, aA, Hx, e2, aY, d1, aF]
  exact ⟨.inl hsh, aR.refl _ _⟩
 have d1 : decide ((l.length : Int) < (((n + 1) / 2 : Nat) : Int)) = false := by simp only [decide_eq_false_iff_not]; omega
 simp (disch := omega) only [aD, aN, bQ, e1, aT, and_true, aA, Hx, e2, aY, d1, aE]
 unfold wT vY vX wP xI
 refine cK.rule (fun m (t : anV × anV) w' => ∃ (i : Nat) (v' : anV), m = n - i /\ t = (v', .int .i64 i) /\ i <= n /\ oI w' w.heap.size 1 v' i ((kJ (gF (aU l) i)).map lL) /\ aR w w' dH) n
  ⟨0, _, rfl, rfl, by omega, oI.nil _ _ _, aR.refl _ _⟩ ?_
 rintro m t w1 ⟨i, v', rfl, rfl, hi, o1, x1⟩
 unfold qW zT
 by_cases hlt : i < n
 .have d2 : decide ((i : Int) < (n : Int)) = true := by simp; omega
  obtain ⟨b, off, rfl, hcell⟩ := slA (h.ext x1 (aW _)) (by omega)
  have e3 : (i : Int).tdiv 2 = ((i / 2 : Nat) : Int) := by rw [akG (by omega)]; omega
  have e4 : (i : Int).tmod 2 = ((i % 2 : Nat) : Int) := by rw [ajO (by omega)]; omega
  have hi2 : i / 2 < l.length := by omega
  have g1 := hcell (i / 2) hi2
  rw [ajA, aiH hi2] at g1
  simp only [ajS, lL] at g1
  have hgd := Xm hi2
  have hs := TZ (aU l) i
  have hf : QH (aU l) i = if i % 2 = 0 then (aU l).getD (i / 2) 0 / 16 else (aU l).getD (i / 2) 0 % 16 := rfl
  rw [hgd] at hf
  have hx : (l[i / 2]).toNat < 256 := ajV _
  have hf16 := Vr (Un l) i
  generalize (l[i / 2]).toNat = x at *
  generalize QH (aU l) i = y at *
  have z1 := x1.size
  have hy : lL (UInt8.ofNat y) = .int .u8 (y : Nat) := Ut (by omega)
  have hcells : ∀ c : Nat, c % 16 = y -> ((kJ (gF (aU l) i)).map lL ++ [.int .u8 (c % 16 : Nat)]) = (kJ (gF (aU l) (i + 1))).map lL := fun c hc => by
   rw [hs, hc]
   simp only [kJ, aiZ, akZ, anO, hy]
  unfold yW An FJ yR
  by_cases hev : i % 2 = 0
  .have n2 : (((i % 2 : Nat) : Int) == 0) = true := by rw [hev] <;> rfl
   rw [if_pos hev] at hf
   have e5 : (x : Int).fdiv (2 ^ (min 4 IntKind.u8.bits)) = ((x / 16 : Nat) : Int) := by
    rw [show min 4 IntKind.u8.bits = 4 from rfl, alK _ (by omega)]; omega
   have t4 : (4 : Int).toNat = 4 := rfl
   simp (disch := omega) only [aD, aY, d2, Hx, e3, aT, EM, e4, aA, dV, n2, aF, cJ, aiB, dY, g1, aH, uT, t4, e5]
   refine QU (c := x / 16) o1 (by omega) (by omega) (by omega) fun v2 w2 o2 x2 => ?_
   rw [hcells _ (by omega)] at o2
   unfold mD
   simp (disch := omega) only [aD, bQ, aT, aA]
   exact ⟨n - (i + 1), by omega, i + 1, _, rfl, rfl, by omega, o2, x1.trans x2 fun b hb h => by omega⟩
  .have n2 : (((i % 2 : Nat) : Int) == 0) = false := beq_eq_false_iff_ne.2 (by omega)
   rw [if_neg hev] at hf
   simp (disch := omega) only [aD, aY, d2, Hx, e3, aT, EM, e4, aA, dV, n2, aE, cJ, aiB, dY, g1, aH, aF]
   refine QU (c := x) o1 (by omega) (by omega) (by omega) fun v2 w2 o2 x2 => ?_
   rw [hcells _ (by omega)] at o2
   unfold mD
   simp (disch := omega) only [aD, bQ, aT, aA]
   exact ⟨n - (i + 1), by omega, i + 1, _, rfl, rfl, by omega, o2, x1.trans x2 fun b hb h => by omega⟩
 .have d2 : decide ((i : Int) < (n : Int)) = false := by simp; omega
  obtain rfl : i = n := by omega
  unfold rP
  simp (disch := omega) only [aD, aY, d2, aA, aE]
  exact ⟨.inr ⟨by omega, v', rfl, o1⟩, x1⟩
def Eh (w : anU) (base : Nat) (h : Nat) (rest : List UInt8) (r : anV) : Prop :=
 if rest.length < (h - 127 + 1) / 2 then r = .tuple #[.slice none 0 0, .int .i64 0, .int .i64 10]
 else match pD (gF (aU rest) (h - 127)) with
  | none => r = .tuple #[.slice none 0 0, .int .i64 0, .int .i64 11]
  | some k => ∃ v, r = .tuple #[v, .int .i64 (1 + (h - 127 + 1) / 2 : Nat), .int .i64 0] /\ oI w base 1 v (h - 127 + 1) ((kJ (gF (aU rest) (h - 127)) ++ [UInt8.ofNat k]).map lL)
theorem UE {v : anV} {h : Nat} {rest : List UInt8} {l : List UInt8} {w : anU} (hb : Bs w v l) (hle : l = UInt8.ofNat h :: rest) (hh : 128 <= h) (hh2 : h < 256) (hl : rest.length <= 10000) :
 aP pg sX #[v] w (fun r w' => Eh w' w.heap.size h rest r /\ aR w w' dH) := by
 refine yP ?_
 obtain ⟨RR, hRR⟩ : ∃ RR : anV -> anU -> Prop, RR = fun r w' => Eh w' w.heap.size h rest r /\ aR w w' dH := ⟨_, rfl⟩
 rw [<- hRR]
 have key : ∀ r w', Eh w' w.heap.size h rest r -> aR w w' dH -> RR r w' := fun r w' h1 h2 => by rw [hRR]; exact ⟨h1, h2⟩
 have hll : l.length = rest.length + 1 := by rw [hle] <;> rfl
 obtain ⟨b, off, c, rfl, hc, hcell⟩ := El hb (by omega)
 have g0 := hcell 0 (by omega)
 have hl0 : (l[0]'(by omega)).toNat = h := by
  subst hle
  exact akY hh2
 rw [hl0] at g0
 have hsub := hb.drop' (k := 1) (by omega)
 rw [<- amJ] at hsub
 have hdr : l.drop 1 = rest := by rw [hle] <;> rfl
 rw [hdr, hll] at hsub
 have n0 : ((l.length : Int) == 0) = false := beq_eq_false_iff_ne.2 (by omega)
 have d1 : decide ((128 : Int) <= (h : Int)) = true := by simp; omega
 have e1 : (h : Int) - 128 = ((h - 128 : Nat) : Int) := by omega
 have e2 : ((h - 128 : Nat) : Int) + 2 = ((h - 126 : Nat) : Int) := by omega
 have e3 : ((h - 126 : Nat) : Int).tdiv 2 = (((h - 127 + 1) / 2 : Nat) : Int) := by rw [akG (by omega)]; omega
 have e4 : ((h - 128 : Nat) : Int) + 1 = ((h - 127 : Nat) : Int) := by omega
 have t0 : (0 : Int).toNat = 0 := rfl
 have t1 : (1 : Int).toNat = 1 := rfl
 unfold Da pS pT
 simp (disch := omega) only [aD, aN, cJ, t0, eD, t1, aA, dY, dV, n0, g0, aH, gH, aT, lK, d1, fJ, e1, bQ, e4, e2, Hx, e3, aY, aF, aE]
 rw [hll]
 refine (ZQ hsub (by omega) (by omega)).mono ?_
 rintro r w1 ⟨⟨hsh, rfl⟩ | ⟨hsh, v1, rfl, o1⟩, x1⟩
 .have n1 : ((10 : Int) != 0) = true := rfl
  unfold gW
  simp (disch := omega) only [oH, oF, aD, bQ, aT, aA, cO, n1, aF]
  refine key _ _ ?_ x1
  unfold Eh
  rw [if_pos hsh]
 .have n1 : ((0 : Int) != 0) = false := rfl
  have hlt : ∀ x ∈ gF (aU rest) (h - 127), x < 256 := fun x hx => by have := Wd (Un rest) _ x hx; omega
  have hbs : Bs w1 v1 (kJ (gF (aU rest) (h - 127))) := o1.sl
  have z1 := x1.size
  obtain ⟨av, cv, rfl⟩ := o1.len
  unfold gW
  simp (disch := omega) only [oH, oF, aD, bQ, aT, aA, cO, n1, aE]
  refine (Xz hbs (by simp [yV]; omega)).mono ?_
  rintro r w2 ⟨hwo, x2⟩
  rw [Qa hlt] at hwo
  cases hw : pD (gF (aU rest) (h - 127)) with
  | none =>
    rw [hw] at hwo
    obtain rfl := hwo
    have n2 : ((11 : Int) != 0) = true := rfl
    simp (disch := omega) only [oH, oF, aA, cO, n2, aF]
    refine key _ _ ?_ (x1.seq x2)
    unfold Eh
    rw [if_neg (by omega), hw]
  | some k =>
    rw [hw] at hwo
    obtain ⟨v2, rfl, o2⟩ := hwo
    have e5 : (1 : Int) + (((h - 127 + 1) / 2 : Nat) : Int) = ((1 + (h - 127 + 1) / 2 : Nat) : Int) := by omega
    have hlen : (kJ (gF (aU rest) (h - 127))).length = h - 127 := by simp [yV]
    rw [hlen] at o2
    simp (disch := omega) only [oH, oF, e5, aA, cO, n1, aE]
    refine key _ _ ?_ (x1.seq x2)
    unfold Eh
    rw [if_neg (by omega), hw]
    refine ⟨v2, rfl, o2.1, ?_⟩
    rcases o2.2 with h | ⟨b, c, rest', q1, q2, q3⟩
    .exact .inl h
    .exact .inr ⟨b, c, rest', q1, by omega, q3⟩
def uH (L : List T3) (s : Nat) : Nat := match L[s]? with | some e => e.1.toNat | none => 0
def stN (L : List T3) (B : List Bool) : Nat -> Nat -> Nat -> Nat -> List Nat -> Option (List Nat)
 | 0, _, _, _, _ => none
 | f + 1, a, b, left, out =>
   if left < iX L a then (if 255 < out.length + 2 then none else some (out ++ [uH L a, uH L b]))
   else stN L B f b (BC L a (mT (B.take left) (iX L a))).toNat (left - iX L a) (out ++ [uH L a])
structure Vld (L : List T3) : Prop where
 low : Low L
 sy : ∀ e ∈ L, 0 <= e.1 /\ e.1 < 256
 nx : ∀ s : Nat, s < L.length -> ∀ x : Nat, x < 2 ^ iX L s -> 0 <= BC L s x /\ (BC L s x).toNat < L.length
 len : L.length <= 32768
theorem R2 {log : Nat} {ps : List Int} (hm : Vd log ps) : Vld (qR log ps) := by
 have hl := qE log ps
 have h15 := hm.log15
 have hp : 2 ^ log <= 2 ^ 15 := aiK (by omega) h15
 refine ⟨W7 hm, Yl hm, fun s hs x hx => ?_, by omega⟩
 rw [hl] at hs ⊢
 obtain ⟨sy, hsy, h1, h2, h3, h4, h5⟩ := Ue hm (HV hm 0) hs
 have hat := To (ps := ps) hs
 have hb : iX (qR log ps) s = log + 1 - bl (Xw ps (jL 0 log ps) s) := by
  unfold iX
  rw [if_pos (by omega), aiB, hat]; simp [MI, Iy]
 have hn : BC (qR log ps) s x = ((Xw ps (jL 0 log ps) s * 2 ^ (log + 1 - bl (Xw ps (jL 0 log ps) s)) : Nat) : Int) - 2 ^ log + x := by
  unfold BC
  rw [if_pos (by omega), aiB, hat]; simp [MI, Iy]
 rw [hb] at hx
 rw [hn]
 have hk : Xw ps (jL 0 log ps) s < 2 ^ (log + 1) := by rw [h4, ajU]; omega
 have hk1 : 1 <= Xw ps (jL 0 log ps) s := by rw [h4]; omega
 obtain ⟨q1, q2, q3, q4⟩ := Xh hk1 hk
 generalize Xw ps (jL 0 log ps) s = k at *
 generalize log + 1 - bl k = n at *
 rw [ajR, amU, ajU] at q2
 have hpow : ((2 ^ log : Nat) : Int) = (2 : Int) ^ log := by simp
 rw [<- hpow]
 generalize k * 2 ^ n = q at *
 generalize 2 ^ n = r at *
 generalize 2 ^ log = N at *
 omega
abbrev u8s (m : List Nat) : List anV := m.map fun (x : Nat) => Value.int .u8 x
theorem U8 {m : List Nat} (h : ∀ x ∈ m, x < 256) : (kJ m).map lL = u8s m := by
 show List.map lL (m.map UInt8.ofNat) = _
 rw [anQ]
 exact ajH fun x hx => Ut (h x hx)
theorem J2 {L : List T3} (h : Vld L) (s : Nat) : uH L s < 256 := by
 unfold uH
 cases hs : L[s]? with
 | none => simp
 | some e => have := h.sy e (akH hs); simp only; omega
theorem Xc {L : List T3} {B : List Bool} (h : Vld L) : ∀ {f a b left : Nat} {out m : List Nat}, stN L B f a b left out = some m -> (∀ x ∈ out, x < 256) -> (∀ x ∈ m, x < 256) /\ m.length <= 255
 | 0, _, _, _, _, _, e, _ => by cases e
 | f + 1, a, b, left, out, m, e, ho => by
   rw [stN] at e
   split at e
   .split at e
    .cases e
    .cases e
     refine ⟨fun x hx => ?_, by rw [aiE]; simp; omega⟩
     rcases ajT.1 hx with hx | hx
     .exact ho x hx
     .simp only [ajW, List.not_mem_nil, or_false] at hx
      rcases hx with rfl | rfl
      .exact J2 h a
      .exact J2 h b
   .refine Xc h e fun x hx => ?_
    rcases ajT.1 hx with hx | hx
    .exact ho x hx
    .rw [amM.1 hx]; exact J2 h a
theorem acY {base px i x : Nat} {v : anV} {cells : List anV} {w : anU} (o : OL w (fun b => base <= b /\ b ≠ px) 1 v i cells) (hb : base <= w.heap.size) (hp : px < w.heap.size) (hi : i <= 100000) {K : anV -> anU -> Prop}
 (hK : ∀ v2 w2, OL w2 (fun b => base <= b /\ b ≠ px) 1 v2 (i + 1) (cells ++ [.int .u8 x]) -> aR w w2 (fun y => base <= y /\ y ≠ px) -> K v2 w2) :
 aD pg (cD 22 1 [(0, .int .u8 x)]) w fun t w => aD pg (gD .append #[22, 22] 22 [v, t]) w fun t' w => K t' w := by
 refine iC (cells := #[.int .u8 x]) (by decide) (by decide) (by kernel_rfl) fun w5 o5 x5 s5 => ?_
 have z5 := x5.size
 refine oK (m := 1) (news := [.int .u8 x]) (i := Try.t5) Try.underlying22 Try.underlying22 FR rfl rfl rfl (o.ext x5 (fun _ _ h => h)) (o5.cl (off := 0) (l := [.int .u8 x]) (n := 1) rfl (fun i hi => by rw [aiC])) (by simp [one]) (fun b hb => ⟨by omega, by omega⟩) (by omega) (by rw [show Try.t5.bytes = 1 from rfl]; omega) (by decide) fun v6 w6 o6 x6 => ?_
 exact hK v6 w6 o6 ((x5.mono fun _ _ h => h.elim).seq x6)
theorem ZF {L : List T3} (h : Vld L) {s : Nat} (hs : s < L.length) : ∃ bs : Int, L[s] = ((uH L s : Int), (iX L s : Int), bs) := by
 have hsome : L[s]? = some L[s] := aiH hs
 obtain ⟨n, hn, hn2, _, _⟩ := h.low _ (akK hs)
 have hsy := h.sy _ (akK hs)
 refine ⟨L[s].2.2, ?_⟩
 have e1 : iX L s = n := by unfold iX; simp [hsome, hn]
 have e2 : ((uH L s : Nat) : Int) = L[s].1 := by unfold uH; simp only [hsome]; omega
 rw [e1, e2, <- hn]
def YV (i a b : Nat) : List anV := if i % 2 = 0 then [.int .i64 a, .int .i64 b] else [.int .i64 b, .int .i64 a]
theorem Uu (i a b : Nat) : (YV i a b)[i % 2]? = some (.int .i64 a) := by
 unfold YV
 rcases alL i with h | h <;> rw [h] <;> simp
theorem acA (i a b : Nat) : (YV i a b)[(i + 1) % 2]? = some (.int .i64 b) := by
 unfold YV
 rcases alL i with h | h
 .rw [h, show (i + 1) % 2 = 1 from by omega]; simp
 .rw [h, show (i + 1) % 2 = 0 from by omega]; simp
theorem abA (i a b c : Nat) : (YV i a b).set (i % 2) (.int .i64 c) = YV (i + 1) b c := by
 unfold YV
 rcases alL i with h | h
 .rw [h, show (i + 1) % 2 = 1 from by omega]; simp
 .rw [h, show (i + 1) % 2 = 0 from by omega]; simp
theorem aaL (i a b : Nat) : (YV i a b).length = 2 := by unfold YV; split <;> rfl
theorem Um {p8 p9 b hi lo log : Nat} {L : List T3} {l : List UInt8} {a0 b0 left0 : Nat} {w : anU} (hv : Vld L) (hl : l.length <= 100000)
 (o8 : cL w p8 [.int .i64 log, .slice (some ⟨b, 0, none⟩) L.length L.length]) (ob : cL w b (fe .u8 L)) (o9 : cL w p9 (YV 0 a0 b0)) (hbw : SS w lo hi l left0)
 (hne : p8 ≠ hi /\ b ≠ hi /\ p9 ≠ hi /\ p8 ≠ p9 /\ b ≠ p9 /\ lo <= hi /\ hi < p9) (ha : a0 < L.length) (hb : b0 < L.length) (hleft : left0 <= 8 * l.length) {G : Option (List Nat)} (hG : stN L (aQ l) 256 a0 b0 left0 [] = G)
 {R : anV -> anU -> Prop} (hR : ∀ v w' e, (match G with | none => v = .slice none 0 0 /\ e = 11 | some m => oI w' w.heap.size 1 v m.length (u8s m) /\ e = 0) -> aR w w' (fun y => y = p9 ∨ y = hi) -> R (.tuple #[v, .int .i64 e]) w') :
 rI R (.pointer (some ⟨hi, 0, none⟩)) (.pointer (some ⟨p8, 0, none⟩)) (.pointer (some ⟨p9, 0, none⟩)) (.slice none 0 0) w := by
 obtain ⟨n1, n2, n3, n4, n5, n6, n7⟩ := hne
 have q8 := o8.lt
 have q9 := o9.lt
 have qb := ob.lt
 have qh := hbw.choose_spec.1.lt
 unfold rI zB As yZ yY
 refine cK.rule (fun m (t : anV × anV) w' => ∃ (i a b' left : Nat) (out : List Nat) (ov : anV), m = 256 - i /\ t = (ov, .int .i64 i) /\ i <= 256 /\ out.length = i /\ a < L.length /\ b' < L.length /\ left <= 8 * l.length /\
  cL w' p9 (YV i a b') /\ SS w' lo hi l left /\ stN L (aQ l) (256 - i) a b' left out = G /\ oI w' w.heap.size 1 ov i (u8s out) /\ aR w w' (fun y => y = p9 ∨ y = hi ∨ w.heap.size <= y)) 256
  ⟨0, a0, b0, left0, [], _, rfl, rfl, by omega, rfl, ha, hb, hleft, o9, hbw, hG, oI.nil _ _ _, aR.refl _ _⟩ ?_
 clear o9 hbw hG hleft ha hb
 rintro m t w1 ⟨i, a, b', left, out, ov, rfl, rfl, hi6, hol, ha, hb', hleft, o9, hbw, hG, oo, x1⟩
 have z1 := x1.size
 have x1n : ∀ w2, aR w1 w2 (fun y => y = p9 ∨ y = hi ∨ w.heap.size <= y) -> aR w w2 (fun y => y = p9 ∨ y = hi) := fun w2 x2 => (x1.seq x2).mono fun y hy h => by
  rcases h with h | h | h
  .exact .inl h
  .exact .inr h
  .omega
 have hos : ∀ {w2 : anU}, aR w1 w2 (fun y => w.heap.size <= y) -> aR w w2 (fun y => y = p9 ∨ y = hi ∨ w.heap.size <= y) := fun x2 => x1.seq (x2.mono fun _ _ h => .inr (.inr h))
 unfold rR
 by_cases hlt : i < 256
 case neg =>
  have d1 : decide ((i : Int) < 256) = false := by simp; omega
  obtain rfl : i = 256 := by omega
  obtain ⟨ao, co, rfl⟩ := oo.len
  have d2 : decide ((256 : Int) <= ((256 : Nat) : Int)) = true := by decide
  unfold mB
  simp (disch := omega) only [aD, aY, d1, fD, aiC, EM, eL, Result.ok.injEq, Next.value.injEq, and_true, bQ, aT, true_and, aA, iU, aN, lK, d2, aF, aE]
  refine hR _ _ 11 ?_ (x1n _ (aR.refl _ _))
  rw [<- hG]
  exact ⟨rfl, rfl⟩
 have d1 : decide ((i : Int) < 256) = true := by simp; omega
 have e1 : (i : Int).tmod 2 = ((i % 2 : Nat) : Int) := by rw [ajO (by omega)]; simp
 have e2 : ((i : Int) + 1).tmod 2 = (((i + 1) % 2 : Nat) : Int) := by rw [ajO (by omega)]; omega
 have hj := amD i (show 0 < 2 by omega)
 have hj1 := amD (i + 1) (show 0 < 2 by omega)
 have tj : ((i % 2 : Nat) : Int).toNat = i % 2 := aiB _
 have tj1 : (((i + 1) % 2 : Nat) : Int).toNat = (i + 1) % 2 := aiB _
 have ta : (a : Int).toNat = a := aiB _
 have tb : (b' : Int).toNat = b' := aiB _
 obtain ⟨bs, hea⟩ := ZF hv ha
 obtain ⟨bs2, heb⟩ := ZF hv hb'
 have hta := XW (k := .u8) ha
 have htb := RE .u8 L b' hb'
 rw [hea] at hta
 rw [heb] at htb
 have hbl := Yg hv.low a
 have hsa := J2 hv a
 have hsb := J2 hv b'
 have ho8 : ∀ {w2 : anU}, aR w w2 (fun y => y = p9 ∨ y = hi ∨ w.heap.size <= y) -> cL w2 p8 [.int .i64 log, .slice (some ⟨b, 0, none⟩) L.length L.length] := fun x => o8.ext x (by omega)
 have hob : ∀ {w2 : anU}, aR w w2 (fun y => y = p9 ∨ y = hi ∨ w.heap.size <= y) -> cL w2 b (fe .u8 L) := fun x => ob.ext x (by omega)
 have hent : ∀ {w2 : anU}, cL w2 b (fe .u8 L) -> (aL 88 (.pointer (some ⟨b, a * 3, none⟩))).run pg w2 = .ok (.value (.agg #[.int .u8 (uH L a), .int .i64 (iX L a), .int .i64 bs])) w2 := fun o => by
  have := ML (off := a * 3) o (by rw [A1]; omega)
  rw [hta] at this
  exact this
 have x1d : aR w (dr w1) (fun y => y = p9 ∨ y = hi ∨ w.heap.size <= y) := x1.seq (aR.dr _ _)
 have c8 := (ho8 x1d).cell (off := 1)
 have c9 := (fT o9).cell (off := i % 2)
 rw [Uu] at c9
 simp only [ahZ, aiA] at c8
 have l1 := hent (hob x1d)
 simp (disch := omega) only [aD, aY, d1, fD, aiC, EM, e1, eL, Result.ok.injEq, Next.value.injEq, and_true, bQ, aT, true_and, aA, NH, bH, iU, tj, c8, aH, c9, lQ, ta, l1, aF]
 refine Ot fun w2 o2 x2 s2 => ?_
 have x12 : aR w1 w2 dH := (aR.dr _ _).seq x2
 have xw2 := x1.seq (x12.mono fun _ _ h => h.elim)
 have c8' := (ho8 xw2).cell (off := 1)
 have c9' := (o9.ext x12 (fun h => h)).cell (off := i % 2)
 rw [Uu] at c9'
 simp only [ahZ, aiA] at c8'
 have l1' := hent (hob xw2)
 simp (disch := omega) only [l1', c9', aH, c8', and_true, kH, rC, aiC, Result.ok.injEq, Next.value.injEq, aA, bH, true_and, dY]
 refine My o2 rfl (by simp [one]) (by simp) fun w3 o3 x3 s3 => ?_
 simp only [cG, aiG, aiF] at o3
 have hsz2 : (dr w1).heap.size = w1.heap.size := rfl
 rw [hsz2] at o3 x3
 simp only [hsz2]
 have x13 : aR w1 w3 dH := x12.new x3 (aiM _)
 have z3 := o3.lt
 have k0 := o3.cell (off := 0)
 simp only [ahZ, aiA] at k0
 simp (disch := omega) only [k0, aH, aA]
 have os3 := (oo.ne (p := w1.heap.size) (aiM _)).ext x13 (fun _ _ h => h)
 refine acY os3 (by omega) (by omega) (by omega) fun v4 w4 o4 x4 => ?_
 have x14 : aR w1 w4 (fun y => w.heap.size <= y) := (x13.mono fun _ _ h => h.elim).seq (x4.mono fun _ _ h => h.1)
 have z4 := x14.size
 have z34 := x4.size
 have hob4 : u8s out ++ [.int .u8 (uH L a : Nat)] = u8s (out ++ [uH L a]) := by show _ = List.map _ (out ++ [uH L a]); rw [aiZ] <;> rfl
 rw [hob4] at o4
 have o34 := o3.ext x4 (by omega)
 have hbw4 : SS (dr w4) lo hi l left := (hbw.ext x14 (fun b h1 h2 => by omega) n6).ext (aR.dr _ dH) (fun _ _ _ h => h) n6
 refine (P9 hbw4).mono ?_
 rintro r w5 ⟨rfl, rfl⟩
 have k1 := (fT o34).cell (off := 1)
 simp only [ahZ, aiA] at k1
 have xw4 := hos x14
 have xw5 : aR w (dr (dr w4)) (fun y => y = p9 ∨ y = hi ∨ w.heap.size <= y) := (xw4.seq (aR.dr _ _)).seq (aR.dr _ _)
 have x15 : aR w1 (dr (dr w4)) (fun y => w.heap.size <= y) := (x14.seq (aR.dr _ _)).seq (aR.dr _ _)
 have c8 := (ho8 xw5).cell (off := 1)
 simp only [ahZ, aiA] at c8
 have o9d := o9.ext x15 (by omega)
 obtain ⟨f, hf⟩ : ∃ f, 256 - i = f + 1 := ⟨255 - i, by omega⟩
 rw [hf, stN] at hG
 by_cases hsh : left < iX L a
 .have d3 : decide ((left : Int) < ((iX L a : Nat) : Int)) = true := by simp only [decide_eq_true_eq]; omega
  rw [if_pos hsh] at hG
  have c9 := o9d.cell (off := (i + 1) % 2)
  rw [acA] at c9
  have m0 := (hob xw5).cell (off := b' * 3)
  rw [htb.1] at m0
  simp (disch := omega) only [k1, aH, Result.ok.injEq, Next.value.injEq, and_true, c8, e2, tj1, c9, aA, true_and, lQ, tb, aiC, kH, dY, m0, aY, d3, aF]
  have o5 := (o4.ext (aR.dr w4 dH) (fun _ _ h => h)).ext (aR.dr (dr w4) dH) (fun _ _ h => h)
  have hszd : (dr (dr w4)).heap.size = w4.heap.size := rfl
  refine acY o5 (by rw [hszd]; omega) (by rw [hszd]; omega) (by omega) fun v6 w6 o6 x6 => ?_
  have hob6 : u8s (out ++ [uH L a]) ++ [.int .u8 (uH L b' : Nat)] = u8s (out ++ [uH L a, uH L b']) := by show List.map _ (out ++ [uH L a]) ++ _ = List.map _ (out ++ [uH L a, uH L b']); rw [aiZ, aiZ, ajI] <;> rfl
  rw [hob6] at o6
  have o6l := o6.osl
  obtain ⟨a6, c6, rfl⟩ := o6.len
  unfold mB
  have x16 : aR w1 w6 (fun y => y = p9 ∨ y = hi ∨ w.heap.size <= y) := (x15.mono fun _ _ h => .inr (.inr h)).seq (x6.mono fun _ _ h => .inr (.inr h.1))
  by_cases h255 : 255 < out.length + 2
  .rw [if_pos h255] at hG
   have d4 : decide ((256 : Int) <= ((i + 1 + 1 : Nat) : Int)) = true := by simp only [decide_eq_true_eq]; omega
   simp (disch := omega) only [aD, aN, aA, lK, d4, aF]
   refine hR _ _ 11 ?_ (x1n _ x16)
   rw [<- hG]; exact ⟨rfl, rfl⟩
  .rw [if_neg h255] at hG
   have d4 : decide ((256 : Int) <= ((i + 1 + 1 : Nat) : Int)) = false := by simp only [decide_eq_false_iff_not]; omega
   simp (disch := omega) only [aD, aN, aA, lK, d4, aE]
   refine hR _ _ 0 ?_ (x1n _ x16)
   rw [<- hG]
   refine ⟨?_, rfl⟩
   rw [show (out ++ [uH L a, uH L b']).length = i + 1 + 1 from by rw [aiE]; simp; omega]
   exact o6l
 .have d3 : decide ((left : Int) < ((iX L a : Nat) : Int)) = false := by simp only [decide_eq_false_iff_not]; omega
  rw [if_neg hsh] at hG
  have c9 := o9d.cell (off := i % 2)
  rw [Uu] at c9
  have l8 := FQ (off := 0) (ho8 xw5) (by simp)
  simp only [aiU, aiQ, aiW] at l8
  simp (disch := omega) only [k1, aH, Result.ok.injEq, Next.value.injEq, and_true, l8, c9, aA, true_and, aY, d3, aE]
  have hbw5 : SS (dr (dr w4)) lo hi l left := hbw4.ext (aR.dr _ dH) (fun _ _ _ h => h) n6
  have hszd : (dr (dr w4)).heap.size = w4.heap.size := rfl
  refine (Ys (base := 0) (b := b) (L := L) (s := a) ⟨rfl, amE _, hob xw5⟩ hv.low (by have := hv.len; omega) hbw5 n6 (by omega) n2 (by omega) (by omega) (by omega)).mono ?_
  rintro r w6 ⟨rfl, hbw6, x6⟩
  have tl : (left : Int).toNat = left := aiB _
  rw [tl]
  have hln := vD ((aQ l).take left) (iX L a)
  obtain ⟨g1, g2⟩ := hv.nx a ha _ hln
  obtain ⟨c, hc⟩ : ∃ c : Nat, BC L a (mT ((aQ l).take left) (iX L a)) = c := ⟨_, (Int.toNat_of_nonneg g1).symm⟩
  rw [hc] at g2 hG ⊢
  rw [aiB] at g2 hG
  have o96 := o9d.ext x6 (by omega)
  refine jS o96 rfl (by rw [aaL]; omega) fun w7 o7 x7 s7 => ?_
  rw [abA] at o7
  have x17 : aR w1 w7 (fun y => y = p9 ∨ y = hi ∨ w.heap.size <= y) := ((x15.mono fun _ _ h => .inr (.inr h)).seq (x6.mono fun _ _ h => .inr (.inl h))).seq (x7.mono fun _ _ h => .inl h)
  have hbw7 := hbw6.ext x7 (fun b h1 h2 => by omega) n6
  have o47 := ((o4.ext (aR.dr w4 dH) (fun _ _ h => h)).ext (aR.dr (dr w4) dH) (fun _ _ h => h)).ext x6 (fun b h hh => by omega) |>.ext x7 (fun b h hh => by omega)
  refine ⟨f, by omega, i + 1, b', c, left - iX L a, out ++ [uH L a], v4, by omega, rfl, by omega, by rw [aiE, hol] <;> rfl, hb', g2, by omega, o7, ?_, ?_, o47.osl, x1.seq x17⟩
  .rw [show ((left - iX L a : Nat) : Int) = (left : Int) - (iX L a : Nat) from by omega]; exact hbw7
  .rw [show 256 - (i + 1) = f from by omega]; exact hG
def tL (l : List UInt8) : Except Int (List Nat) := match Ff (aQ l) 6 12 with
 | .error e => .error e
 | .ok (lg, ps, n) => match Q7 (l.drop n) with
   | none => .error 11
   | some k => if k < 2 * lg then .error 11 else
     match stN (qR lg ps) (aQ (l.drop n)) 256 (mT ((aQ (l.drop n)).take k) lg) (mT ((aQ (l.drop n)).take (k - lg)) lg) (k - 2 * lg) [] with
     | none => .error 11
     | some m => .ok m
def aeX (w : anU) (base : Nat) (o : Except Int (List Nat)) (r : anV) : Prop := match o with
 | .error e => r = .tuple #[.slice none 0 0, .int .i64 e]
 | .ok m => ∃ v, r = .tuple #[v, .int .i64 0] /\ oI w base 1 v m.length ((kJ m).map lL)
theorem WJ {l : List UInt8} {m : List Nat} (h : tL l = .ok m) : (∀ x ∈ m, x < 256) /\ m.length <= 255 := by
 unfold tL at h
 split at h
 .cases h
 .rename_i lg ps n hr
  obtain ⟨h1, h2, h3⟩ := Va hr
  have hm := h1 (by omega)
  split at h
  .cases h
  .split at h
   .cases h
   .split at h
    .cases h
    .rename_i hs
     cases h
     exact Xc (R2 hm) hs (by simp)
theorem Zt {p8 p9 b hi lo log k : Nat} {L : List T3} {l : List UInt8} {w : anU} (hl : l.length <= 100000) (hlog : log <= 15) (hlen : L.length = 2 ^ log)
 (o8 : cL w p8 [.int .i64 log, .slice (some ⟨b, 0, none⟩) L.length L.length]) (o9 : cL w p9 [.int .i64 0, .int .i64 0]) (hbw : SS w lo hi l k)
 (hne : p8 ≠ hi /\ p9 ≠ hi /\ p8 ≠ p9 /\ lo <= hi /\ hi < p9) (hk : k <= 8 * l.length) {R : anV -> anU -> Prop}
 (hR : ∀ w', cL w' p9 (YV 0 (mT ((aQ l).take k) log) (mT ((aQ l).take (k - log)) log)) -> SS w' lo hi l ((k : Int) - log - log) -> aR w w' (fun y => y = p9 ∨ y = hi) →
  rE R (.pointer (some ⟨hi, 0, none⟩)) (.pointer (some ⟨p8, 0, none⟩)) (.pointer (some ⟨p9, 0, none⟩)) w') :
 oR R (.pointer (some ⟨hi, 0, none⟩)) (.pointer (some ⟨p8, 0, none⟩)) (.pointer (some ⟨p9, 0, none⟩)) w := by
 obtain ⟨n1, n3, n4, n6, n7⟩ := hne
 have q9 := o9.lt
 have qh := hbw.choose_spec.1.lt
 have hp : 2 ^ log <= 2 ^ 15 := aiK (by omega) hlog
 unfold oR xC wQ vV xE
 have hla := vD ((aQ l).take k) log
 have hlb := vD ((aQ l).take (k - log)) log
 obtain ⟨a, ha⟩ : ∃ a, mT ((aQ l).take k) log = a := ⟨_, rfl⟩
 obtain ⟨b', hb'⟩ : ∃ a, mT ((aQ l).take (k - log)) log = a := ⟨_, rfl⟩
 rw [ha, hb'] at hR
 refine cK.rule (fun m (t : anV) w' => ∃ (i : Nat), m = 2 - i /\ t = .int .i64 i /\ i <= 2 /\ cL w' p9 (if i = 0 then [.int .i64 0, .int .i64 0] else if i = 1 then [.int .i64 a, .int .i64 0] else [.int .i64 a, .int .i64 b']) /\ SS w' lo hi l ((k : Int) - i * log) /\ aR w w' (fun y => y = p9 ∨ y = hi)) 2
  ⟨0, rfl, rfl, by omega, o9, by simpa using hbw, aR.refl _ _⟩ ?_
 rintro m t w1 ⟨i, rfl, rfl, hi2, o9, hbw, x1⟩
 have z1 := x1.size
 unfold oU
 have hcase : i = 0 ∨ i = 1 ∨ i = 2 := by omega
 have o81 := o8.ext x1 (by omega)
 have l8 := FQ (off := 0) o81 (by simp)
 simp only [aiU, aiQ, aiW] at l8
 rcases hcase with rfl | rfl | rfl
 .have d1 : decide (((0 : Nat) : Int) < 2) = true := rfl
  simp (disch := omega) only [aD, aY, d1, NH, aiB, aiC, bQ, aT, aA, l8, aF]
  refine (RS hbw n6 (by omega) (by omega) (by omega) (by omega) (by omega)).mono ?_
  rintro r w2 ⟨rfl, hbw2, x2⟩
  rw [show ((k : Int) - ((0 : Nat) : Int) * (log : Nat)).toNat = k from by omega, ha]
  refine jS (o9.ext x2 (by omega)) rfl (by simp) fun w3 o3 x3 s3 => ?_
  refine ⟨1, by omega, 1, rfl, rfl, by omega, o3, ?_, (x1.seq (x2.mono fun _ _ h => .inr h)).seq (x3.mono fun _ _ h => .inl h)⟩
  have := hbw2.ext x3 (fun b h1 h2 => by omega) n6
  rwa [show (k : Int) - ((0 : Nat) : Int) * (log : Nat) - (log : Nat) = (k : Int) - ((1 : Nat) : Int) * (log : Nat) from by omega] at this
 .have d1 : decide (((1 : Nat) : Int) < 2) = true := rfl
  have t1 : ((1 : Nat) : Int).toNat = 1 := rfl
  simp (disch := omega) only [aD, aY, d1, NH, aiB, aiC, bQ, aT, aA, l8, aF]
  refine (RS hbw n6 (by omega) (by omega) (by omega) (by omega) (by omega)).mono ?_
  rintro r w2 ⟨rfl, hbw2, x2⟩
  rw [show ((k : Int) - ((1 : Nat) : Int) * (log : Nat)).toNat = k - log from by omega, hb']
  refine jS (o9.ext x2 (by omega)) rfl (by simp) fun w3 o3 x3 s3 => ?_
  refine ⟨0, by omega, 2, rfl, rfl, by omega, o3, ?_, (x1.seq (x2.mono fun _ _ h => .inr h)).seq (x3.mono fun _ _ h => .inl h)⟩
  have := hbw2.ext x3 (fun b h1 h2 => by omega) n6
  rwa [show (k : Int) - ((1 : Nat) : Int) * (log : Nat) - (log : Nat) = (k : Int) - ((2 : Nat) : Int) * (log : Nat) from by omega] at this
 .have d1 : decide (((2 : Nat) : Int) < 2) = false := rfl
  simp (disch := omega) only [aD, aY, d1, bQ, aT, aA, aE]
  refine hR w1 o9 ?_ x1
  rwa [show (k : Int) - ((2 : Nat) : Int) * (log : Nat) = (k : Int) - (log : Nat) - (log : Nat) from by omega] at hbw
theorem ZY {v : anV} {l : List UInt8} {w : anU} (h : Bs w v l) (hl : l.length <= 1000) :
 aP pg tF #[v] w (fun r w' => aeX w' w.heap.size (tL l) r /\ aR w w' dH) := by
 refine LB ?_
 obtain ⟨RR, hRR⟩ : ∃ RR : anV -> anU -> Prop, RR = fun r w' => aeX w' w.heap.size (tL l) r /\ aR w w' dH := ⟨_, rfl⟩
 rw [<- hRR]
 have key : ∀ r w', aeX w' w.heap.size (tL l) r -> aR w w' dH -> RR r w' := fun r w' h1 h2 => by rw [hRR]; exact ⟨h1, h2⟩
 obtain ⟨av, nv, cv, hvv, hnv, hcv, _⟩ := id h
 rw [aiI] at hnv
 subst hnv
 have hv' := hvv
 subst hv'
 unfold KN wI wR xK Eb wH
 refine (WA (most := 6) (sym := 12) h (by omega) (by omega)).mono ?_
 rintro r w1 ⟨hr, x1⟩
 unfold tL at key
 cases hrd : Ff (aQ l) 6 12 with
 | error e =>
   rw [hrd] at hr key
   have he := TS hrd
   obtain rfl := hr
   have n1 : (e != 0) = true := by simp [he]
   simp (disch := omega) only [aD, x30, x31, x32, QY, aA, cO, eD]
   refine tZ fun w2 o2 x2 s2 => ?_
   refine mI o2 rfl (by simp [one]) (by simp) fun w3 o3 x3 s3 => ?_
   simp (disch := omega) only [n1, aF]
   exact key _ _ rfl (x1.seq (x2.new x3 (by omega)))
 | ok x =>
   obtain ⟨lg, ps, n⟩ := x
   rw [hrd] at hr key
   simp only at key
   obtain ⟨hmay, hlg6, hps12⟩ := Va hrd
   have hm := hmay (by omega)
   have hused := WK hrd
   rw [kI] at hused
   obtain ⟨pv, rfl, op⟩ := hr
   obtain ⟨pa, pc, rfl⟩ := op.len
   have n1 : ((0 : Int) != 0) = false := rfl
   simp (disch := omega) only [aD, x30, x31, x32, QY, aA, cO, eD, aiB]
   refine tZ fun w2 o2 x2 s2 => ?_
   refine mI o2 rfl (by simp [one]) (by simp) fun w3 o3 x3 s3 => ?_
   simp only [cG, aiG, aiF] at o3
   have x13 : aR w1 w3 dH := x2.new x3 (by omega)
   have x03 := x1.seq x13
   have hb3 := h.ext x03 (aW _)
   have hdr := hb3.drop' (k := n) (by omega)
   rw [<- amJ] at hdr
   have hdr : Bs w3 _ (l.drop n) := hdr
   have tn : (n : Int).toNat = n := aiB _
   have hdl : (l.drop n).length <= 1000 := by rw [aiV]; omega
   simp (disch := omega) only [n1, aE]
   generalize l.drop n = l' at *
   cases he : Q7 l' with
   | none =>
     rw [he] at key
     refine (IM hdr he (by omega)).mono ?_
     rintro r w4 ⟨rfl, rfl⟩
     have n2 : ((11 : Int) != 0) = true := rfl
     simp (disch := omega) only [oH, oF, aA, cO, n2, aF]
     exact key _ _ rfl x03
   | some k =>
     rw [he] at key
     simp only at key
     have hk := Lu he
     refine (JN hdr he (by omega)).mono ?_
     rintro r w4 ⟨hi, rfl, hlh, hhi, hbw, x4⟩
     have o34 := o3.ext x4 (fun h => h)
     have l3 := iL (off := 0) o34 (by simp)
     simp only [aiU, aiQ, aiW] at l3
     simp (disch := omega) only [oH, oF, aA, cO, n1, aE, l3]
     have op4 := (op.ext x13 (fun _ _ h => h)).ext x4 (fun _ _ h => h)
     refine (abX hm op4.sl).mono ?_
     rintro r w5 ⟨b, tv, rfl, ⟨rfl, hb5, ob⟩, x5⟩
     simp (disch := omega) only [oH, oF, aA, cO]
     refine Dm fun w6 o6 x6 s6 => ?_
     refine BM o6 rfl (by simp [one]) (by simp) fun w7 o7 x7 s7 => ?_
     simp only [cG, aiG, aiF] at o7
     simp (disch := omega) only [n1, aE]
     refine Wk fun w8 o8 x8 s8 => ?_
     refine UJ o8 rfl (by simp [one]) (by simp) fun w9 o9 x9 s9 => ?_
     simp only [cG, aiG, aiF] at o9
     have x57 : aR w5 w7 dH := x6.new x7 (by omega)
     have x79 : aR w7 w9 dH := x8.new x9 (by omega)
     have x59 := x57.seq x79
     have x49 := x5.seq x59
     have x39 := x4.seq x49
     have z4 := x4.size
     have z5 := x5.size
     have z57 := x57.size
     have z79 := x79.size
     have qb := ob.lt
     have q6 := o7.lt
     have o79 := o7.ext x79 (fun h => h)
     have hN : (qR lg ps).length = 2 ^ lg := qE lg ps
     have h15 := hm.log15
     have hv := R2 hm
     have hla := vD ((aQ l').take k) lg
     have hlb := vD ((aQ l').take (k - lg)) lg
     have ob9 := ob.ext x59 (fun h => h)
     rw [<- hN] at hla hlb
     generalize qR lg ps = L at *
     refine Zt (L := L) (l := l') (k := k) (by omega) h15 hN o79 o9 (hbw.ext x49 (fun _ _ _ h => h) hlh) (by omega) (by omega) fun w10 o10 hbw10 x10 => ?_
     have x010 : aR w w10 dH := (x03.seq x39).trans x10 fun y hy h => by have := x03.size; omega
     unfold rE zU
     refine (P9 hbw10).mono ?_
     rintro r w11 ⟨rfl, rfl⟩
     by_cases hlt : k < 2 * lg
     .rw [if_pos hlt] at key
      have d1 : decide ((k : Int) - (lg : Nat) - (lg : Nat) < 0) = true := by simp only [decide_eq_true_eq]; omega
      simp (disch := omega) only [aD, aY, d1, aA, aF]
      exact key _ _ rfl x010
     .rw [if_neg hlt] at key
      have d1 : decide ((k : Int) - (lg : Nat) - (lg : Nat) < 0) = false := by simp only [decide_eq_false_iff_not]; omega
      simp (disch := omega) only [aD, aY, d1, aA, aE]
      have z10 := x10.size
      refine Um (left0 := k - 2 * lg) (L := L) (l := l') (G := stN L (aQ l') 256 (mT ((aQ l').take k) lg) (mT ((aQ l').take (k - lg)) lg) (k - 2 * lg) []) hv (by omega) (o79.ext x10 (by omega)) (ob9.ext x10 (by omega)) o10
       (by rw [show ((k - 2 * lg : Nat) : Int) = (k : Int) - (lg : Nat) - (lg : Nat) from by omega]; exact hbw10) (by omega) hla hlb (by omega) rfl fun v' w12 e hG x12 => ?_
      have x012 : aR w w12 dH := x010.trans x12 fun y hy h => by have := x03.size; omega
      refine key _ _ ?_ x012
      cases hs : stN L (aQ l') 256 (mT ((aQ l').take k) lg) (mT ((aQ l').take (k - lg)) lg) (k - 2 * lg) [] with
      | none =>
        rw [hs] at hG
        obtain ⟨rfl, rfl⟩ := hG
        exact rfl
      | some m =>
        rw [hs] at hG
        obtain ⟨om, rfl⟩ := hG
        refine ⟨v', rfl, ?_⟩
        rw [U8 (Xc hv hs (by simp)).1]
        exact om.lower (by have := x03.size; omega)
end Go.Proofs.Ytgpimhlgaokobaa
namespace Go.Pu
def TQ (ns : List Nat) (i last : Nat) : Prop := (last = 0 /\ ∀ j, j < i -> ns.getD j 0 = 0) ∨ (last < i /\ 0 < ns.getD last 0 /\ ∀ j, last < j -> j < i -> ns.getD j 0 = 0)
theorem TQ.step {ns : List Nat} {i last : Nat} (h : TQ ns i last) : TQ ns (i + 1) (if 0 < ns.getD i 0 then i else last) := by
 split
 .rename_i h0
  exact .inr ⟨by omega, h0, fun j h1 h2 => by omega⟩
 .rename_i h0
  rcases h with ⟨rfl, h⟩ | ⟨h1, h2, h3⟩
  .refine .inl ⟨rfl, fun j hj => ?_⟩
   rcases aiS j i with h' | h'
   .exact h j h'
   .have : j = i := by omega
    subst this; omega
  .refine .inr ⟨by omega, h2, fun j hj hj2 => ?_⟩
   rcases aiS j i with h' | h'
   .exact h3 j hj h'
   .have : j = i := by omega
    subst this; omega
theorem TQ.one {ns : List Nat} {i a b : Nat} (ha : TQ ns i a) (hb : TQ ns i b) : a = b := by
 rcases ha with ⟨rfl, h⟩ | ⟨h1, h2, h3⟩
 .rcases hb with ⟨rfl, _⟩ | ⟨k1, k2, _⟩
  .rfl
  .have := h b k1; omega
 .rcases hb with ⟨rfl, k⟩ | ⟨k1, k2, k3⟩
  .have := k a h1; omega
  .rcases anC a b with h | h | h
   .have := h3 b h k1; omega
   .exact h
   .have := k3 a h h1; omega
theorem Xk {ns : List Nat} {i : Nat} (h : i < ns.length) : ns.getD i 0 = ns[i] := by rw [aiJ, aiH h] <;> rfl
theorem Yr {α : Type} {ns : List α} {i : Nat} (h : i < ns.length) : ns.take (i + 1) = ns.take i ++ [ns[i]] := by
 rw [alD, aiH h] <;> rfl
theorem WB {ns : List Nat} {i : Nat} (h : i < ns.length) : ns.take (i + 1) = ns.take i ++ [ns.getD i 0] := by rw [Yr h, Xk h]
end Go.Pu
namespace Go.Proofs.Ytgpimhlgaokobaa
open Go Go.En Go.Pu
set_option maxRecDepth 4000
def Ux (l : List Nat) : List Nat := (126 + l.length) :: uG (l.take (l.length - 1))
theorem SD (l : List Nat) : (Ux l).length = 1 + (l.length - 1 + 1) / 2 := by
 unfold Ux
 rw [aiP, tQ, aiR, ajY (by omega)]; omega
theorem aeO {l : List Nat} (h : ∀ x ∈ l, x <= 11) (hl : l.length <= 129) : ∀ x ∈ Ux l, x < 256 := by
 intro x hx
 rcases ajW.1 hx with rfl | hx
 .omega
 .obtain ⟨i, hi, rfl⟩ := amI hx
  have h16 : ∀ y ∈ l.take (l.length - 1), y < 16 := fun y hy => by have := h y (alB hy); omega
  rw [tQ] at hi
  rw [<- Xk (by rw [tQ]; exact hi), PF hi]
  have := Ox h16 (2 * i)
  have := Ox h16 (2 * i + 1)
  omega
theorem Zg {l : List Nat} {d : Nat} (h : dD l = d) (hd : d ≠ 0) (hl : l.length <= 129) : ∃ (m : List Nat) (k : Nat), l = m ++ [k] /\ m.length = l.length - 1 /\ pD (gF (uG m) m.length) = some k /\ gF (uG m) m.length = m /\ l.take (l.length - 1) = m := by
 obtain ⟨h1, h2, h3, h4, h5, h6⟩ := pY h hd
 obtain ⟨m, k, rfl⟩ : ∃ m k, l = m ++ [k] := ⟨l.dropLast, l.getLast (by intro e; rw [e] at h3; simp at h3), (List.dropLast_concat_getLast _).symm⟩
 have hm16 : ∀ x ∈ m, x < 16 := fun x hx => by have := h1 x (akS _ hx); omega
 have hp := V4 hm16
 refine ⟨m, k, rfl, by simp, by rw [hp]; exact RU h hd, hp, by simp⟩
theorem Sn {base i x : Nat} {l0 n4 v' i6 : anV} {cells : List anV} {w : anU} (o : oI w base 1 v' i cells) (hb : base <= w.heap.size) (hi : i <= 100000) (hx : x < 256) {kn : anV -> anV -> anV -> anV -> anU -> Prop}
 (hK : ∀ v2 w2, oI w2 base 1 v2 (i + 1) (cells ++ [.int .u8 x]) -> aR w w2 (fun y => base <= y) -> kn l0 n4 v2 i6 w2) : nL kn l0 n4 v' i6 (.int .u8 x) w := by
 unfold nL
 obtain ⟨av, cv, rfl⟩ := o.len
 refine iC (cells := #[.int .u8 x]) (by decide) (by decide) (by kernel_rfl) fun w5 o5 x5 s5 => ?_
 have z5 := x5.size
 refine fA (m := 1) (news := [.int .u8 x]) (o.ext x5 (fun _ _ h => h)) (o5.cl (off := 0) (l := [.int .u8 x]) (n := 1) rfl (fun i hi => by rw [aiC])) (by simp [one]) (by omega) (by omega) fun v6 w6 o6 x6 => ?_
 exact hK v6 w6 o6 ((x5.mono fun _ _ h => h.elim).seq x6)
theorem Wl {v : anV} {l : List UInt8} {w : anU} (h : Bs w v l) (hl : l.length <= 100000) (hd : dD (aU l) = 0 ∨ 129 < l.length) :
 aP pg pW #[v] w (fun r w' => r = .tuple #[.slice none 0 0, .int .i64 (if dD (aU l) = 0 then 1 else 12)] /\ w' = w) := by
 refine Ej ?_
 obtain ⟨a, n, c, rfl, hn, hc, hh⟩ := id h
 rw [aiI] at hn
 subst hn
 unfold Gu rM rO
 refine (Rx h hl).mono ?_
 rintro r w1 ⟨rfl, rfl⟩
 by_cases h0 : dD (aU l) = 0
 .have n1 : (((dD (aU l) : Nat) : Int) == 0) = true := by rw [h0] <;> rfl
  simp (disch := omega) only [aD, dV, n1, aN, aA, fJ, aT, bQ, jK, dU, and_true, aF]
  rw [if_pos h0]
 .have n1 : (((dD (aU l) : Nat) : Int) == 0) = false := beq_eq_false_iff_ne.2 (by omega)
  have d1 : decide ((129 : Int) < (l.length : Int)) = true := by simp; omega
  simp (disch := omega) only [aD, dV, n1, aN, aA, fJ, aT, bQ, jK, dU, d1, aF, and_true, aE]
  rw [if_neg h0]
theorem Z4 {v : anV} {l : List UInt8} {d : Nat} {w : anU} (h : Bs w v l) (hd : dD (aU l) = d) (hd0 : d ≠ 0) (hl : l.length <= 129) :
 aP pg pW #[v] w (fun r w' => ∃ v', r = .tuple #[v', .int .i64 0] /\ oI w' w.heap.size 1 v' (Ux (aU l)).length ((kJ (Ux (aU l))).map lL) /\ aR w w' dH) := by
 refine Ej ?_
 obtain ⟨hall, hd11, hl2, hl256, hlast, hsum⟩ := pY hd hd0
 have hnl := cT l
 obtain ⟨b, off, c, rfl, hc, hcell⟩ := El h (by omega)
 unfold Gu rM rO
 refine (Rx h (by omega)).mono ?_
 rintro r w1 ⟨rfl, rfl⟩
 rw [hd]
 have n1 : ((d : Int) == 0) = false := beq_eq_false_iff_ne.2 (by omega)
 have d1 : decide ((129 : Int) < (l.length : Int)) = false := by simp; omega
 have e1 : (l.length : Int) - 1 = ((l.length - 1 : Nat) : Int) := by omega
 have e2 : (127 : Int) + ((l.length - 1 : Nat) : Int) = ((126 + l.length : Nat) : Int) := by omega
 have e8 : IntKind.u8.wrap ((126 + l.length : Nat) : Int) = ((126 + l.length : Nat) : Int) := LN (by omega) (by omega)
 simp (disch := omega) only [aD, dV, n1, aN, aA, fJ, e1, aT, bQ, e2, jK, e8, dU, d1, aE]
 refine iC (cells := #[.int .u8 (126 + l.length : Nat)]) (by decide) (by decide) (by kernel_rfl) fun w2 o2 x2 s2 => ?_
 obtain ⟨m, hm⟩ : ∃ m, m = (aU l).take (l.length - 1) := ⟨_, rfl⟩
 have hml : m.length = l.length - 1 := by rw [hm, aiR, hnl]; omega
 have hmg : ∀ i, i < l.length - 1 -> m.getD i 0 = (aU l).getD i 0 := fun i hi => by
  rw [hm, aiJ, aiJ, akA hi]
 have hm11 : ∀ x ∈ m, x <= 11 := fun x hx => by rw [hm] at hx; have := hall x (alB hx); omega
 have hm16 : ∀ x ∈ m, x < 16 := fun x hx => by have := hm11 x hx; omega
 have hwr : Ux (aU l) = (126 + l.length) :: uG m := by unfold Ux; rw [hnl, hm]
 have hpl := tQ m
 have ho2 : oI w2 w1.heap.size 1 (.slice (some ⟨w1.heap.size, 0, none⟩) 1 1) (0 + 1) ((kJ ((126 + l.length) :: (uG m).take 0)).map lL) := by
  refine ⟨by simp, .inr ⟨_, 1, [], rfl, aiM _, ?_, rfl, aiM _⟩⟩
  simp only [kJ, aiW, akZ, anO, Ut (show 126 + l.length < 256 by omega), akB]
  exact o2
 unfold yM Ap yH Ac zC
 refine cK.rule (fun q (t : anV × anV) w' => ∃ (j : Nat) (v' : anV), q = l.length - 1 + 1 - j /\ t = (v', .int .i64 (2 * j : Nat)) /\ j <= (m.length + 1) / 2 /\ oI w' w1.heap.size 1 v' (j + 1) ((kJ ((126 + l.length) :: (uG m).take j)).map lL) /\ aR w1 w' dH) (l.length - 1 + 1)
  ⟨0, _, rfl, rfl, by omega, ho2, x2⟩ ?_
 rintro q t w3 ⟨j, v', rfl, rfl, hj, o3, x3⟩
 have z3 := x3.size
 unfold tB BI
 by_cases hlt : 2 * j < l.length - 1
 .have d2 : decide (((2 * j : Nat) : Int) < ((l.length - 1 : Nat) : Int)) = true := by simp only [decide_eq_true_eq]; omega
  obtain ⟨_, _, _, he, _, hcell3⟩ := El (h.ext x3 (aW _)) (by omega)
  cases he
  have g1 := hcell3 (2 * j) (by omega)
  have hg1 := Xm (l := l) (i := 2 * j) (by omega)
  rw [<- hg1, <- hmg (2 * j) hlt] at g1
  have hs1 := WB (ns := uG m) (i := j) (by omega)
  rw [PF (by omega)] at hs1
  have hx11 : m.getD (2 * j) 0 <= 11 := hm11 _ (vE (by omega))
  have hy11 := Ox hm16 (2 * j + 1)
  have e3 : ((2 * j : Nat) : Int) + 1 = ((2 * j + 1 : Nat) : Int) := by omega
  have hcells : ∀ z : Nat, z = m.getD (2 * j) 0 * 16 + m.getD (2 * j + 1) 0 -> z < 256 -> ((kJ ((126 + l.length) :: (uG m).take j)).map lL ++ [.int .u8 z]) = (kJ ((126 + l.length) :: (uG m).take (j + 1))).map lL := fun z hz hz2 => by
   rw [hs1, <- hz]
   simp only [kJ, aiZ, akZ, anO, Ut hz2, akJ]
  have hodd : ¬ 2 * j + 1 < l.length - 1 -> m.getD (2 * j + 1) 0 = 0 := fun h => by
   rw [aiJ, aiO (by omega)] <;> rfl
  have g2 : 2 * j + 1 < l.length - 1 -> w3.cell? ⟨b, off + (2 * j + 1), none⟩ = some (.int .u8 (m.getD (2 * j + 1) 0 : Nat)) := fun h => by
   have := hcell3 (2 * j + 1) (by omega)
   rw [<- Xm (l := l) (i := 2 * j + 1) (by omega), <- hmg (2 * j + 1) h] at this
   exact this
  generalize m.getD (2 * j) 0 = x at *
  generalize m.getD (2 * j + 1) 0 = y at *
  have t4 : (4 : Int).toNat = 4 := rfl
  have e4 : IntKind.u8.wrap ((x : Int) * 2 ^ (min 4 IntKind.u8.bits)) = ((x * 16 : Nat) : Int) := by
   rw [show min 4 IntKind.u8.bits = 4 from rfl]
   have : (x : Int) * 2 ^ 4 = ((x * 16 : Nat) : Int) := by omega
   rw [this]
   exact LN (by omega) (by omega)
  unfold Bp BH GL BE
  by_cases h2 : 2 * j + 1 < l.length - 1
  .have d3 : decide (((2 * j + 1 : Nat) : Int) < ((l.length - 1 : Nat) : Int)) = true := by simp only [decide_eq_true_eq]; omega
   have g2 := g2 h2
   have e5 := Sq (a := x * 16) (b := y) (by omega) (by omega)
   have e6 : x * 16 ||| y = x * 16 + y := by
    rw [Nat.or_comm]
    have := Sg (x := y) (i := 4) (by omega) x
    rw [show x * 2 ^ 4 = x * 16 from rfl] at this
    rw [this]; omega
   rw [e6] at e5
   simp (disch := omega) only [aD, aY, d2, cJ, aiB, bQ, e3, aT, aA, dY, d3, aF, g1, aH, kM, t4, e4, g2, SR, e5]
   refine Sn (x := x * 16 + y) o3 (by omega) (by omega) (by omega) fun v4 w4 o4 x4 => ?_
   rw [hcells _ rfl (by omega)] at o4
   unfold nI
   have e7 : ((2 * j : Nat) : Int) + 2 = ((2 * (j + 1) : Nat) : Int) := by omega
   simp (disch := omega) only [aD, bQ, e7, aT, aA]
   exact ⟨l.length - 1 + 1 - (j + 1), by omega, j + 1, _, rfl, rfl, by omega, o4, x3.trans x4 fun b hb h => by omega⟩
  .have d3 : decide (((2 * j + 1 : Nat) : Int) < ((l.length - 1 : Nat) : Int)) = false := by simp only [decide_eq_false_iff_not]; omega
   have hy0 := hodd h2
   simp (disch := omega) only [aD, aY, d2, cJ, aiB, bQ, e3, aT, aA, dY, d3, aE, g1, aH, kM, t4, e4, aF]
   refine Sn (x := x * 16) o3 (by omega) (by omega) (by omega) fun v4 w4 o4 x4 => ?_
   rw [hcells _ (by omega) (by omega)] at o4
   unfold nI
   have e7 : ((2 * j : Nat) : Int) + 2 = ((2 * (j + 1) : Nat) : Int) := by omega
   simp (disch := omega) only [aD, bQ, e7, aT, aA]
   exact ⟨l.length - 1 + 1 - (j + 1), by omega, j + 1, _, rfl, rfl, by omega, o4, x3.trans x4 fun b hb h => by omega⟩
 .have d2 : decide (((2 * j : Nat) : Int) < ((l.length - 1 : Nat) : Int)) = false := by simp only [decide_eq_false_iff_not]; omega
  have hjE : j = (uG m).length := by omega
  rw [akP (by omega), <- hwr] at o3
  have hwl : (Ux (aU l)).length = j + 1 := by rw [hwr, aiP]; omega
  unfold uA
  simp (disch := omega) only [aD, aY, d2, aA, aE]
  exact ⟨v', rfl, by rw [hwl]; exact o3, x3⟩
def Rv (o : Except Int (List Nat)) (n : Nat) : Except Int (List UInt8 × Nat) := match o with
 | .error e => .error e
 | .ok m => match pD m with
   | none => .error 11
   | some k => .ok (kJ m ++ [UInt8.ofNat k], 1 + n)
def wtR (l : List UInt8) : Except Int (List UInt8 × Nat) := match l with
 | [] => .error 10
 | h :: rest =>
   if 128 <= h.toNat then (if rest.length < (h.toNat - 127 + 1) / 2 then .error 10 else Rv (.ok (gF (aU rest) (h.toNat - 127))) ((h.toNat - 127 + 1) / 2))
   else if rest.length < h.toNat then .error 10 else Rv (tL (rest.take h.toNat)) h.toNat
theorem TW (m : List Nat) (n : Nat) : Rv (.ok m) n = match pD m with
 | none => .error 11
 | some k => .ok (kJ m ++ [UInt8.ofNat k], 1 + n) := rfl
theorem NT (h : UInt8) (rest : List UInt8) : wtR (h :: rest) = if 128 <= h.toNat then (if rest.length < (h.toNat - 127 + 1) / 2 then .error 10 else Rv (.ok (gF (aU rest) (h.toNat - 127))) ((h.toNat - 127 + 1) / 2))
 else if rest.length < h.toNat then .error 10 else Rv (tL (rest.take h.toNat)) h.toNat := rfl
def aaX (w : anU) (base : Nat) (o : Except Int (List UInt8 × Nat)) (r : anV) : Prop := match o with
 | .error e => r = .tuple #[.slice none 0 0, .int .i64 0, .int .i64 e]
 | .ok (m, n) => ∃ v, r = .tuple #[v, .int .i64 (n : Nat), .int .i64 0] /\ oI w base 1 v m.length (m.map lL)
theorem QP {l : List UInt8} {e : Int} (h : tL l = .error e) : e ≠ 0 := by
 unfold tL at h
 split at h
 .rename_i hr
  cases h
  exact TS hr
 .split at h
  .cases h; decide
  .split at h
   .cases h; decide
   .split at h
    .cases h; decide
    .cases h
theorem Yy {m : List Nat} {n : Nat} {v : anV} {w0 w : anU} (hb : Bs w v (kJ m)) (hm : ∀ x ∈ m, x < 256) (hml : m.length <= 1000) (hn : n <= 1000) (x0 : aR w0 w dH) {RR : anV -> anU -> Prop}
 (key : ∀ r w', aaX w' w0.heap.size (Rv (.ok m) n) r -> aR w0 w' dH -> RR r w') : gW RR v (.int .i64 n) (.int .i64 0) w := by
 have n1 : ((0 : Int) != 0) = false := rfl
 have hbl : (kJ m).length = m.length := by simp
 obtain ⟨av, cv, hv, _⟩ := hb.len
 rw [aiI, hbl] at hv
 subst hv
 unfold gW
 simp (disch := omega) only [aD, cO, n1, bQ, aT, aA, aE]
 refine (Xz hb (by rw [hbl]; omega)).mono ?_
 rintro r w2 ⟨hwo, x2⟩
 rw [Qa hm] at hwo
 rw [TW] at key
 have z0 := x0.size
 cases hw : pD m with
 | none =>
   rw [hw] at hwo key
   obtain rfl := hwo
   have n2 : ((11 : Int) != 0) = true := rfl
   simp (disch := omega) only [oH, oF, aA, cO, n2, aF]
   exact key _ _ rfl (x0.seq x2)
 | some k =>
   rw [hw] at hwo key
   obtain ⟨v2, rfl, o2⟩ := hwo
   have e5 : (1 : Int) + ((n : Nat) : Int) = ((1 + n : Nat) : Int) := by omega
   simp (disch := omega) only [oH, oF, e5, aA, cO, n1, aE]
   refine key _ _ ⟨v2, rfl, ?_⟩ (x0.seq x2)
   have := o2.lower (a := w0.heap.size) z0
   rw [show (kJ m ++ [UInt8.ofNat k]).length = (kJ m).length + 1 from by simp]
   exact this
theorem aaB {v : anV} {l : List UInt8} {w : anU} (h : Bs w v l) (hl : l.length <= 10000) :
 aP pg sX #[v] w (fun r w' => aaX w' w.heap.size (wtR l) r /\ aR w w' dH) := by
 cases l with
 | nil =>
   refine yP ?_
   obtain ⟨a, c, rfl, _⟩ := h.len
   unfold Da pS pT
   have n0 : ((([] : List anV).length : Int) == 0) = true := rfl
   simp (disch := omega) only [aD, aN, aA, dV]
   exact ⟨rfl, aR.refl _ _⟩
 | cons hd rest =>
   have hhd : hd.toNat < 256 := ajV _
   have hof : UInt8.ofNat hd.toNat = hd := by simp
   rw [aiP] at hl
   rw [NT]
   by_cases h128 : 128 <= hd.toNat
   .rw [if_pos h128]
    refine (UE (h := hd.toNat) (rest := rest) h (by rw [hof]) h128 hhd (by omega)).mono ?_
    rintro r w' ⟨hdo, x⟩
    refine ⟨?_, x⟩
    unfold Eh at hdo
    by_cases hsh : rest.length < (hd.toNat - 127 + 1) / 2
    .rw [if_pos hsh] at hdo ⊢; exact hdo
    .rw [if_neg hsh] at hdo ⊢
     rw [TW]
     cases hw : pD (gF (aU rest) (hd.toNat - 127)) with
     | none => rw [hw] at hdo; exact hdo
     | some k =>
       rw [hw] at hdo
       obtain ⟨v', rfl, o⟩ := hdo
       refine ⟨v', rfl, ?_⟩
       rw [show (kJ (gF (aU rest) (hd.toNat - 127)) ++ [UInt8.ofNat k]).length = hd.toNat - 127 + 1 from by simp [yV]]
       exact o
   rw [if_neg h128]
   refine yP ?_
   obtain ⟨RR, hRR⟩ : ∃ RR : anV -> anU -> Prop, RR = fun r w' => aaX w' w.heap.size (if rest.length < hd.toNat then .error 10 else Rv (tL (rest.take hd.toNat)) hd.toNat) r /\ aR w w' dH := ⟨_, rfl⟩
   rw [<- hRR]
   have key : ∀ r w', aaX w' w.heap.size (if rest.length < hd.toNat then .error 10 else Rv (tL (rest.take hd.toNat)) hd.toNat) r -> aR w w' dH -> RR r w' := fun r w' h1 h2 => by rw [hRR]; exact ⟨h1, h2⟩
   obtain ⟨b, off, c, rfl, hc, hcell⟩ := El h (by simp)
   have g0 := hcell 0 (by simp)
   rw [anE] at g0
   have hsub := h.drop' (k := 1) (by simp)
   rw [akZ, alV, aiU, aiP, akO] at hsub
   have hsub : Bs w _ rest := hsub
   rw [aiP] at hc ⊢
   generalize hd.toNat = q at *
   have n0 : (((rest.length + 1 : Nat) : Int) == 0) = false := beq_eq_false_iff_ne.2 (by omega)
   have d1 : decide ((128 : Int) <= (q : Int)) = false := by simp; omega
   have t0 : (0 : Int).toNat = 0 := rfl
   have t1 : (1 : Int).toNat = 1 := rfl
   have e11 : rest.length + 1 - 1 = rest.length := by omega
   unfold Da pS pT
   by_cases hsh : rest.length < q
   .rw [if_pos hsh] at key
    have d2 : decide ((rest.length : Int) < (q : Int)) = true := by simp; omega
    simp (disch := omega) only [aD, aN, cJ, t0, eD, t1, e11, aA, dY, dV, n0, g0, aH, gH, aT, lK, d1, fJ, bQ, Hx, aY, d2, aF, aE]
    have n1 : ((10 : Int) != 0) = true := rfl
    unfold gW
    simp (disch := omega) only [aD, cO, n1, bQ, aT, aA, aF]
    exact key _ _ rfl (aR.refl _ _)
   .rw [if_neg hsh] at key
    have d2 : decide ((rest.length : Int) < (q : Int)) = false := by simp; omega
    have tq : (q : Int).toNat = q := aiB _
    have hcl : rest.length <= c - 1 := by omega
    have htk := hsub.take' (k := q) (by omega)
    rw [<- amT] at htk
    have htk : Bs w _ (rest.take q) := htk
    have htl : (rest.take q).length = q := by rw [aiR]; omega
    simp (disch := omega) only [aD, aN, cJ, t0, eD, t1, e11, aA, dY, dV, n0, g0, aH, gH, aT, lK, d1, fJ, bQ, Hx, aY, d2, nO, tq, aE]
    refine (ZY htk (by omega)).mono ?_
    rintro r w2 ⟨hst, x2⟩
    cases hs : tL (rest.take q) with
    | error e =>
      rw [hs] at hst key
      have he := QP hs
      obtain rfl := hst
      have n1 : (e != 0) = true := by simp [he]
      unfold gW
      simp (disch := omega) only [oH, oF, aD, bQ, aT, aA, cO, n1, aF]
      exact key _ _ rfl x2
    | ok m =>
      rw [hs] at hst key
      obtain ⟨hm1, hm2⟩ := WJ hs
      obtain ⟨v2, rfl, o2⟩ := hst
      have hb2 : Bs w2 v2 (kJ m) := o2.sl
      simp (disch := omega) only [oH, oF, aA]
      exact Yy hb2 hm1 (by omega) (by omega) x2 key
def HD (H : LH) : Nat := if H.kind = 0 then H.count else if H.kind = 1 then 1 else H.bytes
def Wz (H : LH) (b old : List UInt8) : Except Int (List UInt8 × List UInt8) :=
 if H.kind = 2 then (match wtR b with | .error e => .error e | .ok p => .ok (p.1, b.drop p.2)) else .ok (old, b)
def Sj (H : LH) (wl b : List UInt8) : Except Int (List Nat) := if H.form = 0 then Ss wl b H.count else HO wl b H.count
def UZ (H : LH) (wl b : List UInt8) : Except Int (List UInt8 × List UInt8 × Nat) :=
 if wl.length = 0 then .error 11 else match Sj H wl b with | .error e => .error e | .ok m => .ok (kJ m, wl, H.size + HD H)
def Uf (H : LH) (b old : List UInt8) : Except Int (List UInt8 × List UInt8 × Nat) :=
 if H.kind = 0 then .ok (b, old, H.size + HD H)
 else if H.kind = 1 then .ok (List.replicate H.count (b.headD 0), old, H.size + HD H)
 else match Wz H b old with | .error e => .error e | .ok p => UZ H p.1 p.2
def WR (H : LH) (l old : List UInt8) : Except Int (List UInt8 × List UInt8 × Nat) :=
 if (l.drop H.size).length < HD H then .error 10 else Uf H ((l.drop H.size).take (HD H)) old
def O8 (l old : List UInt8) : Except Int (List UInt8 × List UInt8 × Nat) := if (kU l).2 = 0 then WR (kU l).1 l old else .error (kU l).2
theorem adO {l : List UInt8} {p : List UInt8 × Nat} (h : wtR l = .ok p) : p.1.length <= 256 /\ 2 <= p.1.length /\ p.2 <= l.length := by
 have fin : ∀ {o : Except Int (List Nat)} {n : Nat}, Rv o n = .ok p -> p.1.length <= 256 /\ 2 <= p.1.length /\ p.2 = 1 + n := by
  intro o n h
  unfold Rv at h
  cases o with
  | error e => cases h
  | ok m =>
    simp only at h
    cases hw : pD m with
    | none => rw [hw] at h; cases h
    | some k =>
      rw [hw] at h; cases h
      have := UA hw
      have hb : (kJ m).length = m.length := by simp [kJ]
      simp only [aiE, hb, aiP, List.length_nil]
      exact ⟨by omega, by omega, trivial⟩
 cases l with
 | nil => cases h
 | cons q rest =>
   rw [NT] at h
   rw [aiP]
   by_cases h1 : 128 <= q.toNat
   .rw [if_pos h1] at h
    by_cases h2 : rest.length < (q.toNat - 127 + 1) / 2
    .rw [if_pos h2] at h; cases h
    .rw [if_neg h2] at h
     have := fin h
     omega
   .rw [if_neg h1] at h
    by_cases h2 : rest.length < q.toNat
    .rw [if_pos h2] at h; cases h
    .rw [if_neg h2] at h
     have := fin h
     omega
theorem acD {l : List UInt8} {e : Int} (h : wtR l = .error e) : e ≠ 0 := by
 have fin : ∀ {o : Except Int (List Nat)} {n : Nat}, (∀ e, o = .error e -> e ≠ 0) -> Rv o n = .error e -> e ≠ 0 := by
  intro o n ho h
  unfold Rv at h
  cases o with
  | error e => cases h; exact ho _ rfl
  | ok m =>
    simp only at h
    cases hw : pD m with
    | none => rw [hw] at h; cases h; decide
    | some k => rw [hw] at h; cases h
 cases l with
 | nil => cases h; decide
 | cons q rest =>
   rw [NT] at h
   by_cases h1 : 128 <= q.toNat
   .rw [if_pos h1] at h
    by_cases h2 : rest.length < (q.toNat - 127 + 1) / 2
    .rw [if_pos h2] at h; cases h; decide
    .rw [if_neg h2] at h
     exact fin (fun e h => by cases h) h
   .rw [if_neg h1] at h
    by_cases h2 : rest.length < q.toNat
    .rw [if_pos h2] at h; cases h; decide
    .rw [if_neg h2] at h
     exact fin (fun e h => QP h) h
theorem UP {C : List (Nat × Nat)} {e : Int} : ∀ {r : List (Nat × Nat)} {l : List UInt8}, EV C l r = .error e -> e ≠ 0
 | [], l, h => by cases h
 | (k, n) :: r, l, h => by
   rw [EV] at h
   cases h1 : nQ C (l.take k) n with
   | error e' =>
     rw [h1] at h; cases h
     have := Pz h1
     omega
   | ok m =>
     rw [h1] at h
     simp only at h
     cases h2 : EV C (l.drop k) r with
     | error e' => rw [h2] at h; cases h; exact UP h2
     | ok m' => rw [h2] at h; cases h
theorem Zo {H : LH} {wl b : List UInt8} {e : Int} (h : Sj H wl b = .error e) : e ≠ 0 := by
 unfold Sj at h
 by_cases h1 : H.form = 0
 .rw [if_pos h1] at h
  unfold Ss at h
  split at h
  .cases h; decide
  .have := Pz h; omega
 .rw [if_neg h1] at h
  unfold HO at h
  split at h
  .cases h; decide
  .split at h
   .cases h; decide
   .split at h
    .cases h; decide
    .split at h
     .cases h; decide
     .exact UP h
theorem YO {lv v : anV} {wl l : List UInt8} {H : LH} {w : anU} (hw : Bs w lv wl) (hwl : wl.length <= 100000) (h : Bs w v l) (hl : l.length <= 1000000) (hn : H.count <= 131072) (hf : H.form < 4) :
 aP pg pF #[lhV H, lv, v] w (fun r w' => HS w' w.heap.size (Sj H wl l) r /\ aR w w' dH) := by
 refine Jf ?_
 unfold Hl uQ
 refine mX fun w1 o1 x1 s1 => ?_
 have o1 : cL w1 w.heap.size [.int .i64 (H.kind : Nat), .int .i64 (H.form : Nat), .int .i64 (H.size : Nat), .int .i64 (H.count : Nat), .int .i64 (H.bytes : Nat)] := o1
 have z1 := x1.size
 have k1 := o1.cell (off := 1)
 have k3 := o1.cell (off := 3)
 simp only [ahZ, aiA] at k1 k3
 have hw1 := hw.ext x1 (aW _)
 have h1 := h.ext x1 (aW _)
 unfold Sj
 have fin : ∀ {o : Except Int (List Nat)} {r : anV} {w2 : anU}, HS w2 w1.heap.size o r -> aR w1 w2 dH →
     aD pg (bF r 0) w2 fun t16 w_1 => aD pg (bF r 1) w_1 fun t17 w_2 => (HS w_2 w.heap.size o (.tuple #[t16, t17]) /\ aR w w_2 dH) := by
  intro o r w2 hs x2
  cases o with
  | error e =>
    obtain rfl : r = .tuple #[.slice none 0 0, .int .i64 e] := hs
    simp (disch := omega) only [aD, oH, oF, aA]
    exact ⟨rfl, x1.seq x2⟩
  | ok m =>
    obtain ⟨v', rfl, o⟩ := hs
    simp (disch := omega) only [aD, oH, oF, aA]
    exact ⟨⟨v', rfl, pZ o z1⟩, x1.seq x2⟩
 by_cases h0 : H.form = 0
 .have n0 : ((H.form : Int) == 0) = true := by rw [h0] <;> rfl
  rw [if_pos h0]
  simp (disch := omega) only [aD, dB, aiC, bU, aA, bH, k1, aH, dV, n0, k3, aF]
  exact (UQ hw1 hwl h1 hl hn).mono fun r w2 hr => fin hr.1 hr.2
 .have n0 : ((H.form : Int) == 0) = false := beq_eq_false_iff_ne.2 (by omega)
  rw [if_neg h0]
  simp (disch := omega) only [aD, dB, aiC, bU, aA, bH, k1, aH, dV, n0, k3, aE]
  exact (T2 hw1 hwl h1 hl hn).mono fun r w2 hr => fin hr.1 hr.2
def Q3 (w : anU) (base : Nat) (o : Except Int (List UInt8 × List UInt8 × Nat)) (r : anV) : Prop := match o with
 | .error e => r = .tuple #[.slice none 0 0, .slice none 0 0, .int .i64 0, .int .i64 e]
 | .ok (m, u, n) => ∃ v x, r = .tuple #[v, x, .int .i64 (n : Nat), .int .i64 0] /\ oI w base 1 v m.length (m.map lL) /\ oI w base 1 x u.length (u.map lL)
theorem Q3.low {w : anU} {b b' : Nat} {o : Except Int (List UInt8 × List UInt8 × Nat)} {r : anV} (h : Q3 w b o r) (hb : b' <= b) : Q3 w b' o r := by
 cases o with
 | error e => exact h
 | ok p =>
   obtain ⟨m, u, n⟩ := p
   obtain ⟨v, x, rfl, h1, h2⟩ := h
   exact ⟨v, x, rfl, pZ h1 hb, pZ h2 hb⟩
abbrev lhC (H : LH) (y : Nat) : List anV := [.int .i64 (H.kind : Nat), .int .i64 (H.form : Nat), .int .i64 (H.size : Nat), .int .i64 (H.count : Nat), .int .i64 (y : Nat)]
theorem Vv {C : List (Nat × Nat)} {s : List UInt8} {n : Nat} {m : List Nat} (hC : C.length <= 256) (hF : Q8 C (iG C)) (h : nQ C s n = .ok m) : ∀ x ∈ m, x < 256 := by
 unfold nQ at h
 split at h
 .cases h
 .split at h
  .cases h
  .split at h
   .cases h
   .cases h
    intro x hx
    have := Vq hF x hx
    omega
theorem Xs {C : List (Nat × Nat)} (hC : C.length <= 256) (hF : Q8 C (iG C)) : ∀ {r : List (Nat × Nat)} {s : List UInt8} {m : List Nat}, EV C s r = .ok m -> ∀ x ∈ m, x < 256
 | [], s, m, h, x, hx => by cases h; cases hx
 | (k, n) :: r, s, m, h, x, hx => by
   rw [EV] at h
   cases h1 : nQ C (s.take k) n with
   | error e => rw [h1] at h; cases h
   | ok m1 =>
     rw [h1] at h
     simp only at h
     cases h2 : EV C (s.drop k) r with
     | error e => rw [h2] at h; cases h
     | ok m2 =>
       rw [h2] at h; cases h
       rcases ajT.1 hx with hx | hx
       .exact Vv hC hF h1 x hx
       .exact Xs hC hF h2 x hx
theorem abL {H : LH} {wl b : List UInt8} {m : List Nat} (h : Sj H wl b = .ok m) : ∀ x ∈ m, x < 256 := by
 unfold Sj at h
 split at h
 .unfold Ss at h
  split at h
  .cases h
  .rename_i hd
   obtain ⟨hF, hm, hC⟩ := WOk.full hd
   exact Vv hC hF h
 .unfold HO at h
  split at h
  .cases h
  .rename_i hd
   obtain ⟨hF, hm, hC⟩ := WOk.full hd
   split at h
   .cases h
   .split at h
    .cases h
    .split at h
     .cases h
     .exact Xs hC hF h
theorem abC {H : LH} {wl b : List UInt8} {m : List Nat} (h : Sj H wl b = .ok m) : ZX m = (kJ m).map lL := (U8 (abL h)).symm
theorem TE {RR : anV -> anU -> Prop} {bv lv : anV} {H : LH} {b wl : List UInt8} {p : Nat} {w : anU} (o : cL w p (lhC H (HD H))) (hb : Bs w bv b) (hbl : b.length <= 1000000) (hw : Bs w lv wl) (hwl : wl.length <= 100000) (hc : H.count <= 131072) (hf : H.form < 4)
 (hk : ∀ r w', Q3 w' w.heap.size (UZ H wl b) r -> aR w w' dH -> RR r w') :
 nY (fun cP AB dT rY w => nV RR cP AB dT rY w) RR bv (.pointer (some ⟨p, 0, none⟩)) (.int .i64 (H.size + HD H : Nat)) lv w := by
 unfold nY
 have hwo := hw
 obtain ⟨a, c, rfl, hcc⟩ := hw.len
 rw [aiI] at *
 by_cases h0 : wl.length = 0
 .have n0 : ((wl.length : Int) == 0) = true := by rw [h0] <;> rfl
  simp (disch := omega) only [aD, aN, aA, dV, n0, aF]
  exact hk _ _ (by unfold UZ; rw [if_pos h0] <;> rfl) (aR.refl _ _)
 have n0 : ((wl.length : Int) == 0) = false := beq_eq_false_iff_ne.2 (by omega)
 simp (disch := omega) only [aD, aN, aA, dV, n0, aE]
 unfold nV
 have q := Fv (off := 0) o (by simp)
 simp only [aiU, aiQ, aiW] at q
 simp (disch := omega) only [aD, q, aA]
 refine (YO (H := ⟨H.kind, H.form, H.size, H.count, HD H⟩) hwo hwl hb hbl hc hf).mono ?_
 rintro r w1 ⟨hs, x1⟩
 have hs : HS w1 w.heap.size (Sj H wl b) r := hs
 have z1 := x1.size
 cases hd : Sj H wl b with
 | error e =>
   rw [hd] at hs
   obtain rfl : r = .tuple #[.slice none 0 0, .int .i64 e] := hs
   have n1 : (e != 0) = true := by simp [Zo hd]
   simp (disch := omega) only [oH, oF, aA, cO, n1, aF]
   exact hk _ _ (by unfold UZ; rw [if_neg h0, hd] <;> rfl) x1
 | ok m =>
   rw [hd] at hs
   obtain ⟨v', rfl, o1⟩ := hs
   have n1 : ((0 : Int) != 0) = false := rfl
   simp (disch := omega) only [oH, oF, aA, cO, n1, aE]
   refine (BP (hwo.ext x1 (aW _)) (by omega)).mono ?_
   rintro r w2 ⟨o2, x2⟩
   refine hk _ _ ?_ (x1.seq x2)
   unfold UZ
   rw [if_neg h0, hd]
   refine ⟨v', r, rfl, ?_, pZ o2 z1⟩
   rw [abC hd] at o1
   have o1 := o1.ext x2 (fun _ _ h => h)
   rw [show (kJ m).length = m.length from by simp [kJ]]
   exact o1
theorem Y1 {l : List UInt8} (h : (kU l).2 = 0) : (kU l).1.count <= 131072 /\ (kU l).1.size <= l.length /\ (kU l).1.kind < 4 /\ (kU l).1.form < 4 /\ (kU l).1.size <= 5 /\ (kU l).1.bytes < 2 ^ 40 := by
 cases l with
 | nil => exact absurd h (by decide)
 | cons c r =>
   simp only [kU] at h ⊢
   have hs := Ky (c.toNat % 4) (c.toNat / 4 % 4)
   by_cases h1 : (c :: r).length < gI (c.toNat % 4) (c.toNat / 4 % 4)
   .rw [if_pos h1] at h; exact absurd h (by simp)
   .rw [if_neg h1] at h ⊢
    simp only at h ⊢
    have h5 := R0 (l := c :: r) hs.2
    refine ⟨?_, by omega, by omega, by omega, hs.2, ?_⟩
    .split at h
     .exact absurd h (by decide)
     .omega
    .exact Nat.lt_of_le_of_lt (akT (alG _ _) (alG _ _)) h5
theorem X5 {RR : anV -> anU -> Prop} {v ov : anV} {H : LH} {b old : List UInt8} {p : Nat} {w : anU} (o : cL w p (lhC H (HD H))) (hb : Bs w v b) (hbl : b.length <= 10000) (hby : b.length = HD H) (ho : Bs w ov old) (hol : old.length <= 100000) (hc : H.count <= 131072) (hf : H.form < 4) (hkd : H.kind < 4)
 (hk : ∀ r w', Q3 w' w.heap.size (Uf H b old) r -> aR w w' dH -> RR r w') :
 tT RR v ov (.pointer (some ⟨p, 0, none⟩)) (.int .i64 (H.size + HD H : Nat)) ov w := by
 unfold tT Bc Bn
 have k0 := o.cell (off := 0)
 have k3 := o.cell (off := 3)
 simp only [ahZ, aiA] at k0 k3
 simp (disch := omega) only [aD, fO, aA, bH, k0, aH]
 unfold Bo GI BA
 rcases (show H.kind = 0 ∨ H.kind = 1 ∨ H.kind = 2 ∨ H.kind = 3 by omega) with h0 | h0 | h0 | h0
 .have n0 : ((H.kind : Int) == 0) = true := by rw [h0] <;> rfl
  simp (disch := omega) only [aD, dV, n0, bU, aiC, aA, bH, true_and, aF]
  refine (BP hb (by omega)).mono ?_
  rintro r w1 ⟨o1, x1⟩
  refine (BP (ho.ext x1 (aW _)) (by omega)).mono ?_
  rintro r2 w2 ⟨o2, x2⟩
  refine hk _ _ ?_ (x1.seq x2)
  unfold Uf
  rw [if_pos h0]
  exact ⟨r, r2, rfl, o1.ext x2 (fun _ _ h => h), pZ o2 x1.size⟩
 .have n0 : ((H.kind : Int) == 0) = false := by rw [h0] <;> rfl
  have n1 : ((H.kind : Int) == 1) = true := by rw [h0] <;> rfl
  simp (disch := omega) only [aD, dV, n0, n1, bU, aiC, aA, bH, true_and, aF, k3, aH, aE]
  have hy : HD H = 1 := by unfold HD; rw [if_neg (by omega), if_pos h0]
  obtain ⟨c, rfl⟩ : ∃ c, b = [c] := by
   match b, hby with
   | [c], _ => exact ⟨c, rfl⟩
   | [], h => rw [hy] at h; simp at h
   | _ :: _ :: _, h => rw [hy] at h; simp at h
  refine (Z2 hb hc).mono ?_
  rintro r w1 ⟨o1, x1⟩
  refine (BP (ho.ext x1 (aW _)) (by omega)).mono ?_
  rintro r2 w2 ⟨o2, x2⟩
  refine hk _ _ ?_ (x1.seq x2)
  unfold Uf
  rw [if_neg (by omega), if_pos h0]
  refine ⟨r, r2, rfl, ?_, pZ o2 x1.size⟩
  have o1 := o1.ext x2 (fun _ _ h => h)
  rw [akW, List.map_replicate]
  exact o1
 .have n0 : ((H.kind : Int) == 0) = false := by rw [h0] <;> rfl
  have n1 : ((H.kind : Int) == 1) = false := by rw [h0] <;> rfl
  have n2 : ((H.kind : Int) == 2) = true := by rw [h0] <;> rfl
  simp (disch := omega) only [aD, dV, n0, n1, bU, aiC, aA, bH, n2, true_and, aF, aE]
  have hB : Uf H b old = match Wz H b old with | .error e => .error e | .ok p => UZ H p.1 p.2 := by
   unfold Uf; rw [if_neg (by omega), if_neg (by omega)] <;> (cases Wz H b old <;> rfl)
  have hW : Wz H b old = match wtR b with | .error e => .error e | .ok p => .ok (p.1, b.drop p.2) := by unfold Wz; rw [if_pos h0] <;> (cases wtR b <;> rfl)
  refine (aaB hb hbl).mono ?_
  rintro r w1 ⟨hr, x1⟩
  cases hq : wtR b with
  | error e =>
    rw [hq] at hr
    obtain rfl : r = .tuple #[.slice none 0 0, .int .i64 0, .int .i64 e] := hr
    have n3 : (e != 0) = true := by simp [acD hq]
    simp (disch := omega) only [x30, x31, x32, aA, cO, n3, aF]
    exact hk _ _ (by rw [hB, hW, hq] <;> rfl) x1
  | ok q =>
    have hq2 := adO hq
    obtain ⟨m, n⟩ := q
    rw [hq] at hr
    obtain ⟨v', rfl, o1⟩ := hr
    simp only at hq2
    have n3 : ((0 : Int) != 0) = false := rfl
    have hb1 := hb.ext (x1.seq (aR.dr w1 dH)) (aW _)
    obtain ⟨a, nn, cc, rfl, hnn, hcc, _⟩ := hb
    rw [aiI] at hnn
    subst hnn
    have hdp := hb1.drop' (k := n) hq2.2.2
    rw [<- amJ] at hdp
    have tn : (n : Int).toNat = n := aiB _
    simp (disch := omega) only [x30, x31, x32, aA, cO, n3, aE, eD, tn, true_and]
    have z1 := x1.size
    refine TE (fT (o.ext x1 (fun h => h))) hdp (by rw [aiV]; omega) ((o1.ext (aR.dr w1 dH) (fun _ _ h => h)).sl) (by omega) hc hf fun r w2 hr2 x2 => ?_
    refine hk _ _ ?_ ((x1.seq (aR.dr w1 dH)).seq x2)
    rw [hB, hW, hq]
    exact hr2.low z1
 .have n0 : ((H.kind : Int) == 0) = false := by rw [h0] <;> rfl
  have n1 : ((H.kind : Int) == 1) = false := by rw [h0] <;> rfl
  have n2 : ((H.kind : Int) == 2) = false := by rw [h0] <;> rfl
  simp (disch := omega) only [aD, dV, n0, n1, bU, aiC, aA, bH, n2, true_and, aE]
  refine TE o hb (by omega) ho hol hc hf fun r w2 hr2 x2 => ?_
  refine hk _ _ ?_ x2
  unfold Uf Wz
  rw [if_neg (by omega), if_neg (by omega), if_neg (by omega)]
  exact hr2
theorem PV {v ov : anV} {l old : List UInt8} {w : anU} (h : Bs w v l) (hl : l.length <= 10000) (ho : Bs w ov old) (hol : old.length <= 100000) :
 aP pg lP #[v, ov] w (fun r w' => Q3 w' w.heap.size (O8 l old) r /\ aR w w' dH) := by
 refine Ny ?_
 obtain ⟨RR, hRR⟩ : ∃ RR : anV -> anU -> Prop, RR = fun r w' => Q3 w' w.heap.size (O8 l old) r /\ aR w w' dH := ⟨_, rfl⟩
 rw [<- hRR]
 have key : ∀ r w', Q3 w' w.heap.size (O8 l old) r -> aR w w' dH -> RR r w' := fun r w' h1 h2 => by rw [hRR]; exact ⟨h1, h2⟩
 unfold MJ Av Aw
 refine (aaI h (by omega)).mono ?_
 rintro r w1 ⟨hr, x1⟩
 have z1 := x1.size
 by_cases he : (kU l).2 = 0
 .have hr : r = .tuple #[lhV (kU l).1, .int .i64 0] := by have := hr; unfold OpR at this; rw [if_pos he] at this; exact this
  subst hr
  obtain ⟨h1, h2, h3, h4, h5, h6⟩ := Y1 he
  have hR : O8 l old = WR (kU l).1 l old := by unfold O8; rw [if_pos he]
  rw [hR] at key
  generalize (kU l).1 = H at *
  have n0 : ((0 : Int) != 0) = false := rfl
  unfold lhV
  simp (disch := omega) only [aD, oH, oF, aA, cO]
  refine tE fun w2 o2 x2 s2 => ?_
  refine iK o2 rfl (by simp [one]) (by simp) fun w3 o3 x3 s3 => ?_
  simp only [cG, aiG, aiF] at o3
  have x03 : aR w w3 dH := x1.seq (x2.new x3 (aiM _))
  obtain ⟨p, hp⟩ : ∃ p, p = w1.heap.size := ⟨_, rfl⟩
  rw [<- hp] at o3 ⊢
  have k0 := o3.cell (off := 0)
  have k2 := o3.cell (off := 2)
  have k3 := o3.cell (off := 3)
  simp only [ahZ, aiA] at k0 k2 k3
  have hh := h
  obtain ⟨a, nn, cc, rfl, hnn, hcc, _⟩ := h
  rw [aiI] at hnn
  subst hnn
  have hdp := (hh.ext x03 (aW _)).drop' (k := H.size) h2
  rw [<- amJ] at hdp
  have hbody : ∀ w4, cL w4 p (lhC H (HD H)) -> aR w3 w4 (fun y => y = p) -> rB RR (.slice (fY a cc H.size 1) (l.length - H.size) (cc - H.size)) ov (.pointer (some ⟨p, 0, none⟩)) w4 := by
   intro w4 o4 x4
   have x04 : aR w w4 dH := x03.trans x4 fun y hy h => by omega
   have z4 := x04.size
   have hdp4 := (hh.ext x04 (aW _)).drop' (k := H.size) h2
   rw [<- amJ] at hdp4
   have c0 := o4.cell (off := 0)
   have c2 := o4.cell (off := 2)
   have c4 := o4.cell (off := 4)
   simp only [ahZ, aiA] at c0 c2 c4
   have ty : (HD H : Int).toNat = HD H := aiB _
   have hyb : HD H < 2 ^ 41 := by unfold HD; split <;> (try split) <;> omega
   have hlen : (l.drop H.size).length = l.length - H.size := aiV
   unfold rB Bm
   by_cases hs : l.length - H.size < HD H
   .have d1 : decide (((l.length - H.size : Nat) : Int) < (HD H : Int)) = true := by simp; omega
    simp (disch := omega) only [aD, aN, dW, aiC, bG, aA, bH, c4, aH, aY, d1, aF]
    exact key _ _ (by unfold WR; rw [hlen, if_pos hs] <;> rfl) x04
   .have d1 : decide (((l.length - H.size : Nat) : Int) < (HD H : Int)) = false := by simp; omega
    have e1 : (H.size : Int) + (HD H : Int) = ((H.size + HD H : Nat) : Int) := by omega
    have htk := hdp4.take' (k := HD H) (by omega)
    rw [<- amT] at htk
    have htl : ((l.drop H.size).take (HD H)).length = HD H := by rw [aiR, hlen]; omega
    simp (disch := omega) only [aD, aN, dW, aiC, bG, aA, bH, c4, aH, aY, d1, nO, ty, c2, bQ, e1, aT, aE]
    refine X5 o4 htk (by omega) htl (ho.ext x04 (aW _)) hol h1 h4 h3 fun r w5 hr5 x5 => ?_
    refine key _ _ ?_ (x04.seq x5)
    unfold WR
    rw [hlen, if_neg hs]
    exact hr5.low z4
  have ts : (H.size : Int).toNat = H.size := aiB _
  rcases (show H.kind = 0 ∨ H.kind = 1 ∨ H.kind = 2 ∨ H.kind = 3 by omega) with h0 | h0 | h0 | h0
  .have n1 : ((H.kind : Int) == 0) = true := by rw [h0] <;> rfl
   have hy : HD H = H.count := by unfold HD; rw [if_pos h0]
   simp (disch := omega) only [n0, bG, aiC, fO, bU, dW, aA, bH, k2, aH, eD, ts, k0, dV, n1, k3, aF, aE]
   refine jS o3 rfl (by simp) fun w4 o4 x4 s4 => ?_
   exact hbody w4 (by rw [hy]; exact o4) x4
  .have n1 : ((H.kind : Int) == 0) = false := by rw [h0] <;> rfl
   have n2 : ((H.kind : Int) == 1) = true := by rw [h0] <;> rfl
   have hy : HD H = 1 := by unfold HD; rw [if_neg (by omega), if_pos h0]
   simp (disch := omega) only [n0, bG, aiC, fO, bU, dW, aA, bH, k2, aH, eD, ts, k0, dV, n1, n2, aF, k3, aE]
   refine jS o3 rfl (by simp) fun w4 o4 x4 s4 => ?_
   have e1 : (1 : Int) = ((HD H : Nat) : Int) := by rw [hy] <;> rfl
   rw [e1] at o4
   exact hbody w4 o4 x4
  .have n1 : ((H.kind : Int) == 0) = false := by rw [h0] <;> rfl
   have n2 : ((H.kind : Int) == 1) = false := by rw [h0] <;> rfl
   have hy : HD H = H.bytes := by unfold HD; rw [if_neg (by omega), if_neg (by omega)]
   simp (disch := omega) only [n0, bG, aiC, fO, bU, dW, aA, bH, k2, aH, eD, ts, k0, dV, n1, n2, aE, k3]
   rw [<- hy] at o3
   exact hbody _ o3 (aR.refl _ _)
  .have n1 : ((H.kind : Int) == 0) = false := by rw [h0] <;> rfl
   have n2 : ((H.kind : Int) == 1) = false := by rw [h0] <;> rfl
   have hy : HD H = H.bytes := by unfold HD; rw [if_neg (by omega), if_neg (by omega)]
   simp (disch := omega) only [n0, bG, aiC, fO, bU, dW, aA, bH, k2, aH, eD, ts, k0, dV, n1, n2, aE, k3]
   rw [<- hy] at o3
   exact hbody _ o3 (aR.refl _ _)
 .have hr : r = .tuple #[lh0, .int .i64 (kU l).2] := by have := hr; unfold OpR at this; rw [if_neg he] at this; exact this
  subst hr
  have n0 : ((kU l).2 != 0) = true := by simp [he]
  unfold lh0
  simp (disch := omega) only [aD, oH, oF, aA, cO]
  refine tE fun w2 o2 x2 s2 => ?_
  refine iK o2 rfl (by simp [one]) (by simp) fun w3 o3 x3 s3 => ?_
  simp (disch := omega) only [n0, bG, aiC, fO, bU, dW, aA, bH, aF]
  exact key _ _ (by unfold O8; rw [if_neg he] <;> rfl) (x1.seq (x2.new x3 (aiM _)))
theorem Nw {a b : Nat} (k : Nat) (h : b < 2 ^ k) : a * 2 ^ k ||| b = a * 2 ^ k + b := by
 rw [<- Nat.shiftLeft_eq, Nat.shiftLeft_add_eq_or_of_lt h]
def fU (k n : Nat) : List UInt8 := if n < 32 then fS (n * 8 + k) 1 else if n < 4096 then fS (n * 16 + 4 + k) 2 else fS (n * 16 + 12 + k) 3
theorem Xr {k n : Nat} {w : anU} (hk : k < 2) (hn : n <= 131072) :
 aP pg nS #[.int .i64 k, .int .i64 n] w (fun r w' => oI w' w.heap.size 1 r (fU k n).length ((fU k n).map lL) /\ aR w w' dH) := by
 refine LU ?_
 obtain ⟨RR, hRR⟩ : ∃ RR : anV -> anU -> Prop, RR = fun r w' => oI w' w.heap.size 1 r (fU k n).length ((fU k n).map lL) /\ aR w w' dH := ⟨_, rfl⟩
 rw [<- hRR]
 unfold J0 yI zA
 refine (No w).mono ?_
 rintro r w1 ⟨rfl, hlt, hc1, x1⟩
 have z1 := x1.size
 have fin : ∀ (X m : Nat) (w2 : anU), X < 2 ^ 40 -> 1 <= m -> m <= 8 -> fS X m = fU k n -> w2 = w1 →
     aP pg dJ #[.pointer (some ⟨w.heap.size, 0, none⟩), .int .u64 X, .int .i64 m] w2 fun _ w' => mE RR (.pointer (some ⟨w.heap.size, 0, none⟩)) w' := by
  intro X m w2 hX h1 h8 hp hw
  subst hw
  refine (KJ (n := m) hc1 (fun b hb => by omega) (Nat.lt_trans hX (by decide)) ⟨h1, h8⟩ (amE _)).mono ?_
  rintro r w3 ⟨rfl, hc3, x3⟩
  rw [alE, hp] at hc3
  have hpl : (fU k n).length <= 8 := by rw [<- hp, dM]; exact h8
  unfold mE
  have hpl2 : (fU k n).length <= 1000000000 := akT hpl (by decide)
  have hout := Sf hc3 hpl2
  refine hout.mono ?_
  rintro r w4 ⟨o4, x4⟩
  have x03 : aR w w3 dH := x1.trans x3 fun y hy h => by omega
  have z3 := x03.size
  have hfin : oI w4 w.heap.size 1 r (fU k n).length ((fU k n).map lL) /\ aR w w4 dH := ⟨pZ o4 z3, x03.seq x4⟩
  rw [hRR]
  exact hfin
 have t3 : (3 : Int).toNat = 3 := rfl
 have t4 : (4 : Int).toNat = 4 := rfl
 have p3 : (2 : Nat) ^ 3 = 8 := rfl
 have p4 : (2 : Nat) ^ 4 = 16 := rfl
 by_cases h1 : n < 32
 .have d1 : decide ((n : Int) < 32) = true := decide_eq_true (by omega)
  have e1 := NY (a := n) (n := 3) (by omega) (by omega)
  have e2 : UG .i64 ((n * 2 ^ 3 : Nat) : Int) (k : Int) = ((n * 8 + k : Nat) : Int) := by
   rw [QO (by omega) (by omega), Nw 3 (by omega)]
  have e3 : IntKind.u64.wrap ((n * 8 + k : Nat) : Int) = ((n * 8 + k : Nat) : Int) := iZ (by omega) (by omega)
  simp (disch := omega) only [aD, aY, d1, kM, t3, e1, aA, SR, e2, qA, e3, aF]
  exact fin (n * 8 + k) 1 _ (by omega) (by omega) (by omega) (by unfold fU; rw [if_pos h1]) rfl
 have d1 : decide ((n : Int) < 32) = false := decide_eq_false (by omega)
 have e1 := NY (a := n) (n := 4) (by omega) (by omega)
 by_cases h2 : n < 4096
 .have d2 : decide ((n : Int) < 4096) = true := decide_eq_true (by omega)
  have e2 : UG .i64 ((n * 2 ^ 4 : Nat) : Int) 4 = ((n * 16 + 4 : Nat) : Int) := by
   have := QO (a := n * 2 ^ 4) (b := 4) (by omega) (by omega)
   rw [Nw 4 (by omega)] at this
   exact this
  have e3 : UG .i64 ((n * 16 + 4 : Nat) : Int) (k : Int) = ((n * 16 + 4 + k : Nat) : Int) := by
   rw [QO (by omega) (by omega), show n * 16 + 4 = (n * 4 + 1) * 2 ^ 2 from by omega, Nw 2 (by omega)]
  have e4 : IntKind.u64.wrap ((n * 16 + 4 + k : Nat) : Int) = ((n * 16 + 4 + k : Nat) : Int) := iZ (by omega) (by omega)
  simp (disch := omega) only [aD, aY, d1, kM, aA, SR, qA, d2, t4, e1, e2, e3, e4, aF, aE]
  exact fin (n * 16 + 4 + k) 2 _ (by omega) (by omega) (by omega) (by unfold fU; rw [if_neg h1, if_pos h2]) rfl
 .have d2 : decide ((n : Int) < 4096) = false := decide_eq_false (by omega)
  have e2 : UG .i64 ((n * 2 ^ 4 : Nat) : Int) 12 = ((n * 16 + 12 : Nat) : Int) := by
   have := QO (a := n * 2 ^ 4) (b := 12) (by omega) (by omega)
   rw [Nw 4 (by omega)] at this
   exact this
  have e3 : UG .i64 ((n * 16 + 12 : Nat) : Int) (k : Int) = ((n * 16 + 12 + k : Nat) : Int) := by
   rw [QO (by omega) (by omega), show n * 16 + 12 = (n * 4 + 3) * 2 ^ 2 from by omega, Nw 2 (by omega)]
  have e4 : IntKind.u64.wrap ((n * 16 + 12 + k : Nat) : Int) = ((n * 16 + 12 + k : Nat) : Int) := iZ (by omega) (by omega)
  simp (disch := omega) only [aD, aY, d1, kM, aA, SR, qA, d2, t4, e1, e2, e3, e4, aE]
  exact fin (n * 16 + 12 + k) 3 _ (by omega) (by omega) (by omega) (by unfold fU; rw [if_neg h1, if_neg h2]) rfl
theorem MX (k n : Nat) : (fU k n).length <= 3 := by
 unfold fU; split
 .simp [dM]
 .split <;> simp [dM]
theorem acR {v : anV} {l : List UInt8} {w : anU} (h : Bs w v l) (hl : l.length <= 131072) :
 aP pg sK #[v] w (fun r w' => ∃ x, r = .tuple #[x, .int .i64 0] /\ oI w' w.heap.size 1 x (fU 0 l.length ++ l).length ((fU 0 l.length ++ l).map lL) /\ aR w w' dH) := by
 refine OQ ?_
 unfold Pw CB
 have hv := h
 obtain ⟨a, c, rfl, hc⟩ := h.len
 rw [aiI] at *
 have d1 : decide ((l.length : Int) > 131072) = false := decide_eq_false (by omega)
 have d2 : decide ((131072 : Int) < (l.length : Int)) = false := decide_eq_false (by omega)
 simp (disch := omega) only [aD, aN, aA, dU, d1, aE]
 refine (Xr (k := 0) (n := l.length) (by omega) hl).mono ?_
 rintro r w1 ⟨o1, x1⟩
 have z1 := x1.size
 have hcl := (hv.ext x1 (aW _)).cl
 rw [aiI] at hcl
 have hp := MX 0 l.length
 refine fA o1 hcl (P6 _) z1 (by omega) fun v2 w2 o2 x2 => ?_
 refine ⟨v2, rfl, ?_, x1.trans x2 fun y hy h => by omega⟩
 rw [aiE, aiZ]
 exact o2
theorem adN {c : UInt8} {n : Nat} {w : anU} (hn : n <= 131072) :
 aP pg vL #[lL c, .int .i64 n] w (fun r w' => ∃ x, r = .tuple #[x, .int .i64 0] /\ oI w' w.heap.size 1 x (fU 1 n ++ [c]).length ((fU 1 n ++ [c]).map lL) /\ aR w w' dH) := by
 refine M5 ?_
 unfold MK A4
 have d0 : decide ((n : Int) < 0) = false := decide_eq_false (by omega)
 have d1 : decide ((n : Int) > 131072) = false := decide_eq_false (by omega)
 have d2 : decide ((131072 : Int) < (n : Int)) = false := decide_eq_false (by omega)
 simp (disch := omega) only [aD, aY, d0, aA, dS, bO, aiD, if_false, bW, dU, d1, aE]
 refine (Xr (k := 1) (n := n) (by omega) hn).mono ?_
 rintro r w1 ⟨o1, x1⟩
 have z1 := x1.size
 have hp := MX 1 n
 refine iC (cells := #[lL c]) (by decide) (by decide) (by kernel_rfl) fun w2 o2 x2 s2 => ?_
 have z2 := x2.size
 refine fA (m := 1) (news := [lL c]) (o1.ext x2 (fun _ _ h => h)) (o2.cl (off := 0) (l := [lL c]) (n := 1) rfl (fun i hi => by rw [aiC])) (by simp [one, lL]) (by omega) (by omega) fun v2 w3 o3 x3 => ?_
 refine ⟨v2, rfl, ?_, (x1.seq x2).trans x3 fun y hy h => by omega⟩
 rw [aiE, aiZ]
 exact o3
theorem TD {k n : Nat} {rest : List UInt8} (hk : k < 2) (hn : n <= 131072) : ∃ f, kU (fU k n ++ rest) = (⟨k, f, (fU k n).length, n, 0⟩, 0) := by
 have key : ∀ (X m d : Nat), 1 <= m -> X < 256 ^ m -> X % 4 = k -> gI k (X / 4 % 4) = m -> (if k < 2 /\ m = 1 then 3 else 4) = d -> X / 2 ^ d = n -> ∃ f, kU (fS X m ++ rest) = (⟨k, f, (fS X m).length, n, 0⟩, 0) := by
  intro X m d hm hX h4 hs hd0 hn2
  have hd : rZ k (X / 4 % 4) = d := by unfold rZ; rw [hs]; exact hd0
  obtain ⟨m', rfl⟩ : ∃ m', m = m' + 1 := ⟨m - 1, by omega⟩
  have hp : fS X (m' + 1) = UInt8.ofNat (X % 256) :: fS (X / 256) m' := rfl
  have hc : (UInt8.ofNat (X % 256)).toNat = X % 256 := by simp
  have e1 : X % 256 % 4 = k := by omega
  have e2 : X % 256 / 4 % 4 = X / 4 % 4 := by omega
  have hW : sZ k (X / 4 % 4) = 20 := by unfold sZ; rw [if_pos hk]
  have hlen : (UInt8.ofNat (X % 256) :: (fS (X / 256) m' ++ rest)).length = m' + 1 + rest.length := by simp [dM]; omega
  have htk : (UInt8.ofNat (X % 256) :: (fS (X / 256) m' ++ rest)).take (m' + 1) = fS X (m' + 1) := by
   rw [hp, <- akJ, alT (by simp [dM]), akP (by simp [dM])]
  have q1 : n % 2 ^ 20 = n := ajJ (by omega)
  have q2 : n / 2 ^ 20 = 0 := anL (by omega)
  have q3 : X % 256 ^ (m' + 1) = X := ajJ hX
  refine ⟨X / 4 % 4, ?_⟩
  rw [hp, akJ, kU]
  simp only [hc, e1, e2, hs, hd, hW]
  rw [if_neg (by rw [hlen]; omega), htk, Ll, q3, hn2, q1, q2, if_neg (by omega), <- hp, dM]
 unfold fU
 by_cases h1 : n < 32
 .rw [if_pos h1]
  refine key _ 1 3 (by omega) (by omega) (by omega) ?_ ?_ (by omega)
  .unfold gI; rw [if_pos hk, if_neg (by omega), if_neg (by omega)]
  .rw [if_pos ⟨hk, rfl⟩]
 rw [if_neg h1]
 by_cases h2 : n < 4096
 .rw [if_pos h2]
  refine key _ 2 4 (by omega) (by omega) (by omega) ?_ ?_ (by omega)
  .unfold gI; rw [if_pos hk, if_pos (by omega)]
  .rw [if_neg (by omega)]
 .rw [if_neg h2]
  refine key _ 3 4 (by omega) (by omega) (by omega) ?_ ?_ (by omega)
  .unfold gI; rw [if_pos hk, if_neg (by omega), if_pos (by omega)]
  .rw [if_neg (by omega)]
theorem abW {l more old : List UInt8} (hl : l.length <= 131072) : O8 (fU 0 l.length ++ l ++ more) old = .ok (l, old, (fU 0 l.length).length + l.length) := by
 rw [ajI]
 obtain ⟨f, h⟩ := TD (k := 0) (n := l.length) (rest := l ++ more) (by omega) hl
 unfold O8
 rw [h]
 simp only [if_true]
 unfold WR Uf HD
 simp
def AU (kind form n m bits : Nat) : Nat := kind + form * 4 + n * 2 ^ 4 + m * 2 ^ (4 + bits)
theorem V5 {kind form n m bits size : Nat} {rest : List UInt8} (hk : kind = 2 ∨ kind = 3) (hf : form < 4) (hb : R7 form = bits) (hs : gI kind form = size) (h8 : 4 + 2 * bits = 8 * size) (hn : n < 2 ^ bits) (hm : m < 2 ^ bits) (hn2 : n <= 131072) :
 kU (fS (AU kind form n m bits) size ++ rest) = (⟨kind, form, size, n, m⟩, 0) := by
 obtain ⟨X, hX⟩ : ∃ X, X = AU kind form n m bits := ⟨_, rfl⟩
 rw [<- hX]
 have hk4 : kind < 4 := by omega
 have hlow : kind + form * 4 < 16 := by omega
 have e0 : X = (kind + form * 4) + 2 ^ 4 * (n + m * 2 ^ bits) := by
  rw [hX, AU, akC, amV, ajD (2 ^ 4) n, alJ]
  congr 2
  rw [Nat.mul_left_comm]
 have e1 : X % 16 = kind + form * 4 := by rw [e0]; omega
 have e2 : X / 2 ^ 4 = n + m * 2 ^ bits := by rw [e0]; omega
 have hbp := aiY bits
 have q1 : (n + m * 2 ^ bits) % 2 ^ bits = n := by rw [Nat.add_mul_mod_self_right]; exact ajJ hn
 have q2 : (n + m * 2 ^ bits) / 2 ^ bits = m := by rw [Nat.add_mul_div_right _ _ hbp, anL hn, aiC]
 have hXlt : X < 256 ^ size := by
  have h1 : n + m * 2 ^ bits < 2 ^ bits * 2 ^ bits := by
   have : (m + 1) * 2 ^ bits <= 2 ^ bits * 2 ^ bits := ajG _ hm
   rw [ajR] at this
   omega
  rw [<- akC] at h1
  have h2 : (256 : Nat) ^ size = 2 ^ 4 * 2 ^ (bits + bits) := by
   rw [show (256 : Nat) = 2 ^ 8 from rfl, <- Nat.pow_mul, <- h8, <- akC]; congr 1; omega
  rw [h2, e0]
  generalize 2 ^ (bits + bits) = Y at *
  generalize m * 2 ^ bits = Z at *
  omega
 have hsz := Ky kind form
 obtain ⟨m', rfl⟩ : ∃ m', size = m' + 1 := ⟨size - 1, by omega⟩
 have hp : fS X (m' + 1) = UInt8.ofNat (X % 256) :: fS (X / 256) m' := rfl
 have hc : (UInt8.ofNat (X % 256)).toNat = X % 256 := by simp
 have f1 : X % 256 % 4 = kind := by omega
 have f2 : X % 256 / 4 % 4 = form := by omega
 have hW : sZ kind form = bits := by unfold sZ; rw [if_neg (by omega)]; exact hb
 have hD : rZ kind form = 4 := by unfold rZ; rw [if_neg (by omega)]
 have hlen : (UInt8.ofNat (X % 256) :: (fS (X / 256) m' ++ rest)).length = m' + 1 + rest.length := by simp [dM]; omega
 have htk : (UInt8.ofNat (X % 256) :: (fS (X / 256) m' ++ rest)).take (m' + 1) = fS X (m' + 1) := by
  rw [hp, <- akJ, alT (by simp [dM]), akP (by simp [dM])]
 have q3 : X % 256 ^ (m' + 1) = X := ajJ hXlt
 rw [hp, akJ, kU]
 simp only [hc, f1, f2, hs, hD, hW]
 rw [if_neg (by rw [hlen]; omega), htk, Ll, q3, e2, q1, q2, if_neg (by omega)]
theorem TU {a b : List Nat} {n : Nat} (h : (n + 1) / 2 <= a.length) : gF (a ++ b) n = gF a n := by
 unfold gF
 refine ajH fun i hi => ?_
 have hi := ajL.1 hi
 unfold QH
 have : (a ++ b).getD (i / 2) 0 = a.getD (i / 2) 0 := by
  rw [aiJ, aiJ, aiX (by omega)]
 rw [this]
theorem abI {wl s : List UInt8} (h : dD (aU wl) ≠ 0) (hl : wl.length <= 129) : wtR (kJ (Ux (aU wl)) ++ s) = .ok (wl, (Ux (aU wl)).length) := by
 have hnl := cT wl
 have hok := pY rfl h
 obtain ⟨m, k, hlm, hml, hwh, hhp, htk⟩ := Zg rfl h (by omega)
 have hwl := SD (aU wl)
 have hre : kJ (Ux (aU wl)) = UInt8.ofNat (126 + wl.length) :: kJ (uG m) := by
  unfold Ux
  show List.map _ (_ :: _) = _
  rw [akZ, htk, hnl]
 have hrl : (kJ (uG m)).length = (m.length + 1) / 2 := by rw [aiI, tQ]
 have hh : (UInt8.ofNat (126 + wl.length)).toNat = 126 + wl.length := by simp; omega
 have hm2 : 126 + wl.length - 127 = m.length := by omega
 have hpm : ∀ x ∈ uG m, x < 256 := fun x hx => aeO (fun w hw => akT (hok.1 w hw) hok.2.1) (by omega) x (by
  unfold Ux; rw [htk]; exact aiT _ hx)
 have hnb : aU (kJ (uG m)) = uG m := Qa hpm
 rw [hre, akJ, NT, hh, hm2, if_pos (by omega), if_neg (by rw [aiE, hrl]; omega)]
 have hna : aU (kJ (uG m) ++ s) = uG m ++ aU s := by rw [<- hnb]; simp [aU]
 rw [hna, TU (by rw [tQ]; omega), hhp, TW]
 have hwm : pD m = some k := by rw [hhp] at hwh; exact hwh
 rw [hwm]
 simp only
 have hle : kJ m ++ [UInt8.ofNat k] = wl := by
  have e : kJ (aU wl) = wl := Ti wl
  rw [hlm] at e
  rw [<- e]
  show _ = List.map _ (m ++ [k])
  rw [aiZ] <;> rfl
 rw [hle, hwl, hnl]
 congr 2
 omega
theorem aaH {l wl d s more old : List UInt8} {kind form bits size : Nat} (hk : (kind = 2 /\ dD (aU wl) ≠ 0 /\ wl.length <= 129 /\ d = kJ (Ux (aU wl))) ∨ (kind = 3 /\ d = [] /\ old = wl)) (hd : dD (aU wl) ≠ 0)
 (hf : form < 4) (hb : R7 form = bits) (hs : gI kind form = size) (h8 : 4 + 2 * bits = 8 * size) (hn : l.length < 2 ^ bits) (hm : (d ++ s).length < 2 ^ bits) (hn2 : l.length <= 131072)
 (hr : (if form = 0 then Ss wl s l.length else HO wl s l.length) = .ok (aU l)) :
 O8 (fS (AU kind form l.length (d ++ s).length bits) size ++ (d ++ s) ++ more) old = .ok (l, wl, (fS (AU kind form l.length (d ++ s).length bits) size ++ (d ++ s)).length) := by
 rw [ajI]
 have hk' : kind = 2 ∨ kind = 3 := by rcases hk with h | h; exact .inl h.1; exact .inr h.1
 have hh := V5 (rest := (d ++ s) ++ more) hk' hf hb hs h8 hn hm hn2
 have hw2 : wl.length ≠ 0 := by
  have := pY rfl hd
  rw [cT] at this
  omega
 have hkn0 : kind ≠ 0 := by omega
 have hkn1 : kind ≠ 1 := by omega
 unfold O8
 rw [hh]
 simp only [if_true]
 unfold WR HD
 simp only [if_neg hkn0, if_neg hkn1, Ln]
 rw [if_neg (by rw [aiE]; omega), amL rfl]
 unfold Uf Wz HD
 simp only [if_neg hkn0, if_neg hkn1]
 have hfin : UZ ⟨kind, form, size, l.length, (d ++ s).length⟩ wl s = .ok (l, wl, size + (d ++ s).length) := by
  unfold UZ Sj HD
  simp only [if_neg hkn0, if_neg hkn1, if_neg hw2]
  rw [hr]
  simp only [Ti]
 have hlen : (fS (AU kind form l.length (d ++ s).length bits) size ++ (d ++ s)).length = size + (d ++ s).length := by rw [aiE, dM]
 rw [hlen]
 rcases hk with ⟨h2, h3, h4, h5⟩ | ⟨h2, h3, h4⟩
 .rw [if_pos h2]
  have := abI (s := s) h3 h4
  rw [<- h5] at this
  rw [this]
  simp only
  have hdl : (Ux (aU wl)).length = d.length := by rw [h5]; simp [kJ]
  rw [hdl, amZ rfl]
  exact hfin
 .rw [if_neg (by omega)]
  simp only
  subst h3
  subst h4
  exact hfin
def acM (w : anU) (base : Nat) (l wl : List UInt8) (fresh : Bool) (r : anV) : Prop :=
 (∃ e : Int, r = .tuple #[.slice none 0 0, .int .i64 e] /\ ((l = [] /\ e = 1) ∨ (l ≠ [] /\ fresh = true /\ dD (aU wl) ≠ 0 /\ 129 < wl.length /\ e = 12) ∨ (l ≠ [] /\ (dD (aU wl) = 0 ∨ ∃ s ∈ aU l, bitsOf (wC wl) s = 0) /\ e = 1))) ∨
 (l ≠ [] /\ dD (aU wl) ≠ 0 /\ (∀ s ∈ aU l, 0 < bitsOf (wC wl) s) /\ (fresh = true -> wl.length <= 129) /\ ∃ v bytes, r = .tuple #[v, .int .i64 0] /\ oI w base 1 v bytes.length (bytes.map lL) /\ bytes.length <= 11 * l.length / 8 + 100 /\
   (∃ c t, bytes = c :: t /\ c.toNat % 4 = if fresh then 2 else 3) /\ (∀ more, (kU (bytes ++ more)).1.count = l.length) /\ ∀ more old, (fresh = true ∨ old = wl) -> O8 (bytes ++ more) old = .ok (l, wl, bytes.length))
theorem abS {a b : Nat} (ha : a < 2 ^ 64) (hb : b < 2 ^ 64) : UG .u64 (a : Int) (b : Int) = ((a ||| b : Nat) : Int) := Ud ha hb
theorem W9 {RR : anV -> anU -> Prop} {sv bv : anV} {l wl B : List UInt8} {kind form bits size : Nat} {fresh : Bool} {w0 w : anU} (h : Bs w sv l) (hb : Bs w bv B) (hl : l.length <= 131072) (hk : kind < 4) (hf : form < 4) (hbits : bits <= 18) (hsz : 1 <= size /\ size <= 8) (hB : B.length < 2 ^ 18) (hn : l.length < 2 ^ bits)
 (hk' : ∀ r w', oI w' w.heap.size 1 r (fS (AU kind form l.length B.length bits) size ++ B).length ((fS (AU kind form l.length B.length bits) size ++ B).map lL) -> aR w w' dH -> RR (.tuple #[r, .int .i64 0]) w') :
 jJ RR sv (.int .i64 (kind : Nat)) bv (.int .i64 (form : Nat)) (.int .i64 (bits : Nat)) (.int .i64 (size : Nat)) w := by
 unfold jJ
 refine (No w).mono ?_
 rintro r w1 ⟨rfl, hlt1, hw1, x1⟩
 have z1 := x1.size
 have h1 := h.ext x1 (aW _)
 have hb1 := hb.ext x1 (aW _)
 have hbv := hb1
 obtain ⟨a, c, rfl, hc⟩ := h1.len
 obtain ⟨a2, c2, rfl, hc2⟩ := hb1.len
 rw [aiI] at hbv
 have t2 : (2 : Int).toNat = 2 := rfl
 have t4 : (4 : Int).toNat = 4 := rfl
 have e1 := NY (a := form) (n := 2) (by omega) (by omega)
 have e2 := NY (a := l.length) (n := 4) (by omega) (by omega)
 have e3 : UG .i64 (kind : Int) ((form * 2 ^ 2 : Nat) : Int) = ((kind + form * 4 : Nat) : Int) := by
  rw [QO (by omega) (by omega), Nat.or_comm, Nw 2 (by omega)]; congr 1; omega
 have e4 : UG .i64 ((kind + form * 4 : Nat) : Int) ((l.length * 2 ^ 4 : Nat) : Int) = ((kind + form * 4 + l.length * 2 ^ 4 : Nat) : Int) := by
  rw [QO (by omega) (by omega), Nat.or_comm, Nw 4 (by omega)]; congr 1; omega
 have e5 : IntKind.u64.wrap ((kind + form * 4 + l.length * 2 ^ 4 : Nat) : Int) = ((kind + form * 4 + l.length * 2 ^ 4 : Nat) : Int) := iZ (by omega) (by omega)
 have e6 : IntKind.u64.wrap (B.length : Int) = (B.length : Int) := iZ (by omega) (by omega)
 have e7 : (4 : Int) + (bits : Int) = ((4 + bits : Nat) : Int) := by omega
 have hp22 : 2 ^ (4 + bits) <= 2 ^ 22 := aiK (by omega) (by omega)
 have hm40 : B.length * 2 ^ (4 + bits) < 2 ^ 40 := by
  have h1 : B.length * 2 ^ (4 + bits) <= (2 ^ 18 - 1) * 2 ^ 22 := Nat.mul_le_mul (by omega) hp22
  have : (2 ^ 18 - 1) * 2 ^ 22 < 2 ^ 40 := by decide
  omega
 have e8 : IntKind.u64.wrap ((B.length : Int) * 2 ^ (min (4 + bits) IntKind.u64.bits)) = ((B.length * 2 ^ (4 + bits) : Nat) : Int) := by
  have hmin : min (4 + bits) IntKind.u64.bits = 4 + bits := by
   have : IntKind.u64.bits = 64 := rfl
   omega
  rw [hmin]
  have : (B.length : Int) * 2 ^ (4 + bits) = ((B.length * 2 ^ (4 + bits) : Nat) : Int) := by push_cast; rfl
  rw [this]
  exact iZ (by omega) (by omega)
 have hlow : kind + form * 4 + l.length * 2 ^ 4 < 2 ^ (4 + bits) := by
  rw [akC]
  generalize 2 ^ bits = Y at *
  omega
 have e9 : UG .u64 ((kind + form * 4 + l.length * 2 ^ 4 : Nat) : Int) ((B.length * 2 ^ (4 + bits) : Nat) : Int) = ((AU kind form l.length B.length bits : Nat) : Int) := by
  rw [abS (by omega) (by omega), Sg hlow, AU, ajD (2 ^ (4 + bits))]
 have hX : AU kind form l.length B.length bits < 2 ^ 64 := by unfold AU; omega
 have t8 : ((4 + bits : Nat) : Int).toNat = 4 + bits := aiB _
 simp (disch := omega) only [aD, kM, t2, e1, aiI, aN, bQ, e7, aT, aA, qA, e6, t8, e8, t4, e2, SR, e3, e4, e5, e9]
 refine (KJ (x := AU kind form l.length B.length bits) (n := size) hw1 (fun y hy => by omega) hX hsz (amE _)).mono ?_
 rintro r w2 ⟨rfl, hw2, x2⟩
 have z2 := x2.size
 rw [alE] at hw2
 have x02 : aR w w2 dH := x1.trans x2 fun y hy h => by omega
 have hb2 := hb.ext x02 (aW _)
 rw [aiI] at hb2
 have hp5 : (fS (AU kind form l.length B.length bits) size).length <= 8 := by rw [dM]; exact hsz.2
 refine (Su hw2 (fun y hy => by omega) hb2 (by omega)).mono ?_
 rintro r w3 ⟨rfl, hw3, x3⟩
 have z3 := x3.size
 refine (Sf hw3 (by rw [aiE]; omega)).mono ?_
 rintro r w4 ⟨o4, x4⟩
 refine hk' r w4 (pZ o4 (by omega)) ((x02.trans x3 fun y hy h => by omega).seq x4)
def Xx (wl : List UInt8) (n : Nat) (b : List UInt8) : Except Int (List Nat) := if n < 256 then Ss wl b n else HO wl b n
def adZ (n : Nat) : Nat := 11 * n / 8 + 12
theorem W0 {lv sv : anV} {wl l : List UInt8} {w : anU} (hw : Bs w lv wl) (hwl : wl.length <= 100000) (h : Bs w sv l) (hl : l.length <= 131072) :
 aP pg mW #[lv, sv] w (fun r w' => adH w' w.heap.size wl l (Xx wl l.length) (adZ l.length) False r /\ aR w w' dH) := by
 refine Ih ?_
 unfold Fy sU
 have hv := h
 obtain ⟨a, c, rfl, hc⟩ := h.len
 rw [aiI] at hv ⊢
 by_cases hlt : l.length < 256
 .have d1 : decide ((l.length : Int) < 256) = true := decide_eq_true (by omega)
  simp (disch := omega) only [aD, aN, aA, aY, d1, aF]
  refine (U2 hw hwl hv hl).mono ?_
  rintro r w1 ⟨ho, x1⟩
  rcases ho with ⟨hb, rfl⟩ | ⟨hd, hall, v, bytes, rfl, hbs, hat, hlen, hback⟩
  .simp (disch := omega) only [oH, oF, aA]
   exact ⟨.inl ⟨hb, rfl⟩, x1⟩
  .simp (disch := omega) only [oH, oF, aA]
   refine ⟨.inr ⟨hd, hall, v, bytes, rfl, hbs, hat, ?_, ?_⟩, x1⟩
   .unfold adZ; omega
   .unfold Xx; rw [if_pos hlt]; exact hback
 .have d1 : decide ((l.length : Int) < 256) = false := decide_eq_false (by omega)
  simp (disch := omega) only [aD, aN, aA, aY, d1, aE]
  refine (UD hw hwl hv hl).mono ?_
  rintro r w1 ⟨ho, x1⟩
  rcases ho with ⟨hb, rfl⟩ | ⟨hd, hall, v, bytes, rfl, hbs, hat, hlen, hback⟩
  .simp (disch := omega) only [oH, oF, aA]
   refine ⟨.inl ⟨?_, rfl⟩, x1⟩
   rcases hb with hb | hb | hb
   .exact .inl hb
   .omega
   .exact .inr (.inr hb)
  .simp (disch := omega) only [oH, oF, aA]
   refine ⟨.inr ⟨hd, hall, v, bytes, rfl, hbs, hat, ?_, ?_⟩, x1⟩
   .unfold adZ; omega
   .unfold Xx; rw [if_neg hlt]; exact hback
theorem aaK {sv lv : anV} {l wl : List UInt8} {fresh : Bool} {w : anU} (h : Bs w sv l) (hl : l.length <= 131072) (hw : Bs w lv wl) (hwl : wl.length <= 100000) :
 aP pg rT #[sv, lv, .bool fresh] w (fun r w' => acM w' w.heap.size l wl fresh r /\ aR w w' dH) := by
 refine J7 ?_
 obtain ⟨RR, hRR⟩ : ∃ RR : anV -> anU -> Prop, RR = fun r w' => acM w' w.heap.size l wl fresh r /\ aR w w' dH := ⟨_, rfl⟩
 rw [<- hRR]
 unfold Iu wZ xJ
 have hv := h
 obtain ⟨a, c, rfl, hc⟩ := h.len
 rw [aiI] at hv ⊢
 by_cases h0 : l.length = 0
 .have n0 : ((l.length : Int) == 0) = true := by rw [h0] <;> rfl
  simp (disch := omega) only [aD, aN, aA, dV, n0, jV, bO, if_true, aF, eF]
  rw [hRR]
  exact ⟨.inl ⟨1, rfl, .inl ⟨ajM.1 h0, rfl⟩⟩, aR.refl _ _⟩
 have hne : l ≠ [] := fun e => h0 (by rw [e] <;> rfl)
 have n0 : ((l.length : Int) == 0) = false := beq_eq_false_iff_ne.2 (by omega)
 have d1 : decide ((l.length : Int) > 131072) = false := decide_eq_false (by omega)
 have d2 : decide ((131072 : Int) < (l.length : Int)) = false := decide_eq_false (by omega)
 have tail : ∀ (kind : Nat) (d : List UInt8) (dv : anV) (w1 : anU), aR w w1 dH -> Bs w1 dv d -> oI w1 w.heap.size 1 dv d.length (d.map lL) -> d.length <= 66 →
     ((kind = 2 /\ fresh = true /\ dD (aU wl) ≠ 0 /\ wl.length <= 129 /\ d = kJ (Ux (aU wl))) ∨ (kind = 3 /\ fresh = false /\ d = [])) →
     oZ RR (.slice a l.length c) lv (.int .i64 (kind : Nat)) dv w1 := by
  intro kind d dv w1 x1 hdv od hdl hkd
  have z1 := x1.size
  unfold oZ wS
  have hv1 := hv.ext x1 (aW _)
  have hw1 := hw.ext x1 (aW _)
  refine (W0 hw1 hwl hv1 hl).mono ?_
  rintro r w2 ⟨ho, x2⟩
  have z2 := x2.size
  rcases ho with ⟨hb, rfl⟩ | ⟨hd, hall, v, bytes, rfl, hbs, hat, hlen, hback⟩
  .have n1 : ((1 : Int) != 0) = true := rfl
   simp (disch := omega) only [aD, oH, oF, aN, aA, aY, bO, cO, n1, aF]
   rw [hRR]
   refine ⟨.inl ⟨1, rfl, .inr (.inr ⟨hne, ?_, rfl⟩)⟩, x1.seq x2⟩
   rcases hb with hb | hb | hb
   .exact .inl hb
   .exact hb.elim
   .exact .inr hb
  .have n1 : ((0 : Int) != 0) = false := rfl
   have hbl : bytes.length <= 11 * l.length / 8 + 12 := hlen
   have od2 := od.ext x2 (fun _ _ h => h)
   have hbv := hbs
   obtain ⟨a2, c2, rfl, hc2⟩ := hbs.len
   rw [aiI] at hbv
   have hcl := hbv.cl
   rw [aiI] at hcl
   simp (disch := omega) only [aD, aiI, oH, oF, aN, aA, aY, bO, cO, n1, aE]
   refine fA od2 hcl (P6 _) (by omega) (by omega) fun v3 w3 o3 x3 => ?_
   have z3 := x3.size
   have hs3 : Bs w3 v3 (d ++ bytes) := by
    have := o3.sl
    rw [<- aiZ] at this
    exact this
   obtain ⟨a3, c3, rfl⟩ := o3.len
   have hml : (d ++ bytes).length = d.length + bytes.length := aiE
   rw [<- hml]
   have x03 : aR w w3 dH := (x1.seq x2).trans x3 fun y hy h => by omega
   have hv3 := hv.ext x03 (aW _)
   have d3 : decide ((262144 : Int) <= ((d ++ bytes).length : Int)) = false := decide_eq_false (by omega)
   have d4 : decide (((d ++ bytes).length : Int) ≥ 262144) = false := decide_eq_false (by omega)
   have hkd' : (kind = 2 ∨ kind = 3) /\ (kind % 4 = if fresh then 2 else 3) := by
    rcases hkd with ⟨rfl, hfr, _⟩ | ⟨rfl, hfr, _⟩
    .exact ⟨.inl rfl, by rw [hfr] <;> rfl⟩
    .exact ⟨.inr rfl, by rw [hfr] <;> rfl⟩
   have fin : ∀ (form bits size : Nat), form < 4 -> R7 form = bits -> gI kind form = size -> 4 + 2 * bits = 8 * size -> l.length < 2 ^ bits -> (d ++ bytes).length < 2 ^ bits -> (form = 0 ↔ l.length < 256) →
       jJ RR (.slice a l.length c) (.int .i64 (kind : Nat)) (.slice a3 (d ++ bytes).length c3) (.int .i64 (form : Nat)) (.int .i64 (bits : Nat)) (.int .i64 (size : Nat)) w3 := by
    intro form bits size hf hb hs h8 hn hm hfi
    have hbd := VO form
    have hsd := Ky kind form
    have hs3' := hs3
    rw [<- hml] at hs3'
    refine W9 (l := l) (B := d ++ bytes) (fresh := fresh) (wl := wl) (w0 := w) hv3 hs3' hl (by omega) hf (by omega) (by omega) (by omega) hn fun r w4 o4 x4 => ?_
    rw [hRR]
    have hpl : (fS (AU kind form l.length (d ++ bytes).length bits) size ++ (d ++ bytes)).length = size + (d ++ bytes).length := by rw [aiE, dM]
    refine ⟨.inr ⟨hne, hd, hall, ?_, r, _, rfl, pZ o4 (by omega), ?_, ?_, ?_, ?_⟩, x03.seq x4⟩
    .intro hfr
     rcases hkd with ⟨_, _, _, h4, _⟩ | ⟨_, hfr', _⟩
     .exact h4
     .rw [hfr] at hfr'; cases hfr'
    .rw [hpl]; omega
    .obtain ⟨s', rfl⟩ : ∃ s', size = s' + 1 := ⟨size - 1, by omega⟩
     refine ⟨_, _, rfl, ?_⟩
     have : (UInt8.ofNat (AU kind form l.length (d ++ bytes).length bits % 256)).toNat = AU kind form l.length (d ++ bytes).length bits % 256 := by simp
     rw [this, <- hkd'.2]
     unfold AU
     have e : (d ++ bytes).length * 2 ^ (4 + bits) = 16 * ((d ++ bytes).length * 2 ^ bits) := by rw [akC]; exact Nat.mul_left_comm _ _ _
     rw [e]; omega
    .intro more
     rw [ajI, V5 hkd'.1 hf hb hs h8 hn hm hl]
    .intro more old hold
     refine aaH ?_ hd hf hb hs h8 hn hm hl ?_
     .rcases hkd with ⟨h2, h3, h4, h5, h6⟩ | ⟨h2, h3, h4⟩
      .exact .inl ⟨h2, h4, h5, h6⟩
      .refine .inr ⟨h2, h4, ?_⟩
       rcases hold with h | h
       .rw [h3] at h; cases h
       .exact h
     .unfold Xx at hback
      by_cases hlt : l.length < 256
      .rw [if_pos (hfi.2 hlt)]; rw [if_pos hlt] at hback; exact hback
      .rw [if_neg (fun h => hlt (hfi.1 h))]; rw [if_neg hlt] at hback; exact hback
   have hmx : (if (((d ++ bytes).length : Nat) : Int) > ((l.length : Nat) : Int) then (((d ++ bytes).length : Nat) : Int) else ((l.length : Nat) : Int)) = ((max l.length (d ++ bytes).length : Nat) : Int) := by split <;> omega
   have hls : ∀ f, gI kind f = if f = 2 then 4 else if f = 3 then 5 else 3 := fun f => by unfold gI; rw [if_neg (by omega)]
   obtain ⟨M, hM⟩ : ∃ M, M = max l.length (d ++ bytes).length := ⟨_, rfl⟩
   rw [<- hM] at hmx
   by_cases hlt : l.length < 256
   .have d5 : decide ((l.length : Int) < 256) = true := decide_eq_true (by omega)
    have d6 : decide ((M : Int) < 1024) = true := decide_eq_true (by omega)
    simp (disch := omega) only [aN, d5, Uz, if_true, aF, bW, aA, Pl, hmx, aY, d6, lK, d3, aE]
    exact fin 0 10 3 (by omega) rfl (hls 0) (by omega) (by omega) (by omega) ⟨fun _ => hlt, fun _ => rfl⟩
   have d5 : decide ((l.length : Int) < 256) = false := decide_eq_false (by omega)
   by_cases h1 : M < 1024
   .have d6 : decide ((M : Int) < 1024) = true := decide_eq_true (by omega)
    simp (disch := omega) only [aN, d5, Wf, aiD, if_false, aE, eF, aA, Pl, hmx, aY, d6, aF, lK, d3]
    exact fin 1 10 3 (by omega) rfl (hls 1) (by omega) (by omega) (by omega) ⟨fun h => (by omega), fun h => (by omega)⟩
   have d6 : decide ((M : Int) < 1024) = false := decide_eq_false (by omega)
   by_cases h2 : M < 16384
   .have d7 : decide ((M : Int) < 16384) = true := decide_eq_true (by omega)
    simp (disch := omega) only [aN, d5, Wf, aiD, if_false, aE, eF, aA, Pl, hmx, aY, d6, d7, aF, lK, d3]
    exact fin 2 14 4 (by omega) rfl (hls 2) (by omega) (by omega) (by omega) ⟨fun h => (by omega), fun h => (by omega)⟩
   .have d7 : decide ((M : Int) < 16384) = false := decide_eq_false (by omega)
    simp (disch := omega) only [aN, d5, Wf, aiD, if_false, aE, eF, aA, Pl, hmx, aY, d6, d7, lK, d3]
    exact fin 3 18 5 (by omega) rfl (hls 3) (by omega) (by omega) (by omega) ⟨fun h => (by omega), fun h => (by omega)⟩
 cases fresh with
 | false =>
   simp (disch := omega) only [aD, aN, aE, aA, dV, n0, dS, bO, aiD, if_false, bW, dU, d1]
   exact tail 3 [] _ w (aR.refl _ _) (Sl.nil w) ⟨rfl, .inl ⟨rfl, rfl⟩⟩ (by simp) (.inr ⟨rfl, rfl, rfl⟩)
 | true =>
   simp (disch := omega) only [aD, aN, aF, aA, dV, n0, dS, bO, aiD, if_false, bW, dU, d1, aE]
   by_cases hbad : dD (aU wl) = 0 ∨ 129 < wl.length
   .refine (Wl hw hwl hbad).mono ?_
    rintro r w1 ⟨rfl, rfl⟩
    by_cases hd : dD (aU wl) = 0
    .rw [if_pos hd]
     have n1 : ((1 : Int) != 0) = true := rfl
     simp (disch := omega) only [oH, oF, aA, cO, n1, aF]
     rw [hRR]
     exact ⟨.inl ⟨1, rfl, .inr (.inr ⟨hne, .inl hd, rfl⟩)⟩, aR.refl _ _⟩
    .rw [if_neg hd]
     have n1 : ((12 : Int) != 0) = true := rfl
     simp (disch := omega) only [oH, oF, aA, cO, n1, aF]
     rw [hRR]
     exact ⟨.inl ⟨12, rfl, .inr (.inl ⟨hne, rfl, hd, by omega, rfl⟩)⟩, aR.refl _ _⟩
   .have hd : dD (aU wl) ≠ 0 := fun h => hbad (.inl h)
    refine (Z4 hw rfl hd (by omega)).mono ?_
    rintro r w1 ⟨v', rfl, o1, x1⟩
    have n1 : ((0 : Int) != 0) = false := rfl
    have hbl : (kJ (Ux (aU wl))).length = (Ux (aU wl)).length := by simp [kJ]
    have hwl2 := SD (aU wl)
    rw [cT] at hwl2
    have hs := o1.sl
    obtain ⟨a1, c1, rfl⟩ := o1.len
    simp (disch := omega) only [oH, oF, aA, cO, n1, aE]
    exact tail 2 (kJ (Ux (aU wl))) _ w1 x1 hs (by rw [hbl]; exact o1) (by omega) (.inl ⟨rfl, rfl, hd, by omega, rfl⟩)
theorem Ui {w : anU} {b : Nat} {l : List UInt8} (o : cL w b (l.map lL)) : Bs w (.slice (some ⟨b, 0, none⟩) l.length l.length) l :=
 o.bs (aiM _) fun i hi => by simp [hi]
theorem YG (w : anU) : aP pg BN #[] w (fun r w' => r = .bool true /\ aR w w' dH) := by
 refine Qi ?_
 unfold Q0 D6
 refine iC (cells := #[.int .u8 1, .int .u8 2]) (by decide) (by decide) (by kernel_rfl) fun w1 o1 x1 s1 => ?_
 refine (acR (l := [1, 2]) (Ui o1) (by decide)).mono ?_
 rintro r w2 ⟨xa, rfl, oa, x2⟩
 have ea : fU 0 ([1, 2] : List UInt8).length ++ [1, 2] = [16, 1, 2] := by decide
 rw [ea] at oa
 simp (disch := omega) only [aD, oH, oF, aA]
 refine (adN (c := 7) (n := 3) (by decide)).mono ?_
 rintro r w3 ⟨xb, rfl, ob, x3⟩
 have eb : fU 1 3 ++ [(7 : UInt8)] = [25, 7] := by decide
 rw [eb] at ob
 simp (disch := omega) only [oH, oF, aA]
 refine iC (cells := #[.int .u8 0, .int .u8 1, .int .u8 2, .int .u8 0]) (by decide) (by decide) (by kernel_rfl) fun w4 o4 x4 s4 => ?_
 refine iC (cells := #[.int .u8 2, .int .u8 1, .int .u8 1]) (by decide) (by decide) (by kernel_rfl) fun w5 o5 x5 s5 => ?_
 refine (aaK (l := [0, 1, 2, 0]) (wl := [2, 1, 1]) (fresh := true) (Ui (o4.ext x5 (fun h => h))) (by decide) (Ui o5) (by decide)).mono ?_
 rintro r w6 ⟨hp, x6⟩
 have hd : dD (aU [2, 1, 1]) = 2 := by decide +kernel
 have hall : ∀ s ∈ aU [0, 1, 2, 0], 0 < bitsOf (wC [2, 1, 1]) s := by decide +kernel
 rcases hp with ⟨e, -, he⟩ | ⟨-, -, -, -, v, bytes, rfl, o6, hbl, -, -, hread⟩
 .rcases he with he | he | he
  .exact absurd he.1 (by decide)
  .exact absurd he.2.2.2.1 (by decide)
  .rcases he.2.1 with h | ⟨s, h1, h2⟩
   .omega
   .have := hall s h1; omega
 have hread := hread [] [] (.inl rfl)
 rw [akB] at hread
 have hl4 : ([0, 1, 2, 0] : List UInt8).length = 4 := rfl
 rw [hl4] at hbl
 simp (disch := omega) only [oH, oF, aA]
 refine (PV (v := v) (l := bytes) o6.sl (by omega) (Sl.nil w6) (old := []) (by decide)).mono ?_
 rintro r w7 ⟨hr, x7⟩
 rw [hread] at hr
 obtain ⟨vl, vw, rfl, ol, ow⟩ := hr
 have hca := jF (l := [16, 1, 2]) (((((oa.sl.ext x3 (aW _)).ext x4 (aW _)).ext x5 (aW _)).ext x6 (aW _)).ext x7 (aW _))
 have hcb := jF (l := [25, 7]) ((((ob.sl.ext x4 (aW _)).ext x5 (aW _)).ext x6 (aW _)).ext x7 (aW _))
 have hcl := jF (l := [0, 1, 2, 0]) ol.sl
 have hcw := jF (l := [2, 1, 1]) ow.sl
 obtain ⟨a6, c6, rfl⟩ := o6.len
 have n0 : ((0 : Int) == 0) = true := rfl
 have n1 : ((bytes.length : Int) == (bytes.length : Int)) = true := by simp
 have sa : ((⟨([16, 1, 2] : List UInt8).toArray⟩ : ByteArray).toList == (⟨#[16, 1, 2]⟩ : ByteArray).toList) = true := OT _
 have sb : ((⟨([25, 7] : List UInt8).toArray⟩ : ByteArray).toList == (⟨#[25, 7]⟩ : ByteArray).toList) = true := OT _
 have sl : ((⟨([0, 1, 2, 0] : List UInt8).toArray⟩ : ByteArray).toList == (⟨#[0, 1, 2, 0]⟩ : ByteArray).toList) = true := OT _
 have sw : ((⟨([2, 1, 1] : List UInt8).toArray⟩ : ByteArray).toList == (⟨#[2, 1, 1]⟩ : ByteArray).toList) = true := OT _
 simp (maxSteps := 4000000) (disch := omega) only [x40, x41, x42, x43, aA, hca, Z5, sa, Uz, bO, if_true, bW, dV, n0, hcb, sb, hcl, sl, hcw, sw, aN, n1, true_and]
 exact (((((x1.seq x2).seq x3).seq x4).seq x5).seq x6).seq x7
theorem aeA {l old : List UInt8} {k : Nat} (hl : l.length <= 131072) (hk : k < (fU 0 l.length ++ l).length) : O8 ((fU 0 l.length ++ l).take k) old = .error 10 := by
 obtain ⟨f, h⟩ := TD (k := 0) (n := l.length) (rest := l) (by omega) hl
 generalize hX : fU 0 l.length ++ l = X at *
 have hXl : X.length = (fU 0 l.length).length + l.length := by rw [<- hX, aiE]
 generalize hs : (fU 0 l.length).length = s at *
 cases X with
 | nil => simp at hk
 | cons c r =>
   rw [kU] at h
   by_cases hz : (c :: r).length < gI (c.toNat % 4) (c.toNat / 4 % 4)
   .rw [if_pos hz] at h
    have := (alR h).2
    exact absurd this (by decide)
   .rw [if_neg hz] at h
    obtain ⟨h1, h2⟩ := alR h
    have e1 : c.toNat % 4 = 0 := congrArg LH.kind h1
    have e2 : gI (c.toNat % 4) (c.toNat / 4 % 4) = s := congrArg LH.size h1
    have e3 := congrArg LH.count h1
    have e4 := congrArg LH.bytes h1
    simp only at e3 e4
    cases k with
    | zero =>
      rw [aiW]
      unfold O8 kU
      rfl
    | succ k =>
      rw [aiQ]
      unfold O8
      rw [kU]
      by_cases hc : (c :: r.take k).length < gI (c.toNat % 4) (c.toNat / 4 % 4)
      .rw [if_pos hc]
       simp
      .rw [if_neg hc]
       have htk : (c :: r.take k).take (gI (c.toNat % 4) (c.toNat / 4 % 4)) = (c :: r).take (gI (c.toNat % 4) (c.toNat / 4 % 4)) := by
        have e : c :: r.take k = (c :: r).take (k + 1) := rfl
        rw [e, List.take_take, ajY]
        have := aiR (i := k) (l := r)
        rw [aiP] at hc
        have hk1 : (r.take k).length <= k := by rw [this]; omega
        omega
       rw [htk, e3, e4, e2, e1, if_neg (show ¬ (131072 < l.length) by omega)]
       simp only [if_true]
       unfold WR HD
       simp only [if_true]
       rw [if_pos]
       rw [aiV]
       have e : c :: r.take k = (c :: r).take (k + 1) := rfl
       rw [e, aiR]
       rw [e2, e, aiR] at hc
       omega
theorem VY {bv mv : anV} {b more : List UInt8} {k : Nat} {w : anU} (hk : k < 65536) (h : Bs w bv b) (hm : Bs w mv more) :
 aP pg pE #[bv, mv, .int .u16 k] w (fun r w' => r = .bool true /\ aR w w' dH) := by
 refine Fa ?_
 unfold Ca nT
 refine (YG w).mono ?_
 rintro r w1 ⟨rfl, x1⟩
 have hv := h.ext x1 (aW _)
 have hmv := hm.ext x1 (aW _)
 obtain ⟨a, c, rfl, hc⟩ := h.len
 obtain ⟨a2, c2, rfl, hc2⟩ := hm.len
 simp only [aiI] at hc hc2 hv hmv ⊢
 by_cases hl : 2000 < b.length
 .have d1 : decide ((b.length : Int) > 2000) = true := decide_eq_true (by omega)
  have d2 : decide ((2000 : Int) < (b.length : Int)) = true := decide_eq_true (by omega)
  simp (disch := omega) only [aD, rS, ajB, aN, true_and, Gg, aT, aA, dU, d1, jV, bO, if_true, aF, eF, aE]
  exact x1
 have d1 : decide ((b.length : Int) > 2000) = false := decide_eq_false (by omega)
 have d2 : decide ((2000 : Int) < (b.length : Int)) = false := decide_eq_false (by omega)
 by_cases hol : 100 < more.length
 .have d3 : decide ((more.length : Int) > 100) = true := decide_eq_true (by omega)
  have d4 : decide ((100 : Int) < (more.length : Int)) = true := decide_eq_true (by omega)
  simp (disch := omega) only [aD, rS, ajB, aN, true_and, Gg, aT, aA, dU, d1, dS, bO, aiD, if_false, bW, d3, aF, aE]
  exact x1
 have d3 : decide ((more.length : Int) > 100) = false := decide_eq_false (by omega)
 have d4 : decide ((100 : Int) < (more.length : Int)) = false := decide_eq_false (by omega)
 simp (disch := omega) only [aD, rS, ajB, aN, true_and, Gg, aT, aA, dU, d1, dS, bO, aiD, if_false, bW, d3, aE]
 refine (acR hv (by omega)).mono ?_
 rintro r w2 ⟨x, rfl, ox, x2⟩
 have z2 := x2.size
 have hp := MX 0 b.length
 obtain ⟨X, hX⟩ : ∃ X, X = fU 0 b.length ++ b := ⟨_, rfl⟩
 have hXl : X.length = (fU 0 b.length).length + b.length := by rw [hX, aiE]
 rw [<- hX] at ox
 have hcl := (hmv.ext x2 (aW _)).cl
 rw [aiI] at hcl
 have hpos : 0 < X.length := by
  have h0 : 0 < (fU 0 b.length).length := by unfold fU; split <;> (try split) <;> simp [dM]
  omega
 simp (disch := omega) only [oH, oF, aA, dV, bO]
 have hso := ox.sl
 refine QS (S := fun y => w1.heap.size <= y) (m := more.length) (news := more.map lL) (i := Try.t5) Try.underlying22 Try.underlying22 FR rfl rfl rfl ox hcl (P6 _) (fun y hy => by omega) (by omega) (by rw [show Try.t5.bytes = 1 from rfl]; omega) (by decide) fun v3 w3 o3 x3 hk3 => ?_
 have z3 := x3.size
 have h3 : Bs w3 v3 (X ++ more) := by
  have := Wo o3
  rw [<- aiZ] at this
  exact this
 have hx3 : Bs w3 x X := by
  obtain ⟨ax, nx, cx, rfl, hnx, hcx, hcells⟩ := hso
  obtain ⟨a', c', e, hl', hcell'⟩ := hk3
  cases e
  refine ⟨_, _, _, rfl, hnx, hcx, fun h0 => ?_⟩
  obtain ⟨bb, off, hbb, hh⟩ := hcell' (by omega)
  exact ⟨bb, off, hbb, fun i hi => hh i (by simpa using hi)⟩
 have x03 : aR w w3 dH := (x1.seq x2).trans x3 fun y hy h => by have := x1.size; omega
 refine (PV (v := v3) (l := X ++ more) h3 (by rw [aiE]; omega) (Sl.nil w3) (old := []) (by decide)).mono ?_
 rintro r w4 ⟨hr, x4⟩
 rw [hX, abW (by omega)] at hr
 obtain ⟨v1, v2, rfl, hm1, hu1⟩ := hr
 have hx4 := hx3.ext x4 (aW _)
 obtain ⟨ax, cx, rfl, hcx⟩ := hx4.len
 simp only [aiI] at hcx hx4 ⊢
 obtain ⟨q, hq⟩ : ∃ q, q = k % X.length := ⟨_, rfl⟩
 have hqX : q < X.length := by rw [hq]; exact amD _ hpos
 have e1 : IntKind.i64.wrap (k : Int) = (k : Int) := aT (by omega) (by omega)
 have e2 : (k : Int).tmod (X.length : Int) = (q : Int) := by
  rw [ajO (by omega), hq]; exact (Int.natCast_emod ..).symm
 have hne : ((X.length : Int) == 0) = false := beq_eq_false_iff_ne.2 (by omega)
 simp (disch := omega) only [x40, x41, x42, x43, aN, aA, EM, e2, nO, aiB]
 have hcut : Bs w4 (.slice (fY ax cx 0 1) (q - 0) (cx - 0)) (X.take q) := by
  have := Sl.take' hx4 (k := q) (by omega)
  rw [<- amT] at this
  exact this
 refine (PV hcut (by rw [aiR]; omega) (Sl.nil w4) (old := []) (by decide)).mono ?_
 rintro r w5 ⟨hr, x5⟩
 rw [hX, aeA (by omega) (by rw [<- hX]; exact hqX)] at hr
 obtain rfl : r = .tuple #[.slice none 0 0, .slice none 0 0, .int .i64 0, .int .i64 10] := hr
 have x35 := x4.seq x5
 have hcb := jF (hv.ext (x2.trans x3 fun y hy h => by omega : aR w1 w3 dH) (aW _) |>.ext x35 (aW _))
 have hcm := jF (hm1.sl.ext x5 (aW _))
 have bself : ∀ x : ByteArray, (x.toList == x.toList) = true := fun x => by simp
 have n0 : ((0 : Int) == 0) = true := rfl
 have n1 : ((10 : Int) == 10) = true := rfl
 have n2 : (((fU 0 b.length).length + b.length : Nat) == X.length) = true := by rw [hXl]; simp
 have n3 : ((((fU 0 b.length).length + b.length : Nat) : Int) == (X.length : Int)) = true := by rw [hXl]; simp
 have n4 : (((0 : Nat) : Int) == 0) = true := rfl
 simp (disch := omega) only [x40, x41, x42, x43, n0, Uz, if_true, bW, dV, aA, bO, hcm, hcb, Z5, bself, aN, n3, n1, n4, true_and]
 exact x03.seq x35
end Go.Proofs.Ytgpimhlgaokobaa
namespace Go.En
open Go Go.ChangeShapes Go.WideShapes Go.ChangeAt Go.RowKit
theorem S3 {H : Type} {enc : TypeId × anV -> H} {P : Program} (hl : laidOutB P = true) {W W' : anU} (hb : Below W.heap.size W W') : ∀ (ts : List TypeId) (vs : List anV) (ds : List (DataW H)) (ps : List MemPlace),
 (ts.all fun t => P.readableRec t && decide (t < P.types.size)) = true -> DataW.TrodAll enc P W 0 (fun _ => true) true ts vs ds ps -> (∀ x ∈ ps, x.block < W.heap.size) →
 DataW.TrodAll enc P W' 0 (fun b => decide (b < W.heap.size)) true ts vs ds ps := by
 intro ts
 induction ts with
 | nil =>
   intro vs ds ps _ h _
   cases vs <;> cases ds <;> simp [DataW.TrodAll] at h ⊢
   exact h
 | cons t ts ih =>
   intro vs ds ps hr h hlt
   cases vs with
   | nil => simp [DataW.TrodAll] at h
   | cons v vs =>
     cases ds with
     | nil => simp [DataW.TrodAll] at h
     | cons d ds =>
       obtain ⟨p, q, h1, h2, rfl⟩ := h
       rw [List.all_cons, aiN, aiN, decide_eq_true_eq] at hr
       exact ⟨p, q, Below.trod hl hr.1.1 hr.1.2 h1 hb (fun x hx => hlt x (akS _ hx)), ih _ _ _ hr.2 h2 (fun x hx => hlt x (amO _ hx)), rfl⟩
theorem Zf {H : Type} {enc : TypeId × anV -> H} {P : Program} {f : Func} {s : ChangeSpec} {apart fresh handsOn : Bool} {tb : TypeId} {W W' : anU} {args : Array anV} {ds gs : List (DataW H)} {before : List MemPlace}
 (hl : laidOutB P = true) (hr : (f.params.toList.all fun t => P.readableRec t && decide (t < P.types.size)) = true) (hres : f.resultTypes = #[tb]) (hbool : P.underlying tb = some .bool)
 (hW : DataW.Whole enc P f.params.toList s.vars apart W args.toList ds gs before) (hvars : s.vars = []) (h1 : (s.fn H (ds ++ gs)).results = [.lit (.bool true)]) (h2 : (s.fn H (ds ++ gs)).args = ds) (h3 : (s.fn H (ds ++ gs)).vars = [])
 (hx : aR W W' dH) : s.post enc P f apart fresh handsOn false W args (.bool true) W' := by
 have hb := hx.below
 have hlt : ∀ x ∈ before, x.block < W.heap.size := fun x hx => hW.lt x hx
 have hW' := hW
 obtain ⟨p, q, hA, hV, rfl, _, _⟩ := hW
 rw [hvars] at hV
 obtain ⟨_, rfl⟩ := trodVars_none hV
 rw [akB] at hW' hlt
 refine ⟨ds, gs, p, [], p, [], hW', ?_, ?_, ?_, hb.frame _, fun h => by cases h⟩
 .rw [h1, hres]
  exact trodAll_cons_mk (shut_bool hbool _) trodAll_mk0
 .rw [h2]; exact S3 hl hb _ _ _ _ hr hA hlt
 .rw [h3, hvars] <;> rfl
theorem XP {H : Type} {enc : TypeId × anV -> H} {P : Program} {W : anU} {base b0 : Nat} {r : Reach} {sp : Nat -> Bool} {hd : Bool} {t e : TypeId} {k : IntKind} {v : anV} {d : DataW H} {ps : List MemPlace} (ht : P.underlying t = some (.slice e)) (he : P.underlying e = some (.int k)) (hc : P.cellsOf e = 1)
 (hval : Value.okWide P W r b0 t v) (h : DataW.Trod enc P W base sp hd t v d ps) :
 ∃ zs : List Int, Sl W v (zs.map (Value.int k)) /\ zs.length <= 9223372036854775807 /\ ∀ z ∈ zs, (Lit.int k z).wf = true := by
 obtain ⟨a0, len, cap, rfl⟩ := okWide_slice ht hval
 obtain ⟨fuel, hf⟩ := h
 rcases open_ints ht he hc hf with ⟨hcs, -⟩ | ⟨a, len', cap', zs, hcs, _, hl, hm, hz, -, hcell, hwz⟩
 .have : Value.slice a0 len cap = .slice none 0 0 := by simpa [Value.cells] using hcs
  cases this
  exact ⟨[], ⟨none, 0, 0, rfl, rfl, aiM _, fun h => absurd h (by simp)⟩, by simp, by simp⟩
 .have : Value.slice a0 len cap = .slice (some a) len' cap' := by simpa [Value.cells] using hcs
  cases this
  unfold maxLen at hm
  have hle : len <= zs.length := by rw [hz]; split <;> omega
  refine ⟨zs.take len, ⟨some a, len, cap, rfl, by rw [aiI, aiR]; omega, hl, fun h0 => ?_⟩, by rw [aiR]; omega, fun z hz => hwz z (alB hz)⟩
  obtain ⟨b, off, spot⟩ := a
  have hs : spot = none := by
   have h0 := hcell 0 (by omega)
   unfold World.cell? at h0
   split at h0
   .cases spot
    .rfl
    .simp [Addr.add] at h0
   .cases h0
  subst hs
  refine ⟨b, off, rfl, fun i hi => ?_⟩
  rw [<- Ep, hcell i (by omega), ajA, akA hi, aiJ, aiH (by omega)]
  rfl
theorem VR (zs : List Int) (h : ∀ z ∈ zs, (Lit.int .u8 z).wf = true) : ∃ l : List UInt8, zs.map (Value.int .u8) = l.map lL /\ l.length = zs.length := by
 refine ⟨zs.map fun z => UInt8.ofNat z.toNat, ?_, by simp⟩
 rw [anQ]
 refine ajH fun z hz => ?_
 have := h z hz
 have hx : 0 <= z /\ z <= 255 := by simpa [Lit.wf, IntKind.min, IntKind.max, IntKind.signed, IntKind.bits] using this
 show _ = lL (UInt8.ofNat z.toNat)
 unfold lL
 rw [UInt8.toNat_ofNat']
 congr 1
 omega
end Go.En

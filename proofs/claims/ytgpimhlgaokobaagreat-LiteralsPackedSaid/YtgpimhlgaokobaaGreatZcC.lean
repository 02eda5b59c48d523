/- Parts of the proof of LiteralsPacked: merged and given short names by a program of ours. -/
import Derived.Laws.IdiomStrings
import Derived.Test.YtgpimhlgaokobaaGreatZcB
set_option linter.unusedVariables false
set_option linter.unusedSimpArgs false
open Array renaming getElem?_setIfInBounds_self_of_lt → aL4, getElem?_setIfInBounds_ne → aL8, getElem?_eq_getElem → aLL, getD_eq_getD_getElem? → aLp, getElem?_eq_none → aME, length_toList → aMm, getElem?_modify → aNf
open Bool renaming not_false → aLE, false_eq_true → aLb, and_eq_true → aLq, not_true → aLu, or_eq_false_iff → aM1
open Int renaming toNat_natCast → aK9, tmod_eq_emod_of_nonneg → aLB, tdiv_eq_ediv_of_nonneg → aLr, fdiv_eq_ediv_of_nonneg → aMI
open List renaming getElem?_cons_zero → aK7, getElem?_cons_succ → aK8, length_singleton → aL1, mem_cons → aL2, take_add_one → aL6, getElem?_map → aLD, append_assoc → aLF, length_eq_zero_iff → aLI, drop_eq_getElem_cons → aLK, map_congr_left → aLN, mem_append → aLQ, mem_range → aLR, replicate_succ → aLT, length_replicate → aLV, getElem_mem → aLW, append_nil → aLX, getElem?_take_of_lt → aLY, set_cons_succ → aLc, set_cons_zero → aLd, take_succ_cons → aLe, getElem?_eq_getElem → aLg, length_append → aLh, length_map → aLk, getD_eq_getElem?_getD → aLl, length_take → aLn, getElem?_eq_none → aLo, length_drop → aLs, length_cons → aLw, mem_cons_of_mem → aLx, getElem?_append_left → aLy, map_append → aLz, flatten_cons → aM0, getLast?_eq_getElem? → aM2, filter_cons → aM7, count_append → aMB, count_cons → aMC, getElem_of_mem → aMD, getElem_cons_zero → aMF, mem_cons_self → aML, getElem?_drop → aMN, set_append_right → aMO, getElem_range → aMP, take_append_drop → aMQ, take_length → aMU, mem_singleton → aMX, map_take → aMZ, getElem?_range → aMb, getElem?_append_right → aMd, getElem_map → aMe, cons_append → aMh, getElem?_toArray → aMj, ext_getElem? → aMk, mem_map → aMl, map_cons → aMn, mem_of_mem_take → aMq, set_append_left → aMr, drop_succ_cons → aMs, nil_append → aMu, ext_getElem → aMw, getElem?_replicate → aMz, map_map → aNC, take_left' → aNc, getElem_cons_succ → aNd, getElem_set_self → aNg, getLast?_concat → aNi, mem_filter → aNn, range_succ → aNo, length_set → aNp, length_erase_of_mem → aNr, map_nil → aNs, map_set → aNt, take_take → aNv, length_range → aNx
open Nat renaming add_mul → aL0, min_eq_left → aL3, pow_add → aL7, add_sub_cancel → aL9, two_pow_pos → aLC, mul_le_mul_right → aLG, mul_comm → aLJ, pow_succ → aLM, mod_eq_of_lt → aLP, zero_add → aLa, pow_le_pow_right → aLj, le_refl → aLm, lt_or_ge → aLv, zero_le → aM4, testBit_eq_decide_div_mod_eq → aM8, mul_div_cancel_left → aM9, div_div_eq_div_mul → aMG, add_assoc → aMH, mod_two_eq_zero_or_one → aMJ, lt_of_lt_of_le → aMK, sub_self → aMR, div_lt_iff_lt_mul → aMY, div_le_self → aMa, le_trans → aMf, add_zero → aMi, eq_zero_or_pos → aMv, mul_one → aMy, zero_mul → aNB, mod_lt → aNb, log2_two_pow → aNh, mul_assoc → aNk, one_mul → aNl, mul_add → aNm, lt_trichotomy → aNw
open Option renaming isNone_none → aLS, map_some → aLZ, isNone_some → aLt
open Option.some renaming inj → aLA
open UInt8 renaming toNat_lt → aLO, toNat_ofNat_of_lt' → aMx
namespace Go.Proofs.YtgpimhlgaokobaaGreat
open Go Go.En
set_option maxRecDepth 20000
attribute [local irreducible] Go.En.bD
variable (Q : Exit -> Env -> aNE -> Prop) (g : Env) (w : aNE)
def rG : FA := ⟨zJ, fun i => .leaf ([], []) []⟩
def IL : List ResultVar := [.cell 4 133, .tmp 5]
noncomputable def qE : Code := dG Tryz.f95
def IK (R : K1) (JB b4 Jh tV : aNF) (w : aNE) : Prop :=
 aD pg (aK 133 JB 0) w fun f6 w =>
 aD pg (aL 131 f6) w fun f7 w =>
 aD pg (aK 133 JB 0) w fun f8 w =>
 aD pg (aL 131 f8) w fun f9 w =>
 aD pg (lG .len #[131] 3 [f9]) w fun i0 w =>
 aD pg (aI .sub 3 aM aM i0 Jh) w fun i2 w =>
 aD pg (lZ 131 f7 none (some i2) none) w fun i3 w =>
 aD pg (aK 133 JB 0) w fun i4 w =>
 aD pg (aR 131 i4 i3) w fun _u w =>
 aD pg (aL 133 JB) w fun i5 w =>
 aD pg (aR 133 b4 i5) w fun _u w =>
 An pg 133 b4 w fun r0 => R (.tuple #[r0, tV]) w
theorem arI (R : K1) (hr : HR IL R Q) (h : IK R (g 2) (g 4) (g 6) (g 7) w) : bD pg rG (aB 1 (aB 1 (aB 4 qE))) Q g w :=
 eL (kn := no) (l := []) h gT hr trivial
def IS (kn : K6) (k0 : K4) (lW JB b4 Jh tV i_8 : aNF) (w : aNE) : Prop :=
 aD pg (aI .lss 3 aM aM i_8 lW) w fun e7 w =>
 gZ e7
  (aD pg (aI .mul 24 aM aM tV (.int .u64 2)) w fun f1 w =>
  aD pg (aK 133 JB 1) w fun f2 w =>
  aD pg (aL 3 f2) w fun f3 w =>
  aD pg (aI .add 3 aM aM f3 (aNG 1)) w fun f4 w =>
  aD pg (aK 133 JB 1) w fun f5 w =>
  aD pg (aR 3 f5 f4) w fun _u w =>
  aD pg (aI .add 3 aM aM i_8 (aNG 1)) w fun e9 w =>
  kn lW JB b4 Jh f1 e9 w)
  (k0 JB b4 Jh tV w)
theorem amQ (kn : K6) (k0 : K4) (hn : N6 Q kn 1 2 4 6 7 8) (h0 : E4 Q k0 0 2 4 6 7) (h : IS kn k0 (g 1) (g 2) (g 4) (g 6) (g 7) (g 8) w) : bD pg rG (bI (bI (aB 1 (aF 1 (aB 1 (aB 4 qE)))))) Q g w :=
 eL (kr := no) (l := [(0, fun g w => k0 (g 2) (g 4) (g 6) (g 7) w)]) h hn gT ⟨h0, trivial⟩
def Rx (k0 : K4) (lW JB b4 Jh tV i_8 : aNF) (w : aNE) : Prop :=
 cS (fun (X : (aNF × aNF) -> K0) (t : aNF × aNF) (w : aNE) => IS (fun _ _ _ _ tV i_8 w => X (tV, i_8) w) k0 lW JB b4 Jh t.1 t.2 w) (tV, i_8) w
theorem arH (k0 : K4) (h0 : E4 Q k0 0 2 4 6 7) (h : Rx k0 (g 1) (g 2) (g 4) (g 6) (g 7) (g 8) w) : bD pg rG (bI (aB 1 (aF 1 (aB 1 (aB 4 qE))))) Q g w := by
 refine CS (fun g : Env => (g 7, g 8)) (fun X t w => IS (fun _ _ _ _ tV i_8 w => X (tV, i_8) w) k0 (g 1) (g 2) (g 4) (g 6) t.1 t.2 w) h (fun X g1 w1 ha hL => ?_)
 rw [<- jX 1 ha, <- jX 2 ha, <- jX 4 ha, <- jX 6 ha] at hL
 exact (amQ _ g1 w1 (fun _ _ _ _ tV i_8 w => X (tV, i_8) w) k0 (fun _ _ h => h) h0 hL)
def R1 (kn : K4) (lW JB b4 Jh tV i_8 : aNF) (w : aNE) : Prop :=
 Rx kn lW JB b4 Jh tV i_8 w
def Ri (kn : K6) (lW JB b4 Jh tV : aNF) (w : aNE) : Prop :=
 kn lW JB b4 Jh tV Jh w
theorem aoP (kn : K6) (hn : N6 Q kn 1 2 4 6 7 8) (h : Ri kn (g 1) (g 2) (g 4) (g 6) (g 7) w) : bD pg rG (aF 1 (aF 1 (aB 1 (aB 4 qE)))) Q g w :=
 eL (kr := no) (l := []) h hn gT trivial
def RX (kn : K4) (lW JB b4 Jh tV : aNF) (w : aNE) : Prop :=
 Ri (fun lW JB b4 Jh tV i_8 w => R1 kn lW JB b4 Jh tV i_8 w) lW JB b4 Jh tV w
def QX (R : K1) (lW JB b4 Jh tV : aNF) (w : aNE) : Prop :=
 RX (fun JB b4 Jh tV w => IK R JB b4 Jh tV w) lW JB b4 Jh tV w
theorem aqF (kn : K4) (hn : N4 Q kn 2 4 6 7) (h : RX kn (g 1) (g 2) (g 4) (g 6) (g 7) w) : bD pg rG (aF 1 (aB 1 (aB 4 qE))) Q g w :=
 jA 1 (aoP _ g w (R1 kn) (fun g w h => aJ (wX 0 (arH _ g w kn hn h))) h)
def Rd (kn : K5) (lW JB b4 Jh : aNF) (w : aNE) : Prop :=
 aD pg (aK 133 JB 0) w fun d5 w =>
 aD pg (aL 131 d5) w fun d6 w =>
 aD pg (aK 133 JB 0) w fun d7 w =>
 aD pg (aL 131 d7) w fun d8 w =>
 aD pg (lG .len #[131] 3 [d8]) w fun d9 w =>
 aD pg (aI .sub 3 aM aM d9 Jh) w fun e1 w =>
 aD pg (lZ 131 d6 (some e1) none none) w fun e2 w =>
 aT pg BU #[e2] w fun e3 w =>
 kn lW JB b4 Jh e3 w
theorem amS (kn : K5) (hn : N5 Q kn 1 2 4 6 7) (h : Rd kn (g 1) (g 2) (g 4) (g 6) w) : bD pg rG (aF 1 (aB 4 qE)) Q g w :=
 eL (kr := no) (l := []) h hn gT trivial
def II (R : K1) (lW JB b4 Jh : aNF) (w : aNE) : Prop :=
 Rd (fun lW JB b4 Jh tV w => QX R lW JB b4 Jh tV w) lW JB b4 Jh w
def Pr (kn : K4) (R : K1) (dY lW : aNF) (w : aNE) : Prop :=
 aD pg (B5 133 dY) w fun JB w =>
 aD pg (fU 133) w fun b4 w =>
 aD pg (aI .lss 3 aM aM lW (aNG 1)) w fun c0 w =>
 Gd (gJ c0 false) (fun K => K lW w) w fun c2 w =>
 Gd (gJ c0 false) (fun K => aD pg (aI .gtr 3 aM aM c2 (aNG 56)) w K) w fun c3 w =>
 aD pg (iN c0 (.bool true) c3) w fun c4 w =>
 gZ c4
  (aD pg (aL 133 JB) w fun c5 w =>
  aD pg (aR 133 b4 c5) w fun _u w =>
  An pg 133 b4 w fun r0 => R (.tuple #[r0, (.int .u64 0)]) w)
  (aD pg (aK 133 JB 0) w fun c8 w =>
  aD pg (aL 131 c8) w fun c9 w =>
  aD pg (lG .len #[131] 3 [c9]) w fun d0 w =>
  aD pg (aI .gtr 3 aM aM lW d0) w fun d1 w =>
  gZ d1
   (aD pg (aK 133 JB 0) w fun d2 w =>
   aD pg (aL 131 d2) w fun d3 w =>
   aD pg (lG .len #[131] 3 [d3]) w fun d4 w =>
   kn lW JB b4 d4 w)
   (kn lW JB b4 lW w))
theorem ahC (kn : K4) (R : K1) (hn : N4 Q kn 1 2 4 6) (hr : HR IL R Q) (h : Pr kn R (g 0) (g 1) w) : bD pg rG (aF 4 qE) Q g w :=
 eL (l := []) h hn hr trivial
def M3 (R : K1) (dY lW : aNF) (w : aNE) : Prop :=
 Pr (fun lW JB b4 Jh w => II R lW JB b4 Jh w) R dY lW w
theorem alK (R : K1) (hr : HR IL R Q) (h : M3 R (g 0) (g 1) w) : bD pg rG qE Q g w :=
 jA 4 (ahC _ g w (II R) R (fun g w h => aJ (jA 1 (amS _ g w (QX R) (fun g w h => aJ (jA 1 (aqF _ g w (IK R) (fun g w h => aJ (arI _ g w R hr h)) h))) h))) hr h)
def awF (a0 a1 : aNF) (w : aNE) (R : K1) : Prop :=
 M3 R a0 a1 w
theorem auJ {a0 a1 : aNF} {w : aNE} {R : K1} (h : awF a0 a1 w R) : aT pg zJ #[a0, a1] w R := by
 refine uO (ann := rG) Tryz.f95 qE [a0, a1] IL 57 TryzM.mixed Tryz.func95 ?_
 exact (alK _ _ _ R (fun _ _ h => h) h)
def Nu : FA := ⟨BZ, fun i => .leaf ([], []) []⟩
def Qp : List ResultVar := [.tmp 0]
noncomputable def L2 : Code := dG Tryz.f96
def Gb (R : K1)  (w : aNE) : Prop :=
 aD pg (fT 198 []) w fun b1 w =>
 aD pg (B5 198 b1) w fun b2 w =>
 R b2 w
theorem WV (R : K1) (hr : HR Qp R Q) (h : Gb R w) : bD pg Nu L2 Q g w :=
 eL (kn := no) (l := []) h gT hr trivial
def W9 (w : aNE) (R : K1) : Prop :=
 Gb R w
theorem YJ {w : aNE} {R : K1} (h : W9 w R) : aT pg BZ #[] w R := by
 refine uO (ann := Nu) Tryz.f96 L2 [] Qp 3 TryzM.mixed Tryz.func96 ?_
 exact (WV _ _ _ R (fun _ _ h => h) h)
def CJ : FA := ⟨zD, fun i => .leaf ([], []) []⟩
def Ey : List ResultVar := [.tmp 2]
noncomputable def Ct : Code := dG Tryz.f97
def xV (R : K1) (Cs : aNF) (w : aNE) : Prop :=
 aD pg (B5 22 Cs) w fun s_1 w =>
 aD pg (aCs (.func 105) [] [s_1]) w fun b3 w =>
 R b3 w
theorem NS (R : K1) (hr : HR Ey R Q) (h : xV R (g 0) w) : bD pg CJ Ct Q g w :=
 eL (kn := no) (l := []) h gT hr trivial
def Jv (a0 : aNF) (w : aNE) (R : K1) : Prop :=
 xV R a0 w
theorem P3 {a0 : aNF} {w : aNE} {R : K1} (h : Jv a0 w R) : aT pg zD #[a0] w R := by
 refine uO (ann := CJ) Tryz.f97 Ct [a0] Ey 4 TryzM.mixed Tryz.func97 ?_
 exact (NS _ _ _ R (fun _ _ h => h) h)
def kY : FA := ⟨rS, fun i => match Nat.beq i 6 with | true => .leaf ([25], []) [(false, []), (false, []), (false, []), (false, []), (false, []), (false, []), (false, []), (false, []), (false, []), (false, []), (false, []), (false, []), (false, []), (false, []), (false, []), (false, []), (false, []), (false, []), (false, []), (false, []), (false, []), (false, []), (false, []), (false, []), (false, []), (true, [])] | false => .leaf ([], []) []⟩
def BB : List ResultVar := []
noncomputable def kI : Code := dG Tryz.f98
def sW (kn : K4) (xQ Hh c7 c8 : aNF) (w : aNE) : Prop :=
 aD pg (aI .add 3 aM aM c8 (aNG 1)) w fun j8 w =>
 kn xQ Hh c7 j8 w
theorem S1 (kn : K4) (hn : N4 Q kn 0 1 17 18) (h : sW kn (g 0) (g 1) (g 17) (g 18) w) : bD pg kY (aB 1 (aB 2 (bI (bI (aB 2 kI))))) Q g w :=
 eL (kr := no) (l := []) h hn gT trivial
def oZ (kn : K4) (xQ Hh xD c7 c8 : aNF) (w : aNE) : Prop :=
 (dr w) = (dr w) /\
 aD pg (vW xQ) (dr w) fun e7 w_ => w_ = (dr w) /\
 aD pg (aK 198 e7 0) (dr w) fun e8 w_ => w_ = (dr w) /\
 aD pg (aL 22 e8) (dr w) fun e9 w_ => w_ = (dr w) /\
 (dr w) = (dr w) /\
 aD pg (vW xQ) (dr w) fun f1 w_ => w_ = (dr w) /\
 aD pg (aK 198 f1 1) (dr w) fun f2 w_ => w_ = (dr w) /\
 aD pg (aL 3 f2) (dr w) fun f3 w_ => w_ = (dr w) /\
 aD pg (aI .quo 3 aM aM f3 (aNG 8)) (dr w) fun f4 w_ => w_ = (dr w) /\
 aD pg (cI 22 e9 f4) (dr w) fun f5 w_ => w_ = (dr w) /\
 aD pg (aL 5 f5) (dr w) fun f6 w_ => w_ = (dr w) /\
 (dr w) = (dr w) /\
 (dr w) = (dr w) /\
 aD pg (jG 3 67 xD) (dr w) fun f9 w_ => w_ = (dr w) /\
 aD pg (aI .shr 24 aM aM Hh f9) (dr w) fun i0 w_ => w_ = (dr w) /\
 aD pg (aI .and 24 aM aM i0 (.int .u64 1)) (dr w) fun i1 w_ => w_ = (dr w) /\
 aD pg (jG 24 5 i1) (dr w) fun i2 w_ => w_ = (dr w) /\
 (dr w) = (dr w) /\
 aD pg (vW xQ) (dr w) fun i4 w_ => w_ = (dr w) /\
 aD pg (aK 198 i4 1) (dr w) fun i5 w_ => w_ = (dr w) /\
 aD pg (aL 3 i5) (dr w) fun i6 w_ => w_ = (dr w) /\
 aD pg (aI .rem 3 aM aM i6 (aNG 8)) (dr w) fun i7 w_ => w_ = (dr w) /\
 aD pg (aI .shl 5 aM aM i2 i7) (dr w) fun i8 w_ => w_ = (dr w) /\
 aD pg (aI .or 5 aM aM f6 i8) (dr w) fun i9 w_ => w_ = (dr w) /\
 aD pg (cI 22 e9 f4) (dr w) fun j0 w_ => w_ = (dr w) /\
 aD pg (aR 5 j0 i9) (dr w) fun _u25 aKm =>
 aD pg (vW xQ) aKm fun j2 w =>
 aD pg (aK 198 j2 1) w fun j3 w =>
 aD pg (aL 3 j3) w fun j4 w =>
 aD pg (aI .add 3 aM aM j4 (aNG 1)) w fun j5 w =>
 aD pg (vW xQ) w fun j6 w =>
 aD pg (aK 198 j6 1) w fun j7 w =>
 aD pg (aR 3 j7 j5) w fun _u w =>
 kn xQ Hh c7 c8 w
theorem SV (kn : K4) (hn : N4 Q kn 0 1 17 18) (h : oZ kn (g 0) (g 1) (g 6) (g 17) (g 18) w) : bD pg kY (aB 2 (bI (aF 1 (aB 2 (bI (bI (aB 2 kI))))))) Q g w :=
 eL (kr := no) (l := []) h hn gT trivial
def wU (kn : K5) (xQ Hh c7 c8 : aNF) (w : aNE) : Prop :=
 aD pg (vW xQ) w fun d2 w =>
 aD pg (aK 198 d2 1) w fun d3 w =>
 aD pg (aL 3 d3) w fun d4 w =>
 aD pg (aI .rem 3 aM aM d4 (aNG 8)) w fun d5 w =>
 aD pg (aI .eql 3 (.tmp 25) (.const (aNG 0)) d5 (aNG 0)) w fun d6 w =>
 gZ d6
  (aD pg (vW xQ) w fun d9 w =>
  aD pg (aK 198 d9 0) w fun e0 w =>
  aD pg (aL 22 e0) w fun e1 w =>
  aD pg (cV 22 1 [(0, (.int .u8 0))]) w fun e2 w =>
  aD pg (lG .append #[22, 22] 22 [e1, e2]) w fun e3 w =>
  aD pg (vW xQ) w fun e4 w =>
  aD pg (aK 198 e4 0) w fun e5 w =>
  aD pg (aR 22 e5 e3) w fun _u w =>
  kn xQ Hh c8 c7 c8 w)
  (kn xQ Hh c8 c7 c8 w)
theorem To (kn : K5) (hn : N5 Q kn 0 1 6 17 18) (h : wU kn (g 0) (g 1) (g 17) (g 18) w) : bD pg kY (aF 2 (bI (aF 1 (aB 2 (bI (bI (aB 2 kI))))))) Q g w :=
 eL (kr := no) (l := []) h hn gT trivial
def tD (kn : K4) (xQ Hh c7 c8 : aNF) (w : aNE) : Prop :=
 wU (fun xQ Hh xD c7 c8 w => oZ kn xQ Hh xD c7 c8 w) xQ Hh c7 c8 w
def wD (kn : K4) (xQ Hh c7 c8 : aNF) (w : aNE) : Prop :=
 tD kn xQ Hh c7 c8 w
def wI (kn : K4) (xQ Hh c7 c8 : aNF) (w : aNE) : Prop :=
 wD (fun xQ Hh c7 c8 w => sW kn xQ Hh c7 c8 w) xQ Hh c7 c8 w
theorem Tn (kn : K4) (hn : N4 Q kn 0 1 17 18) (h : wD kn (g 0) (g 1) (g 17) (g 18) w) : bD pg kY (aF 1 (aB 2 (bI (bI (aB 2 kI))))) Q g w :=
 wX 1 (jA 2 (To _ g w (oZ kn) (fun g w h => aJ (SV _ g w kn hn h)) h))
def wQ (kn : K4) (k0 : K0) (xQ Hh c7 c8 : aNF) (w : aNE) : Prop :=
 aD pg (aI .lss 3 aM aM c8 c7) w fun c9 w =>
 gZ c9
  (kn xQ Hh c7 c8 w)
  (k0 w)
theorem SY (kn : K4) (k0 : K0) (hn : N4 Q kn 0 1 17 18) (h0 : E0 Q k0 0) (h : wQ kn k0 (g 0) (g 1) (g 17) (g 18) w) : bD pg kY (aF 2 (bI (bI (aB 2 kI)))) Q g w :=
 eL (kr := no) (l := [(0, fun g w => k0 w)]) h hn gT ⟨h0, trivial⟩
def tB (kn : K4) (k0 : K0) (xQ Hh c7 c8 : aNF) (w : aNE) : Prop :=
 wQ (fun xQ Hh c7 c8 w => wI kn xQ Hh c7 c8 w) k0 xQ Hh c7 c8 w
def wH (k0 : K0) (xQ Hh c7 c8 : aNF) (w : aNE) : Prop :=
 cS (fun (X : aNF -> K0) (t : aNF) (w : aNE) => tB (fun _ _ _ c8 w => X c8 w) k0 xQ Hh c7 t w) c8 w
theorem Sk (kn : K4) (k0 : K0) (hn : N4 Q kn 0 1 17 18) (h0 : E0 Q k0 0) (h : tB kn k0 (g 0) (g 1) (g 17) (g 18) w) : bD pg kY (bI (bI (aB 2 kI))) Q g w :=
 jA 2 (SY _ g w (wI kn) k0 (fun g w h => aJ (jA 1 (Tn _ g w (sW kn) (fun g w h => aJ (S1 _ g w kn hn h)) h))) h0 h)
theorem St (k0 : K0) (h0 : E0 Q k0 0) (h : wH k0 (g 0) (g 1) (g 17) (g 18) w) : bD pg kY (bI (aB 2 kI)) Q g w := by
 refine CS (fun g : Env => g 18) (fun X t w => tB (fun _ _ _ c8 w => X c8 w) k0 (g 0) (g 1) (g 17) t w) h (fun X g1 w1 ha hL => ?_)
 rw [<- jX 0 ha, <- jX 1 ha, <- jX 17 ha] at hL
 exact (Sk _ g1 w1 (fun _ _ _ c8 w => X c8 w) k0 (fun _ _ h => h) h0 hL)
def vQ (kn : K0) (xQ Hh c7 c8 : aNF) (w : aNE) : Prop :=
 wH kn xQ Hh c7 c8 w
def vO (kn : K4) (R : K1) (xQ Hh nM : aNF) (w : aNE) : Prop :=
 aD pg (aI .eql 186 (.tmp 7) (.const (.pointer none)) xQ (.pointer none)) w fun b8 w =>
 Gd (gJ b8 false) (fun K => K nM w) w fun c0 w =>
 Gd (gJ b8 false) (fun K => aD pg (aI .lss 3 aM aM c0 (aNG 1)) w K) w fun c1 w =>
 aD pg (iN b8 (.bool true) c1) w fun c2 w =>
 Gd (gJ c2 false) (fun K => K nM w) w fun c4 w =>
 Gd (gJ c2 false) (fun K => aD pg (aI .gtr 3 aM aM c4 (aNG 56)) w K) w fun c5 w =>
 aD pg (iN c2 (.bool true) c5) w fun c6 w =>
 gZ c6
  (R (.tuple #[]) w)
  (kn xQ Hh nM (aNG 0) w)
theorem RW (kn : K4) (R : K1) (hn : N4 Q kn 0 1 17 18) (hr : HR BB R Q) (h : vO kn R (g 0) (g 1) (g 2) w) : bD pg kY (aF 2 kI) Q g w :=
 eL (l := []) h hn hr trivial
def vN (kn : K0) (R : K1) (xQ Hh nM : aNF) (w : aNE) : Prop :=
 vO (fun xQ Hh c7 c8 w => vQ kn xQ Hh c7 c8 w) R xQ Hh nM w
theorem QH (kn : K0) (R : K1) (hn : N0 Q kn) (hr : HR BB R Q) (h : vN kn R (g 0) (g 1) (g 2) w) : bD pg kY kI Q g w :=
 jA 2 (RW _ g w (vQ kn) R (fun g w h => aJ (wX 0 (St _ g w kn hn h))) hr h)
def Fp (a0 a1 a2 : aNF) (w : aNE) (R : K1) : Prop :=
 vN (fun  w => R (.tuple #[]) w) R a0 a1 a2 w
theorem GI {a0 a1 a2 : aNF} {w : aNE} {R : K1} (h : Fp a0 a1 a2 w R) : aT pg rS #[a0, a1, a2] w R := by
 refine uO (ann := kY) Tryz.f98 kI [a0, a1, a2] BB 69 TryzM.mixed Tryz.func98 ?_
 exact (QH _ _ _ (fun  w => R (.tuple #[]) w) R (fun _ _ h => h) (fun _ _ h => h) h)
def ER : FA := ⟨wE, fun i => match Nat.beq i 3 with | true => .leaf ([4, 10], [(4, 6), (4, 7), (4, 8)]) [(false, []), (false, []), (false, []), (false, []), (true, []), (false, []), (false, [1]), (false, [2]), (false, [3]), (false, []), (true, []), (false, [])] | false => .leaf ([], []) []⟩
def G8 : List ResultVar := [.tmp 2]
noncomputable def Ez : Code := dG Tryz.f99
def AK (R : K1) (xQ : aNF) (w : aNE) : Prop :=
 aD pg (aI .eql 186 (.tmp 4) (.const (.pointer none)) xQ (.pointer none)) w fun b5 w =>
 gZ b5
  (R (.slice none 0 0) w)
  ((dr w) = (dr w) /\
  aD pg (vW xQ) (dr w) fun b7 w_ => w_ = (dr w) /\
  aD pg (aK 198 b7 0) (dr w) fun b8 w_ => w_ = (dr w) /\
  aD pg (aL 22 b8) (dr w) fun b9 w_ => w_ = (dr w) /\
  aT pg jS #[b9] (dr w) fun c0 WN =>
  WN = WN /\
  aD pg (vW xQ) WN fun c2 w_ => w_ = WN /\
  (jJ pg (vW xQ) c2 (dr w) /\ True) /\
  aD pg (aK 198 c2 1) WN fun c3 w_ => w_ = WN /\
  (jJ pg (aK 198 c2 1) c3 (dr w) /\ True) /\
  aD pg (aL 3 c3) WN fun c4 w_ => w_ = WN /\
  (jJ pg (aL 3 c3) c4 (dr w) /\ True) /\
  aD pg (fT 198 [(0, c0), (1, c4)]) WN fun c5 w_ => w_ = WN /\
  aD pg (B5 198 c5) WN fun c6 aGG =>
  aGG = aGG /\
  aT pg rS #[c6, (.int .u64 1), (aNG 1)] aGG fun c8 w =>
  aD pg (vW c6) w fun d0 w =>
  aD pg (aK 198 d0 0) w fun d1 w =>
  aD pg (aL 22 d1) w fun d2 w =>
  R d2 w)
theorem Q3 (R : K1) (hr : HR G8 R Q) (h : AK R (g 0) w) : bD pg ER Ez Q g w :=
 eL (kn := no) (l := []) h gT hr trivial
def OO (a0 : aNF) (w : aNE) (R : K1) : Prop :=
 AK R a0 w
theorem Tm {a0 : aNF} {w : aNE} {R : K1} (h : OO a0 w R) : aT pg wE #[a0] w R := by
 refine uO (ann := ER) Tryz.f99 Ez [a0] G8 23 TryzM.mixed Tryz.func99 ?_
 exact (Q3 _ _ _ R (fun _ _ h => h) h)
def uN : FA := ⟨Jx, fun i => .leaf ([], []) []⟩
def T6 : List ResultVar := [.tmp 6]
noncomputable def sZ : Code := dG Tryz.f100
def MB (R : K1) (tV : aNF) (w : aNE) : Prop :=
 R tV w
theorem avF (R : K1) (hr : HR T6 R Q) (h : MB R (g 7) w) : bD pg uN (aB 1 (aB 2 sZ)) Q g w :=
 eL (kn := no) (l := []) h gT hr trivial
def Mn (kn : K5) (k0 : K1) (dY ME tV c0 c1 : aNF) (w : aNE) : Prop :=
 aD pg (aI .lss 3 aM aM c1 c0) w fun c2 w =>
 gZ c2
  (aD pg (aI .add 3 aM aM ME c1) w fun c6 w =>
  aD pg (aI .quo 3 aM aM c6 (aNG 8)) w fun d0 w =>
  aD pg (cI 22 dY d0) w fun d1 w =>
  aD pg (aL 5 d1) w fun d2 w =>
  aD pg (aI .rem 3 aM aM c6 (aNG 8)) w fun d4 w =>
  aD pg (aI .shr 5 aM aM d2 d4) w fun d5 w =>
  aD pg (aI .and 5 aM aM d5 (.int .u8 1)) w fun d6 w =>
  aD pg (jG 5 24 d6) w fun d7 w =>
  aD pg (jG 3 67 c1) w fun d9 w =>
  aD pg (aI .shl 24 aM aM d7 d9) w fun e0 w =>
  aD pg (aI .or 24 aM aM tV e0) w fun e1 w =>
  aD pg (aI .add 3 aM aM c1 (aNG 1)) w fun e2 w =>
  kn dY ME e1 c0 e2 w)
  (k0 tV w)
theorem avB (kn : K5) (k0 : K1) (hn : N5 Q kn 0 1 7 10 11) (h0 : E1 Q k0 0 7) (h : Mn kn k0 (g 0) (g 1) (g 7) (g 10) (g 11) w) : bD pg uN (bI (bI (aB 1 (aF 1 (aB 2 sZ))))) Q g w :=
 eL (kr := no) (l := [(0, fun g w => k0 (g 7) w)]) h hn gT ⟨h0, trivial⟩
def TA (k0 : K1) (dY ME tV c0 c1 : aNF) (w : aNE) : Prop :=
 cS (fun (X : (aNF × aNF) -> K0) (t : aNF × aNF) (w : aNE) => Mn (fun _ _ tV _ c1 w => X (tV, c1) w) k0 dY ME t.1 c0 t.2 w) (tV, c1) w
theorem atC (k0 : K1) (h0 : E1 Q k0 0 7) (h : TA k0 (g 0) (g 1) (g 7) (g 10) (g 11) w) : bD pg uN (bI (aB 1 (aF 1 (aB 2 sZ)))) Q g w := by
 refine CS (fun g : Env => (g 7, g 11)) (fun X t w => Mn (fun _ _ tV _ c1 w => X (tV, c1) w) k0 (g 0) (g 1) t.1 (g 10) t.2 w) h (fun X g1 w1 ha hL => ?_)
 rw [<- jX 0 ha, <- jX 1 ha, <- jX 10 ha] at hL
 exact (avB _ g1 w1 (fun _ _ tV _ c1 w => X (tV, c1) w) k0 (fun _ _ h => h) h0 hL)
def T0 (kn : K1) (dY ME tV c0 c1 : aNF) (w : aNE) : Prop :=
 TA kn dY ME tV c0 c1 w
def Ts (kn : K5) (dY ME nM tV : aNF) (w : aNE) : Prop :=
 kn dY ME tV nM (aNG 0) w
theorem auU (kn : K5) (hn : N5 Q kn 0 1 7 10 11) (h : Ts kn (g 0) (g 1) (g 2) (g 7) w) : bD pg uN (aF 1 (aF 1 (aB 2 sZ))) Q g w :=
 eL (kr := no) (l := []) h hn gT trivial
def Tv (kn : K1) (dY ME nM tV : aNF) (w : aNE) : Prop :=
 Ts (fun dY ME tV c0 c1 w => T0 kn dY ME tV c0 c1 w) dY ME nM tV w
def TV (R : K1) (dY ME nM tV : aNF) (w : aNE) : Prop :=
 Tv (fun tV w => MB R tV w) dY ME nM tV w
theorem auC (kn : K1) (hn : N1 Q kn 7) (h : Tv kn (g 0) (g 1) (g 2) (g 7) w) : bD pg uN (aF 1 (aB 2 sZ)) Q g w :=
 jA 1 (auU _ g w (T0 kn) (fun g w h => aJ (wX 0 (atC _ g w kn hn h))) h)
def TM (kn : K4) (dY ME nM : aNF) (w : aNE) : Prop :=
 kn dY ME nM (.int .u64 0) w
theorem atS (kn : K4) (hn : N4 Q kn 0 1 2 7) (h : TM kn (g 0) (g 1) (g 2) w) : bD pg uN (aF 2 sZ) Q g w :=
 eL (kr := no) (l := []) h hn gT trivial
def TB (R : K1) (dY ME nM : aNF) (w : aNE) : Prop :=
 TM (fun dY ME nM tV w => TV R dY ME nM tV w) dY ME nM w
theorem avJ (R : K1) (hr : HR T6 R Q) (h : TB R (g 0) (g 1) (g 2) w) : bD pg uN sZ Q g w :=
 jA 2 (atS _ g w (TV R) (fun g w h => aJ (jA 1 (auC _ g w (MB R) (fun g w h => aJ (avF _ g w R hr h)) h))) h)
def aAN (a0 a1 a2 : aNF) (w : aNE) (R : K1) : Prop :=
 TB R a0 a1 a2 w
theorem ayL {a0 a1 a2 : aNF} {w : aNE} {R : K1} (h : aAN a0 a1 a2 w R) : aT pg Jx #[a0, a1, a2] w R := by
 refine uO (ann := uN) Tryz.f100 sZ [a0, a1, a2] T6 34 TryzM.mixed Tryz.func100 ?_
 exact (avJ _ _ _ R (fun _ _ h => h) h)
def tA : FA := ⟨MF, fun i => .leaf ([], []) []⟩
def xG : List ResultVar := [.tmp 2]
noncomputable def rV : Code := dG Tryz.f101
def IN (R : K1) (pP : aNF) (w : aNE) : Prop :=
 aD pg (aI .eql 3 (.tmp 60) (.const (aNG 0)) pP (aNG 0)) w fun j1 w =>
 R j1 w
theorem amH (R : K1) (hr : HR xG R Q) (h : IN R (g 3) w) : bD pg tA (aB 1 (aB 3 rV)) Q g w :=
 eL (kn := no) (l := []) h gT hr trivial
def Au (kn : K4) (k0 : K1) (R : K1) (pP f1 f2 f3 : aNF) (w : aNE) : Prop :=
 aD pg (aI .lss 3 aM aM f3 f2) w fun f4 w =>
 gZ f4
  (aD pg (cI 42 f1 f3) w fun f5 w =>
  aD pg (aL 3 f5) w fun f6 w =>
  aD pg (aI .lss 3 aM aM f6 (aNG (-1))) w fun f8 w =>
  Gd (gJ f8 false) (fun K => K f6 w) w fun i0 w =>
  Gd (gJ f8 false) (fun K => aT pg yD #[i0] w K) w fun i1 w =>
  Gd (gJ f8 false) (fun K => K pP w) w fun i2 w =>
  Gd (gJ f8 false) (fun K => aD pg (aI .gtr 3 aM aM i1 i2) w K) w fun i3 w =>
  aD pg (iN f8 (.bool true) i3) w fun i4 w =>
  gZ i4
   (R (.bool false) w)
   (aT pg yD #[f6] w fun i7 w =>
   aD pg (aI .sub 3 aM aM pP i7) w fun i8 w =>
   aD pg (aI .add 3 aM aM f3 (aNG 1)) w fun i9 w =>
   kn i8 f1 f2 i9 w))
  (k0 pP w)
theorem amW (kn : K4) (k0 : K1) (R : K1) (hn : N4 Q kn 3 41 42 43) (h0 : E1 Q k0 0 3) (hr : HR xG R Q) (h : Au kn k0 R (g 3) (g 41) (g 42) (g 43) w) : bD pg tA (bI (bI (aB 1 (aF 1 (aB 3 rV))))) Q g w :=
 eL (l := [(0, fun g w => k0 (g 3) w)]) h hn hr ⟨h0, trivial⟩
def QQ (k0 : K1) (R : K1) (pP f1 f2 f3 : aNF) (w : aNE) : Prop :=
 cS (fun (X : (aNF × aNF) -> K0) (t : aNF × aNF) (w : aNE) => Au (fun pP _ _ f3 w => X (pP, f3) w) k0 R t.1 f1 f2 t.2 w) (pP, f3) w
theorem apC (k0 : K1) (R : K1) (h0 : E1 Q k0 0 3) (hr : HR xG R Q) (h : QQ k0 R (g 3) (g 41) (g 42) (g 43) w) : bD pg tA (bI (aB 1 (aF 1 (aB 3 rV)))) Q g w := by
 refine CS (fun g : Env => (g 3, g 43)) (fun X t w => Au (fun pP _ _ f3 w => X (pP, f3) w) k0 R t.1 (g 41) (g 42) t.2 w) h (fun X g1 w1 ha hL => ?_)
 rw [<- jX 41 ha, <- jX 42 ha] at hL
 exact (amW _ g1 w1 (fun pP _ _ f3 w => X (pP, f3) w) k0 R (fun _ _ h => h) h0 hr hL)
def QS (kn : K1) (R : K1) (pP f1 f2 f3 : aNF) (w : aNE) : Prop :=
 QQ kn R pP f1 f2 f3 w
def Q8 (kn : K4) (cC pP : aNF) (w : aNE) : Prop :=
 aD pg (aK 100 cC 1) w fun f0 w =>
 aD pg (aL 42 f0) w fun f1 w =>
 aD pg (lG .len #[42] 3 [f1]) w fun f2 w =>
 kn pP f1 f2 (aNG 0) w
theorem aoR (kn : K4) (hn : N4 Q kn 3 41 42 43) (h : Q8 kn (g 1) (g 3) w) : bD pg tA (aF 1 (aF 1 (aB 3 rV))) Q g w :=
 eL (kr := no) (l := []) h hn gT trivial
def Rg (kn : K1) (R : K1) (cC pP : aNF) (w : aNE) : Prop :=
 Q8 (fun pP f1 f2 f3 w => QS kn R pP f1 f2 f3 w) cC pP w
def QJ (R : K1) (cC pP : aNF) (w : aNE) : Prop :=
 Rg (fun pP w => IN R pP w) R cC pP w
theorem arG (kn : K1) (R : K1) (hn : N1 Q kn 3) (hr : HR xG R Q) (h : Rg kn R (g 1) (g 3) w) : bD pg tA (aF 1 (aB 3 rV)) Q g w :=
 jA 1 (aoR _ g w (QS kn R) (fun g w h => aJ (wX 0 (apC _ g w kn R hn hr h))) h)
def Sd (kn : K2) (R : K1) (L1 : aNF) (w : aNE) : Prop :=
 aD pg (B5 100 L1) w fun cC w =>
 aD pg (aK 100 cC 0) w fun b6 w =>
 aD pg (aL 3 b6) w fun b7 w =>
 aD pg (aI .lss 3 aM aM b7 (aNG 5)) w fun b8 w =>
 Gd (gJ b8 false) (fun K => aD pg (aK 100 cC 0) w K) w fun c0 w =>
 Gd (gJ b8 false) (fun K => aD pg (aL 3 c0) w K) w fun c1 w =>
 Gd (gJ b8 false) (fun K => aD pg (aI .gtr 3 aM aM c1 (aNG 15)) w K) w fun c2 w =>
 aD pg (iN b8 (.bool true) c2) w fun c3 w =>
 Gd (gJ c3 false) (fun K => aD pg (aK 100 cC 1) w K) w fun c5 w =>
 Gd (gJ c3 false) (fun K => aD pg (aL 42 c5) w K) w fun c6 w =>
 Gd (gJ c3 false) (fun K => aD pg (lG .len #[42] 3 [c6]) w K) w fun c7 w =>
 Gd (gJ c3 false) (fun K => aD pg (aI .lss 3 aM aM c7 (aNG 1)) w K) w fun c8 w =>
 aD pg (iN c3 (.bool true) c8) w fun c9 w =>
 Gd (gJ c9 false) (fun K => aD pg (aK 100 cC 1) w K) w fun d1 w =>
 Gd (gJ c9 false) (fun K => aD pg (aL 42 d1) w K) w fun d2 w =>
 Gd (gJ c9 false) (fun K => aD pg (lG .len #[42] 3 [d2]) w K) w fun d3 w =>
 Gd (gJ c9 false) (fun K => aD pg (aI .gtr 3 aM aM d3 (aNG 256)) w K) w fun d4 w =>
 aD pg (iN c9 (.bool true) d4) w fun d5 w =>
 Gd (gJ d5 false) (fun K => aD pg (aK 100 cC 1) w K) w fun d7 w =>
 Gd (gJ d5 false) (fun K => aD pg (aL 42 d7) w K) w fun d8 w =>
 Gd (gJ d5 false) (fun K => aD pg (aK 100 cC 1) w K) w fun d9 w =>
 Gd (gJ d5 false) (fun K => aD pg (aL 42 d9) w K) w fun e0 w =>
 Gd (gJ d5 false) (fun K => aD pg (lG .len #[42] 3 [e0]) w K) w fun e1 w =>
 Gd (gJ d5 false) (fun K => aD pg (aI .sub 3 aM aM e1 (aNG 1)) w K) w fun e2 w =>
 Gd (gJ d5 false) (fun K => aD pg (cI 42 d8 e2) w K) w fun e3 w =>
 Gd (gJ d5 false) (fun K => aD pg (aL 3 e3) w K) w fun e4 w =>
 Gd (gJ d5 false) (fun K => aD pg (aI .eql 3 (.tmp 34) (.const (aNG 0)) e4 (aNG 0)) w K) w fun e5 w =>
 aD pg (iN d5 (.bool true) e5) w fun e6 w =>
 gZ e6
  (R (.bool false) w)
  (aD pg (aK 100 cC 0) w fun e7 w =>
  aD pg (aL 3 e7) w fun e8 w =>
  aD pg (aI .shl 3 aM aM (aNG 1) e8) w fun e9 w =>
  kn cC e9 w)
theorem amF (kn : K2) (R : K1) (hn : N2 Q kn 1 3) (hr : HR xG R Q) (h : Sd kn R (g 0) w) : bD pg tA (aF 3 rV) Q g w :=
 eL (l := []) h hn hr trivial
def RZ (R : K1) (L1 : aNF) (w : aNE) : Prop :=
 Sd (fun cC pP w => QJ R cC pP w) R L1 w
theorem aqC (R : K1) (hr : HR xG R Q) (h : RZ R (g 0) w) : bD pg tA rV Q g w :=
 jA 3 (amF _ g w (QJ R) R (fun g w h => aJ (jA 1 (arG _ g w (IN R) R (fun g w h => aJ (amH _ g w R hr h)) hr h))) hr h)
def awI (a0 : aNF) (w : aNE) (R : K1) : Prop :=
 RZ R a0 w
theorem atM {a0 : aNF} {w : aNE} {R : K1} (h : awI a0 w R) : aT pg MF #[a0] w R := by
 refine uO (ann := tA) Tryz.f101 rV [a0] xG 62 TryzM.mixed Tryz.func101 ?_
 exact (aqC _ _ _ R (fun _ _ h => h) h)
def nX : FA := ⟨BU, fun i => .leaf ([], []) []⟩
def Li : List ResultVar := [.tmp 2]
noncomputable def mY : Code := dG Tryz.f102
def DA (R : K1) (Bf : aNF) (w : aNE) : Prop :=
 R Bf w
theorem adZ (R : K1) (hr : HR Li R Q) (h : DA R (g 3) w) : bD pg nX (aB 1 (aB 2 mY)) Q g w :=
 eL (kn := no) (l := []) h gT hr trivial
def Af (kn : K3) (cT Bf lF : aNF) (w : aNE) : Prop :=
 aD pg (aI .sub 3 aM aM lF (aNG 1)) w fun c1 w =>
 kn cT Bf c1 w
theorem abG (kn : K3) (hn : N3 Q kn 0 3 4) (h : Af kn (g 0) (g 3) (g 4) w) : bD pg nX (aB 2 (bI (bI (aB 1 (aF 1 (aB 2 mY)))))) Q g w :=
 eL (kr := no) (l := []) h hn gT trivial
def KV (kn : K3) (k0 : K1) (cT Bf lF : aNF) (w : aNE) : Prop :=
 aD pg (aI .geq 3 aM aM lF (aNG 0)) w fun b9 w =>
 gZ b9
  (aD pg (aI .mul 24 aM aM Bf (.int .u64 2)) w fun c3 w =>
  aD pg (cI 131 cT lF) w fun c6 w =>
  aD pg (aL 4 c6) w fun c7 w =>
  gZ c7
   (aD pg (aI .add 24 aM aM c3 (.int .u64 1)) w fun c9 w =>
   kn cT c9 lF w)
   (kn cT c3 lF w))
  (k0 Bf w)
theorem aaK (kn : K3) (k0 : K1) (hn : N3 Q kn 0 3 4) (h0 : E1 Q k0 0 3) (h : KV kn k0 (g 0) (g 3) (g 4) w) : bD pg nX (aF 2 (bI (bI (aB 1 (aF 1 (aB 2 mY)))))) Q g w :=
 eL (kr := no) (l := [(0, fun g w => k0 (g 3) w)]) h hn gT ⟨h0, trivial⟩
def Dy (kn : K3) (k0 : K1) (cT Bf lF : aNF) (w : aNE) : Prop :=
 KV (fun cT Bf lF w => Af kn cT Bf lF w) k0 cT Bf lF w
def J4 (k0 : K1) (cT Bf lF : aNF) (w : aNE) : Prop :=
 cS (fun (X : (aNF × aNF) -> K0) (t : aNF × aNF) (w : aNE) => Dy (fun _ Bf lF w => X (Bf, lF) w) k0 cT t.1 t.2 w) (Bf, lF) w
theorem aeO (kn : K3) (k0 : K1) (hn : N3 Q kn 0 3 4) (h0 : E1 Q k0 0 3) (h : Dy kn k0 (g 0) (g 3) (g 4) w) : bD pg nX (bI (bI (aB 1 (aF 1 (aB 2 mY))))) Q g w :=
 jA 2 (aaK _ g w (Af kn) k0 (fun g w h => aJ (abG _ g w kn hn h)) h0 h)
theorem acJ (k0 : K1) (h0 : E1 Q k0 0 3) (h : J4 k0 (g 0) (g 3) (g 4) w) : bD pg nX (bI (aB 1 (aF 1 (aB 2 mY)))) Q g w := by
 refine CS (fun g : Env => (g 3, g 4)) (fun X t w => Dy (fun _ Bf lF w => X (Bf, lF) w) k0 (g 0) t.1 t.2 w) h (fun X g1 w1 ha hL => ?_)
 rw [<- jX 0 ha] at hL
 exact (aeO _ g1 w1 (fun _ Bf lF w => X (Bf, lF) w) k0 (fun _ _ h => h) h0 hL)
def JD (kn : K1) (cT Bf lF : aNF) (w : aNE) : Prop :=
 J4 kn cT Bf lF w
def JI (kn : K3) (cT Bf : aNF) (w : aNE) : Prop :=
 aD pg (lG .len #[131] 3 [cT]) w fun b6 w =>
 aD pg (aI .sub 3 aM aM b6 (aNG 1)) w fun b7 w =>
 kn cT Bf b7 w
theorem adK (kn : K3) (hn : N3 Q kn 0 3 4) (h : JI kn (g 0) (g 3) w) : bD pg nX (aF 1 (aF 1 (aB 2 mY))) Q g w :=
 eL (kr := no) (l := []) h hn gT trivial
def J0 (kn : K1) (cT Bf : aNF) (w : aNE) : Prop :=
 JI (fun cT Bf lF w => JD kn cT Bf lF w) cT Bf w
def Ki (R : K1) (cT Bf : aNF) (w : aNE) : Prop :=
 J0 (fun Bf w => DA R Bf w) cT Bf w
theorem ZM (kn : K1) (hn : N1 Q kn 3) (h : J0 kn (g 0) (g 3) w) : bD pg nX (aF 1 (aB 2 mY)) Q g w :=
 jA 1 (adK _ g w (JD kn) (fun g w h => aJ (wX 0 (acJ _ g w kn hn h))) h)
def Io (kn : K2) (cT : aNF) (w : aNE) : Prop :=
 kn cT (.int .u64 0) w
theorem XX (kn : K2) (hn : N2 Q kn 0 3) (h : Io kn (g 0) w) : bD pg nX (aF 2 mY) Q g w :=
 eL (kr := no) (l := []) h hn gT trivial
def Iu (R : K1) (cT : aNF) (w : aNE) : Prop :=
 Io (fun cT Bf w => Ki R cT Bf w) cT w
theorem YA (R : K1) (hr : HR Li R Q) (h : Iu R (g 0) w) : bD pg nX mY Q g w :=
 jA 2 (XX _ g w (Ki R) (fun g w h => aJ (jA 1 (ZM _ g w (DA R) (fun g w h => aJ (adZ _ g w R hr h)) h))) h)
def agA (a0 : aNF) (w : aNE) (R : K1) : Prop :=
 Iu R a0 w
theorem ajC {a0 : aNF} {w : aNE} {R : K1} (h : agA a0 w R) : aT pg BU #[a0] w R := by
 refine uO (ann := nX) Tryz.f102 mY [a0] Li 21 TryzM.mixed Tryz.func102 ?_
 exact (YA _ _ _ R (fun _ _ h => h) h)
def tZ : FA := ⟨I5, fun i => .leaf ([], []) []⟩
def NV : List ResultVar := [.tmp 2]
noncomputable def sN : Code := dG Tryz.f103
def F1 (R : K1) (nR : aNF) (w : aNE) : Prop :=
 R nR w
theorem afV (R : K1) (hr : HR NV R Q) (h : F1 R (g 3) w) : bD pg tZ (aB 1 (aB 2 sN)) Q g w :=
 eL (kn := no) (l := []) h gT hr trivial
def FO (kn : K2) (k0 : K1) (oJ nR : aNF) (w : aNE) : Prop :=
 aD pg (aI .gtr 3 aM aM oJ (aNG 0)) w fun b5 w =>
 gZ b5
  (aD pg (aI .quo 3 aM aM oJ (aNG 2)) w fun b7 w =>
  aD pg (aI .add 3 aM aM nR (aNG 1)) w fun b9 w =>
  kn b7 b9 w)
  (k0 nR w)
theorem afC (kn : K2) (k0 : K1) (hn : N2 Q kn 0 3) (h0 : E1 Q k0 0 3) (h : FO kn k0 (g 0) (g 3) w) : bD pg tZ (bI (bI (aF 1 (aB 2 sN)))) Q g w :=
 eL (kr := no) (l := [(0, fun g w => k0 (g 3) w)]) h hn gT ⟨h0, trivial⟩
def NG (k0 : K1) (oJ nR : aNF) (w : aNE) : Prop :=
 cS (fun (X : (aNF × aNF) -> K0) (t : aNF × aNF) (w : aNE) => FO (fun oJ nR w => X (oJ, nR) w) k0 t.1 t.2 w) (oJ, nR) w
theorem aiZ (k0 : K1) (h0 : E1 Q k0 0 3) (h : NG k0 (g 0) (g 3) w) : bD pg tZ (bI (aF 1 (aB 2 sN))) Q g w := by
 refine CS (fun g : Env => (g 0, g 3)) (fun X t w => FO (fun oJ nR w => X (oJ, nR) w) k0 t.1 t.2 w) h (fun X g1 w1 ha hL => ?_)
 exact (afC _ g1 w1 (fun oJ nR w => X (oJ, nR) w) k0 (fun _ _ h => h) h0 hL)
def Oo (kn : K1) (oJ nR : aNF) (w : aNE) : Prop :=
 NG kn oJ nR w
def Pv (R : K1) (oJ nR : aNF) (w : aNE) : Prop :=
 Oo (fun nR w => F1 R nR w) oJ nR w
theorem aiY (kn : K1) (hn : N1 Q kn 3) (h : Oo kn (g 0) (g 3) w) : bD pg tZ (aF 1 (aB 2 sN)) Q g w :=
 wX 0 (aiZ _ g w kn hn h)
def Ou (kn : K2) (oJ : aNF) (w : aNE) : Prop :=
 kn oJ (aNG 0) w
theorem aiM (kn : K2) (hn : N2 Q kn 0 3) (h : Ou kn (g 0) w) : bD pg tZ (aF 2 sN) Q g w :=
 eL (kr := no) (l := []) h hn gT trivial
def O2 (R : K1) (oJ : aNF) (w : aNE) : Prop :=
 Ou (fun oJ nR w => Pv R oJ nR w) oJ w
theorem akX (R : K1) (hr : HR NV R Q) (h : O2 R (g 0) w) : bD pg tZ sN Q g w :=
 jA 2 (aiM _ g w (Pv R) (fun g w h => aJ (jA 1 (aiY _ g w (F1 R) (fun g w h => aJ (afV _ g w R hr h)) h))) h)
def arZ (a0 : aNF) (w : aNE) (R : K1) : Prop :=
 O2 R a0 w
theorem apD {a0 : aNF} {w : aNE} {R : K1} (h : arZ a0 w R) : aT pg I5 #[a0] w R := by
 refine uO (ann := tZ) Tryz.f103 sN [a0] NV 11 TryzM.mixed Tryz.func103 ?_
 exact (akX _ _ _ R (fun _ _ h => h) h)
def oC : FA := ⟨Qd, fun i => .leaf ([], []) []⟩
def uI : List ResultVar := [.tmp 2]
noncomputable def mV : Code := dG Tryz.f104
def Mk (R : K1) (cC gF : aNF) (w : aNE) : Prop :=
 aD pg (aK 128 cC 0) w fun j1 w =>
 aD pg (aL 3 j1) w fun j2 w =>
 aT pg nZ #[j2] w fun j3 w =>
 aD pg (aI .eql 3 (.tmp 60) (.tmp 63) gF j3) w fun j4 w =>
 R j4 w
theorem atT (R : K1) (hr : HR uI R Q) (h : Mk R (g 1) (g 3) w) : bD pg oC (aB 1 (aB 3 mV)) Q g w :=
 eL (kn := no) (l := []) h gT hr trivial
def Fl (kn : K3) (cC gF lF : aNF) (w : aNE) : Prop :=
 aD pg (aI .add 3 aM aM lF (aNG 1)) w fun f3 w =>
 kn cC gF f3 w
theorem avG (kn : K3) (hn : N3 Q kn 1 3 4) (h : Fl kn (g 1) (g 3) (g 4) w) : bD pg oC (aB 1 (aB 1 (bI (bI (aB 1 (aF 1 (aB 3 mV))))))) Q g w :=
 eL (kr := no) (l := []) h hn gT trivial
def FP (kn : K3) (cC gF lF p_5 : aNF) (w : aNE) : Prop :=
 aD pg (aI .add 3 aM aM gF p_5) w fun i9 w =>
 kn cC i9 lF w
theorem auS (kn : K3) (hn : N3 Q kn 1 3 4) (h : FP kn (g 1) (g 3) (g 4) (g 5) w) : bD pg oC (aB 3 (bI (aF 1 (aB 1 (bI (bI (aB 1 (aF 1 (aB 3 mV))))))))) Q g w :=
 eL (kr := no) (l := []) h hn gT trivial
def G5 (kn : K4) (R : K1) (cC gF lF : aNF) (w : aNE) : Prop :=
 aD pg (aK 128 cC 1) w fun f4 w =>
 aD pg (aL 42 f4) w fun f5 w =>
 aD pg (cI 42 f5 lF) w fun f7 w =>
 aD pg (aL 3 f7) w fun f8 w =>
 aD pg (aI .lss 3 aM aM f8 (aNG (-1))) w fun i0 w =>
 Gd (gJ i0 false) (fun K => K f8 w) w fun i2 w =>
 Gd (gJ i0 false) (fun K => aD pg (aI .gtr 3 aM aM i2 (aNG 32768)) w K) w fun i3 w =>
 aD pg (iN i0 (.bool true) i3) w fun i4 w =>
 gZ i4
  (R (.bool false) w)
  (aD pg (aI .lss 3 aM aM f8 (aNG 0)) w fun i6 w =>
  gZ i6
   (kn cC gF lF (aNG 1) w)
   (kn cC gF lF f8 w))
theorem atG (kn : K4) (R : K1) (hn : N4 Q kn 1 3 4 5) (hr : HR uI R Q) (h : G5 kn R (g 1) (g 3) (g 4) w) : bD pg oC (aF 3 (bI (aF 1 (aB 1 (bI (bI (aB 1 (aF 1 (aB 3 mV))))))))) Q g w :=
 eL (l := []) h hn hr trivial
def Mi (kn : K3) (R : K1) (cC gF lF : aNF) (w : aNE) : Prop :=
 G5 (fun cC gF lF p_5 w => FP kn cC gF lF p_5 w) R cC gF lF w
def Gm (kn : K3) (R : K1) (cC gF lF : aNF) (w : aNE) : Prop :=
 Mi kn R cC gF lF w
def EP (kn : K3) (R : K1) (cC gF lF : aNF) (w : aNE) : Prop :=
 Gm (fun cC gF lF w => Fl kn cC gF lF w) R cC gF lF w
theorem atF (kn : K3) (R : K1) (hn : N3 Q kn 1 3 4) (hr : HR uI R Q) (h : Gm kn R (g 1) (g 3) (g 4) w) : bD pg oC (aF 1 (aB 1 (bI (bI (aB 1 (aF 1 (aB 3 mV))))))) Q g w :=
 wX 1 (jA 3 (atG _ g w (FP kn) R (fun g w h => aJ (auS _ g w kn hn h)) hr h))
def B6 (kn : K3) (k0 : K2) (cC gF lF : aNF) (w : aNE) : Prop :=
 aD pg (aK 128 cC 1) w fun e8 w =>
 aD pg (aL 42 e8) w fun e9 w =>
 aD pg (lG .len #[42] 3 [e9]) w fun f0 w =>
 aD pg (aI .lss 3 aM aM lF f0) w fun f1 w =>
 gZ f1
  (kn cC gF lF w)
  (k0 cC gF w)
theorem avD (kn : K3) (k0 : K2) (hn : N3 Q kn 1 3 4) (h0 : E2 Q k0 0 1 3) (h : B6 kn k0 (g 1) (g 3) (g 4) w) : bD pg oC (aF 1 (bI (bI (aB 1 (aF 1 (aB 3 mV)))))) Q g w :=
 eL (kr := no) (l := [(0, fun g w => k0 (g 1) (g 3) w)]) h hn gT ⟨h0, trivial⟩
def zK (kn : K3) (k0 : K2) (R : K1) (cC gF lF : aNF) (w : aNE) : Prop :=
 B6 (fun cC gF lF w => EP kn R cC gF lF w) k0 cC gF lF w
def QL (k0 : K2) (R : K1) (cC gF lF : aNF) (w : aNE) : Prop :=
 cS (fun (X : (aNF × aNF) -> K0) (t : aNF × aNF) (w : aNE) => zK (fun _ gF lF w => X (gF, lF) w) k0 R cC t.1 t.2 w) (gF, lF) w
theorem auE (kn : K3) (k0 : K2) (R : K1) (hn : N3 Q kn 1 3 4) (h0 : E2 Q k0 0 1 3) (hr : HR uI R Q) (h : zK kn k0 R (g 1) (g 3) (g 4) w) : bD pg oC (bI (bI (aB 1 (aF 1 (aB 3 mV))))) Q g w :=
 jA 1 (avD _ g w (EP kn R) k0 (fun g w h => aJ (jA 1 (atF _ g w (Fl kn) R (fun g w h => aJ (avG _ g w kn hn h)) hr h))) h0 h)
theorem aoQ (k0 : K2) (R : K1) (h0 : E2 Q k0 0 1 3) (hr : HR uI R Q) (h : QL k0 R (g 1) (g 3) (g 4) w) : bD pg oC (bI (aB 1 (aF 1 (aB 3 mV)))) Q g w := by
 refine CS (fun g : Env => (g 3, g 4)) (fun X t w => zK (fun _ gF lF w => X (gF, lF) w) k0 R (g 1) t.1 t.2 w) h (fun X g1 w1 ha hL => ?_)
 rw [<- jX 1 ha] at hL
 exact (auE _ g1 w1 (fun _ gF lF w => X (gF, lF) w) k0 R (fun _ _ h => h) h0 hr hL)
def QV (kn : K2) (R : K1) (cC gF lF : aNF) (w : aNE) : Prop :=
 QL kn R cC gF lF w
def R0 (kn : K3) (cC gF : aNF) (w : aNE) : Prop :=
 kn cC gF (aNG 0) w
theorem anC (kn : K3) (hn : N3 Q kn 1 3 4) (h : R0 kn (g 1) (g 3) w) : bD pg oC (aF 1 (aF 1 (aB 3 mV))) Q g w :=
 eL (kr := no) (l := []) h hn gT trivial
def Q7 (kn : K2) (R : K1) (cC gF : aNF) (w : aNE) : Prop :=
 R0 (fun cC gF lF w => QV kn R cC gF lF w) cC gF w
def R2 (R : K1) (cC gF : aNF) (w : aNE) : Prop :=
 Q7 (fun cC gF w => Mk R cC gF w) R cC gF w
theorem aoE (kn : K2) (R : K1) (hn : N2 Q kn 1 3) (hr : HR uI R Q) (h : Q7 kn R (g 1) (g 3) w) : bD pg oC (aF 1 (aB 3 mV)) Q g w :=
 jA 1 (anC _ g w (QV kn R) (fun g w h => aJ (wX 0 (aoQ _ g w kn R hn hr h))) h)
def QK (kn : K2) (R : K1) (L1 : aNF) (w : aNE) : Prop :=
 aD pg (B5 128 L1) w fun cC w =>
 aD pg (aK 128 cC 0) w fun b6 w =>
 aD pg (aL 3 b6) w fun b7 w =>
 aD pg (aI .lss 3 aM aM b7 (aNG 5)) w fun b8 w =>
 Gd (gJ b8 false) (fun K => aD pg (aK 128 cC 0) w K) w fun c0 w =>
 Gd (gJ b8 false) (fun K => aD pg (aL 3 c0) w K) w fun c1 w =>
 Gd (gJ b8 false) (fun K => aD pg (aI .gtr 3 aM aM c1 (aNG 15)) w K) w fun c2 w =>
 aD pg (iN b8 (.bool true) c2) w fun c3 w =>
 Gd (gJ c3 false) (fun K => aD pg (aK 128 cC 1) w K) w fun c5 w =>
 Gd (gJ c3 false) (fun K => aD pg (aL 42 c5) w K) w fun c6 w =>
 Gd (gJ c3 false) (fun K => aD pg (lG .len #[42] 3 [c6]) w K) w fun c7 w =>
 Gd (gJ c3 false) (fun K => aD pg (aI .eql 3 (.tmp 17) (.const (aNG 0)) c7 (aNG 0)) w K) w fun c8 w =>
 aD pg (iN c3 (.bool true) c8) w fun c9 w =>
 Gd (gJ c9 false) (fun K => aD pg (aK 128 cC 1) w K) w fun d1 w =>
 Gd (gJ c9 false) (fun K => aD pg (aL 42 d1) w K) w fun d2 w =>
 Gd (gJ c9 false) (fun K => aD pg (lG .len #[42] 3 [d2]) w K) w fun d3 w =>
 Gd (gJ c9 false) (fun K => aD pg (aI .gtr 3 aM aM d3 (aNG 256)) w K) w fun d4 w =>
 aD pg (iN c9 (.bool true) d4) w fun d5 w =>
 Gd (gJ d5 false) (fun K => aD pg (aK 128 cC 1) w K) w fun d7 w =>
 Gd (gJ d5 false) (fun K => aD pg (aL 42 d7) w K) w fun d8 w =>
 Gd (gJ d5 false) (fun K => aD pg (aK 128 cC 1) w K) w fun d9 w =>
 Gd (gJ d5 false) (fun K => aD pg (aL 42 d9) w K) w fun e0 w =>
 Gd (gJ d5 false) (fun K => aD pg (lG .len #[42] 3 [e0]) w K) w fun e1 w =>
 Gd (gJ d5 false) (fun K => aD pg (aI .sub 3 aM aM e1 (aNG 1)) w K) w fun e2 w =>
 Gd (gJ d5 false) (fun K => aD pg (cI 42 d8 e2) w K) w fun e3 w =>
 Gd (gJ d5 false) (fun K => aD pg (aL 3 e3) w K) w fun e4 w =>
 Gd (gJ d5 false) (fun K => aD pg (aI .eql 3 (.tmp 34) (.const (aNG 0)) e4 (aNG 0)) w K) w fun e5 w =>
 aD pg (iN d5 (.bool true) e5) w fun e6 w =>
 gZ e6
  (R (.bool false) w)
  (kn cC (aNG 0) w)
theorem anQ (kn : K2) (R : K1) (hn : N2 Q kn 1 3) (hr : HR uI R Q) (h : QK kn R (g 0) w) : bD pg oC (aF 3 mV) Q g w :=
 eL (l := []) h hn hr trivial
def RJ (R : K1) (L1 : aNF) (w : aNE) : Prop :=
 QK (fun cC gF w => R2 R cC gF w) R L1 w
theorem arE (R : K1) (hr : HR uI R Q) (h : RJ R (g 0) w) : bD pg oC mV Q g w :=
 jA 3 (anQ _ g w (R2 R) R (fun g w h => aJ (jA 1 (aoE _ g w (Mk R) R (fun g w h => aJ (atT _ g w R hr h)) hr h))) hr h)
def aAO (a0 : aNF) (w : aNE) (R : K1) : Prop :=
 RJ R a0 w
theorem ayA {a0 : aNF} {w : aNE} {R : K1} (h : aAO a0 w R) : aT pg Qd #[a0] w R := by
 refine uO (ann := oC) Tryz.f104 mV [a0] uI 65 TryzM.mixed Tryz.func104 ?_
 exact (arE _ _ _ R (fun _ _ h => h) h)
def nU : FA := ⟨oX, fun i => .leaf ([], []) []⟩
def rA : List ResultVar := []
noncomputable def nL : Code := dG Tryz.f105
def rB (kn : K3) (k0 : K0) (R : K1) (AY b1 i_3 : aNF) (w : aNE) : Prop :=
 aD pg (aI .geq 3 aM aM i_3 (aNG 0)) w fun b8 w =>
 gZ b8
  (aD pg (aL 22 b1) w fun c3 w =>
  aD pg (cI 22 c3 i_3) w fun c5 w =>
  aD pg (aL 5 c5) w fun c6 w =>
  aD pg (PQ AY [i_3, c6]) w fun c7 w =>
  aD pg (sUn .not c7) w fun c8 w =>
  gZ c8
   (R (.tuple #[]) w)
   (aD pg (aI .sub 3 aM aM i_3 (aNG 1)) w fun c0 w =>
   kn AY b1 c0 w))
  (k0 w)
theorem Iq (kn : K3) (k0 : K0) (R : K1) (hn : N3 Q kn 0 1 3) (h0 : E0 Q k0 0) (hr : HR rA R Q) (h : rB kn k0 R (g 0) (g 1) (g 3) w) : bD pg nU (bI (bI (aB 1 nL))) Q g w :=
 eL (l := [(0, fun g w => k0 w)]) h hn hr ⟨h0, trivial⟩
def uE (k0 : K0) (R : K1) (AY b1 i_3 : aNF) (w : aNE) : Prop :=
 cS (fun (X : aNF -> K0) (t : aNF) (w : aNE) => rB (fun _ _ i_3 w => X i_3 w) k0 R AY b1 t w) i_3 w
theorem HY (k0 : K0) (R : K1) (h0 : E0 Q k0 0) (hr : HR rA R Q) (h : uE k0 R (g 0) (g 1) (g 3) w) : bD pg nU (bI (aB 1 nL)) Q g w := by
 refine CS (fun g : Env => g 3) (fun X t w => rB (fun _ _ i_3 w => X i_3 w) k0 R (g 0) (g 1) t w) h (fun X g1 w1 ha hL => ?_)
 rw [<- jX 0 ha, <- jX 1 ha] at hL
 exact (Iq _ g1 w1 (fun _ _ i_3 w => X i_3 w) k0 R (fun _ _ h => h) h0 hr hL)
def uH (kn : K0) (R : K1) (AY b1 i_3 : aNF) (w : aNE) : Prop :=
 uE kn R AY b1 i_3 w
def uJ (kn : K3) (AY b1 : aNF) (w : aNE) : Prop :=
 aD pg (aL 22 b1) w fun b4 w =>
 aD pg (lG .len #[22] 3 [b4]) w fun b5 w =>
 aD pg (aI .sub 3 aM aM b5 (aNG 1)) w fun b6 w =>
 kn AY b1 b6 w
theorem Hy (kn : K3) (hn : N3 Q kn 0 1 3) (h : uJ kn (g 0) (g 1) w) : bD pg nU (aF 1 nL) Q g w :=
 eL (kr := no) (l := []) h hn gT trivial
def uD (kn : K0) (R : K1) (AY b1 : aNF) (w : aNE) : Prop :=
 uJ (fun AY b1 i_3 w => uH kn R AY b1 i_3 w) AY b1 w
theorem HJ (kn : K0) (R : K1) (hn : N0 Q kn) (hr : HR rA R Q) (h : uD kn R (g 0) (g 1) w) : bD pg nU nL Q g w :=
 jA 1 (Hy _ g w (uH kn R) (fun g w h => aJ (wX 0 (HY _ g w kn R hn hr h))) h)
def CN (a0 a1 : aNF) (w : aNE) (R : K1) : Prop :=
 uD (fun  w => R (.tuple #[]) w) R a0 a1 w
theorem Jk {a0 a1 : aNF} {w : aNE} {R : K1} (h : CN a0 a1 w R) : aT pg oX #[a0, a1] w R := by
 refine uO (ann := nU) Tryz.f105 nL [a0, a1] rA 19 TryzM.mixed Tryz.func105 ?_
 exact (HJ _ _ _ (fun  w => R (.tuple #[]) w) R (fun _ _ h => h) (fun _ _ h => h) h)
end Go.Proofs.YtgpimhlgaokobaaGreat
namespace Go.En
open Go
section
variable {P : Program} {w : aNE} {t : TypeId} {ox oy : Operand} {k : IntKind} {a b : Int}
theorem uR (s : Sem aNF) : (V s).run P w = (s.run P w).andThen fun v w => .ok (.value v) w := by
 unfold V; rw [Sem.run_bind] <;> rfl
theorem aKL (s : Sem Unit) : (U s).run P w = (s.run P w).andThen fun _ w => .ok .skip w := by
 unfold U; rw [Sem.run_bind] <;> rfl
theorem bK : (aI .add t ox oy (.int k a) (.int k b)).run P w = .ok (.value (.int k (k.wrap (a + b)))) w := by
 simp [aI, OV, uR, binOp, Op.intArith]
theorem fE : (aI .sub t ox oy (.int k a) (.int k b)).run P w = .ok (.value (.int k (k.wrap (a - b)))) w := by
 simp [aI, OV, uR, binOp, Op.intArith]
theorem oN : (aI .mul t ox oy (.int k a) (.int k b)).run P w = .ok (.value (.int k (k.wrap (a * b)))) w := by
 simp [aI, OV, uR, binOp, Op.intArith]
theorem oR (h : b ≠ 0) : (aI .quo t ox oy (.int k a) (.int k b)).run P w = .ok (.value (.int k (k.wrap (a.tdiv b)))) w := by
 simp [aI, OV, uR, binOp, Op.intDiv, h]
theorem rD (h : b ≠ 0) : (aI .rem t ox oy (.int k a) (.int k b)).run P w = .ok (.value (.int k (a.tmod b))) w := by
 simp [aI, OV, uR, binOp, Op.intDiv, h]
def VF (k : IntKind) (a b : Int) : Int := k.wrap (BitVec.ofInt k.bits a &&& BitVec.ofInt k.bits b).toNat
def orI (k : IntKind) (a b : Int) : Int := k.wrap (BitVec.ofInt k.bits a ||| BitVec.ofInt k.bits b).toNat
def aIf (k : IntKind) (a b : Int) : Int := k.wrap (BitVec.ofInt k.bits a ^^^ BitVec.ofInt k.bits b).toNat
def aFd (k : IntKind) (a b : Int) : Int := k.wrap (BitVec.ofInt k.bits a &&& ~~~BitVec.ofInt k.bits b).toNat
theorem wK : (aI .and t ox oy (.int k a) (.int k b)).run P w = .ok (.value (.int k (VF k a b))) w := by
 simp [aI, OV, uR, binOp, Op.intBits, VF]
theorem LA : (aI .or t ox oy (.int k a) (.int k b)).run P w = .ok (.value (.int k (orI k a b))) w := by
 simp [aI, OV, uR, binOp, Op.intBits, orI]
theorem Py : (aI .xor t ox oy (.int k a) (.int k b)).run P w = .ok (.value (.int k (aIf k a b))) w := by
 simp [aI, OV, uR, binOp, Op.intBits, aIf]
theorem uW : (aI .andNot t ox oy (.int k a) (.int k b)).run P w = .ok (.value (.int k (aFd k a b))) w := by
 simp [aI, OV, uR, binOp, Op.intBits, aFd]
theorem pE {k' : IntKind} (h : 0 <= b) : (aI .shl t ox oy (.int k a) (.int k' b)).run P w = .ok (.value (.int k (k.wrap (a * 2 ^ (min b.toNat k.bits))))) w := by
 simp [aI, OV, uR, binOp, Op.shift, Int.not_lt.2 h]
theorem sR {k' : IntKind} (h : 0 <= b) : (aI .shr t ox oy (.int k a) (.int k' b)).run P w = .ok (.value (.int k (a.fdiv (2 ^ (min b.toNat k.bits))))) w := by
 simp [aI, OV, uR, binOp, Op.shift, Int.not_lt.2 h]
theorem dQ : (aI .eql t ox oy (.int k a) (.int k b)).run P w = .ok (.value (.bool (a == b))) w := by
 simp [aI, OV, uR, binOp, Op.intCmp, eqGuard]
theorem cY : (aI .neq t ox oy (.int k a) (.int k b)).run P w = .ok (.value (.bool (a != b))) w := by
 simp [aI, OV, uR, binOp, Op.intCmp, eqGuard]
theorem aS : (aI .lss t ox oy (.int k a) (.int k b)).run P w = .ok (.value (.bool (decide (a < b)))) w := by
 simp [aI, OV, uR, binOp, Op.intCmp]
theorem Bi : (aI .leq t ox oy (.int k a) (.int k b)).run P w = .ok (.value (.bool (decide (a <= b)))) w := by
 simp [aI, OV, uR, binOp, Op.intCmp]
theorem dE : (aI .gtr t ox oy (.int k a) (.int k b)).run P w = .ok (.value (.bool (decide (b < a)))) w := by
 simp [aI, OV, uR, binOp, Op.intCmp]
theorem nF : (aI .geq t ox oy (.int k a) (.int k b)).run P w = .ok (.value (.bool (decide (b <= a)))) w := by
 simp [aI, OV, uR, binOp, Op.intCmp]
theorem LV : (sUn .neg (.int k a)).run P w = .ok (.value (.int k (k.wrap (0 - a)))) w := by
 simp [sUn, uR, Op.unary, Op.intArith]
theorem OY : (sUn .xor (.int k a)).run P w = .ok (.value (.int k (aIf k (if k.signed then -1 else k.max) a))) w := by
 simp [sUn, uR, Op.unary, Op.intBits, aIf]
theorem oP (c : Bool) : (sUn .not (.bool c)).run P w = .ok (.value (.bool !c)) w := by
 simp [sUn, uR, Op.unary]
theorem bE (c : Bool) (x y : aNF) : (iN (.bool c) x y).run P w = .ok (.value (if c then x else y)) w := by
 simp [iN, asBool]
theorem ayT {x y : aNF} {r : Bool} (hg : eqGuard .eql t ox oy x y = pure ()) (hb : binOp .eql t x y = (do pure (.bool (<- Op.equal t x y)))) (he : (Op.equal t x y).run P w = .ok r w) :
 (aI .eql t ox oy x y).run P w = .ok (.value (.bool r)) w := by
 unfold aI
 simp only [OV, uR, hg, hb, pure_bind]
 rw [Sem.run_bind, he] <;> rfl
theorem aG3 {x y : aNF} {r : Bool} (hg : eqGuard .neq t ox oy x y = pure ()) (hb : binOp .neq t x y = (do pure (.bool (!(<- Op.equal t x y))))) (he : (Op.equal t x y).run P w = .ok r w) :
 (aI .neq t ox oy x y).run P w = .ok (.value (.bool (!r))) w := by
 unfold aI
 simp only [OV, uR, hg, hb, pure_bind]
 rw [Sem.run_bind, he] <;> rfl
theorem aGt (n : Nat) (c d : Bool) (hu : P.underlying t = some .bool) : (Op.equalIn (n + 1) t (.bool c) (.bool d)).run P w = .ok (c == d) w := by
 simp only [Op.equalIn, underlying]
 simp [hu]
theorem aIC (c d : Bool) (hu : P.underlying t = some .bool) : (Op.equal t (.bool c) (.bool d)).run P w = .ok (c == d) w := aGt 9999 c d hu
theorem aJf (c d : Bool) (hu : P.underlying t = some .bool) : (aI .eql t ox oy (.bool c) (.bool d)).run P w = .ok (.value (.bool (c == d))) w :=
 ayT rfl rfl (aIC c d hu)
theorem aP {n : Int} (h0 : -9223372036854775808 <= n) (h1 : n <= 9223372036854775807) : IntKind.i64.wrap n = n := by
 unfold IntKind.wrap; simp [IntKind.bits, IntKind.signed]; split <;> omega
theorem kS {n : Int} (h0 : 0 <= n) (h1 : n <= 18446744073709551615) : IntKind.u64.wrap n = n := by
 unfold IntKind.wrap; simp [IntKind.bits, IntKind.signed]; omega
theorem ND {n : Int} (h0 : -2147483648 <= n) (h1 : n <= 2147483647) : IntKind.i32.wrap n = n := by
 unfold IntKind.wrap; simp [IntKind.bits, IntKind.signed]; split <;> omega
theorem Ma {n : Int} (h0 : 0 <= n) (h1 : n <= 4294967295) : IntKind.u32.wrap n = n := by
 unfold IntKind.wrap; simp [IntKind.bits, IntKind.signed]; omega
theorem Oq {n : Int} (h0 : 0 <= n) (h1 : n <= 65535) : IntKind.u16.wrap n = n := by
 unfold IntKind.wrap; simp [IntKind.bits, IntKind.signed]; omega
theorem xK {n : Int} (h0 : 0 <= n) (h1 : n <= 255) : IntKind.u8.wrap n = n := by
 unfold IntKind.wrap; simp [IntKind.bits, IntKind.signed]; omega
theorem aDM (x y : ByteArray) (h : ((x.size + y.size : Nat) : Int) <= 9223372036854775807) : (aI .add t ox oy (.string x) (.string y)).run P w = .ok (.value (.string (x ++ y))) w := by
 have : ¬ (((x.size + y.size : Nat) : Int) > IntKind.i64.max) := by
  have e : IntKind.i64.max = 9223372036854775807 := by decide
  rw [e]; omega
 simp only [aI, OV, uR, binOp, Op.stringOp, this, if_false]
 rfl
theorem zX (x y : ByteArray) : (aI .eql t ox oy (.string x) (.string y)).run P w = .ok (.value (.bool (x.toList == y.toList))) w := by
 simp [aI, OV, uR, binOp, Op.stringOp, eqGuard]
theorem aHc (n : Nat) {e : TypeId} (hu : P.underlying t = some (.pointer e)) (x : Option Addr) : (Op.equalIn (n + 1) t (.pointer x) (.pointer none)).run P w = .ok x.isNone w := by
 simp only [Op.equalIn, underlying]
 cases x <;> simp [hu]
theorem aHk {e : TypeId} (hu : P.underlying t = some (.pointer e)) (x : Option Addr) : (Op.equal t (.pointer x) (.pointer none)).run P w = .ok x.isNone w := aHc 9999 hu x
theorem aIw (m : Nat) {e : TypeId} (hu : P.underlying t = some (.slice e)) (x : Option Addr) (n c : Nat) : (Op.equalIn (m + 1) t (.slice x n c) (.slice none 0 0)).run P w = .ok x.isNone w := by
 simp only [Op.equalIn, underlying]
 cases x <;> simp [hu]
theorem aKa {e : TypeId} (hu : P.underlying t = some (.slice e)) (x : Option Addr) (n c : Nat) : (Op.equal t (.slice x n c) (.slice none 0 0)).run P w = .ok x.isNone w := aIw 9999 hu x n c
theorem axX {e : TypeId} (hu : P.underlying t = some (.pointer e)) (x : Option Addr) : (aI .eql t ox oy (.pointer x) (.pointer none)).run P w = .ok (.value (.bool x.isNone)) w :=
 ayT rfl rfl (aHk hu x)
theorem aJV {e : TypeId} (hu : P.underlying t = some (.pointer e)) (x : Option Addr) : (aI .neq t ox oy (.pointer x) (.pointer none)).run P w = .ok (.value (.bool (!x.isNone))) w :=
 aG3 rfl rfl (aHk hu x)
theorem aIs {e : TypeId} (hu : P.underlying t = some (.slice e)) (x : Option Addr) (n c : Nat) : (aI .eql t ox oy (.slice x n c) (.slice none 0 0)).run P w = .ok (.value (.bool x.isNone)) w :=
 ayT rfl rfl (aKa hu x n c)
theorem H5 {s : TypeId} {d : TypeDesc} {kd : IntKind} (hs : P.underlying s = some d) (hu : P.underlying t = some (.int kd)) : (jG s t (.int k a)).run P w = .ok (.value (.int kd (kd.wrap a))) w := by
 cases d <;> simp [jG, uR, convert, underlying, hs, hu, Conv.intToInt]
theorem ZK {ty : TypeId} {e : TypeId} (hu : P.underlying t = some (.slice e)) (x : Option Addr) (n c : Nat) : (lG .len #[t] ty [.slice x n c]).run P w = .ok (.value (.int .i64 n)) w := by
 simp [lG, builtin, Builtin.len_, underlying, hu, goInt]
theorem aJh {ty : TypeId} (hu : P.underlying t = some .string) (x : ByteArray) : (lG .len #[t] ty [.string x]).run P w = .ok (.value (.int .i64 x.size)) w := by
 simp [lG, builtin, Builtin.len_, underlying, hu, goInt]
theorem L3 {ats : Array TypeId} {ty : TypeId} : (lG .min ats ty [.int k a, .int k b]).run P w = .ok (.value (.int k (if b < a then b else a))) w := by
 simp [lG, builtin, Builtin.min_, Builtin.min2]
theorem Bc {ats : Array TypeId} {ty : TypeId} : (lG .max ats ty [.int k a, .int k b]).run P w = .ok (.value (.int k (if b > a then b else a))) w := by
 simp [lG, builtin, Builtin.max_, Builtin.max2]
theorem pT (a b : aNF) : (bQ (.tuple #[a, b]) 0).run P w = .ok (.value a) w := Eq.trans rfl rfl
theorem pS (a b : aNF) : (bQ (.tuple #[a, b]) 1).run P w = .ok (.value b) w := Eq.trans rfl rfl
theorem YB (a b c : aNF) : (bQ (.tuple #[a, b, c]) 0).run P w = .ok (.value a) w := Eq.trans rfl rfl
theorem Ys (a b c : aNF) : (bQ (.tuple #[a, b, c]) 1).run P w = .ok (.value b) w := Eq.trans rfl rfl
theorem Yu (a b c : aNF) : (bQ (.tuple #[a, b, c]) 2).run P w = .ok (.value c) w := Eq.trans rfl rfl
theorem x40 (a b c d : aNF) : (bQ (.tuple #[a, b, c, d]) 0).run P w = .ok (.value a) w := Eq.trans rfl rfl
theorem x41 (a b c d : aNF) : (bQ (.tuple #[a, b, c, d]) 1).run P w = .ok (.value b) w := Eq.trans rfl rfl
theorem x42 (a b c d : aNF) : (bQ (.tuple #[a, b, c, d]) 2).run P w = .ok (.value c) w := Eq.trans rfl rfl
theorem x43 (a b c d : aNF) : (bQ (.tuple #[a, b, c, d]) 3).run P w = .ok (.value d) w := Eq.trans rfl rfl
theorem qU (x : Addr) : (vW (.pointer (some x))).run P w = .ok (.value (.pointer (some x))) w := Eq.trans rfl rfl
theorem jP {fs : Array Field} {f : Field} {i : Nat} {inf : TypeInfo} (hu : P.underlying t = some (.struct fs)) (hf : fs[i]? = some f)
 (hi : P.info? f.type = some inf) (hz : inf.size ≠ 0) (x : Addr) : (aK t (.pointer (some x)) i).run P w = .ok (.value (.pointer (some (x.add f.offset)))) w := by
 simp [aK, uR, Instr.fieldAt, underlying, hu, hf, Instr.sureAddr, fieldPlace, sizeOf, typeInfo, hi, hz]
theorem aCg {e : TypeId} {inf : TypeInfo} (hu : P.underlying t = some (.slice e)) (hi : P.info? e = some inf) (x : Addr) (n c : Nat) (h0 : 0 <= a) (h1 : a < n) :
 (cI t (.slice (some x) n c) (.int k a)).run P w = .ok (.value (.pointer (some (x.add (a.toNat * inf.size))))) w := by
 simp [cI, uR, Instr.indexAt, asIntOf, underlying, hu, h0, h1, sizeOf, typeInfo, hi]
theorem aGW {e : TypeId} {len : Nat} {inf : TypeInfo} (hu : P.underlying t = some (.array len e)) (hi : P.info? e = some inf) (x : Addr) (h0 : 0 <= a) (h1 : a < len) :
 (cI t (.pointer (some x)) (.int k a)).run P w = .ok (.value (.pointer (some (x.add (a.toNat * inf.size))))) w := by
 simp [cI, uR, Instr.indexAt, asIntOf, underlying, hu, h0, h1, sizeOf, typeInfo, hi, Instr.sureAddr]
theorem aJp (hu : P.underlying t = some .string) (x : ByteArray) (h0 : 0 <= a) (h1 : a.toNat < x.size) :
 (DX t (.string x) (.int k a)).run P w = .ok (.value (.int .u8 (x[a.toNat]'h1).toNat)) w := by
 simp [DX, uR, Instr.index, asIntOf, underlying, hu, h0, h1]
end
def eM (w : aNE) (b : Nat) (cs : List aNF) : Prop :=
 ∃ T lo hi, w.heap[b]? = some (.cells cs.toArray T (lo, hi)) /\ (cs.length <= lo ∨ hi = lo)
structure aW (w w' : aNE) (M : Nat -> Prop) : Prop where
 os : w'.os = w.os
 tape : w'.tape = w.tape
 output : w'.output = w.output
 size : w.heap.size <= w'.heap.size
 keep : ∀ b, b < w.heap.size -> ¬ M b -> w'.heap[b]? = w.heap[b]?
def eT : Nat -> Prop := fun _ => False
theorem aW.refl (w : aNE) (M : Nat -> Prop) : aW w w M := ⟨rfl, rfl, rfl, aLm _, fun _ _ _ => rfl⟩
theorem aW.mono {w w' : aNE} {M N : Nat -> Prop} (h : aW w w' M) (hm : ∀ b, b < w.heap.size -> M b -> N b) : aW w w' N :=
 ⟨h.os, h.tape, h.output, h.size, fun b hb hn => h.keep b hb fun hM => hn (hm b hb hM)⟩
theorem aW.trans {a b c : aNE} {M N : Nat -> Prop} (h : aW a b M) (k : aW b c N) (hn : ∀ x, x < a.heap.size -> N x -> M x) : aW a c M :=
 ⟨k.os.trans h.os, k.tape.trans h.tape, k.output.trans h.output, aMf h.size k.size,
   fun x hx hM => (k.keep x (aMK hx h.size) fun h => hM (hn x hx h)).trans (h.keep x hx hM)⟩
theorem aW.seq {a b c : aNE} {M : Nat -> Prop} (h : aW a b M) (k : aW b c M) : aW a c M := h.trans k fun _ _ h => h
theorem aW.new {a b c : aNE} {M : Nat -> Prop} {x : Nat} (h : aW a b M) (k : aW b c (fun y => y = x)) (hx : a.heap.size <= x) : aW a c M :=
 h.trans k fun y hy e => absurd hy (by subst e; omega)
theorem aW.more {a b c : aNE} {M : Nat -> Prop} (h : aW a b M) (k : aW b c (fun _ => False)) : aW a c M := h.trans k fun _ _ h => h.elim
theorem aW.below {w w' : aNE} (h : aW w w' eT) : Go.RowKit.Below w.heap.size w w' :=
 ⟨h.os, h.tape, h.output, h.size, fun k hk => h.keep k hk fun h => h⟩
theorem aW.dr (w : aNE) (M : Nat -> Prop) : aW w (dr w) M := ⟨rfl, rfl, rfl, aLm _, fun _ _ _ => rfl⟩
theorem aW.alloc (w : aNE) (o : Obj) (M : Nat -> Prop) : aW w (w.alloc o) M :=
 ⟨rfl, rfl, rfl, by simp, fun b hb _ => by show (w.heap.push o)[b]? = _; rw [Array.getElem?_push, if_neg (by omega)]⟩
theorem auY (w : aNE) (a : Addr) (v : aNF) (b : Nat) (h : b ≠ a.block) : (w.setCell a v).heap[b]? = w.heap[b]? := Go.RowKit.Below.heap_setCell w a v b h
theorem aW.setCell (w : aNE) (a : Addr) (v : aNF) {M : Nat -> Prop} (h : a.block < w.heap.size -> M a.block) : aW w (w.setCell a v) M :=
 ⟨rfl, rfl, rfl, by simp, fun b hb hM => auY w a v b fun e => hM (e ▸ h (e ▸ hb))⟩
theorem eM.lt {w : aNE} {b : Nat} {cs : List aNF} (h : eM w b cs) : b < w.heap.size := by
 obtain ⟨T, lo, hi, h, _⟩ := h
 rcases aLv b w.heap.size with h' | h'
 .exact h'
 .rw [aME h'] at h; cases h
theorem eM.ext {w w' : aNE} {b : Nat} {cs : List aNF} {M : Nat -> Prop} (h : eM w b cs) (hx : aW w w' M) (hM : ¬ M b) : eM w' b cs := by
 have := h.lt
 obtain ⟨T, lo, hi, h, k⟩ := h
 exact ⟨T, lo, hi, by rw [hx.keep b this hM]; exact h, k⟩
theorem eM.cell {w : aNE} {b off : Nat} {cs : List aNF} (h : eM w b cs) : w.cell? ⟨b, off, none⟩ = cs[off]? := by
 obtain ⟨T, lo, hi, h, _⟩ := h
 simp [World.cell?, h]
theorem eM.free {w : aNE} {b off : Nat} {cs : List aNF} {s : Option Nat} (h : eM w b cs) (ho : off < cs.length) : w.frozen? ⟨b, off, s⟩ = false := by
 obtain ⟨T, lo, hi, h, k⟩ := h
 simp only [World.frozen?, h]
 rcases k with k | k <;> (simp; omega)
theorem eM.setCell {w : aNE} {b off : Nat} {cs : List aNF} (h : eM w b cs) (v : aNF) : eM (w.setCell ⟨b, off, none⟩ v) b (cs.set off v) := by
 have hb := h.lt
 obtain ⟨T, lo, hi, h, k⟩ := h
 refine ⟨T, lo, hi, ?_, by simpa using k⟩
 simp only [World.setCell, aNf, h]
 simp
theorem eM.alloc (w : aNE) (cs : List aNF) (T : TypeId) : eM (w.alloc (.cells cs.toArray T)) w.heap.size cs :=
 ⟨T, 0, 0, by show (w.heap.push _)[w.heap.size]? = _; simp, .inr rfl⟩
theorem ajE {w w' : aNE} {M : Nat -> Prop} {a : Addr} {v : aNF} (h : w.cell? a = some v) (hx : aW w w' M) (hM : ¬ M a.block) : w'.cell? a = some v := by
 have hb := World.block_lt_of_cell? w a h
 have e := hx.keep _ hb hM
 unfold World.cell? at h ⊢
 rw [e]; exact h
section
variable {P : Program} {w : aNE} {t : TypeId}
def aDd (d : TypeDesc) : Bool := match d with | .struct _ | .array _ _ => true | _ => false
theorem S9 {d : TypeDesc} (hu : P.underlying t = some d) : (isAgg t).run P w = .ok (aDd d) w := by
 cases d <;> simp [isAgg, underlying, hu, aDd]
theorem kZ {i : TypeInfo} (hi : P.info? t = some i) : (sizeOf t).run P w = .ok i.size w := by simp [sizeOf, typeInfo, hi]
theorem agC {b off : Nat} {cs : List aNF} (ho : eM w b cs) : ∀ (n i : Nat) (acc : Array aNF), off + i + n <= cs.length →
 (loadCellsFrom ⟨b, off, none⟩ i n acc).run P w = .ok (acc ++ ((cs.drop (off + i)).take n).toArray) w := by
 intro n
 induction n with
 | zero => intro i acc _; simp [loadCellsFrom]
 | succ n ih =>
   intro i acc h
   have hc : w.cell? ((⟨b, off, none⟩ : Addr).add i) = some cs[off + i] := by
    unfold Addr.add
    split
    .rename_i hi; subst hi; rw [ho.cell]; simp
    .show w.cell? ⟨b, off + i, none⟩ = _; rw [ho.cell]; simp
   simp only [loadCellsFrom, Sem.run_bind, run_load, hc, Result.andThen_ok]
   rw [ih (i + 1) _ (by omega)]
   congr 1
   rw [aLK (by omega : off + i < cs.length)]
   simp [aMH]
theorem Za {b off n : Nat} {cs : List aNF} (ho : eM w b cs) (h : off + n <= cs.length) :
 (loadCells ⟨b, off, none⟩ n).run P w = .ok ((cs.drop off).take n).toArray w := by
 unfold loadCells
 rw [agC ho n 0 #[] (by omega)]
 simp
theorem zC {d : TypeDesc} {i : TypeInfo} (hu : P.underlying t = some d) (hd : aDd d = true) (hi : P.info? t = some i) {b off : Nat} {cs : List aNF} (ho : eM w b cs) (h : off + i.size <= cs.length) :
 (aL t (.pointer (some ⟨b, off, none⟩))).run P w = .ok (.value (.agg ((cs.drop off).take i.size).toArray)) w := by
 unfold aL
 rw [uR]
 simp only [Instr.loadAt, Instr.sureAddr, loadVar, pure_bind, Sem.run_bind, S9 hu, hd, Result.andThen_ok, if_true, kZ hi, Za ho h, Sem.run_pure]
def one (v : aNF) : Bool := match v with | .agg _ | .tuple _ => false | _ => true
theorem aDL {a : Addr} {v x : aNF} (hv : one v = true) (hc : w.cell? a = some x) (hf : w.frozen? a = false) : (store a v).run P w = .ok () (w.setCell a v) := by
 unfold store
 cases v <;> simp [one] at hv <;> simp [Sem.run, hc, hf]
def bM (cs : List aNF) (off : Nat) : List aNF -> List aNF
 | [] => cs
 | v :: vs => bM (cs.set off v) (off + 1) vs
theorem GH {b : Nat} {M : Nat -> Prop} (hM : M b) : ∀ (vs : List aNF) (w : aNE) (off i : Nat) (cs : List aNF), eM w b cs -> off + i + vs.length <= cs.length -> (∀ v ∈ vs, one v = true) →
 ∃ w', (storeCells ⟨b, off, none⟩ vs i).run P w = .ok () w' /\ eM w' b (bM cs (off + i) vs) /\ aW w w' M /\ w'.heap.size = w.heap.size /\ w'.drawn = w.drawn := by
 intro vs
 induction vs with
 | nil => intro w off i cs ho _ _; exact ⟨w, by simp [storeCells], ho, aW.refl _ _, rfl, rfl⟩
 | cons v vs ih =>
   intro w off i cs ho h hv
   simp only [aLw] at h
   have ha : (⟨b, off, none⟩ : Addr).add i = ⟨b, off + i, none⟩ := by
    unfold Addr.add; split
    .rename_i hi; subst hi; rfl
    .rfl
   have hlt : off + i < cs.length := by omega
   have hc : w.cell? ⟨b, off + i, none⟩ = some cs[off + i] := by rw [ho.cell]; simp
   have hs := aDL (P := P) (hv v (by simp)) hc (ho.free hlt)
   obtain ⟨w', h1, h2, h3, h4, h5⟩ := ih (w.setCell ⟨b, off + i, none⟩ v) off (i + 1) (cs.set (off + i) v) (ho.setCell v) (by simp; omega) (fun x hx => hv x (aLx _ hx))
   refine ⟨w', ?_, h2, (aW.setCell w _ v fun _ => hM).trans h3 (fun _ _ h => h), by rw [h4]; simp, by rw [h5] <;> rfl⟩
   simp only [storeCells, Sem.run_bind, ha, hs, Result.andThen_ok]
   exact h1
theorem pZ {i : TypeInfo} (hi : P.info? t = some i) {b off : Nat} {cs : List aNF} (ho : eM w b cs) {v : aNF} (hs : v.cells.size = i.size)
 (hv : ∀ x ∈ v.cells.toList, one x = true) (h : off + i.size <= cs.length) {K : aNF -> aNE -> Prop}
 (hk : ∀ w', eM w' b (bM cs off v.cells.toList) -> aW w w' (fun x => x = b) -> w'.heap.size = w.heap.size -> K undef w') : aD P (aR t (.pointer (some ⟨b, off, none⟩)) v) w K := by
 obtain ⟨w', h1, h2, h3, h4, _⟩ := GH (P := P) (M := fun x => x = b) rfl v.cells.toList w off 0 cs ho (by simp [hs]; omega) hv
 have : (aR t (.pointer (some ⟨b, off, none⟩)) v).run P w = .ok .skip w' := by
  unfold aR
  rw [aKL]
  simp only [Instr.storeAt, Instr.sureAddr, storeVar, pure_bind, Sem.run_bind, kZ hi, Result.andThen_ok, hs]
  simp [h1]
 unfold aD
 rw [this]
 exact hk w' h2 h3 h4
theorem anU {v : aNF} (hv : one v = true) : v.cells = #[v] := by cases v <;> simp [one] at hv <;> rfl
theorem uX {i : TypeInfo} (hi : P.info? t = some i) (h1 : i.size = 1) {b off : Nat} {cs : List aNF} (ho : eM w b cs) {v : aNF} (hv : one v = true) (h : off < cs.length) {K : aNF -> aNE -> Prop}
 (hk : ∀ w', eM w' b (cs.set off v) -> aW w w' (fun x => x = b) -> w'.heap.size = w.heap.size -> K undef w') : aD P (aR t (.pointer (some ⟨b, off, none⟩)) v) w K := by
 have e := anU hv
 refine pZ hi ho (by rw [e, h1] <;> rfl) (by rw [e]; simpa using hv) (by omega) fun w' a b c => hk w' ?_ b c
 rw [e] at a; exact a
def ldC (c : Option aNF) (w : aNE) (far : Result Next) : Result Next := match c with | some v => .ok (.value v) w | none => far
def far (P : Program) (t : TypeId) (x : Addr) (w : aNE) : Result Next := (aL t (.pointer (some x))).run P w
theorem aH (v : aNF) (w : aNE) (f : Result Next) : ldC (some v) w f = .ok (.value v) w := rfl
theorem ahP {d : TypeDesc} (hu : P.underlying t = some d) (hd : aDd d = false) (x : Addr) (w : aNE) :
 (aL t (.pointer (some x))).run P w = ldC (w.cell? x) w (far P t x w) := by
 cases h : w.cell? x with
 | none => rfl
 | some v =>
   unfold aL
   rw [uR]
   simp only [Instr.loadAt, Instr.sureAddr, loadVar, pure_bind, Sem.run_bind, S9 hu, hd, Result.andThen_ok, aLb, if_false, run_load, h, ldC]
theorem Gz {d : TypeDesc} {i : TypeInfo} (hu : P.underlying t = some d) (hd : aDd d = true) (hi : P.info? t = some i) {b off : Nat} {cs : List aNF} (ho : eM w b cs) (h : off + i.size <= cs.length) {K : aNF -> Prop}
 (hk : K (.agg ((cs.drop off).take i.size).toArray)) : An P t (.pointer (some ⟨b, off, none⟩)) w K := by
 refine ⟨_, ?_, hk⟩
 simp only [asAddr, loadVar, pure_bind, Sem.run_bind, S9 hu, hd, Result.andThen_ok, if_true, kZ hi, Za ho h, Sem.run_pure]
theorem aE5 {d : TypeDesc} (hu : P.underlying t = some d) (hd : aDd d = false) {b off : Nat} {cs : List aNF} (ho : eM w b cs) {v : aNF} (h : cs[off]? = some v) {K : aNF -> Prop}
 (hk : K v) : An P t (.pointer (some ⟨b, off, none⟩)) w K := by
 refine ⟨_, ?_, hk⟩
 simp only [asAddr, loadVar, pure_bind, Sem.run_bind, S9 hu, hd, Result.andThen_ok, aLb, if_false, run_load, ho.cell, h]
theorem nO {v : aNF} {K : aNF -> aNE -> Prop} (hk : ∀ w', eM w' w.heap.size v.cells.toList -> aW w w' eT -> w'.heap.size = w.heap.size + 1 -> K (.pointer (some ⟨w.heap.size, 0, none⟩)) w') :
 aD P (B5 t v) w K := by
 have : (B5 t v).run P w = .ok (.value (.pointer (some ⟨w.heap.size, 0, none⟩))) (w.alloc (.cells v.cells.toList.toArray t)) := by
  unfold B5; rw [uR]
  simp [Instr.box, newVar, newRow]
 unfold aD
 rw [this]
 exact hk _ (eM.alloc _ _ _) (aW.alloc _ _ _) (by simp)
theorem oS {i : TypeInfo} {z : aNF} (hi : P.info? t = some i) (hz : i.zero = some z) {K : aNF -> aNE -> Prop}
 (hk : ∀ w', eM w' w.heap.size z.cells.toList -> aW w w' eT -> w'.heap.size = w.heap.size + 1 -> K (.pointer (some ⟨w.heap.size, 0, none⟩)) w') :
 aD P (fU t) w K := by
 have : (fU t).run P w = .ok (.value (.pointer (some ⟨w.heap.size, 0, none⟩))) (w.alloc (.cells z.cells.toList.toArray t)) := by
  unfold fU; rw [uR]
  simp [Instr.alloc, zeroValue, typeInfo, hi, hz, newVar, newRow]
 unfold aD
 rw [this]
 exact hk _ (eM.alloc _ _ _) (aW.alloc _ _ _) (by simp)
end
theorem Ax {P : Program} {w : aNE} {k : IntKind} {a : Int} {y : Nat} {code : BoundsCode} (h0 : 0 <= a) (h1 : a <= y) : (Instr.sliceBound (.int k a) y code).run P w = .ok a.toNat w := by
 simp [Instr.sliceBound, asIntOf, h0, h1]
section
variable {P : Program} {w : aNE} {t e : TypeId} {k k' : IntKind} {lo hi : Int} {i : TypeInfo}
def mW (x : Option Addr) (m l sz : Nat) : Option Addr := if m = l then x else x.map (·.add (l * sz))
theorem axE (hu : P.underlying t = some (.slice e)) (hi' : P.info? e = some i) (x : Option Addr) (n c : Nat) (h0 : 0 <= lo) (h1 : lo <= n) :
 (lZ t (.slice x n c) (some (.int k lo)) none none).run P w = .ok (.value (.slice (mW x c lo.toNat i.size) (n - lo.toNat) (c - lo.toNat))) w := by
 simp only [lZ, uR, Instr.sliceAt, underlying, hu, Sem.run_bind, run_program, Result.andThen_ok, Sem.run_pure, Instr.slice, Instr.sliceBounds, pure_bind, Ax h0 h1, kZ hi', mW]
theorem awP (hu : P.underlying t = some (.slice e)) (hi' : P.info? e = some i) (x : Option Addr) (n c : Nat) (h0 : 0 <= hi) (h1 : hi <= c) :
 (lZ t (.slice x n c) none (some (.int k hi)) none).run P w = .ok (.value (.slice (mW x c 0 i.size) (hi.toNat - 0) (c - 0))) w := by
 simp only [lZ, uR, Instr.sliceAt, underlying, hu, Sem.run_bind, run_program, Result.andThen_ok, Sem.run_pure, Instr.slice, Instr.sliceBounds, pure_bind, Ax h0 h1, kZ hi', mW]
theorem aBZ (hu : P.underlying t = some (.slice e)) (hi' : P.info? e = some i) (x : Option Addr) (n c : Nat) (h0 : 0 <= lo) (h1 : lo <= hi) (h2 : hi <= c) :
 (lZ t (.slice x n c) (some (.int k lo)) (some (.int k' hi)) none).run P w = .ok (.value (.slice (mW x c lo.toNat i.size) (hi.toNat - lo.toNat) (c - lo.toNat))) w := by
 have h3 : (0 : Int) <= hi := by omega
 have h4 : lo <= (hi.toNat : Int) := by omega
 simp only [lZ, uR, Instr.sliceAt, underlying, hu, Sem.run_bind, run_program, Result.andThen_ok, Sem.run_pure, Instr.slice, Instr.sliceBounds, pure_bind, Ax h3 h2, Ax h0 h4, kZ hi', mW]
theorem aDc (hu : P.underlying t = some .string) (x : ByteArray) (h0 : 0 <= lo) (h1 : lo <= x.size) :
 (lZ t (.string x) (some (.int k lo)) none none).run P w = .ok (.value (.string (x.extract lo.toNat x.size))) w := by
 simp only [lZ, uR, Instr.sliceAt, underlying, hu, Sem.run_bind, run_program, Result.andThen_ok, Sem.run_pure, Instr.slice, Instr.sliceBounds, pure_bind, Option.isSome_none, aLb, if_false, Ax h0 h1]
theorem aCA (hu : P.underlying t = some .string) (x : ByteArray) (h0 : 0 <= hi) (h1 : hi <= x.size) :
 (lZ t (.string x) none (some (.int k hi)) none).run P w = .ok (.value (.string (x.extract 0 hi.toNat))) w := by
 simp only [lZ, uR, Instr.sliceAt, underlying, hu, Sem.run_bind, run_program, Result.andThen_ok, Sem.run_pure, Instr.slice, Instr.sliceBounds, pure_bind, Option.isSome_none, aLb, if_false, Ax h0 h1]
theorem aAf (hu : P.underlying t = some .string) (x : ByteArray) (h0 : 0 <= lo) (h1 : lo <= hi) (h2 : hi <= x.size) :
 (lZ t (.string x) (some (.int k lo)) (some (.int k' hi)) none).run P w = .ok (.value (.string (x.extract lo.toNat hi.toNat))) w := by
 have h3 : (0 : Int) <= hi := by omega
 have h4 : lo <= (hi.toNat : Int) := by omega
 simp only [lZ, uR, Instr.sliceAt, underlying, hu, Sem.run_bind, run_program, Result.andThen_ok, Sem.run_pure, Instr.slice, Instr.sliceBounds, pure_bind, Option.isSome_none, aLb, if_false, Ax h3 h2, Ax h0 h4]
end
def Sl (w : aNE) (v : aNF) (l : List aNF) : Prop :=
 ∃ a n c, v = .slice a n c /\ n = l.length /\ n <= c /\ (0 < n -> ∃ b off, a = some ⟨b, off, none⟩ /\ ∀ i, i < n -> w.cell? ⟨b, off + i, none⟩ = l[i]?)
def inB (v : aNF) (M : Nat -> Prop) : Prop := match v with | .slice (some a) (_ + 1) _ => M a.block | _ => False
theorem Sl.ext {w w' : aNE} {v : aNF} {l : List aNF} {M : Nat -> Prop} (h : Sl w v l) (hx : aW w w' M) (hM : ¬ inB v M) : Sl w' v l := by
 obtain ⟨a, n, c, rfl, hn, hc, h⟩ := h
 refine ⟨a, n, c, rfl, hn, hc, fun h0 => ?_⟩
 obtain ⟨b, off, rfl, h2⟩ := h h0
 refine ⟨b, off, rfl, fun i hi => ?_⟩
 have h1 := h2 i hi
 obtain ⟨v, hv⟩ : ∃ v, l[i]? = some v := ⟨l[i], by simp⟩
 rw [hv] at h1 ⊢
 refine ajE h1 hx ?_
 obtain ⟨m, rfl⟩ : ∃ m, n = m + 1 := ⟨n - 1, by omega⟩
 exact hM
theorem Sl.old {w : aNE} {v : aNF} {l : List aNF} (h : Sl w v l) : ¬ inB v (fun b => w.heap.size <= b) := by
 obtain ⟨a, n, c, rfl, hn, hc, h⟩ := h
 unfold inB
 split
 .rename_i x m _ e
  obtain ⟨rfl, rfl, rfl⟩ : a = some x /\ n = m + 1 /\ c = _ := by simpa using e
  obtain ⟨b, off, e, h2⟩ := h (by omega)
  have e := aLA e; subst e
  have h1 := h2 0 (by omega)
  obtain ⟨v, hv⟩ : ∃ v, l[0]? = some v := ⟨l[0], by simp⟩
  rw [hv] at h1
  have := World.block_lt_of_cell? _ _ h1
  simp at this ⊢; omega
 .simp
def sU (x : UInt8) : aNF := .int .u8 x.toNat
abbrev Bs (w : aNE) (v : aNF) (l : List UInt8) : Prop := Sl w v (l.map sU)
theorem NH (b o n : Nat) : (⟨b, o, none⟩ : Addr).add n = ⟨b, o + n, none⟩ := by
 unfold Addr.add; split
 .rename_i h; subst h; rfl
 .rfl
section
variable {P : Program} {w : aNE} {t e : TypeId} {k : IntKind} {a : Int}
theorem SC {inf : TypeInfo} {sz : Nat} (hz : inf.size = sz) (hu : P.underlying t = some (.slice e)) (hi : P.info? e = some inf) (b o n c : Nat) (h0 : 0 <= a) (h1 : a < n) :
 (cI t (.slice (some ⟨b, o, none⟩) n c) (.int k a)).run P w = .ok (.value (.pointer (some ⟨b, o + a.toNat * sz, none⟩))) w := by
 rw [aCg hu hi _ n c h0 h1, NH, hz]
theorem XV {inf : TypeInfo} (hz : inf.size = 1) (hu : P.underlying t = some (.slice e)) (hi : P.info? e = some inf) (b o n c : Nat) (h0 : 0 <= a) (h1 : a < n) :
 (cI t (.slice (some ⟨b, o, none⟩) n c) (.int k a)).run P w = .ok (.value (.pointer (some ⟨b, o + a.toNat, none⟩))) w := by
 rw [aCg hu hi _ n c h0 h1, NH, hz, aMy]
theorem aqS {inf : TypeInfo} {len : Nat} (hz : inf.size = 1) (hu : P.underlying t = some (.array len e)) (hi : P.info? e = some inf) (b o : Nat) (h0 : 0 <= a) (h1 : a < (len : Int)) :
 (cI t (.pointer (some ⟨b, o, none⟩)) (.int k a)).run P w = .ok (.value (.pointer (some ⟨b, o + a.toNat, none⟩))) w := by
 rw [aGW hu hi _ h0 h1, NH, hz, aMy]
end
def fZ (x : ByteArray) : List UInt8 := x.data.toList
theorem gM (x : ByteArray) : (fZ x).length = x.size := by unfold fZ; rw [aMm] <;> rfl
theorem QE (x : ByteArray) (i : Nat) (h : i < x.size) : x[i]'h = (fZ x)[i]'(by rw [gM]; exact h) := rfl
theorem Bz (x : ByteArray) (a b : Nat) : fZ (x.extract a b) = ((fZ x).drop a).take (b - a) := by
 unfold fZ; rw [ByteArray.data_extract, Array.toList_extract, List.extract_eq_take_drop]
theorem axA (x y : ByteArray) : fZ (x ++ y) = fZ x ++ fZ y := by
 unfold fZ; rw [ByteArray.data_append, Array.toList_append]
theorem acU (l : List UInt8) : fZ ⟨l.toArray⟩ = l := rfl
theorem XW {x y : ByteArray} (h : fZ x = fZ y) : x = y := by
 cases x; cases y; unfold fZ at h; congr; exact Array.toList_inj.1 h
section
variable {P : Program} {w : aNE} {s d e : TypeId}
theorem aGI (hs : P.underlying s = some (.slice e)) (hd : P.underlying d = some .string) (he : P.underlying e = some (.int .u8)) {l : List UInt8} {v : aNF} (h : Bs w v l) :
 (jG s d v).run P w = .ok (.value (.string ⟨l.toArray⟩)) w := by
 obtain ⟨a, n, c, rfl, hn, hc, h⟩ := h
 simp only [aLk] at hn
 unfold jG
 rw [uR]
 have key : (convert s d (.slice a n c)).run P w = .ok (.string ⟨l.toArray⟩) w := by
  cases a with
  | none =>
    have hl : l = [] := by
     cases l with
     | nil => rfl
     | cons x l => obtain ⟨b, off, e, _⟩ := h (by rw [hn]; simp); cases e
    subst hl
    rw [run_convert_bytes_string w s d e none n c hs he hd]
    rfl
  | some x =>
    subst hn
    refine run_convert_bytes_back w s d e x c l hs he hd fun j hj => ?_
    obtain ⟨b, off, hx, h2⟩ := h (by omega)
    have hx := aLA hx
    subst hx
    rw [NH, h2 j hj]
    simp [sU, hj]
 rw [key] <;> rfl
theorem aEw (hs : P.underlying s = some .string) (hd : P.underlying d = some (.slice e)) (he : P.underlying e = some (.int .u8)) {x : ByteArray} {K : aNF -> aNE -> Prop}
 (hk : ∀ w' c, Sl w' (.slice (some ⟨w.heap.size, 0, none⟩) x.size c) (x.data.toList.map sU) -> aW w w' eT -> w'.heap.size = w.heap.size + 1 →
  (∃ r, eM w' w.heap.size (x.data.toList.map sU ++ List.replicate r (Value.int .u8 0)) /\ c = x.size + r) -> K (.slice (some ⟨w.heap.size, 0, none⟩) x.size c) w') : aD P (jG s d (.string x)) w K := by
 have run := run_bytes_of_string (P := P) w s d e x hs hd he
 have hcap : x.size <= grownCap w x.size 0 e := Nat.le_add_right _ _
 generalize grownCap w x.size 0 e = c at run hcap
 obtain ⟨r, rfl⟩ : ∃ r, c = x.size + r := ⟨c - x.size, by omega⟩
 have hrow : bytesRow x (x.size + r) = (x.data.toList.map sU ++ List.replicate r (Value.int .u8 0)).toArray := by
  unfold bytesRow
  have : x.size + r - x.size = r := by omega
  rw [this]
  apply Array.ext'
  simp only [Array.toList_append, Array.toList_map, Array.toList_replicate]
  rfl
 rw [hrow] at run
 have hlen : (x.data.toList.map sU).length = x.size := by rw [aLk, aMm] <;> rfl
 have hsz : (x.data.toList.map sU ++ List.replicate r (Value.int .u8 0)).toArray.size = x.size + r := by
  rw [List.size_toArray, aLh, aLV, hlen]
 rw [hsz] at run
 unfold aD jG
 rw [uR, run]
 have ho : eM (w.drew.alloc (.cells (x.data.toList.map sU ++ List.replicate r (Value.int .u8 0)).toArray e (x.size + r, x.size + r + 1))) w.heap.size (x.data.toList.map sU ++ List.replicate r (Value.int .u8 0)) :=
  ⟨e, x.size + r, x.size + r + 1, Array.getElem?_push_size, .inl (by rw [aLh, aLV, hlen]; exact aLm _)⟩
 have hx : aW w (w.drew.alloc (.cells (x.data.toList.map sU ++ List.replicate r (Value.int .u8 0)).toArray e (x.size + r, x.size + r + 1))) eT := (aW.dr w eT).trans (aW.alloc _ _ eT) (fun _ _ h => h)
 refine hk _ _ ⟨_, _, _, rfl, hlen.symm, by omega, fun _ => ⟨_, _, rfl, fun i hi => ?_⟩⟩ hx (by show (w.heap.push _).size = _; rw [Array.size_push]) ⟨r, ho, rfl⟩
 rw [ho.cell]
 simp only [aLa]
 rw [aLy (by rw [hlen]; exact hi)]
end
theorem awD (l : List UInt8) : ∀ x ∈ l.map sU, one x = true := by
 intro x hx
 obtain ⟨c, _, rfl⟩ := aMl.1 hx
 rfl
theorem Sl.drop {w : aNE} {b o n c : Nat} {l : List aNF} (h : Sl w (.slice (some ⟨b, o, none⟩) n c) l) {k : Nat} (hk : k <= n) :
 Sl w (.slice (mW (some ⟨b, o, none⟩) c k 1) (n - k) (c - k)) (l.drop k) := by
 obtain ⟨x, m, c', e, hm, hc, hh⟩ := h
 cases e
 refine ⟨_, _, _, rfl, by rw [aLs]; omega, by omega, fun h0 => ?_⟩
 obtain ⟨b', o', e, h2⟩ := hh (by omega)
 cases e
 have hne : ¬ c = k := by omega
 refine ⟨b, o + k, by unfold mW; rw [if_neg hne, aLZ, NH, aMy], fun i hi => ?_⟩
 rw [aMH, h2 (k + i) (by omega), aMN]
theorem Sl.take {w : aNE} {b o n c : Nat} {l : List aNF} (h : Sl w (.slice (some ⟨b, o, none⟩) n c) l) {k : Nat} (hk : k <= n) :
 Sl w (.slice (mW (some ⟨b, o, none⟩) c 0 1) (k - 0) (c - 0)) (l.take k) := by
 obtain ⟨x, m, c', e, hm, hc, hh⟩ := h
 cases e
 refine ⟨_, _, _, rfl, by rw [aLn]; omega, by omega, fun h0 => ?_⟩
 obtain ⟨b', o', e, h2⟩ := hh (by omega)
 cases e
 have hne : ¬ c = 0 := by omega
 refine ⟨b, o, by unfold mW; rw [if_neg hne, aLZ, NH] <;> rfl, fun i hi => ?_⟩
 rw [h2 i (by omega), aLY (by omega)]
theorem eM.bs {w : aNE} {b off c : Nat} {cs : List aNF} {l : List UInt8} (h : eM w b cs) (hc : l.length <= c) (hl : ∀ i (hi : i < l.length), cs[off + i]? = some (sU l[i])) : Bs w (.slice (some ⟨b, off, none⟩) l.length c) l :=
 ⟨_, _, _, rfl, by simp, hc, fun _ => ⟨b, off, rfl, fun i hi => by rw [h.cell, hl i hi]; simp [hi]⟩⟩
section
variable {P : Program} {w : aNE} {t e : TypeId} {k : IntKind} {a : Int}
theorem aJZ {len : Nat} {d : TypeDesc} {i : TypeInfo} (hu : P.underlying t = some (.array len e)) (hd : P.underlying e = some d) (ha : aDd d = false) (hi : P.info? e = some i) (h1 : i.size = 1)
 (cs : Array aNF) (h0 : 0 <= a) (hl : a < (len : Int)) {v : aNF} (hv : cs[a.toNat]? = some v) : (DX t (.agg cs) (.int k a)).run P w = .ok (.value v) w := by
 unfold DX
 rw [uR]
 simp only [Instr.index, asIntOf, pure_bind, underlying, hu, Sem.run_bind, run_program, Result.andThen_ok, Sem.run_pure, h0, hl, and_self, if_true, kZ hi, h1, aMy, part, S9 hd, ha, aLb, if_false, hv]
def aKi (P : Program) (t : TypeId) (cs : Array aNF) (k : IntKind) (a : Int) (w : aNE) : Result Next := (DX t (.agg cs) (.int k a)).run P w
theorem aJk {len : Nat} {d : TypeDesc} {i : TypeInfo} (hu : P.underlying t = some (.array len e)) (hd : P.underlying e = some d) (ha : aDd d = false) (hi : P.info? e = some i) (h1 : i.size = 1)
 (cs : Array aNF) (h0 : 0 <= a) (hl : a < (len : Int)) : (DX t (.agg cs) (.int k a)).run P w = ldC cs[a.toNat]? w (aKi P t cs k a w) := by
 cases hv : cs[a.toNat]? with
 | none => rfl
 | some v => exact aJZ hu hd ha hi h1 cs h0 hl hv
theorem ajJ {b off : Nat} {l : List aNF} (h : ∀ i, i < l.length -> w.cell? ⟨b, off + i, none⟩ = l[i]?) (n : Nat) (hn : n <= l.length) :
 (loadCells ⟨b, off, none⟩ n).run P w = .ok (l.take n).toArray w := by
 have key : ∀ (m i : Nat) (acc : Array aNF), i + m <= l.length -> (loadCellsFrom ⟨b, off, none⟩ i m acc).run P w = .ok (acc ++ ((l.drop i).take m).toArray) w := by
  intro m
  induction m with
  | zero => intro i acc _; simp [loadCellsFrom]
  | succ m ih =>
    intro i acc hm
    have hc := h i (by omega)
    rw [aLg (by omega)] at hc
    simp only [loadCellsFrom, Sem.run_bind, run_load, NH, hc, Result.andThen_ok]
    rw [ih (i + 1) _ (by omega), aLK (by omega : i < l.length), aLe]
    simp
 unfold loadCells
 rw [key n 0 #[] (by omega)]
 simp
theorem azZ {sz n : Nat} {v : aNF} {l : List aNF} (h1 : sz = 1) (h : Sl w v l) (hn : n <= l.length) : (Builtin.firstCells sz n v).run P w = .ok (l.take n).toArray w := by
 subst h1
 obtain ⟨x, m, c, rfl, hm, hc, hh⟩ := h
 cases x with
 | none =>
   have : l = [] := by
    cases l with
    | nil => rfl
    | cons y l => obtain ⟨b, off, e, _⟩ := hh (by rw [hm]; simp); cases e
   subst this
   simp [Builtin.firstCells]
 | some x =>
   simp only [Builtin.firstCells, aMy]
   by_cases h0 : 0 < m
   .obtain ⟨b, off, e, h2⟩ := hh h0
    have e := aLA e; subst e
    exact ajJ (fun i hi => h2 i (by omega)) n hn
   .have h00 : n = 0 := by omega
    subst h00
    simp [loadCells, loadCellsFrom]
theorem aJi {v : aNF} {l : List aNF} (h : Sl w v l) : (Builtin.lenOf v).run P w = .ok l.length w := by
 obtain ⟨x, m, c, rfl, hm, hc, hh⟩ := h
 simp [Builtin.lenOf, hm]
theorem aHh {ty t2 : TypeId} {i : TypeInfo} (hu : P.underlying t = some (.slice e)) (hi : P.info? e = some i) (h1 : i.size = 1) {b off dl c : Nat} {cs : List aNF} (ho : eM w b cs) (hl : off + dl <= cs.length)
 {v : aNF} {l : List aNF} (h : Sl w v l) (hv : ∀ x ∈ l, one x = true) {K : aNF -> aNE -> Prop}
 (hk : ∀ w', eM w' b (bM cs off (l.take (min l.length dl))) -> aW w w' (fun x => x = b) -> w'.heap.size = w.heap.size -> K (.int .i64 (min l.length dl : Nat)) w') :
 aD P (lG .copy #[t, t2] ty [.slice (some ⟨b, off, none⟩) dl c, v]) w K := by
 have hlen : (l.take (min l.length dl)).length = min l.length dl := by rw [aLn]; omega
 obtain ⟨w', s1, s2, s3, s4, _⟩ := GH (P := P) (M := fun x => x = b) rfl (l.take (min l.length dl)) w off 0 cs ho (by rw [hlen]; omega) (fun x hx => hv x (aMq hx))
 have : (lG .copy #[t, t2] ty [.slice (some ⟨b, off, none⟩) dl c, v]).run P w = .ok (.value (.int .i64 (min l.length dl : Nat))) w' := by
  unfold lG builtin
  simp only [Builtin.copy_, aMj, aK7, aK8]
  simp only [underlying, Sem.run_bind, run_program, Result.andThen_ok, hu, Sem.run_pure, aJi h, kZ hi, h1]
  have := azZ (P := P) (n := min l.length dl) rfl h (Nat.min_le_left _ _)
  rw [show (Nat.min l.length dl) = min l.length dl from rfl, this]
  simp only [Result.andThen_ok, s1, goInt]
 unfold aD
 rw [this]
 exact hk w' (by simpa using s2) s3 s4
theorem aDu {i : TypeInfo} {z : aNF} (hu : P.underlying t = some (.slice e)) (hi : P.info? e = some i) (h1 : i.size = 1) (hz : i.zero = some z) (hz1 : one z = true) {n : Int} (h0 : 0 <= n) (hn : i.bytes * n <= 2 ^ 48) (hn2 : n <= 9223372036854775807)
 {K : aNF -> aNE -> Prop}
 (hk : ∀ w', eM w' w.heap.size (List.replicate n.toNat z) -> aW w w' eT -> w'.heap.size = w.heap.size + 1 -> K (.slice (some ⟨w.heap.size, 0, none⟩) n.toNat n.toNat) w') :
 aD P (qC t (.int k n) (.int k n)) w K := by
 have hw : IntKind.i64.wrap n = n := aP (by omega) hn2
 have hcells : z.cells = #[z] := anU hz1
 have harr : (Array.range n.toNat).map (fun j => (#[z] : Array aNF)[j % (#[z] : Array aNF).size]!) = (List.replicate n.toNat z).toArray := by
  apply Array.ext
  .simp
  .intro j h1 h2; simp [Nat.mod_one]
 have hz' : (zeroValue e).run P w = .ok z w := by simp [zeroValue, typeInfo, hi, hz]
 have : (qC t (.int k n) (.int k n)).run P w = .ok (.value (.slice (some ⟨w.heap.size, 0, none⟩) n.toNat n.toNat)) (w.alloc (.cells (List.replicate n.toNat z).toArray e)) := by
  unfold qC
  rw [uR]
  have t1 : (decide (n < 0) || decide ((i.bytes : Int) * n > 2 ^ 48) || decide (n < 0) || decide (n > n)) = false := by
   simp only [aM1, decide_eq_false_iff_not]; omega
  by_cases hn0 : n.toNat = 0
  .simp only [Instr.makeSlice, underlying, typeInfo, asInt, asIntOf, pure_bind, Sem.run_bind, run_program, Result.andThen_ok, hu, hi, Sem.run_pure, hw, t1, aLb, if_false, run_askRoom, kZ hi, h1, aMy, hn0, if_true, newRow, run_newObj]
   have : (Array.range 0).map (fun x => (#[] : Array aNF)[x % (#[] : Array aNF).size]!) = (List.replicate 0 z).toArray := by simp
   rw [this]
   rfl
  .simp only [Instr.makeSlice, underlying, typeInfo, asInt, asIntOf, pure_bind, Sem.run_bind, run_program, Result.andThen_ok, hu, hi, Sem.run_pure, hw, t1, aLb, if_false, run_askRoom, kZ hi, h1, aMy, hn0, hz', hcells, newRow, run_newObj, harr]
   rfl
 unfold aD
 rw [this]
 exact hk _ (eM.alloc _ _ _) (aW.alloc _ _ _) (by simp)
end
def Cl (w : aNE) (sz : Nat) (v : aNF) (n : Nat) (l : List aNF) : Prop :=
 ∃ a c, v = .slice a n c /\ l.length = n * sz /\ (0 < n -> ∃ b off, a = some ⟨b, off, none⟩ /\ ∀ i, i < l.length -> w.cell? ⟨b, off + i, none⟩ = l[i]?)
def sV (w : aNE) (base sz : Nat) (v : aNF) (n : Nat) (l : List aNF) : Prop :=
 l.length = n * sz /\ ((v = .slice none 0 0 /\ n = 0) ∨
   ∃ b c rest, v = .slice (some ⟨b, 0, none⟩) n c /\ base <= b /\ eM w b (l ++ rest) /\ (l ++ rest).length = c * sz /\ n <= c)
def OSS (w : aNE) (S : Nat -> Prop) (sz : Nat) (v : aNF) (n : Nat) (l : List aNF) : Prop :=
 l.length = n * sz /\ ((v = .slice none 0 0 /\ n = 0) ∨
   ∃ b c rest, v = .slice (some ⟨b, 0, none⟩) n c /\ S b /\ eM w b (l ++ rest) /\ (l ++ rest).length = c * sz /\ n <= c)
theorem Sl.cl {w : aNE} {v : aNF} {l : List aNF} (h : Sl w v l) : Cl w 1 v l.length l := by
 obtain ⟨a, n, c, rfl, rfl, hc, h⟩ := h
 exact ⟨a, c, rfl, by omega, fun h0 => h h0⟩
theorem eM.cl {w : aNE} {b sz n c off : Nat} {cs l : List aNF} (h : eM w b cs) (hl : l.length = n * sz) (hcs : ∀ i, i < l.length -> cs[off + i]? = l[i]?) : Cl w sz (.slice (some ⟨b, off, none⟩) n c) n l :=
 ⟨_, _, rfl, hl, fun _ => ⟨b, off, rfl, fun i hi => by rw [h.cell, hcs i hi]⟩⟩
theorem sV.nil (w : aNE) (base sz : Nat) : sV w base sz (.slice none 0 0) 0 [] := ⟨by simp, .inl ⟨rfl, rfl⟩⟩
theorem sV.ext {w w' : aNE} {base sz n : Nat} {v : aNF} {l : List aNF} {M : Nat -> Prop} (h : sV w base sz v n l) (hx : aW w w' M) (hM : ∀ b, base <= b -> ¬ M b) : sV w' base sz v n l := by
 refine ⟨h.1, ?_⟩
 rcases h.2 with h2 | ⟨b, c, rest, h1, h2, h3, h4, h5⟩
 .exact .inl h2
 .exact .inr ⟨b, c, rest, h1, h2, h3.ext hx (hM b h2), h4, h5⟩
theorem sV.cl {w : aNE} {base sz n : Nat} {v : aNF} {l : List aNF} (h : sV w base sz v n l) : Cl w sz v n l := by
 rcases h.2 with ⟨rfl, rfl⟩ | ⟨b, c, rest, rfl, h2, h3, h4, h5⟩
 .exact ⟨_, _, rfl, h.1, fun h => by omega⟩
 .refine ⟨_, _, rfl, h.1, fun _ => ⟨b, 0, rfl, fun i hi => ?_⟩⟩
  rw [h3.cell, aLa, aLy hi]
theorem sV.sl {w : aNE} {base n : Nat} {v : aNF} {l : List aNF} (h : sV w base 1 v n l) : Sl w v l := by
 have hl := h.1
 rcases h.2 with ⟨rfl, rfl⟩ | ⟨b, c, rest, rfl, h2, h3, h4, h5⟩
 .exact ⟨_, _, _, rfl, by omega, by omega, fun h => by omega⟩
 .refine ⟨_, _, _, rfl, by omega, h5, fun _ => ⟨b, 0, rfl, fun i hi => ?_⟩⟩
  rw [h3.cell, aLa, aLy (by omega)]
section
variable {P : Program} {w : aNE} {t e : TypeId}
theorem aBM {b off : Nat} {l : List aNF} (h : ∀ i, i < l.length -> w.cell? ⟨b, off + i, none⟩ = l[i]?) : (loadCells ⟨b, off, none⟩ l.length).run P w = .ok l.toArray w := by
 have := ajJ (P := P) h l.length (aLm _)
 rwa [aMU] at this
theorem CL {sz n : Nat} {v : aNF} {l : List aNF} (h : Cl w sz v n l) : (Builtin.firstCells sz n v).run P w = .ok l.toArray w := by
 obtain ⟨x, c, rfl, hl, hh⟩ := h
 cases x with
 | none =>
   have : n = 0 := by
    rcases aMv n with h | h
    .exact h
    .obtain ⟨b, off, e, _⟩ := hh h; cases e
   subst this
   have : l = [] := aLI.1 (by omega)
   subst this
   simp [Builtin.firstCells]
 | some x =>
   simp only [Builtin.firstCells]
   rw [<- hl]
   by_cases h0 : 0 < n
   .obtain ⟨b, off, e, h2⟩ := hh h0
    have e := aLA e; subst e
    exact aBM h2
   .have : n = 0 := by omega
    subst this
    have : l = [] := aLI.1 (by omega)
    subst this
    simp [loadCells, loadCellsFrom]
theorem uS (zs : Array aNF) (n : Nat) : (Builtin.zeroCells zs n).size = n * zs.size := by simp [Builtin.zeroCells]
theorem Zs (vs : List aNF) : ∀ (aK6 rest : List aNF), vs.length <= rest.length -> bM (aK6 ++ rest) aK6.length vs = aK6 ++ vs ++ rest.drop vs.length := by
 induction vs with
 | nil => intro aK6 rest _; simp [bM]
 | cons v vs ih =>
   intro aK6 rest h
   cases rest with
   | nil => simp at h
   | cons r rest =>
     have := ih (aK6 ++ [v]) rest (by simpa using h)
     simp only [bM, aLh, aLw, List.length_nil, aLF, aMh, aMu] at this ⊢
     rw [aMs, <- this, aMO _ _ (aLm _), aMR, aLd, aLa]
theorem zA {S : Nat -> Prop} {sz n m : Nat} {i : TypeInfo} {z : aNF} {ty t2 e2 : TypeId} (hu : P.underlying t = some (.slice e)) (hu2 : P.underlying t2 = some (.slice e2)) (hi : P.info? e = some i) (hsz : i.size = sz) (hz : i.zero = some z) (hzs : z.cells.size = sz)
 {v x : aNF} {l news : List aNF} (h : OSS w S sz v n l) (hx : Cl w sz x m news) (hone : ∀ y ∈ news, one y = true) (hb : ∀ b, w.heap.size <= b -> S b)
 (hn : n + m <= 9223372036854775807) (hbytes : (n + m) * i.bytes <= 140737488355328) (_hpos : i.bytes ≠ 0)
 {K : aNF -> aNE -> Prop} (hk : ∀ v' w', OSS w' S sz v' (n + m) (l ++ news) -> aW w w' S -> K v' w') : aD P (lG .append #[t, t2] ty [v, x]) w K := by
 have hlx : (Builtin.lenOf x).run P w = .ok m w := by
  obtain ⟨a, c, rfl, _⟩ := hx; simp [Builtin.lenOf]
 have hnl := hx.choose_spec.choose_spec.2.1
 have hfx := CL (P := P) hx
 have hmax : IntKind.i64.max = 9223372036854775807 := by decide
 have hnot : ¬ (((n + m : Nat) : Int) > IntKind.i64.max /\ (False ∨ i.bytes = 0)) := by rw [hmax]; omega
 have hz' : ∀ w, (zeroValue e).run P w = .ok z w := fun w => by simp [zeroValue, typeInfo, hi, hz]
 have hlen := h.1
 rcases h.2 with ⟨rfl, rfl⟩ | ⟨b, c, rest, rfl, h2, h3, h4, h5⟩
 .
  have hl0 : l = [] := aLI.1 (by omega)
  subst hl0
  by_cases hm : m = 0
  .subst hm
   have hn0 : news = [] := aLI.1 (by omega)
   subst hn0
   have : (lG .append #[t, t2] ty [.slice none 0 0, x]).run P w = .ok (.value (.slice none 0 0)) w := by
    unfold lG builtin
    simp only [Builtin.append_, aMj, aK7, aK8]
    simp only [underlying, Sem.run_bind, run_program, Result.andThen_ok, hu, hu2, Sem.run_pure, kZ hi, hsz, aLb, if_false, hlx, aLm, aMi, if_true, aLE, hfx]
   unfold aD
   rw [this]
   exact hk _ _ ⟨by simp, .inl ⟨rfl, by omega⟩⟩ (aW.refl _ _)
  .have hfit := growslice_fits (need := 0 + m) (old := 0) (bytes := i.bytes) (by omega) (by omega)
   have hfit' : ¬ (Builtin.nextslicecap (0 + m) 0 * i.bytes > 2 ^ 48) := by omega
   have hle : ¬ (0 + m <= 0) := by omega
   have hq : (Question.appendCap (0 + m) 0 e).forced = false := rfl
   obtain ⟨r, hr⟩ : ∃ r, (Question.appendCap (0 + m) 0 e).cut (w.tape w.drawn (.appendCap (0 + m) 0 e)) = m + r :=
    ⟨(w.tape w.drawn (.appendCap (0 + m) 0 e)) % (2 ^ 63 - (0 + m)), by simp only [Question.cut]; omega⟩
   have : (lG .append #[t, t2] ty [.slice none 0 0, x]).run P w = .ok (.value (.slice (some ⟨w.heap.size, 0, none⟩) (0 + m) (m + r))) ((dr w).alloc (.cells (news ++ (Builtin.zeroCells z.cells (m + r - (0 + m))).toList).toArray e)) := by
    have hfx' := CL (P := P) (w := dr w) hx
    unfold lG builtin
    simp only [Builtin.append_, aMj, aK7, aK8]
    simp only [underlying, typeInfo, Sem.run_bind, run_program, Result.andThen_ok, hu, hu2, hi, Sem.run_pure, kZ hi, hsz, aLb, if_false, hlx, hle, aLE, if_true, hnot, hfit', run_choose, hq, hr, run_askRoom]
    change ((Sem.run P _ (dr w)).andThen _).andThen _ = _
    simp only [Sem.run_bind, hfx', run_firstCells_none, Result.andThen_ok, hz', Sem.run_pure, newRow, run_newObj]
    have e1 : (#[] ++ news.toArray ++ Builtin.zeroCells z.cells (m + r - (0 + m)) : Array aNF) = (news ++ (Builtin.zeroCells z.cells (m + r - (0 + m))).toList).toArray := by
     apply Array.ext'; simp
    rw [e1]
    rfl
   unfold aD
   rw [this]
   refine hk _ _ ⟨by simp only [aMu]; rw [hnl, aLa], .inr ⟨w.heap.size, m + r, (Builtin.zeroCells z.cells (m + r - (0 + m))).toList, by rw [aLa], hb _ (aLm _), eM.alloc (dr w) _ _, ?_, by omega⟩⟩ ((aW.dr w _).seq (aW.alloc _ _ _))
   simp only [aMu, aLh, aMm, uS, hzs, hnl]
   rw [show m + r - (0 + m) = r from by omega, aL0]
 .by_cases hc : n + m <= c
  .
   have hroom : news.length <= rest.length := by
    rw [aLh, hlen] at h4
    have : (n + m) * sz <= c * sz := aLG _ hc
    rw [aL0] at this; omega
   obtain ⟨w', s1, s2, s3, s4, _⟩ := GH (P := P) (M := S) h2 news w (n * sz) 0 (l ++ rest) h3 (by rw [aLh, hlen]; omega) hone
   have : (lG .append #[t, t2] ty [.slice (some ⟨b, 0, none⟩) n c, x]).run P w = .ok (.value (.slice (some ⟨b, 0, none⟩) (n + m) c)) w' := by
    unfold lG builtin
    simp only [Builtin.append_, aMj, aK7, aK8]
    simp only [underlying, Sem.run_bind, run_program, Result.andThen_ok, hu, hu2, Sem.run_pure, kZ hi, hsz, aLb, if_false, hlx, hc, if_true, aLE, hfx, NH, aLa, s1]
   unfold aD
   rw [this]
   rw [aMi, <- hlen, Zs _ _ _ hroom] at s2
   refine hk _ _ ⟨by rw [aLh, hlen, hnl, aL0], .inr ⟨b, c, rest.drop news.length, rfl, h2, s2, ?_, hc⟩⟩ s3
   rw [<- h4]; simp; omega
  .
   have hfit := growslice_fits (need := n + m) (old := c) (bytes := i.bytes) (by omega) hbytes
   have hfit' : ¬ (Builtin.nextslicecap (n + m) c * i.bytes > 2 ^ 48) := by omega
   have hq : (Question.appendCap (n + m) c e).forced = false := rfl
   obtain ⟨r, hr⟩ : ∃ r, (Question.appendCap (n + m) c e).cut (w.tape w.drawn (.appendCap (n + m) c e)) = n + m + r :=
    ⟨(w.tape w.drawn (.appendCap (n + m) c e)) % (2 ^ 63 - (n + m)), by simp only [Question.cut]⟩
   have hold : Cl (dr w) sz (.slice (some ⟨b, 0, none⟩) n c) n l := ⟨_, _, rfl, hlen, fun _ => ⟨b, 0, rfl, fun i hi => by
    show w.cell? _ = _
    rw [h3.cell, aLa, aLy hi]⟩⟩
   have : (lG .append #[t, t2] ty [.slice (some ⟨b, 0, none⟩) n c, x]).run P w = .ok (.value (.slice (some ⟨w.heap.size, 0, none⟩) (n + m) (n + m + r))) ((dr w).alloc (.cells (l ++ news ++ (Builtin.zeroCells z.cells (n + m + r - (n + m))).toList).toArray e)) := by
    have hfx' := CL (P := P) (w := dr w) hx
    have hfo := CL (P := P) hold
    unfold lG builtin
    simp only [Builtin.append_, aMj, aK7, aK8]
    simp only [underlying, typeInfo, Sem.run_bind, run_program, Result.andThen_ok, hu, hu2, hi, Sem.run_pure, kZ hi, hsz, aLb, if_false, hlx, hc, aLE, if_true, hnot, hfit', run_choose, hq, hr, run_askRoom]
    change ((Sem.run P _ (dr w)).andThen _).andThen _ = _
    simp only [Sem.run_bind, hfx', hfo, Result.andThen_ok, hz', Sem.run_pure, newRow, run_newObj]
    have e1 : (l.toArray ++ news.toArray ++ Builtin.zeroCells z.cells (n + m + r - (n + m)) : Array aNF) = (l ++ news ++ (Builtin.zeroCells z.cells (n + m + r - (n + m))).toList).toArray := by
     apply Array.ext'; simp
    rw [e1]
    rfl
   unfold aD
   rw [this]
   refine hk _ _ ⟨by rw [aLh, hlen, hnl, aL0], .inr ⟨w.heap.size, n + m + r, _, rfl, hb _ (aLm _), eM.alloc (dr w) _ _, ?_, by omega⟩⟩ ((aW.dr w _).seq (aW.alloc _ _ _))
   simp only [aLh, aMm, uS, hzs, hnl, hlen]
   rw [show n + m + r - (n + m) = r from by omega, aL0, aL0]
theorem MZ {base sz n m : Nat} {i : TypeInfo} {z : aNF} {ty t2 e2 : TypeId} (hu : P.underlying t = some (.slice e)) (hu2 : P.underlying t2 = some (.slice e2)) (hi : P.info? e = some i) (hsz : i.size = sz) (hz : i.zero = some z) (hzs : z.cells.size = sz)
 {v x : aNF} {l news : List aNF} (h : sV w base sz v n l) (hx : Cl w sz x m news) (hone : ∀ y ∈ news, one y = true) (hb : base <= w.heap.size)
 (hn : n + m <= 9223372036854775807) (hbytes : (n + m) * i.bytes <= 140737488355328) (_hpos : i.bytes ≠ 0)
 {K : aNF -> aNE -> Prop} (hk : ∀ v' w', sV w' base sz v' (n + m) (l ++ news) -> aW w w' (fun y => base <= y) -> K v' w') : aD P (lG .append #[t, t2] ty [v, x]) w K :=
 zA (S := fun y => base <= y) hu hu2 hi hsz hz hzs h hx hone (fun _ h => aMf hb h) hn hbytes _hpos hk
end
section
variable {P : Program} {w : aNE} {t e : TypeId}
theorem Il {i : TypeInfo} {z : aNF} {n : Nat} {ps : List (Nat × aNF)} {cells : Array aNF} (hu : P.underlying t = some (.slice e)) (hi : P.info? e = some i) (hz : i.zero = some z)
 (h1 : ¬ n * i.size > 2 ^ 24) (h0 : ¬ n * i.size = 0) (hf : Instr.fill (fun j => some (j * i.size, i.size)) ((Array.range (n * i.size)).map (z.cells[· % z.cells.size]!)) ps = some cells)
 {K : aNF -> aNE -> Prop} (hk : ∀ w', eM w' w.heap.size cells.toList -> aW w w' eT -> w'.heap.size = w.heap.size + 1 -> K (.slice (some ⟨w.heap.size, 0, none⟩) n n) w') :
 aD P (cV t n ps) w K := by
 have hz' : (zeroValue e).run P w = .ok z w := by simp [zeroValue, typeInfo, hi, hz]
 have : (cV t n ps).run P w = .ok (.value (.slice (some ⟨w.heap.size, 0, none⟩) n n)) (w.alloc (.cells cells.toList.toArray e)) := by
  unfold cV; rw [uR]
  simp only [Instr.buildSlice, underlying, pure_bind, Sem.run_bind, run_program, Result.andThen_ok, hu, Sem.run_pure, kZ hi, h1, h0, if_false, hz', hf, newRow, run_newObj]
  rfl
 unfold aD
 rw [this]
 exact hk _ (eM.alloc _ _ _) (aW.alloc _ _ _) (by simp)
theorem eM.mark {b : Nat} {cs : List aNF} (h : eM w b cs) : eM (w.freeze ⟨b, cs.length, none⟩ 1) b cs := by
 have hb := h.lt
 obtain ⟨T, lo, hi, h, k⟩ := h
 by_cases hlh : (lo == hi) = true
 .refine ⟨T, cs.length, cs.length + 1, ?_, .inl (aLm _)⟩
  show (w.heap.modify b _)[b]? = _
  rw [aNf, if_pos rfl, h]
  have hlh : lo = hi := by simpa using hlh
  simp [hlh]
 .refine ⟨T, min lo cs.length, max hi (cs.length + 1), ?_, .inl ?_⟩
  .show (w.heap.modify b _)[b]? = _
   rw [aNf, if_pos rfl, h]
   have hlh : ¬ lo = hi := by simpa using hlh
   simp [hlh]
  .rcases k with k | k
   .omega
   .exfalso; apply hlh; rw [k]; simp
theorem aW.mark (w : aNE) (a : Addr) : aW w (w.freeze a 1) (fun y => y = a.block) :=
 ⟨rfl, rfl, rfl, by show _ <= (w.heap.modify _ _).size; simp, fun b hb hn => by
  show (w.heap.modify a.block _)[b]? = _
  rw [aNf]
  rw [if_neg (fun h => hn h.symm)]⟩
end
section
variable {P : Program} {w : aNE} {t e : TypeId}
def Grown (es : Array MapEntry) (clock : Nat) : Prop := (es.toList.map (·.born)).Pairwise (· < ·) /\ ∀ e ∈ es.toList, e.born < clock
def Mp {κ : Type} (w : aNE) (m : Nat) (enc : κ -> aNF) (l : List (κ × aNF)) : Prop :=
 ∃ es clock, w.heap[m]? = some (.map es clock) /\ es.toList.map (fun e => (e.key, e.val)) = l.map (fun p => (enc p.1, p.2)) /\ Grown es clock /\ (l.map (·.1)).Nodup
theorem Mp.lt {κ : Type} {m : Nat} {enc : κ -> aNF} {l : List (κ × aNF)} (h : Mp w m enc l) : m < w.heap.size := by
 obtain ⟨es, c, h, _⟩ := h
 rcases aLv m w.heap.size with h' | h'
 .exact h'
 .rw [aME h'] at h; cases h
theorem Mp.ext {κ : Type} {w w' : aNE} {m : Nat} {enc : κ -> aNF} {l : List (κ × aNF)} {M : Nat -> Prop} (h : Mp w m enc l) (hx : aW w w' M) (hM : ¬ M m) : Mp w' m enc l := by
 have := h.lt
 obtain ⟨es, c, h, k⟩ := h
 exact ⟨es, c, by rw [hx.keep m this hM]; exact h, k⟩
theorem Mp.dr {κ : Type} {w : aNE} {m : Nat} {enc : κ -> aNF} {l : List (κ × aNF)} (h : Mp w m enc l) : Mp (dr w) m enc l := h
variable {κ : Type} [DecidableEq κ] {enc : κ -> aNF}
end
theorem kA {w : aNE} {b : Nat} {cs : List aNF} (h : eM w b cs) : eM (dr w) b cs := h.ext (aW.dr w eT) (fun h => h)
theorem Sl.dr {w : aNE} {v : aNF} {l : List aNF} (h : Sl w v l) : Sl (dr w) v l := h
theorem Sl.open {w : aNE} {v : aNF} {l : List UInt8} (h : Bs w v l) (h0 : 0 < l.length) : ∃ b off c, v = .slice (some ⟨b, off, none⟩) l.length c /\ l.length <= c /\ ∀ i, (h : i < l.length) -> w.cell? ⟨b, off + i, none⟩ = some (sU l[i]) := by
 obtain ⟨a, n, c, rfl, hn, hc, h⟩ := h
 simp only [aLk] at hn
 subst hn
 obtain ⟨b, off, rfl, hh⟩ := h h0
 exact ⟨b, off, c, rfl, hc, fun i hi => by rw [hh i hi]; simp [hi]⟩
theorem Sl.len {w : aNE} {v : aNF} {l : List aNF} (h : Sl w v l) : ∃ a c, v = .slice a l.length c /\ l.length <= c := by
 obtain ⟨a, n, c, rfl, rfl, hc, _⟩ := h
 exact ⟨a, c, rfl, hc⟩
theorem bZ (v : aNF) : ¬ inB v eT := by unfold inB eT; split <;> simp
theorem axC {b o m l : Nat} (h : l ≠ m) : mW (some ⟨b, o, none⟩) m l 1 = some ⟨b, o + l, none⟩ := by
 unfold mW; rw [if_neg (fun e => h e.symm)]; simp [NH]
theorem akG {v : aNF} {M N : Nat -> Prop} (h : inB v M) (hm : ∀ b, M b -> N b) : inB v N := by
 unfold inB at *
 split at h
 .exact hm _ h
 .exact h
theorem sV.len {w : aNE} {b sz n : Nat} {v : aNF} {l : List aNF} (h : sV w b sz v n l) : ∃ a c, v = .slice a n c := by
 rcases h.2 with ⟨rfl, rfl⟩ | ⟨x, c, r, rfl, _⟩
 .exact ⟨_, _, rfl⟩
 .exact ⟨_, _, rfl⟩
theorem sV.lower {w : aNE} {a b sz n : Nat} {v : aNF} {l : List aNF} (h : sV w b sz v n l) (hab : a <= b) : sV w a sz v n l := by
 refine ⟨h.1, ?_⟩
 rcases h.2 with h | ⟨x, c, r, h1, h2, h3⟩
 .exact .inl h
 .exact .inr ⟨x, c, r, h1, by omega, h3⟩
theorem Sl.nil (w : aNE) : Sl w (.slice none 0 0) [] := ⟨none, 0, 0, rfl, rfl, aLm _, fun h => absurd h (by simp)⟩
theorem Sl.take' {w : aNE} {a : Option Addr} {n c : Nat} {l : List aNF} (h : Sl w (.slice a n c) l) {k : Nat} (hk : k <= n) : Sl w (.slice (mW a c 0 1) (k - 0) (c - 0)) (l.take k) := by
 have h' := h
 obtain ⟨a', n', c', e, hn, hc, hh⟩ := h'
 cases e
 by_cases h0 : k = 0
 .subst h0
  exact ⟨_, _, _, rfl, by simp, by omega, fun h => by simp at h⟩
 .obtain ⟨b, off, rfl, _⟩ := hh (by omega)
  exact h.take hk
theorem Sl.drop' {w : aNE} {a : Option Addr} {n c : Nat} {l : List aNF} (h : Sl w (.slice a n c) l) {k : Nat} (hk : k <= n) : Sl w (.slice (mW a c k 1) (n - k) (c - k)) (l.drop k) := by
 have h' := h
 obtain ⟨a', n', c', e, hn, hc, hh⟩ := h'
 cases e
 by_cases h0 : n = 0
 .exact ⟨_, _, _, rfl, by rw [aLs]; omega, by omega, fun h => by omega⟩
 .obtain ⟨b, off, rfl, _⟩ := hh (by omega)
  exact h.drop hk
theorem Sl.mid {w : aNE} {a : Option Addr} {n c : Nat} {l : List aNF} (h : Sl w (.slice a n c) l) {i j : Nat} (hij : i <= j) (hj : j <= n) : Sl w (.slice (mW a c i 1) (j - i) (c - i)) ((l.drop i).take (j - i)) := by
 have h' := h
 obtain ⟨a', n', c', e, hn, hc, hh⟩ := h'
 cases e
 by_cases h0 : j - i = 0
 .rw [h0]
  exact ⟨_, _, _, rfl, by simp, by omega, fun h => by omega⟩
 .obtain ⟨b, off, rfl, _⟩ := hh (by omega)
  have hd := h.drop (k := i) (by omega)
  obtain ⟨a', n', c', e, hn', hc', hh'⟩ := hd
  obtain ⟨b', off', e', h2⟩ := hh' (by have := (Value.slice.inj e).2.1; omega)
  injection e with e1 e2 e3
  subst e3
  refine ⟨_, _, _, rfl, by rw [aLn, aLs]; omega, by omega, fun _ => ⟨b', off', by rw [e1]; exact e', fun x hx => ?_⟩⟩
  rw [h2 x (by omega), aLY hx]
theorem Sl.openV {w : aNE} {v : aNF} {l : List aNF} (h : Sl w v l) (h0 : 0 < l.length) : ∃ b off c, v = .slice (some ⟨b, off, none⟩) l.length c /\ l.length <= c /\ ∀ i, (h : i < l.length) -> w.cell? ⟨b, off + i, none⟩ = some l[i] := by
 obtain ⟨a, n, c, rfl, hn, hc, h⟩ := h
 subst hn
 obtain ⟨b, off, rfl, hh⟩ := h h0
 exact ⟨b, off, c, rfl, hc, fun i hi => by rw [hh i hi]; simp [hi]⟩
theorem Sl.openI {w : aNE} {v : aNF} {k : IntKind} {l : List Int} (h : Sl w v (l.map (Value.int k))) (h0 : 0 < l.length) : ∃ b off c, v = .slice (some ⟨b, off, none⟩) l.length c /\ l.length <= c /\ ∀ i, (h : i < l.length) -> w.cell? ⟨b, off + i, none⟩ = some (.int k l[i]) := by
 obtain ⟨b, off, c, e, hc, hh⟩ := h.openV (by simpa using h0)
 simp only [aLk] at e hc hh
 exact ⟨b, off, c, e, hc, fun i hi => by rw [hh i hi]; simp⟩
theorem Sl.lenI {w : aNE} {v : aNF} {k : IntKind} {l : List Int} (h : Sl w v (l.map (Value.int k))) : ∃ a c, v = .slice a l.length c /\ l.length <= c := by
 obtain ⟨a, c, e, hc⟩ := h.len
 simp only [aLk] at e hc
 exact ⟨a, c, e, hc⟩
def FL (n : Nat) (l : List aNF) : List aNF := (List.replicate n l).flatten
theorem afG (n : Nat) (l : List aNF) : (FL n l).length = n * l.length := by
 unfold FL; rw [List.length_flatten]; simp
theorem aFt : ∀ (n : Nat) (l : List aNF) (j : Nat) (_ : j < n * l.length) (h0 : 0 < l.length), (FL n l)[j]? = some (l[j % l.length]'(aNb _ h0)) := by
 intro n
 induction n with
 | zero => intro l j h; simp at h
 | succ n ih =>
   intro l j h h0
   unfold FL
   rw [aLT, aM0]
   by_cases hj : j < l.length
   .rw [aLy hj, aLg hj]
    simp only [aLP hj]
   .rw [aMd (by omega)]
    have := ih l (j - l.length) (by rw [Nat.succ_mul] at h; omega) h0
    unfold FL at this
    rw [this]
    simp only [<- Nat.mod_eq_sub_mod (show j ≥ l.length by omega)]
theorem amE {P : Program} {w : aNE} {t e : TypeId} {k : IntKind} {i : TypeInfo} {z : aNF} {sz : Nat} (hu : P.underlying t = some (.slice e)) (hi : P.info? e = some i) (h1 : i.size = sz) (hsz : 0 < sz) (hz : i.zero = some z) (hz1 : z.cells.size = sz) {n : Int} (h0 : 0 <= n) (hn : i.bytes * n <= 2 ^ 48) (hn2 : n <= 9223372036854775807)
 {K : aNF -> aNE -> Prop}
 (hk : ∀ w', eM w' w.heap.size (FL n.toNat z.cells.toList) -> aW w w' eT -> w'.heap.size = w.heap.size + 1 -> K (.slice (some ⟨w.heap.size, 0, none⟩) n.toNat n.toNat) w') :
 aD P (qC t (.int k n) (.int k n)) w K := by
 have hw : IntKind.i64.wrap n = n := aP (by omega) hn2
 have hl : z.cells.toList.length = sz := by simpa using hz1
 have harr : (Array.range (n.toNat * sz)).map (fun j => z.cells[j % z.cells.size]!) = (FL n.toNat z.cells.toList).toArray := by
  apply Array.ext
  .simp [afG, hz1]
  .intro j h1 h2
   have hj : j < n.toNat * sz := by simpa using h1
   have := aFt n.toNat z.cells.toList j (by rw [hl]; exact hj) (by rw [hl]; exact hsz)
   have hm : j % z.cells.size < z.cells.size := aNb _ (by omega)
   simp only [Array.getElem_map, Array.getElem_range, List.getElem_toArray]
   rw [getElem!_pos z.cells _ hm]
   rw [aLg (by rw [afG, hl]; exact hj)] at this
   have := aLA this
   rw [this]
   simp
 have hz' : (zeroValue e).run P w = .ok z w := by simp [zeroValue, typeInfo, hi, hz]
 have : (qC t (.int k n) (.int k n)).run P w = .ok (.value (.slice (some ⟨w.heap.size, 0, none⟩) n.toNat n.toNat)) (w.alloc (.cells (FL n.toNat z.cells.toList).toArray e)) := by
  unfold qC
  rw [uR]
  have t1 : (decide (n < 0) || decide ((i.bytes : Int) * n > 2 ^ 48) || decide (n < 0) || decide (n > n)) = false := by
   simp only [aM1, decide_eq_false_iff_not]; omega
  by_cases hn0 : n.toNat * sz = 0
  .simp only [Instr.makeSlice, underlying, typeInfo, asInt, asIntOf, pure_bind, Sem.run_bind, run_program, Result.andThen_ok, hu, hi, Sem.run_pure, hw, t1, aLb, if_false, run_askRoom, kZ hi, h1, hn0, if_true, newRow, run_newObj]
   have hn : n.toNat = 0 := by rcases Nat.mul_eq_zero.1 hn0 with h | h <;> omega
   have : (Array.range 0).map (fun x => (#[] : Array aNF)[x % (#[] : Array aNF).size]!) = (FL n.toNat z.cells.toList).toArray := by rw [hn]; simp [FL]
   rw [this]
   rfl
  .simp only [Instr.makeSlice, underlying, typeInfo, asInt, asIntOf, pure_bind, Sem.run_bind, run_program, Result.andThen_ok, hu, hi, Sem.run_pure, hw, t1, aLb, if_false, run_askRoom, kZ hi, h1, hn0, hz', newRow, run_newObj, harr]
   rfl
 unfold aD
 rw [this]
 exact hk _ (eM.alloc _ _ _) (aW.alloc _ _ _) (by simp)
abbrev T3 := Int × Int × Int
def fe (k : IntKind) : List T3 -> List aNF
 | [] => []
 | e :: r => .int k e.1 :: .int .i64 e.2.1 :: .int .i64 e.2.2 :: fe k r
theorem pY (k : IntKind) : ∀ L : List T3, (fe k L).length = L.length * 3
 | [] => rfl
 | e :: r => by simp [fe, pY k r]; omega
theorem aA6 (k : IntKind) : ∀ L M : List T3, fe k (L ++ M) = fe k L ++ fe k M
 | [], _ => rfl
 | e :: r, M => by simp [fe, aA6 k r M]
theorem WR (k : IntKind) : ∀ (L : List T3) (i : Nat) (h : i < L.length), (fe k L)[i * 3]? = some (.int k L[i].1) /\ (fe k L)[i * 3 + 1]? = some (.int .i64 L[i].2.1) /\ (fe k L)[i * 3 + 2]? = some (.int .i64 L[i].2.2)
 | [], i, h => by simp at h
 | e :: r, 0, _ => ⟨rfl, rfl, rfl⟩
 | e :: r, i + 1, h => by
   have := WR k r i (by simpa using h)
   rw [aL0]
   exact this
theorem aqV (k : IntKind) : ∀ (L : List T3) (i : Nat) (h : i < L.length) (x : Int), (fe k L).set (i * 3) (.int k x) = fe k (L.set i (x, L[i].2)) /\ (fe k L).set (i * 3 + 1) (.int .i64 x) = fe k (L.set i (L[i].1, x, L[i].2.2)) /\ (fe k L).set (i * 3 + 2) (.int .i64 x) = fe k (L.set i (L[i].1, L[i].2.1, x))
 | [], i, h, _ => by simp at h
 | e :: r, 0, _, x => ⟨rfl, rfl, rfl⟩
 | e :: r, i + 1, h, x => by
   have := aqV k r i (by simpa using h) x
   rw [aL0]
   obtain ⟨h1, h2, h3⟩ := this
   refine ⟨?_, ?_, ?_⟩
   .show (_ :: _ :: _ :: (fe k r).set (i * 3) _) = _; rw [h1] <;> rfl
   .show (_ :: _ :: _ :: (fe k r).set (i * 3 + 1) _) = _; rw [h2] <;> rfl
   .show (_ :: _ :: _ :: (fe k r).set (i * 3 + 2) _) = _; rw [h3] <;> rfl
theorem aE3 (k : IntKind) (x : Int) : ∀ n : Nat, FL n [.int k x, .int .i64 0, .int .i64 0] = fe k (List.replicate n (x, 0, 0))
 | 0 => rfl
 | n + 1 => by
   have := aE3 k x n
   unfold FL at this ⊢
   rw [aLT, aM0, this, aLT] <;> rfl
theorem aD7 {P : Program} {w : aNE} {t e : TypeId} {k k' : IntKind} {hi mx : Int} {i : TypeInfo} (hu : P.underlying t = some (.slice e)) (hi' : P.info? e = some i) (x : Option Addr) (n c : Nat) (h0 : 0 <= hi) (h1 : hi <= mx) (h2 : mx <= c) :
 (lZ t (.slice x n c) none (some (.int k hi)) (some (.int k' mx))).run P w = .ok (.value (.slice (mW x mx.toNat 0 i.size) (hi.toNat - 0) (mx.toNat - 0))) w := by
 have h3 : (0 : Int) <= mx := by omega
 have h4 : hi <= (mx.toNat : Int) := by omega
 simp only [lZ, uR, Instr.sliceAt, underlying, hu, Sem.run_bind, run_program, Result.andThen_ok, Sem.run_pure, Instr.slice, Instr.sliceBounds, pure_bind, Ax h3 h2, Ax h0 h4, kZ hi', mW]
end Go.En
namespace Go.Proofs.YtgpimhlgaokobaaGreat
open Go Go.En
set_option maxRecDepth 4000
theorem aQ {ty : TypeId} (x : Option Addr) (n c : Nat) (w : aNE) : (lG .len #[22] ty [.slice x n c]).run pg w = .ok (.value (.int .i64 n)) w := ZK Tryz.underlying22 x n c
theorem iH {l : List UInt8} {v : aNF} {w : aNE} (h : Bs w v l) : (jG 22 9 v).run pg w = .ok (.value (.string ⟨l.toArray⟩)) w := aGI Tryz.underlying22 Tryz.underlying9 Tryz.underlying5 h
theorem aES : (pg).info? 26 = some Tryz.t26 := by kernel_rfl
theorem Bt {w : aNE} {K : aNF -> aNE -> Prop} (hk : ∀ w', eM w' w.heap.size [(.int .u64 0), (.int .u64 0), (.int .i64 0), (.int .u64 0), (.int .u64 0)] -> aW w w' eT -> w'.heap.size = w.heap.size + 1 -> K (.pointer (some ⟨w.heap.size, 0, none⟩)) w') : aD pg (fU 26) w K := oS (i := Tryz.t26) aES rfl hk
theorem sH {b off : Nat} {cs : List aNF} {w : aNE} {xs : Array aNF} {K : aNF -> aNE -> Prop} (ho : eM w b cs) (hs : xs.size = 5) (hv : ∀ x ∈ xs.toList, one x = true) (h : off + 5 <= cs.length) (hk : ∀ w', eM w' b (bM cs off xs.toList) -> aW w w' (fun x => x = b) -> w'.heap.size = w.heap.size -> K undef w') : aD pg (aR 26 (.pointer (some ⟨b, off, none⟩)) (.agg xs)) w K := pZ (v := .agg xs) aES ho hs hv h hk
theorem azL : (pg).info? 24 = some Tryz.t24 := by kernel_rfl
theorem aV (b o : Nat) (w : aNE) : (aK 26 (.pointer (some ⟨b, o, none⟩)) 3).run pg w = .ok (.value (.pointer (some ⟨b, o + 3, none⟩))) w := jP (i := 3) Tryz.underlying26 rfl azL (by decide) _
theorem gV (x : Addr) (w : aNE) : (aL 24 (.pointer (some x))).run pg w = ldC (w.cell? x) w (far pg 24 x w) := ahP Tryz.underlying24 rfl x w
theorem dU {ty : TypeId} (x : ByteArray) (w : aNE) : (lG .len #[9] ty [.string x]).run pg w = .ok (.value (.int .i64 x.size)) w := aJh Tryz.underlying9 x
theorem jD {k : IntKind} {a : Int} (x : ByteArray) (w : aNE) (h0 : 0 <= a) (h1 : a.toNat < x.size) : (DX 9 (.string x) (.int k a)).run pg w = .ok (.value (.int .u8 (x[a.toNat]'h1).toNat)) w := aJp Tryz.underlying9 x h0 h1
theorem Sr : (pg).info? 5 = some Tryz.t5 := by kernel_rfl
theorem dA {k : IntKind} {a : Int} (b o n c : Nat) (w : aNE) (h0 : 0 <= a) (h1 : a < n) : (cI 22 (.slice (some ⟨b, o, none⟩) n c) (.int k a)).run pg w = .ok (.value (.pointer (some ⟨b, o + a.toNat, none⟩))) w := XV rfl Tryz.underlying22 Sr b o n c h0 h1
theorem gS (x : Addr) (w : aNE) : (aL 5 (.pointer (some x))).run pg w = ldC (w.cell? x) w (far pg 5 x w) := ahP Tryz.underlying5 rfl x w
theorem dF {k : IntKind} (a : Int) (w : aNE) : (jG 5 3 (.int k a)).run pg w = .ok (.value (.int .i64 (IntKind.i64.wrap a))) w := H5 Tryz.underlying5 Tryz.underlying3
theorem abQ {x : ByteArray} {w : aNE} {K : aNF -> aNE -> Prop} (hk : ∀ w' c, Sl w' (.slice (some ⟨w.heap.size, 0, none⟩) x.size c) (x.data.toList.map sU) -> aW w w' eT -> w'.heap.size = w.heap.size + 1 -> (∃ r, eM w' w.heap.size (x.data.toList.map sU ++ List.replicate r (.int .u8 0)) /\ c = x.size + r) -> K (.slice (some ⟨w.heap.size, 0, none⟩) x.size c) w') : aD pg (jG 9 22 (.string x)) w K := aEw Tryz.underlying9 Tryz.underlying22 Tryz.underlying5 hk
theorem rQ {ox oy : Operand} (c d : Bool) (w : aNE) : (aI .eql 4 ox oy (.bool c) (.bool d)).run pg w = .ok (.value (.bool (c == d))) w := aJf c d Tryz.underlying4
theorem pC {n : Nat} {ps : List (Nat × aNF)} {cells : Array aNF} {w : aNE} (h1 : ¬ n * 1 > 2 ^ 24) (h0 : ¬ n * 1 = 0) (hf : Go.Instr.fill (fun j => some (j * 1, 1)) ((Array.range (n * 1)).map ((Tryz.t5.zero.get!).cells[· % (Tryz.t5.zero.get!).cells.size]!)) ps = some cells) {K : aNF -> aNE -> Prop} (hk : ∀ w', eM w' w.heap.size cells.toList -> aW w w' eT -> w'.heap.size = w.heap.size + 1 -> K (.slice (some ⟨w.heap.size, 0, none⟩) n n) w') : aD pg (cV 22 n ps) w K := Il (i := Tryz.t5) Tryz.underlying22 Sr rfl h1 h0 hf hk
theorem vS {b off : Nat} {cs : List aNF} {w : aNE} (ho : eM w b cs) (h : off + 5 <= cs.length) {K : aNF -> Prop} (hk : K (.agg ((cs.drop off).take 5).toArray)) : An pg 26 (.pointer (some ⟨b, off, none⟩)) w K := Gz Tryz.underlying26 rfl aES ho h hk
theorem AN {b off : Nat} {cs : List aNF} {w : aNE} (ho : eM w b cs) (h : off + 5 <= cs.length) : (aL 26 (.pointer (some ⟨b, off, none⟩))).run pg w = .ok (.value (.agg ((cs.drop off).take 5).toArray)) w := zC Tryz.underlying26 rfl aES ho h
theorem iT {k : IntKind} (a : Int) (w : aNE) : (jG 5 24 (.int k a)).run pg w = .ok (.value (.int .u64 (IntKind.u64.wrap a))) w := H5 Tryz.underlying5 Tryz.underlying24
theorem aY (b o : Nat) (w : aNE) : (aK 26 (.pointer (some ⟨b, o, none⟩)) 0).run pg w = .ok (.value (.pointer (some ⟨b, o, none⟩))) w := jP (i := 0) Tryz.underlying26 rfl azL (by decide) _
theorem MO {b off : Nat} {cs : List aNF} {w : aNE} {v : aNF} {K : aNF -> aNE -> Prop} (ho : eM w b cs) (hv : one v = true) (h : off < cs.length) (hk : ∀ w', eM w' b (cs.set off v) -> aW w w' (fun x => x = b) -> w'.heap.size = w.heap.size -> K undef w') : aD pg (aR 24 (.pointer (some ⟨b, off, none⟩)) v) w K := uX azL rfl ho hv h hk
theorem cD (b o : Nat) (w : aNE) : (aK 26 (.pointer (some ⟨b, o, none⟩)) 1).run pg w = .ok (.value (.pointer (some ⟨b, o + 1, none⟩))) w := jP (i := 1) Tryz.underlying26 rfl azL (by decide) _
theorem Bg : (pg).info? 3 = some Tryz.t3 := by kernel_rfl
theorem XO {n : Nat} {ps : List (Nat × aNF)} {cells : Array aNF} {w : aNE} (h1 : ¬ n * 1 > 2 ^ 24) (h0 : ¬ n * 1 = 0) (hf : Go.Instr.fill (fun j => some (j * 1, 1)) ((Array.range (n * 1)).map ((Tryz.t3.zero.get!).cells[· % (Tryz.t3.zero.get!).cells.size]!)) ps = some cells) {K : aNF -> aNE -> Prop} (hk : ∀ w', eM w' w.heap.size cells.toList -> aW w w' eT -> w'.heap.size = w.heap.size + 1 -> K (.slice (some ⟨w.heap.size, 0, none⟩) n n) w') : aD pg (cV 42 n ps) w K := Il (i := Tryz.t3) Tryz.underlying42 Bg rfl h1 h0 hf hk
theorem iD {k : IntKind} {a : Int} (b o n c : Nat) (w : aNE) (h0 : 0 <= a) (h1 : a < n) : (cI 42 (.slice (some ⟨b, o, none⟩) n c) (.int k a)).run pg w = .ok (.value (.pointer (some ⟨b, o + a.toNat, none⟩))) w := XV rfl Tryz.underlying42 Bg b o n c h0 h1
theorem bO (x : Addr) (w : aNE) : (aL 3 (.pointer (some x))).run pg w = ldC (w.cell? x) w (far pg 3 x w) := ahP Tryz.underlying3 rfl x w
theorem bR (b o : Nat) (w : aNE) : (aK 26 (.pointer (some ⟨b, o, none⟩)) 2).run pg w = .ok (.value (.pointer (some ⟨b, o + 2, none⟩))) w := jP (i := 2) Tryz.underlying26 rfl Bg (by decide) _
theorem pD {b off : Nat} {cs : List aNF} {w : aNE} {v : aNF} {K : aNF -> aNE -> Prop} (ho : eM w b cs) (hv : one v = true) (h : off < cs.length) (hk : ∀ w', eM w' b (cs.set off v) -> aW w w' (fun x => x = b) -> w'.heap.size = w.heap.size -> K undef w') : aD pg (aR 3 (.pointer (some ⟨b, off, none⟩)) v) w K := uX Bg rfl ho hv h hk
theorem agK {n : Nat} {ps : List (Nat × aNF)} {cells : Array aNF} {w : aNE} (h1 : ¬ n * 1 > 2 ^ 24) (h0 : ¬ n * 1 = 0) (hf : Go.Instr.fill (fun j => some (j * 1, 1)) ((Array.range (n * 1)).map ((Tryz.t24.zero.get!).cells[· % (Tryz.t24.zero.get!).cells.size]!)) ps = some cells) {K : aNF -> aNE -> Prop} (hk : ∀ w', eM w' w.heap.size cells.toList -> aW w w' eT -> w'.heap.size = w.heap.size + 1 -> K (.slice (some ⟨w.heap.size, 0, none⟩) n n) w') : aD pg (cV 43 n ps) w K := Il (i := Tryz.t24) Tryz.underlying43 azL rfl h1 h0 hf hk
theorem kV {k : IntKind} {a : Int} (b o n c : Nat) (w : aNE) (h0 : 0 <= a) (h1 : a < n) : (cI 43 (.slice (some ⟨b, o, none⟩) n c) (.int k a)).run pg w = .ok (.value (.pointer (some ⟨b, o + a.toNat, none⟩))) w := XV rfl Tryz.underlying43 azL b o n c h0 h1
theorem dH (s0 : ByteArray) (w : aNE) : (fT 45 [(0, (.string s0))]).run pg w = .ok (.value (.agg #[(.string s0), (.int .i64 0)])) w := by kernel_rfl
theorem aFp : (pg).info? 45 = some Tryz.t45 := by kernel_rfl
theorem tH {w : aNE} {K : aNF -> aNE -> Prop} (hk : ∀ w', eM w' w.heap.size [(.string ⟨#[]⟩), (.int .i64 0)] -> aW w w' eT -> w'.heap.size = w.heap.size + 1 -> K (.pointer (some ⟨w.heap.size, 0, none⟩)) w') : aD pg (fU 45) w K := oS (i := Tryz.t45) aFp rfl hk
theorem lV {b off : Nat} {cs : List aNF} {w : aNE} {xs : Array aNF} {K : aNF -> aNE -> Prop} (ho : eM w b cs) (hs : xs.size = 2) (hv : ∀ x ∈ xs.toList, one x = true) (h : off + 2 <= cs.length) (hk : ∀ w', eM w' b (bM cs off xs.toList) -> aW w w' (fun x => x = b) -> w'.heap.size = w.heap.size -> K undef w') : aD pg (aR 45 (.pointer (some ⟨b, off, none⟩)) (.agg xs)) w K := pZ (v := .agg xs) aFp ho hs hv h hk
theorem aEX : (pg).info? 27 = some Tryz.t27 := by kernel_rfl
theorem bX (b o : Nat) (w : aNE) : (aK 45 (.pointer (some ⟨b, o, none⟩)) 1).run pg w = .ok (.value (.pointer (some ⟨b, o + 1, none⟩))) w := jP (i := 1) Tryz.underlying45 rfl aEX (by decide) _
theorem gP (x : Addr) (w : aNE) : (aL 27 (.pointer (some x))).run pg w = ldC (w.cell? x) w (far pg 27 x w) := ahP Tryz.underlying27 rfl x w
theorem cA (b o : Nat) (w : aNE) : (aK 26 (.pointer (some ⟨b, o, none⟩)) 4).run pg w = .ok (.value (.pointer (some ⟨b, o + 4, none⟩))) w := jP (i := 4) Tryz.underlying26 rfl azL (by decide) _
theorem aE7 : (pg).info? 49 = some Tryz.t49 := by kernel_rfl
theorem B2 {w : aNE} {K : aNF -> aNE -> Prop} (hk : ∀ w', eM w' w.heap.size [(.int .i64 0), (.int .i64 0), (.int .i64 0), (.int .i64 0), (.int .i64 0)] -> aW w w' eT -> w'.heap.size = w.heap.size + 1 -> K (.pointer (some ⟨w.heap.size, 0, none⟩)) w') : aD pg (fU 49) w K := oS (i := Tryz.t49) aE7 rfl hk
theorem rJ {b off : Nat} {cs : List aNF} {w : aNE} {xs : Array aNF} {K : aNF -> aNE -> Prop} (ho : eM w b cs) (hs : xs.size = 5) (hv : ∀ x ∈ xs.toList, one x = true) (h : off + 5 <= cs.length) (hk : ∀ w', eM w' b (bM cs off xs.toList) -> aW w w' (fun x => x = b) -> w'.heap.size = w.heap.size -> K undef w') : aD pg (aR 49 (.pointer (some ⟨b, off, none⟩)) (.agg xs)) w K := pZ (v := .agg xs) aE7 ho hs hv h hk
theorem bH (b o : Nat) (w : aNE) : (aK 49 (.pointer (some ⟨b, o, none⟩)) 2).run pg w = .ok (.value (.pointer (some ⟨b, o + 2, none⟩))) w := jP (i := 2) Tryz.underlying49 rfl Bg (by decide) _
theorem eE {k : IntKind} {lo : Int} (a : Option Addr) (n c : Nat) (w : aNE) (h0 : 0 <= lo) (h1 : lo <= n) : (lZ 22 (.slice a n c) (some (.int k lo)) none none).run pg w = .ok (.value (.slice (mW a c (lo.toNat) 1) (n - lo.toNat) (c - lo.toNat))) w := axE Tryz.underlying22 Sr _ n c h0 h1
theorem cM (b o : Nat) (w : aNE) : (aK 49 (.pointer (some ⟨b, o, none⟩)) 0).run pg w = .ok (.value (.pointer (some ⟨b, o, none⟩))) w := jP (i := 0) Tryz.underlying49 rfl Bg (by decide) _
theorem bP (b o : Nat) (w : aNE) : (aK 49 (.pointer (some ⟨b, o, none⟩)) 3).run pg w = .ok (.value (.pointer (some ⟨b, o + 3, none⟩))) w := jP (i := 3) Tryz.underlying49 rfl Bg (by decide) _
theorem cF (b o : Nat) (w : aNE) : (aK 49 (.pointer (some ⟨b, o, none⟩)) 4).run pg w = .ok (.value (.pointer (some ⟨b, o + 4, none⟩))) w := jP (i := 4) Tryz.underlying49 rfl Bg (by decide) _
theorem jH {k : IntKind} {hi : Int} (a : Option Addr) (n c : Nat) (w : aNE) (h0 : 0 <= hi) (h1 : hi <= c) : (lZ 22 (.slice a n c) none (some (.int k hi)) none).run pg w = .ok (.value (.slice (mW a c (0) 1) (hi.toNat - 0) (c - 0))) w := awP Tryz.underlying22 Sr _ n c h0 h1
theorem Qu {b off : Nat} {cs : List aNF} {w : aNE} (ho : eM w b cs) (h : off + 5 <= cs.length) : (aL 49 (.pointer (some ⟨b, off, none⟩))).run pg w = .ok (.value (.agg ((cs.drop off).take 5).toArray)) w := zC Tryz.underlying49 rfl aE7 ho h
theorem fS {k : IntKind} (a : Int) (w : aNE) : (jG 3 24 (.int k a)).run pg w = .ok (.value (.int .u64 (IntKind.u64.wrap a))) w := H5 Tryz.underlying3 Tryz.underlying24
theorem bY {k : IntKind} (a : Int) (w : aNE) : (jG 24 3 (.int k a)).run pg w = .ok (.value (.int .i64 (IntKind.i64.wrap a))) w := H5 Tryz.underlying24 Tryz.underlying3
theorem jE {k k' : IntKind} {lo hi : Int} (x : ByteArray) (w : aNE) (h0 : 0 <= lo) (h1 : lo <= hi) (h2 : hi <= x.size) : (lZ 9 (.string x) (some (.int k lo)) (some (.int k' hi)) none).run pg w = .ok (.value (.string (x.extract lo.toNat hi.toNat))) w := aAf Tryz.underlying9  x h0 h1 h2
theorem jY {k : IntKind} {lo : Int} (x : ByteArray) (w : aNE) (h0 : 0 <= lo) (h1 : lo <= x.size) : (lZ 9 (.string x) (some (.int k lo)) none none).run pg w = .ok (.value (.string (x.extract lo.toNat x.size))) w := aDc Tryz.underlying9  x h0 h1
theorem mJ {base n m : Nat} {ty : TypeId} {w : aNE} {v x : aNF} {l news : List aNF} (h : sV w base 1 v n l) (hx : Cl w 1 x m news) (hone : ∀ y ∈ news, one y = true) (hb : base <= w.heap.size) (hbytes : (n + m) * 1 <= 140737488355328) {K : aNF -> aNE -> Prop} (hk : ∀ v' w', sV w' base 1 v' (n + m) (l ++ news) -> aW w w' (fun y => base <= y) -> K v' w') : aD pg (lG .append #[22, 22] ty [v, x]) w K := MZ (i := Tryz.t5) Tryz.underlying22 Tryz.underlying22 Sr rfl rfl rfl h hx hone hb (by omega) hbytes (by decide) hk
theorem Va {b off : Nat} {cs : List aNF} {w : aNE} (ho : eM w b cs) (h : off + 2 <= cs.length) {K : aNF -> Prop} (hk : K (.agg ((cs.drop off).take 2).toArray)) : An pg 45 (.pointer (some ⟨b, off, none⟩)) w K := Gz Tryz.underlying45 rfl aFp ho h hk
theorem GA {b off : Nat} {cs : List aNF} {w : aNE} {v : aNF} {K : aNF -> aNE -> Prop} (ho : eM w b cs) (hv : one v = true) (h : off < cs.length) (hk : ∀ w', eM w' b (cs.set off v) -> aW w w' (fun x => x = b) -> w'.heap.size = w.heap.size -> K undef w') : aD pg (aR 27 (.pointer (some ⟨b, off, none⟩)) v) w K := uX aEX rfl ho hv h hk
theorem mP {b off : Nat} {cs : List aNF} {w : aNE} (ho : eM w b cs) (h : off + 2 <= cs.length) : (aL 45 (.pointer (some ⟨b, off, none⟩))).run pg w = .ok (.value (.agg ((cs.drop off).take 2).toArray)) w := zC Tryz.underlying45 rfl aFp ho h
theorem AP {b off : Nat} {cs : List aNF} {w : aNE} (ho : eM w b cs) (h : off + 5 <= cs.length) {K : aNF -> Prop} (hk : K (.agg ((cs.drop off).take 5).toArray)) : An pg 49 (.pointer (some ⟨b, off, none⟩)) w K := Gz Tryz.underlying49 rfl aE7 ho h hk
theorem gY  (w : aNE) : (fT 49 []).run pg w = .ok (.value (.agg #[(.int .i64 0), (.int .i64 0), (.int .i64 0), (.int .i64 0), (.int .i64 0)])) w := by kernel_rfl
theorem gD (n0 : Int) (n1 : Int) (w : aNE) : (fT 49 [(0, (.int .i64 n0)), (1, (.int .i64 n1))]).run pg w = .ok (.value (.agg #[(.int .i64 n0), (.int .i64 n1), (.int .i64 0), (.int .i64 0), (.int .i64 0)])) w := by kernel_rfl
theorem dJ (n0 : Int) (n1 : Int) (n2 : Int) (n3 : Int) (w : aNE) : (fT 73 [(0, (.int .i64 n0)), (1, (.int .i64 n1)), (2, (.int .i64 n2)), (3, (.int .i64 n3))]).run pg w = .ok (.value (.agg #[(.int .i64 n0), (.int .i64 n1), (.int .i64 n2), (.int .i64 n3)])) w := by kernel_rfl
theorem cB (b o : Nat) (w : aNE) : (aK 49 (.pointer (some ⟨b, o, none⟩)) 1).run pg w = .ok (.value (.pointer (some ⟨b, o + 1, none⟩))) w := jP (i := 1) Tryz.underlying49 rfl Bg (by decide) _
theorem jV {k : IntKind} {a : Int} (cs : Array aNF) (w : aNE) (h0 : 0 <= a) (h1 : a < 4) : (DX 73 (.agg cs) (.int k a)).run pg w = ldC cs[a.toNat]? w (aKi pg 73 cs k a w) := aJk Tryz.underlying73 Tryz.underlying3 rfl Bg rfl cs h0 (by simpa using h1)
theorem lL {ox oy : Operand} (x : Option Addr) (n c : Nat) (w : aNE) : (aI .eql 22 ox oy (.slice x n c) (.slice none 0 0)).run pg w = .ok (.value (.bool x.isNone)) w := aIs Tryz.underlying22 x n c
theorem fW {k : IntKind} (a : Int) (w : aNE) : (jG 3 67 (.int k a)).run pg w = .ok (.value (.int .u64 (IntKind.u64.wrap a))) w := H5 Tryz.underlying3 Tryz.underlying67
theorem oE {k : IntKind} (a : Int) (w : aNE) : (jG 67 3 (.int k a)).run pg w = .ok (.value (.int .i64 (IntKind.i64.wrap a))) w := H5 Tryz.underlying67 Tryz.underlying3
theorem asO {k : IntKind} {n : Int} {w : aNE} {K : aNF -> aNE -> Prop} (h0 : 0 <= n) (hn : 1 * n <= 2 ^ 48) (hk : ∀ w', eM w' w.heap.size (List.replicate n.toNat (.int .u8 0)) -> aW w w' eT -> w'.heap.size = w.heap.size + 1 -> K (.slice (some ⟨w.heap.size, 0, none⟩) n.toNat n.toNat) w') : aD pg (qC 22 (.int k n) (.int k n)) w K := aDu (i := Tryz.t5) Tryz.underlying22 Sr rfl rfl rfl h0 hn (by omega) hk
theorem asA {ty : TypeId} {w : aNE} {b off dl c : Nat} {cs : List aNF} (ho : eM w b cs) (hl : off + dl <= cs.length) {v : aNF} {l : List aNF} (h : Sl w v l) (hv : ∀ x ∈ l, one x = true) {K : aNF -> aNE -> Prop} (hk : ∀ w', eM w' b (bM cs off (l.take (min l.length dl))) -> aW w w' (fun x => x = b) -> w'.heap.size = w.heap.size -> K (.int .i64 (min l.length dl : Nat)) w') : aD pg (lG .copy #[22, 22] ty [.slice (some ⟨b, off, none⟩) dl c, v]) w K := aHh Tryz.underlying22 Sr rfl ho hl h hv hk
theorem VS {b off : Nat} {cs : List aNF} {w : aNE} {v : aNF} {K : aNF -> aNE -> Prop} (ho : eM w b cs) (hv : one v = true) (h : off < cs.length) (hk : ∀ w', eM w' b (cs.set off v) -> aW w w' (fun x => x = b) -> w'.heap.size = w.heap.size -> K undef w') : aD pg (aR 5 (.pointer (some ⟨b, off, none⟩)) v) w K := uX Sr rfl ho hv h hk
theorem aKr : (pg).info? 9 = some Tryz.t9 := by kernel_rfl
theorem cE (b o : Nat) (w : aNE) : (aK 45 (.pointer (some ⟨b, o, none⟩)) 0).run pg w = .ok (.value (.pointer (some ⟨b, o, none⟩))) w := jP (i := 0) Tryz.underlying45 rfl aKr (by decide) _
theorem mN (x : Addr) (w : aNE) : (aL 9 (.pointer (some x))).run pg w = ldC (w.cell? x) w (far pg 9 x w) := ahP Tryz.underlying9 rfl x w
theorem eS {k : IntKind} (a : Int) (w : aNE) : (jG 3 5 (.int k a)).run pg w = .ok (.value (.int .u8 (IntKind.u8.wrap a))) w := H5 Tryz.underlying3 Tryz.underlying5
theorem iZ  (w : aNE) : (fT 90 []).run pg w = .ok (.value (.agg #[(.slice none 0 0)])) w := by kernel_rfl
theorem fJ {ox oy : Operand} (x : Option Addr) (w : aNE) : (aI .eql 64 ox oy (.pointer x) (.pointer none)).run pg w = .ok (.value (.bool x.isNone)) w := axX Tryz.underlying64 x
theorem azN : (pg).info? 22 = some Tryz.t22 := by kernel_rfl
theorem fR (b o : Nat) (w : aNE) : (aK 90 (.pointer (some ⟨b, o, none⟩)) 0).run pg w = .ok (.value (.pointer (some ⟨b, o, none⟩))) w := jP (i := 0) Tryz.underlying90 rfl azN (by decide) _
theorem eQ (x : Addr) (w : aNE) : (aL 22 (.pointer (some x))).run pg w = ldC (w.cell? x) w (far pg 22 x w) := ahP Tryz.underlying22 rfl x w
theorem iB {k : IntKind} (a : Int) (w : aNE) : (jG 24 5 (.int k a)).run pg w = .ok (.value (.int .u8 (IntKind.u8.wrap a))) w := H5 Tryz.underlying24 Tryz.underlying5
theorem yZ {b off : Nat} {cs : List aNF} {w : aNE} {v : aNF} {K : aNF -> aNE -> Prop} (ho : eM w b cs) (hv : one v = true) (h : off < cs.length) (hk : ∀ w', eM w' b (cs.set off v) -> aW w w' (fun x => x = b) -> w'.heap.size = w.heap.size -> K undef w') : aD pg (aR 22 (.pointer (some ⟨b, off, none⟩)) v) w K := uX azN rfl ho hv h hk
theorem gI {ox oy : Operand} (x : Option Addr) (w : aNE) : (aI .neq 64 ox oy (.pointer x) (.pointer none)).run pg w = .ok (.value (.bool (!x.isNone))) w := aJV Tryz.underlying64 x
theorem mT {k : IntKind} {hi : Int} (x : ByteArray) (w : aNE) (h0 : 0 <= hi) (h1 : hi <= x.size) : (lZ 9 (.string x) none (some (.int k hi)) none).run pg w = .ok (.value (.string (x.extract 0 hi.toNat))) w := aCA Tryz.underlying9  x h0 h1
theorem aFK {b off : Nat} {cs : List aNF} {w : aNE} {v : aNF} {K : aNF -> aNE -> Prop} (ho : eM w b cs) (hv : one v = true) (h : off < cs.length) (hk : ∀ w', eM w' b (cs.set off v) -> aW w w' (fun x => x = b) -> w'.heap.size = w.heap.size -> K undef w') : aD pg (aR 9 (.pointer (some ⟨b, off, none⟩)) v) w K := uX aKr rfl ho hv h hk
theorem iJ (a0 : Option Addr) (l0 c0 : Nat) (w : aNE) : (fT 92 [(0, (.slice a0 l0 c0))]).run pg w = .ok (.value (.agg #[(.slice a0 l0 c0), (.int .i64 0)])) w := by kernel_rfl
theorem eJ {ox oy : Operand} (x : Option Addr) (w : aNE) : (aI .eql 74 ox oy (.pointer x) (.pointer none)).run pg w = .ok (.value (.bool x.isNone)) w := axX Tryz.underlying74 x
theorem fO (b o : Nat) (w : aNE) : (aK 92 (.pointer (some ⟨b, o, none⟩)) 1).run pg w = .ok (.value (.pointer (some ⟨b, o + 1, none⟩))) w := jP (i := 1) Tryz.underlying92 rfl aEX (by decide) _
theorem kM {k : IntKind} (a : Int) (w : aNE) : (jG 67 94 (.int k a)).run pg w = .ok (.value (.int .u32 (IntKind.u32.wrap a))) w := H5 Tryz.underlying67 Tryz.underlying94
theorem lT {k : IntKind} (a : Int) (w : aNE) : (jG 94 67 (.int k a)).run pg w = .ok (.value (.int .u64 (IntKind.u64.wrap a))) w := H5 Tryz.underlying94 Tryz.underlying67
theorem aBg : (pg).info? 100 = some Tryz.t100 := by kernel_rfl
theorem BX {w : aNE} {K : aNF -> aNE -> Prop} (hk : ∀ w', eM w' w.heap.size [(.int .i64 0), (.slice none 0 0)] -> aW w w' eT -> w'.heap.size = w.heap.size + 1 -> K (.pointer (some ⟨w.heap.size, 0, none⟩)) w') : aD pg (fU 100) w K := oS (i := Tryz.t100) aBg rfl hk
theorem wS {b off : Nat} {cs : List aNF} {w : aNE} {xs : Array aNF} {K : aNF -> aNE -> Prop} (ho : eM w b cs) (hs : xs.size = 2) (hv : ∀ x ∈ xs.toList, one x = true) (h : off + 2 <= cs.length) (hk : ∀ w', eM w' b (bM cs off xs.toList) -> aW w w' (fun x => x = b) -> w'.heap.size = w.heap.size -> K undef w') : aD pg (aR 100 (.pointer (some ⟨b, off, none⟩)) (.agg xs)) w K := pZ (v := .agg xs) aBg ho hs hv h hk
theorem rE {b off : Nat} {cs : List aNF} {w : aNE} (ho : eM w b cs) (h : off + 2 <= cs.length) : (aL 100 (.pointer (some ⟨b, off, none⟩))).run pg w = .ok (.value (.agg ((cs.drop off).take 2).toArray)) w := zC Tryz.underlying100 rfl aBg ho h
theorem aBo : (pg).info? 108 = some Tryz.t108 := by kernel_rfl
theorem MI {w : aNE} {K : aNF -> aNE -> Prop} (hk : ∀ w', eM w' w.heap.size [(.int .i64 0), (.slice none 0 0)] -> aW w w' eT -> w'.heap.size = w.heap.size + 1 -> K (.pointer (some ⟨w.heap.size, 0, none⟩)) w') : aD pg (fU 108) w K := oS (i := Tryz.t108) aBo rfl hk
theorem I2 {b off : Nat} {cs : List aNF} {w : aNE} {xs : Array aNF} {K : aNF -> aNE -> Prop} (ho : eM w b cs) (hs : xs.size = 2) (hv : ∀ x ∈ xs.toList, one x = true) (h : off + 2 <= cs.length) (hk : ∀ w', eM w' b (bM cs off xs.toList) -> aW w w' (fun x => x = b) -> w'.heap.size = w.heap.size -> K undef w') : aD pg (aR 108 (.pointer (some ⟨b, off, none⟩)) (.agg xs)) w K := pZ (v := .agg xs) aBo ho hs hv h hk
theorem nH  (w : aNE) : (fT 111 []).run pg w = .ok (.value (.agg #[(.int .i64 0), (.int .i64 0)])) w := by kernel_rfl
theorem aGV : (pg).info? 111 = some Tryz.t111 := by kernel_rfl
theorem aEI {w : aNE} {K : aNF -> aNE -> Prop} (hk : ∀ w', eM w' w.heap.size [(.int .i64 0), (.int .i64 0)] -> aW w w' eT -> w'.heap.size = w.heap.size + 1 -> K (.pointer (some ⟨w.heap.size, 0, none⟩)) w') : aD pg (fU 111) w K := oS (i := Tryz.t111) aGV rfl hk
theorem aCP {b off : Nat} {cs : List aNF} {w : aNE} {xs : Array aNF} {K : aNF -> aNE -> Prop} (ho : eM w b cs) (hs : xs.size = 2) (hv : ∀ x ∈ xs.toList, one x = true) (h : off + 2 <= cs.length) (hk : ∀ w', eM w' b (bM cs off xs.toList) -> aW w w' (fun x => x = b) -> w'.heap.size = w.heap.size -> K undef w') : aD pg (aR 111 (.pointer (some ⟨b, off, none⟩)) (.agg xs)) w K := pZ (v := .agg xs) aGV ho hs hv h hk
theorem QZ {b off : Nat} {cs : List aNF} {w : aNE} (ho : eM w b cs) (h : off + 2 <= cs.length) : (aL 108 (.pointer (some ⟨b, off, none⟩))).run pg w = .ok (.value (.agg ((cs.drop off).take 2).toArray)) w := zC Tryz.underlying108 rfl aBo ho h
theorem oI {k : IntKind} {a : Int} (b o : Nat) (w : aNE) (h0 : 0 <= a) (h1 : a < 2) : (cI 111 (.pointer (some ⟨b, o, none⟩)) (.int k a)).run pg w = .ok (.value (.pointer (some ⟨b, o + a.toNat, none⟩))) w := aqS rfl Tryz.underlying111 Bg b o h0 (by simpa using h1)
theorem aJj : (pg).info? 106 = some Tryz.t106 := by kernel_rfl
theorem cU (b o : Nat) (w : aNE) : (aK 108 (.pointer (some ⟨b, o, none⟩)) 1).run pg w = .ok (.value (.pointer (some ⟨b, o + 1, none⟩))) w := jP (i := 1) Tryz.underlying108 rfl aJj (by decide) _
theorem gA (x : Addr) (w : aNE) : (aL 106 (.pointer (some x))).run pg w = ldC (w.cell? x) w (far pg 106 x w) := ahP Tryz.underlying106 rfl x w
theorem ayJ : (pg).info? 115 = some Tryz.t115 := by kernel_rfl
theorem gW {k : IntKind} {a : Int} (b o n c : Nat) (w : aNE) (h0 : 0 <= a) (h1 : a < n) : (cI 106 (.slice (some ⟨b, o, none⟩) n c) (.int k a)).run pg w = .ok (.value (.pointer (some ⟨b, o + a.toNat * 3, none⟩))) w := SC rfl Tryz.underlying106 ayJ b o n c h0 h1
theorem Zw {b off : Nat} {cs : List aNF} {w : aNE} (ho : eM w b cs) (h : off + 3 <= cs.length) : (aL 115 (.pointer (some ⟨b, off, none⟩))).run pg w = .ok (.value (.agg ((cs.drop off).take 3).toArray)) w := zC Tryz.underlying115 rfl ayJ ho h
theorem aiO {w : aNE} {K : aNF -> aNE -> Prop} (hk : ∀ w', eM w' w.heap.size [(.int .u8 0), (.int .i64 0), (.int .i64 0)] -> aW w w' eT -> w'.heap.size = w.heap.size + 1 -> K (.pointer (some ⟨w.heap.size, 0, none⟩)) w') : aD pg (fU 115) w K := oS (i := Tryz.t115) ayJ rfl hk
theorem ZB {b off : Nat} {cs : List aNF} {w : aNE} {xs : Array aNF} {K : aNF -> aNE -> Prop} (ho : eM w b cs) (hs : xs.size = 3) (hv : ∀ x ∈ xs.toList, one x = true) (h : off + 3 <= cs.length) (hk : ∀ w', eM w' b (bM cs off xs.toList) -> aW w w' (fun x => x = b) -> w'.heap.size = w.heap.size -> K undef w') : aD pg (aR 115 (.pointer (some ⟨b, off, none⟩)) (.agg xs)) w K := pZ (v := .agg xs) ayJ ho hs hv h hk
theorem eK (b o : Nat) (w : aNE) : (aK 115 (.pointer (some ⟨b, o, none⟩)) 0).run pg w = .ok (.value (.pointer (some ⟨b, o, none⟩))) w := jP (i := 0) Tryz.underlying115 rfl Sr (by decide) _
theorem gR (b o : Nat) (w : aNE) : (aK 115 (.pointer (some ⟨b, o, none⟩)) 1).run pg w = .ok (.value (.pointer (some ⟨b, o + 1, none⟩))) w := jP (i := 1) Tryz.underlying115 rfl Bg (by decide) _
theorem aBi : (pg).info? 122 = some Tryz.t122 := by kernel_rfl
theorem xF {w : aNE} {K : aNF -> aNE -> Prop} (hk : ∀ w', eM w' w.heap.size [(.int .i64 0), (.slice none 0 0)] -> aW w w' eT -> w'.heap.size = w.heap.size + 1 -> K (.pointer (some ⟨w.heap.size, 0, none⟩)) w') : aD pg (fU 122) w K := oS (i := Tryz.t122) aBi rfl hk
theorem vH {b off : Nat} {cs : List aNF} {w : aNE} {xs : Array aNF} {K : aNF -> aNE -> Prop} (ho : eM w b cs) (hs : xs.size = 2) (hv : ∀ x ∈ xs.toList, one x = true) (h : off + 2 <= cs.length) (hk : ∀ w', eM w' b (bM cs off xs.toList) -> aW w w' (fun x => x = b) -> w'.heap.size = w.heap.size -> K undef w') : aD pg (aR 122 (.pointer (some ⟨b, off, none⟩)) (.agg xs)) w K := pZ (v := .agg xs) aBi ho hs hv h hk
theorem OJ {b off : Nat} {cs : List aNF} {w : aNE} (ho : eM w b cs) (h : off + 2 <= cs.length) : (aL 122 (.pointer (some ⟨b, off, none⟩))).run pg w = .ok (.value (.agg ((cs.drop off).take 2).toArray)) w := zC Tryz.underlying122 rfl aBi ho h
theorem aFe : (pg).info? 73 = some Tryz.t73 := by kernel_rfl
theorem TD {w : aNE} {K : aNF -> aNE -> Prop} (hk : ∀ w', eM w' w.heap.size [(.int .i64 0), (.int .i64 0), (.int .i64 0), (.int .i64 0)] -> aW w w' eT -> w'.heap.size = w.heap.size + 1 -> K (.pointer (some ⟨w.heap.size, 0, none⟩)) w') : aD pg (fU 73) w K := oS (i := Tryz.t73) aFe rfl hk
theorem Wf {b off : Nat} {cs : List aNF} {w : aNE} {xs : Array aNF} {K : aNF -> aNE -> Prop} (ho : eM w b cs) (hs : xs.size = 4) (hv : ∀ x ∈ xs.toList, one x = true) (h : off + 4 <= cs.length) (hk : ∀ w', eM w' b (bM cs off xs.toList) -> aW w w' (fun x => x = b) -> w'.heap.size = w.heap.size -> K undef w') : aD pg (aR 73 (.pointer (some ⟨b, off, none⟩)) (.agg xs)) w K := pZ (v := .agg xs) aFe ho hs hv h hk
theorem nN {k : IntKind} {a : Int} (b o : Nat) (w : aNE) (h0 : 0 <= a) (h1 : a < 4) : (cI 73 (.pointer (some ⟨b, o, none⟩)) (.int k a)).run pg w = .ok (.value (.pointer (some ⟨b, o + a.toNat, none⟩))) w := aqS rfl Tryz.underlying73 Bg b o h0 (by simpa using h1)
theorem aB2 : (pg).info? 128 = some Tryz.t128 := by kernel_rfl
theorem wW {w : aNE} {K : aNF -> aNE -> Prop} (hk : ∀ w', eM w' w.heap.size [(.int .i64 0), (.slice none 0 0)] -> aW w w' eT -> w'.heap.size = w.heap.size + 1 -> K (.pointer (some ⟨w.heap.size, 0, none⟩)) w') : aD pg (fU 128) w K := oS (i := Tryz.t128) aB2 rfl hk
theorem sG {b off : Nat} {cs : List aNF} {w : aNE} {xs : Array aNF} {K : aNF -> aNE -> Prop} (ho : eM w b cs) (hs : xs.size = 2) (hv : ∀ x ∈ xs.toList, one x = true) (h : off + 2 <= cs.length) (hk : ∀ w', eM w' b (bM cs off xs.toList) -> aW w w' (fun x => x = b) -> w'.heap.size = w.heap.size -> K undef w') : aD pg (aR 128 (.pointer (some ⟨b, off, none⟩)) (.agg xs)) w K := pZ (v := .agg xs) aB2 ho hs hv h hk
theorem aBp : (pg).info? 133 = some Tryz.t133 := by kernel_rfl
theorem jU {w : aNE} {K : aNF -> aNE -> Prop} (hk : ∀ w', eM w' w.heap.size [(.slice none 0 0), (.int .i64 0)] -> aW w w' eT -> w'.heap.size = w.heap.size + 1 -> K (.pointer (some ⟨w.heap.size, 0, none⟩)) w') : aD pg (fU 133) w K := oS (i := Tryz.t133) aBp rfl hk
theorem cL {b off : Nat} {cs : List aNF} {w : aNE} {xs : Array aNF} {K : aNF -> aNE -> Prop} (ho : eM w b cs) (hs : xs.size = 2) (hv : ∀ x ∈ xs.toList, one x = true) (h : off + 2 <= cs.length) (hk : ∀ w', eM w' b (bM cs off xs.toList) -> aW w w' (fun x => x = b) -> w'.heap.size = w.heap.size -> K undef w') : aD pg (aR 133 (.pointer (some ⟨b, off, none⟩)) (.agg xs)) w K := pZ (v := .agg xs) aBp ho hs hv h hk
theorem pW {b off : Nat} {cs : List aNF} {w : aNE} (ho : eM w b cs) (h : off + 2 <= cs.length) : (aL 128 (.pointer (some ⟨b, off, none⟩))).run pg w = .ok (.value (.agg ((cs.drop off).take 2).toArray)) w := zC Tryz.underlying128 rfl aB2 ho h
theorem aBS : (pg).info? 138 = some Tryz.t138 := by kernel_rfl
theorem BL {w : aNE} {K : aNF -> aNE -> Prop} (hk : ∀ w', eM w' w.heap.size [(.int .i64 0), (.slice none 0 0)] -> aW w w' eT -> w'.heap.size = w.heap.size + 1 -> K (.pointer (some ⟨w.heap.size, 0, none⟩)) w') : aD pg (fU 138) w K := oS (i := Tryz.t138) aBS rfl hk
theorem Az {b off : Nat} {cs : List aNF} {w : aNE} {xs : Array aNF} {K : aNF -> aNE -> Prop} (ho : eM w b cs) (hs : xs.size = 2) (hv : ∀ x ∈ xs.toList, one x = true) (h : off + 2 <= cs.length) (hk : ∀ w', eM w' b (bM cs off xs.toList) -> aW w w' (fun x => x = b) -> w'.heap.size = w.heap.size -> K undef w') : aD pg (aR 138 (.pointer (some ⟨b, off, none⟩)) (.agg xs)) w K := pZ (v := .agg xs) aBS ho hs hv h hk
theorem vL {b off : Nat} {cs : List aNF} {w : aNE} (ho : eM w b cs) (h : off + 2 <= cs.length) : (aL 138 (.pointer (some ⟨b, off, none⟩))).run pg w = .ok (.value (.agg ((cs.drop off).take 2).toArray)) w := zC Tryz.underlying138 rfl aBS ho h
theorem fM {b off : Nat} {cs : List aNF} {w : aNE} (ho : eM w b cs) (h : off + 2 <= cs.length) : (aL 133 (.pointer (some ⟨b, off, none⟩))).run pg w = .ok (.value (.agg ((cs.drop off).take 2).toArray)) w := zC Tryz.underlying133 rfl aBp ho h
theorem aGJ : (pg).info? 136 = some Tryz.t136 := by kernel_rfl
theorem bN (b o : Nat) (w : aNE) : (aK 138 (.pointer (some ⟨b, o, none⟩)) 1).run pg w = .ok (.value (.pointer (some ⟨b, o + 1, none⟩))) w := jP (i := 1) Tryz.underlying138 rfl aGJ (by decide) _
theorem bG (x : Addr) (w : aNE) : (aL 136 (.pointer (some x))).run pg w = ldC (w.cell? x) w (far pg 136 x w) := ahP Tryz.underlying136 rfl x w
theorem amO : (pg).info? 145 = some Tryz.t145 := by kernel_rfl
theorem bU {k : IntKind} {a : Int} (b o n c : Nat) (w : aNE) (h0 : 0 <= a) (h1 : a < n) : (cI 136 (.slice (some ⟨b, o, none⟩) n c) (.int k a)).run pg w = .ok (.value (.pointer (some ⟨b, o + a.toNat * 3, none⟩))) w := SC rfl Tryz.underlying136 amO b o n c h0 h1
theorem Vg {b off : Nat} {cs : List aNF} {w : aNE} (ho : eM w b cs) (h : off + 3 <= cs.length) : (aL 145 (.pointer (some ⟨b, off, none⟩))).run pg w = .ok (.value (.agg ((cs.drop off).take 3).toArray)) w := zC Tryz.underlying145 rfl amO ho h
theorem Wi {w : aNE} {K : aNF -> aNE -> Prop} (hk : ∀ w', eM w' w.heap.size [(.int .i64 0), (.int .i64 0), (.int .i64 0)] -> aW w w' eT -> w'.heap.size = w.heap.size + 1 -> K (.pointer (some ⟨w.heap.size, 0, none⟩)) w') : aD pg (fU 145) w K := oS (i := Tryz.t145) amO rfl hk
theorem Vx {b off : Nat} {cs : List aNF} {w : aNE} {xs : Array aNF} {K : aNF -> aNE -> Prop} (ho : eM w b cs) (hs : xs.size = 3) (hv : ∀ x ∈ xs.toList, one x = true) (h : off + 3 <= cs.length) (hk : ∀ w', eM w' b (bM cs off xs.toList) -> aW w w' (fun x => x = b) -> w'.heap.size = w.heap.size -> K undef w') : aD pg (aR 145 (.pointer (some ⟨b, off, none⟩)) (.agg xs)) w K := pZ (v := .agg xs) amO ho hs hv h hk
theorem bV (b o : Nat) (w : aNE) : (aK 145 (.pointer (some ⟨b, o, none⟩)) 0).run pg w = .ok (.value (.pointer (some ⟨b, o, none⟩))) w := jP (i := 0) Tryz.underlying145 rfl Bg (by decide) _
theorem cP (b o : Nat) (w : aNE) : (aK 145 (.pointer (some ⟨b, o, none⟩)) 1).run pg w = .ok (.value (.pointer (some ⟨b, o + 1, none⟩))) w := jP (i := 1) Tryz.underlying145 rfl Bg (by decide) _
theorem gN  (w : aNE) : (fT 148 []).run pg w = .ok (.value (.agg #[(.int .i64 0), (.int .i64 0)])) w := by kernel_rfl
theorem aBz : (pg).info? 148 = some Tryz.t148 := by kernel_rfl
theorem SS {n : Nat} {ps : List (Nat × aNF)} {cells : Array aNF} {w : aNE} (h1 : ¬ n * 2 > 2 ^ 24) (h0 : ¬ n * 2 = 0) (hf : Go.Instr.fill (fun j => some (j * 2, 2)) ((Array.range (n * 2)).map ((Tryz.t148.zero.get!).cells[· % (Tryz.t148.zero.get!).cells.size]!)) ps = some cells) {K : aNF -> aNE -> Prop} (hk : ∀ w', eM w' w.heap.size cells.toList -> aW w w' eT -> w'.heap.size = w.heap.size + 1 -> K (.slice (some ⟨w.heap.size, 0, none⟩) n n) w') : aD pg (cV 84 n ps) w K := Il (i := Tryz.t148) Tryz.underlying84 aBz rfl h1 h0 hf hk
theorem xW {base n m : Nat} {ty : TypeId} {w : aNE} {v x : aNF} {l news : List aNF} (h : sV w base 2 v n l) (hx : Cl w 2 x m news) (hone : ∀ y ∈ news, one y = true) (hb : base <= w.heap.size) (hbytes : (n + m) * 16 <= 140737488355328) {K : aNF -> aNE -> Prop} (hk : ∀ v' w', sV w' base 2 v' (n + m) (l ++ news) -> aW w w' (fun y => base <= y) -> K v' w') : aD pg (lG .append #[84, 84] ty [v, x]) w K := MZ (i := Tryz.t148) Tryz.underlying84 Tryz.underlying84 aBz rfl rfl rfl h hx hone hb (by omega) hbytes (by decide) hk
theorem eP (n0 : Int) (n1 : Int) (w : aNE) : (fT 148 [(0, (.int .i64 n0)), (1, (.int .i64 n1))]).run pg w = .ok (.value (.agg #[(.int .i64 n0), (.int .i64 n1)])) w := by kernel_rfl
theorem dM {k : IntKind} {a : Int} (b o n c : Nat) (w : aNE) (h0 : 0 <= a) (h1 : a < n) : (cI 84 (.slice (some ⟨b, o, none⟩) n c) (.int k a)).run pg w = .ok (.value (.pointer (some ⟨b, o + a.toNat * 2, none⟩))) w := SC rfl Tryz.underlying84 aBz b o n c h0 h1
theorem U2 {b off : Nat} {cs : List aNF} {w : aNE} {xs : Array aNF} {K : aNF -> aNE -> Prop} (ho : eM w b cs) (hs : xs.size = 2) (hv : ∀ x ∈ xs.toList, one x = true) (h : off + 2 <= cs.length) (hk : ∀ w', eM w' b (bM cs off xs.toList) -> aW w w' (fun x => x = b) -> w'.heap.size = w.heap.size -> K undef w') : aD pg (aR 148 (.pointer (some ⟨b, off, none⟩)) (.agg xs)) w K := pZ (v := .agg xs) aBz ho hs hv h hk
theorem aDr {b off : Nat} {cs : List aNF} {w : aNE} (ho : eM w b cs) (h : off + 4 <= cs.length) : (aL 73 (.pointer (some ⟨b, off, none⟩))).run pg w = .ok (.value (.agg ((cs.drop off).take 4).toArray)) w := zC Tryz.underlying73 rfl aFe ho h
theorem fP (b o : Nat) (w : aNE) : (aK 92 (.pointer (some ⟨b, o, none⟩)) 0).run pg w = .ok (.value (.pointer (some ⟨b, o, none⟩))) w := jP (i := 0) Tryz.underlying92 rfl azN (by decide) _
theorem lE {k k' : IntKind} {hi mx : Int} (a : Option Addr) (n c : Nat) (w : aNE) (h0 : 0 <= hi) (h1 : hi <= mx) (h2 : mx <= c) : (lZ 22 (.slice a n c) none (some (.int k hi)) (some (.int k' mx))).run pg w = .ok (.value (.slice (mW a mx.toNat 0 1) (hi.toNat - 0) (mx.toNat - 0))) w := aD7 Tryz.underlying22 Sr a n c h0 h1 h2
theorem kF {k : IntKind} (a : Int) (w : aNE) : (jG 94 24 (.int k a)).run pg w = .ok (.value (.int .u64 (IntKind.u64.wrap a))) w := H5 Tryz.underlying94 Tryz.underlying24
theorem kB {k : IntKind} (a : Int) (w : aNE) : (jG 24 94 (.int k a)).run pg w = .ok (.value (.int .u32 (IntKind.u32.wrap a))) w := H5 Tryz.underlying24 Tryz.underlying94
theorem Qq {b off : Nat} {cs : List aNF} {w : aNE} (ho : eM w b cs) (h : off + 2 <= cs.length) {K : aNF -> Prop} (hk : K (.agg ((cs.drop off).take 2).toArray)) : An pg 100 (.pointer (some ⟨b, off, none⟩)) w K := Gz Tryz.underlying100 rfl aBg ho h hk
theorem fY  (w : aNE) : (fT 100 []).run pg w = .ok (.value (.agg #[(.int .i64 0), (.slice none 0 0)])) w := by kernel_rfl
theorem iI (n0 : Int) (w : aNE) : (fT 100 [(0, (.int .i64 n0))]).run pg w = .ok (.value (.agg #[(.int .i64 n0), (.slice none 0 0)])) w := by kernel_rfl
theorem bW (b o : Nat) (w : aNE) : (aK 100 (.pointer (some ⟨b, o, none⟩)) 0).run pg w = .ok (.value (.pointer (some ⟨b, o, none⟩))) w := jP (i := 0) Tryz.underlying100 rfl Bg (by decide) _
theorem aH4 : (pg).info? 42 = some Tryz.t42 := by kernel_rfl
theorem bL (b o : Nat) (w : aNE) : (aK 100 (.pointer (some ⟨b, o, none⟩)) 1).run pg w = .ok (.value (.pointer (some ⟨b, o + 1, none⟩))) w := jP (i := 1) Tryz.underlying100 rfl aH4 (by decide) _
theorem dT (x : Addr) (w : aNE) : (aL 42 (.pointer (some x))).run pg w = ldC (w.cell? x) w (far pg 42 x w) := ahP Tryz.underlying42 rfl x w
theorem Te {base n m : Nat} {ty : TypeId} {w : aNE} {v x : aNF} {l news : List aNF} (h : sV w base 1 v n l) (hx : Cl w 1 x m news) (hone : ∀ y ∈ news, one y = true) (hb : base <= w.heap.size) (hbytes : (n + m) * 8 <= 140737488355328) {K : aNF -> aNE -> Prop} (hk : ∀ v' w', sV w' base 1 v' (n + m) (l ++ news) -> aW w w' (fun y => base <= y) -> K v' w') : aD pg (lG .append #[42, 42] ty [v, x]) w K := MZ (i := Tryz.t3) Tryz.underlying42 Tryz.underlying42 Bg rfl rfl rfl h hx hone hb (by omega) hbytes (by decide) hk
theorem apS {b off : Nat} {cs : List aNF} {w : aNE} {v : aNF} {K : aNF -> aNE -> Prop} (ho : eM w b cs) (hv : one v = true) (h : off < cs.length) (hk : ∀ w', eM w' b (cs.set off v) -> aW w w' (fun x => x = b) -> w'.heap.size = w.heap.size -> K undef w') : aD pg (aR 42 (.pointer (some ⟨b, off, none⟩)) v) w K := uX aH4 rfl ho hv h hk
theorem gB {ty : TypeId} (x : Option Addr) (n c : Nat) (w : aNE) : (lG .len #[42] ty [.slice x n c]).run pg w = .ok (.value (.int .i64 n)) w := ZK Tryz.underlying42 x n c
theorem gG (a0 : Option Addr) (l0 c0 : Nat) (n1 : Int) (w : aNE) : (fT 165 [(0, (.slice a0 l0 c0)), (1, (.int .i64 n1))]).run pg w = .ok (.value (.agg #[(.slice a0 l0 c0), (.int .i64 n1)])) w := by kernel_rfl
theorem aAj {b off : Nat} {cs : List aNF} {w : aNE} (ho : eM w b cs) (h : off + 2 <= cs.length) {K : aNF -> Prop} (hk : K (.agg ((cs.drop off).take 2).toArray)) : An pg 108 (.pointer (some ⟨b, off, none⟩)) w K := Gz Tryz.underlying108 rfl aBo ho h hk
theorem mA  (w : aNE) : (fT 108 []).run pg w = .ok (.value (.agg #[(.int .i64 0), (.slice none 0 0)])) w := by kernel_rfl
theorem jC (n0 : Int) (a1 : Option Addr) (l1 c1 : Nat) (w : aNE) : (fT 108 [(0, (.int .i64 n0)), (1, (.slice a1 l1 c1))]).run pg w = .ok (.value (.agg #[(.int .i64 n0), (.slice a1 l1 c1)])) w := by kernel_rfl
theorem aGc {k : IntKind} {n : Int} {w : aNE} {K : aNF -> aNE -> Prop} (h0 : 0 <= n) (hn : 8 * n <= 2 ^ 48) (hk : ∀ w', eM w' w.heap.size (List.replicate n.toNat (.int .i64 0)) -> aW w w' eT -> w'.heap.size = w.heap.size + 1 -> K (.slice (some ⟨w.heap.size, 0, none⟩) n.toNat n.toNat) w') : aD pg (qC 42 (.int k n) (.int k n)) w K := aDu (i := Tryz.t3) Tryz.underlying42 Bg rfl rfl rfl h0 hn (by omega) hk
theorem iR {ty : TypeId} (x : Option Addr) (n c : Nat) (w : aNE) : (lG .len #[106] ty [.slice x n c]).run pg w = .ok (.value (.int .i64 n)) w := ZK Tryz.underlying106 x n c
theorem iM (b o : Nat) (w : aNE) : (aK 115 (.pointer (some ⟨b, o, none⟩)) 2).run pg w = .ok (.value (.pointer (some ⟨b, o + 2, none⟩))) w := jP (i := 2) Tryz.underlying115 rfl Bg (by decide) _
theorem jR (b o : Nat) (w : aNE) : (aK 108 (.pointer (some ⟨b, o, none⟩)) 0).run pg w = .ok (.value (.pointer (some ⟨b, o, none⟩))) w := jP (i := 0) Tryz.underlying108 rfl Bg (by decide) _
theorem eY {ox oy : Operand} (x : Option Addr) (w : aNE) : (aI .eql 103 ox oy (.pointer x) (.pointer none)).run pg w = .ok (.value (.bool x.isNone)) w := axX Tryz.underlying103 x
theorem dZ (b o : Nat) (w : aNE) : (aK 165 (.pointer (some ⟨b, o, none⟩)) 1).run pg w = .ok (.value (.pointer (some ⟨b, o + 1, none⟩))) w := jP (i := 1) Tryz.underlying165 rfl Bg (by decide) _
theorem VT {b off : Nat} {cs : List aNF} {w : aNE} (ho : eM w b cs) (h : off + 2 <= cs.length) {K : aNF -> Prop} (hk : K (.agg ((cs.drop off).take 2).toArray)) : An pg 122 (.pointer (some ⟨b, off, none⟩)) w K := Gz Tryz.underlying122 rfl aBi ho h hk
theorem kN  (w : aNE) : (fT 122 []).run pg w = .ok (.value (.agg #[(.int .i64 0), (.slice none 0 0)])) w := by kernel_rfl
theorem fG {ty : TypeId} (x : Option Addr) (n c : Nat) (w : aNE) : (lG .len #[152] ty [.slice x n c]).run pg w = .ok (.value (.int .i64 n)) w := ZK Tryz.underlying152 x n c
theorem azA : (pg).info? 171 = some Tryz.t171 := by kernel_rfl
theorem eN {k : IntKind} {a : Int} (b o n c : Nat) (w : aNE) (h0 : 0 <= a) (h1 : a < n) : (cI 152 (.slice (some ⟨b, o, none⟩) n c) (.int k a)).run pg w = .ok (.value (.pointer (some ⟨b, o + a.toNat * 2, none⟩))) w := SC rfl Tryz.underlying152 azA b o n c h0 h1
theorem SO {b off : Nat} {cs : List aNF} {w : aNE} (ho : eM w b cs) (h : off + 2 <= cs.length) : (aL 171 (.pointer (some ⟨b, off, none⟩))).run pg w = .ok (.value (.agg ((cs.drop off).take 2).toArray)) w := zC Tryz.underlying171 rfl azA ho h
theorem UO {w : aNE} {K : aNF -> aNE -> Prop} (hk : ∀ w', eM w' w.heap.size [(.int .i64 0), (.int .i64 0)] -> aW w w' eT -> w'.heap.size = w.heap.size + 1 -> K (.pointer (some ⟨w.heap.size, 0, none⟩)) w') : aD pg (fU 171) w K := oS (i := Tryz.t171) azA rfl hk
theorem HD {b off : Nat} {cs : List aNF} {w : aNE} {xs : Array aNF} {K : aNF -> aNE -> Prop} (ho : eM w b cs) (hs : xs.size = 2) (hv : ∀ x ∈ xs.toList, one x = true) (h : off + 2 <= cs.length) (hk : ∀ w', eM w' b (bM cs off xs.toList) -> aW w w' (fun x => x = b) -> w'.heap.size = w.heap.size -> K undef w') : aD pg (aR 171 (.pointer (some ⟨b, off, none⟩)) (.agg xs)) w K := pZ (v := .agg xs) azA ho hs hv h hk
theorem fX (b o : Nat) (w : aNE) : (aK 122 (.pointer (some ⟨b, o, none⟩)) 0).run pg w = .ok (.value (.pointer (some ⟨b, o, none⟩))) w := jP (i := 0) Tryz.underlying122 rfl Bg (by decide) _
theorem dD (b o : Nat) (w : aNE) : (aK 171 (.pointer (some ⟨b, o, none⟩)) 0).run pg w = .ok (.value (.pointer (some ⟨b, o, none⟩))) w := jP (i := 0) Tryz.underlying171 rfl Bg (by decide) _
theorem axM : (pg).info? 173 = some Tryz.t173 := by kernel_rfl
theorem ajL {k : IntKind} {n : Int} {w : aNE} {K : aNF -> aNE -> Prop} (h0 : 0 <= n) (hn : 16 * n <= 2 ^ 48) (hk : ∀ w', eM w' w.heap.size (FL n.toNat [(.int .u8 0), (.int .i64 0)]) -> aW w w' eT -> w'.heap.size = w.heap.size + 1 -> K (.slice (some ⟨w.heap.size, 0, none⟩) n.toNat n.toNat) w') : aD pg (qC 120 (.int k n) (.int k n)) w K := amE (i := Tryz.t173) Tryz.underlying120 axM rfl (by decide) rfl rfl h0 hn (by omega) hk
theorem aG5 : (pg).info? 120 = some Tryz.t120 := by kernel_rfl
theorem fI (b o : Nat) (w : aNE) : (aK 122 (.pointer (some ⟨b, o, none⟩)) 1).run pg w = .ok (.value (.pointer (some ⟨b, o + 1, none⟩))) w := jP (i := 1) Tryz.underlying122 rfl aG5 (by decide) _
theorem aqY {b off : Nat} {cs : List aNF} {w : aNE} {v : aNF} {K : aNF -> aNE -> Prop} (ho : eM w b cs) (hv : one v = true) (h : off < cs.length) (hk : ∀ w', eM w' b (cs.set off v) -> aW w w' (fun x => x = b) -> w'.heap.size = w.heap.size -> K undef w') : aD pg (aR 120 (.pointer (some ⟨b, off, none⟩)) v) w K := uX aG5 rfl ho hv h hk
theorem eZ (b o : Nat) (w : aNE) : (aK 171 (.pointer (some ⟨b, o, none⟩)) 1).run pg w = .ok (.value (.pointer (some ⟨b, o + 1, none⟩))) w := jP (i := 1) Tryz.underlying171 rfl Bg (by decide) _
theorem hJ (x : Addr) (w : aNE) : (aL 120 (.pointer (some x))).run pg w = ldC (w.cell? x) w (far pg 120 x w) := ahP Tryz.underlying120 rfl x w
theorem iV (n0 : Int) (n1 : Int) (w : aNE) : (fT 173 [(0, (.int .u8 n0)), (1, (.int .i64 n1))]).run pg w = .ok (.value (.agg #[(.int .u8 n0), (.int .i64 n1)])) w := by kernel_rfl
theorem jB {k : IntKind} {a : Int} (b o n c : Nat) (w : aNE) (h0 : 0 <= a) (h1 : a < n) : (cI 120 (.slice (some ⟨b, o, none⟩) n c) (.int k a)).run pg w = .ok (.value (.pointer (some ⟨b, o + a.toNat * 2, none⟩))) w := SC rfl Tryz.underlying120 axM b o n c h0 h1
theorem Xt {b off : Nat} {cs : List aNF} {w : aNE} {xs : Array aNF} {K : aNF -> aNE -> Prop} (ho : eM w b cs) (hs : xs.size = 2) (hv : ∀ x ∈ xs.toList, one x = true) (h : off + 2 <= cs.length) (hk : ∀ w', eM w' b (bM cs off xs.toList) -> aW w w' (fun x => x = b) -> w'.heap.size = w.heap.size -> K undef w') : aD pg (aR 173 (.pointer (some ⟨b, off, none⟩)) (.agg xs)) w K := pZ (v := .agg xs) axM ho hs hv h hk
theorem azG {b off : Nat} {cs : List aNF} {w : aNE} (ho : eM w b cs) (h : off + 2 <= cs.length) : (aL 173 (.pointer (some ⟨b, off, none⟩))).run pg w = .ok (.value (.agg ((cs.drop off).take 2).toArray)) w := zC Tryz.underlying173 rfl axM ho h
theorem azY {w : aNE} {K : aNF -> aNE -> Prop} (hk : ∀ w', eM w' w.heap.size [(.int .u8 0), (.int .i64 0)] -> aW w w' eT -> w'.heap.size = w.heap.size + 1 -> K (.pointer (some ⟨w.heap.size, 0, none⟩)) w') : aD pg (fU 173) w K := oS (i := Tryz.t173) axM rfl hk
theorem gE (b o : Nat) (w : aNE) : (aK 173 (.pointer (some ⟨b, o, none⟩)) 0).run pg w = .ok (.value (.pointer (some ⟨b, o, none⟩))) w := jP (i := 0) Tryz.underlying173 rfl Sr (by decide) _
theorem iE (b o : Nat) (w : aNE) : (aK 173 (.pointer (some ⟨b, o, none⟩)) 1).run pg w = .ok (.value (.pointer (some ⟨b, o + 1, none⟩))) w := jP (i := 1) Tryz.underlying173 rfl Bg (by decide) _
theorem aDl {b off : Nat} {cs : List aNF} {w : aNE} (ho : eM w b cs) (h : off + 4 <= cs.length) {K : aNF -> Prop} (hk : K (.agg ((cs.drop off).take 4).toArray)) : An pg 73 (.pointer (some ⟨b, off, none⟩)) w K := Gz Tryz.underlying73 rfl aFe ho h hk
theorem Hn {b off : Nat} {cs : List aNF} {w : aNE} (ho : eM w b cs) (h : off + 2 <= cs.length) {K : aNF -> Prop} (hk : K (.agg ((cs.drop off).take 2).toArray)) : An pg 128 (.pointer (some ⟨b, off, none⟩)) w K := Gz Tryz.underlying128 rfl aB2 ho h hk
theorem fC (a0 : Option Addr) (l0 c0 : Nat) (w : aNE) : (fT 176 [(0, (.slice a0 l0 c0))]).run pg w = .ok (.value (.agg #[(.slice a0 l0 c0), (.int .i64 0)])) w := by kernel_rfl
theorem aBn : (pg).info? 176 = some Tryz.t176 := by kernel_rfl
theorem Br {w : aNE} {K : aNF -> aNE -> Prop} (hk : ∀ w', eM w' w.heap.size [(.slice none 0 0), (.int .i64 0)] -> aW w w' eT -> w'.heap.size = w.heap.size + 1 -> K (.pointer (some ⟨w.heap.size, 0, none⟩)) w') : aD pg (fU 176) w K := oS (i := Tryz.t176) aBn rfl hk
theorem eX {b off : Nat} {cs : List aNF} {w : aNE} {xs : Array aNF} {K : aNF -> aNE -> Prop} (ho : eM w b cs) (hs : xs.size = 2) (hv : ∀ x ∈ xs.toList, one x = true) (h : off + 2 <= cs.length) (hk : ∀ w', eM w' b (bM cs off xs.toList) -> aW w w' (fun x => x = b) -> w'.heap.size = w.heap.size -> K undef w') : aD pg (aR 176 (.pointer (some ⟨b, off, none⟩)) (.agg xs)) w K := pZ (v := .agg xs) aBn ho hs hv h hk
theorem jL {b off : Nat} {cs : List aNF} {w : aNE} (ho : eM w b cs) (h : off + 2 <= cs.length) : (aL 176 (.pointer (some ⟨b, off, none⟩))).run pg w = .ok (.value (.agg ((cs.drop off).take 2).toArray)) w := zC Tryz.underlying176 rfl aBn ho h
theorem dK  (w : aNE) : (fT 128 []).run pg w = .ok (.value (.agg #[(.int .i64 0), (.slice none 0 0)])) w := by kernel_rfl
theorem eH (n0 : Int) (w : aNE) : (fT 128 [(0, (.int .i64 n0))]).run pg w = .ok (.value (.agg #[(.int .i64 n0), (.slice none 0 0)])) w := by kernel_rfl
theorem bB (b o : Nat) (w : aNE) : (aK 128 (.pointer (some ⟨b, o, none⟩)) 0).run pg w = .ok (.value (.pointer (some ⟨b, o, none⟩))) w := jP (i := 0) Tryz.underlying128 rfl Bg (by decide) _
theorem aN (b o : Nat) (w : aNE) : (aK 128 (.pointer (some ⟨b, o, none⟩)) 1).run pg w = .ok (.value (.pointer (some ⟨b, o + 1, none⟩))) w := jP (i := 1) Tryz.underlying128 rfl aH4 (by decide) _
theorem lX {b off : Nat} {cs : List aNF} {w : aNE} (ho : eM w b cs) (h : off + 2 <= cs.length) {K : aNF -> Prop} (hk : K (.agg ((cs.drop off).take 2).toArray)) : An pg 133 (.pointer (some ⟨b, off, none⟩)) w K := Gz Tryz.underlying133 rfl aBp ho h hk
theorem eD  (w : aNE) : (fT 133 []).run pg w = .ok (.value (.agg #[(.slice none 0 0), (.int .i64 0)])) w := by kernel_rfl
theorem lI {ty : TypeId} (x : Option Addr) (n c : Nat) (w : aNE) : (lG .len #[131] ty [.slice x n c]).run pg w = .ok (.value (.int .i64 n)) w := ZK Tryz.underlying131 x n c
theorem aGh : (pg).info? 4 = some Tryz.t4 := by kernel_rfl
theorem nQ {k : IntKind} {a : Int} (b o n c : Nat) (w : aNE) (h0 : 0 <= a) (h1 : a < n) : (cI 131 (.slice (some ⟨b, o, none⟩) n c) (.int k a)).run pg w = .ok (.value (.pointer (some ⟨b, o + a.toNat, none⟩))) w := XV rfl Tryz.underlying131 aGh b o n c h0 h1
theorem uF (x : Addr) (w : aNE) : (aL 4 (.pointer (some x))).run pg w = ldC (w.cell? x) w (far pg 4 x w) := ahP Tryz.underlying4 rfl x w
theorem lM {k : IntKind} {hi : Int} (a : Option Addr) (n c : Nat) (w : aNE) (h0 : 0 <= hi) (h1 : hi <= c) : (lZ 131 (.slice a n c) none (some (.int k hi)) none).run pg w = .ok (.value (.slice (mW a c (0) 1) (hi.toNat - 0) (c - 0))) w := awP Tryz.underlying131 aGh _ n c h0 h1
theorem fD (a0 : Option Addr) (l0 c0 : Nat) (w : aNE) : (fT 133 [(0, (.slice a0 l0 c0))]).run pg w = .ok (.value (.agg #[(.slice a0 l0 c0), (.int .i64 0)])) w := by kernel_rfl
theorem Vb {b off : Nat} {cs : List aNF} {w : aNE} (ho : eM w b cs) (h : off + 2 <= cs.length) {K : aNF -> Prop} (hk : K (.agg ((cs.drop off).take 2).toArray)) : An pg 138 (.pointer (some ⟨b, off, none⟩)) w K := Gz Tryz.underlying138 rfl aBS ho h hk
theorem fA  (w : aNE) : (fT 138 []).run pg w = .ok (.value (.agg #[(.int .i64 0), (.slice none 0 0)])) w := by kernel_rfl
theorem fB (n0 : Int) (w : aNE) : (fT 138 [(0, (.int .i64 n0))]).run pg w = .ok (.value (.agg #[(.int .i64 n0), (.slice none 0 0)])) w := by kernel_rfl
theorem eI (n0 : Int) (w : aNE) : (fT 145 [(0, (.int .i64 n0))]).run pg w = .ok (.value (.agg #[(.int .i64 n0), (.int .i64 0), (.int .i64 0)])) w := by kernel_rfl
theorem S4 {n : Nat} {ps : List (Nat × aNF)} {cells : Array aNF} {w : aNE} (h1 : ¬ n * 3 > 2 ^ 24) (h0 : ¬ n * 3 = 0) (hf : Go.Instr.fill (fun j => some (j * 3, 3)) ((Array.range (n * 3)).map ((Tryz.t145.zero.get!).cells[· % (Tryz.t145.zero.get!).cells.size]!)) ps = some cells) {K : aNF -> aNE -> Prop} (hk : ∀ w', eM w' w.heap.size cells.toList -> aW w w' eT -> w'.heap.size = w.heap.size + 1 -> K (.slice (some ⟨w.heap.size, 0, none⟩) n n) w') : aD pg (cV 136 n ps) w K := Il (i := Tryz.t145) Tryz.underlying136 amO rfl h1 h0 hf hk
theorem xR {base n m : Nat} {ty : TypeId} {w : aNE} {v x : aNF} {l news : List aNF} (h : sV w base 3 v n l) (hx : Cl w 3 x m news) (hone : ∀ y ∈ news, one y = true) (hb : base <= w.heap.size) (hbytes : (n + m) * 24 <= 140737488355328) {K : aNF -> aNE -> Prop} (hk : ∀ v' w', sV w' base 3 v' (n + m) (l ++ news) -> aW w w' (fun y => base <= y) -> K v' w') : aD pg (lG .append #[136, 136] ty [v, x]) w K := MZ (i := Tryz.t145) Tryz.underlying136 Tryz.underlying136 amO rfl rfl rfl h hx hone hb (by omega) hbytes (by decide) hk
theorem SJ {b off : Nat} {cs : List aNF} {w : aNE} {v : aNF} {K : aNF -> aNE -> Prop} (ho : eM w b cs) (hv : one v = true) (h : off < cs.length) (hk : ∀ w', eM w' b (cs.set off v) -> aW w w' (fun x => x = b) -> w'.heap.size = w.heap.size -> K undef w') : aD pg (aR 136 (.pointer (some ⟨b, off, none⟩)) v) w K := uX aGJ rfl ho hv h hk
theorem aJm : (pg).info? 183 = some Tryz.t183 := by kernel_rfl
theorem aBK {w : aNE} {K : aNF -> aNE -> Prop} (hk : ∀ w', eM w' w.heap.size [(.int .i64 0), (.int .i64 0), (.int .i64 0), (.int .i64 0), (.int .i64 0), (.int .i64 0), (.int .i64 0), (.int .i64 0), (.int .i64 0), (.int .i64 0), (.int .i64 0), (.int .i64 0), (.int .i64 0), (.int .i64 0), (.int .i64 0), (.int .i64 0), (.int .i64 0), (.int .i64 0), (.int .i64 0), (.int .i64 0), (.int .i64 0), (.int .i64 0), (.int .i64 0), (.int .i64 0), (.int .i64 0), (.int .i64 0), (.int .i64 0), (.int .i64 0), (.int .i64 0), (.int .i64 0), (.int .i64 0), (.int .i64 0), (.int .i64 0), (.int .i64 0), (.int .i64 0), (.int .i64 0), (.int .i64 0), (.int .i64 0), (.int .i64 0), (.int .i64 0), (.int .i64 0), (.int .i64 0), (.int .i64 0), (.int .i64 0), (.int .i64 0), (.int .i64 0), (.int .i64 0), (.int .i64 0), (.int .i64 0), (.int .i64 0), (.int .i64 0), (.int .i64 0), (.int .i64 0), (.int .i64 0), (.int .i64 0), (.int .i64 0), (.int .i64 0), (.int .i64 0), (.int .i64 0), (.int .i64 0), (.int .i64 0), (.int .i64 0), (.int .i64 0), (.int .i64 0), (.int .i64 0), (.int .i64 0), (.int .i64 0), (.int .i64 0), (.int .i64 0), (.int .i64 0), (.int .i64 0), (.int .i64 0), (.int .i64 0), (.int .i64 0), (.int .i64 0), (.int .i64 0), (.int .i64 0), (.int .i64 0), (.int .i64 0), (.int .i64 0), (.int .i64 0), (.int .i64 0), (.int .i64 0), (.int .i64 0), (.int .i64 0), (.int .i64 0), (.int .i64 0), (.int .i64 0), (.int .i64 0), (.int .i64 0), (.int .i64 0), (.int .i64 0), (.int .i64 0), (.int .i64 0), (.int .i64 0), (.int .i64 0), (.int .i64 0), (.int .i64 0), (.int .i64 0), (.int .i64 0), (.int .i64 0), (.int .i64 0), (.int .i64 0), (.int .i64 0), (.int .i64 0), (.int .i64 0), (.int .i64 0), (.int .i64 0), (.int .i64 0), (.int .i64 0), (.int .i64 0), (.int .i64 0), (.int .i64 0), (.int .i64 0), (.int .i64 0), (.int .i64 0), (.int .i64 0), (.int .i64 0), (.int .i64 0), (.int .i64 0), (.int .i64 0), (.int .i64 0), (.int .i64 0), (.int .i64 0), (.int .i64 0), (.int .i64 0), (.int .i64 0), (.int .i64 0), (.int .i64 0), (.int .i64 0), (.int .i64 0), (.int .i64 0), (.int .i64 0), (.int .i64 0), (.int .i64 0), (.int .i64 0), (.int .i64 0), (.int .i64 0), (.int .i64 0), (.int .i64 0), (.int .i64 0), (.int .i64 0), (.int .i64 0), (.int .i64 0), (.int .i64 0), (.int .i64 0), (.int .i64 0), (.int .i64 0), (.int .i64 0), (.int .i64 0), (.int .i64 0), (.int .i64 0), (.int .i64 0), (.int .i64 0), (.int .i64 0), (.int .i64 0), (.int .i64 0), (.int .i64 0), (.int .i64 0), (.int .i64 0), (.int .i64 0), (.int .i64 0), (.int .i64 0), (.int .i64 0), (.int .i64 0), (.int .i64 0), (.int .i64 0), (.int .i64 0), (.int .i64 0), (.int .i64 0), (.int .i64 0), (.int .i64 0), (.int .i64 0), (.int .i64 0), (.int .i64 0), (.int .i64 0), (.int .i64 0), (.int .i64 0), (.int .i64 0), (.int .i64 0), (.int .i64 0), (.int .i64 0), (.int .i64 0), (.int .i64 0), (.int .i64 0), (.int .i64 0), (.int .i64 0), (.int .i64 0), (.int .i64 0), (.int .i64 0), (.int .i64 0), (.int .i64 0), (.int .i64 0), (.int .i64 0), (.int .i64 0), (.int .i64 0), (.int .i64 0), (.int .i64 0), (.int .i64 0), (.int .i64 0), (.int .i64 0), (.int .i64 0), (.int .i64 0), (.int .i64 0), (.int .i64 0), (.int .i64 0), (.int .i64 0), (.int .i64 0), (.int .i64 0), (.int .i64 0), (.int .i64 0), (.int .i64 0), (.int .i64 0), (.int .i64 0), (.int .i64 0), (.int .i64 0), (.int .i64 0), (.int .i64 0), (.int .i64 0), (.int .i64 0), (.int .i64 0), (.int .i64 0), (.int .i64 0), (.int .i64 0), (.int .i64 0), (.int .i64 0), (.int .i64 0), (.int .i64 0), (.int .i64 0), (.int .i64 0), (.int .i64 0), (.int .i64 0), (.int .i64 0), (.int .i64 0), (.int .i64 0), (.int .i64 0), (.int .i64 0), (.int .i64 0), (.int .i64 0), (.int .i64 0), (.int .i64 0), (.int .i64 0), (.int .i64 0), (.int .i64 0), (.int .i64 0), (.int .i64 0), (.int .i64 0), (.int .i64 0), (.int .i64 0), (.int .i64 0), (.int .i64 0), (.int .i64 0), (.int .i64 0), (.int .i64 0), (.int .i64 0), (.int .i64 0)] -> aW w w' eT -> w'.heap.size = w.heap.size + 1 -> K (.pointer (some ⟨w.heap.size, 0, none⟩)) w') : aD pg (fU 183) w K := oS (i := Tryz.t183) aJm rfl hk
theorem mR {k : IntKind} {a : Int} (b o : Nat) (w : aNE) (h0 : 0 <= a) (h1 : a < 256) : (cI 183 (.pointer (some ⟨b, o, none⟩)) (.int k a)).run pg w = .ok (.value (.pointer (some ⟨b, o + a.toNat, none⟩))) w := aqS rfl Tryz.underlying183 Bg b o h0 (by simpa using h1)
theorem dC (b o : Nat) (w : aNE) : (aK 145 (.pointer (some ⟨b, o, none⟩)) 2).run pg w = .ok (.value (.pointer (some ⟨b, o + 2, none⟩))) w := jP (i := 2) Tryz.underlying145 rfl Bg (by decide) _
theorem dR (b o : Nat) (w : aNE) : (aK 138 (.pointer (some ⟨b, o, none⟩)) 0).run pg w = .ok (.value (.pointer (some ⟨b, o, none⟩))) w := jP (i := 0) Tryz.underlying138 rfl Bg (by decide) _
theorem aEk : (pg).info? 131 = some Tryz.t131 := by kernel_rfl
theorem cJ (b o : Nat) (w : aNE) : (aK 133 (.pointer (some ⟨b, o, none⟩)) 0).run pg w = .ok (.value (.pointer (some ⟨b, o, none⟩))) w := jP (i := 0) Tryz.underlying133 rfl aEk (by decide) _
theorem lU (x : Addr) (w : aNE) : (aL 131 (.pointer (some x))).run pg w = ldC (w.cell? x) w (far pg 131 x w) := ahP Tryz.underlying131 rfl x w
theorem cN (b o : Nat) (w : aNE) : (aK 133 (.pointer (some ⟨b, o, none⟩)) 1).run pg w = .ok (.value (.pointer (some ⟨b, o + 1, none⟩))) w := jP (i := 1) Tryz.underlying133 rfl Bg (by decide) _
theorem dO {ty : TypeId} (x : Option Addr) (n c : Nat) (w : aNE) : (lG .len #[136] ty [.slice x n c]).run pg w = .ok (.value (.int .i64 n)) w := ZK Tryz.underlying136 x n c
theorem cW {ty : TypeId} (x : Option Addr) (n c : Nat) (w : aNE) : (lG .len #[84] ty [.slice x n c]).run pg w = .ok (.value (.int .i64 n)) w := ZK Tryz.underlying84 x n c
theorem cO (b o : Nat) (w : aNE) : (aK 148 (.pointer (some ⟨b, o, none⟩)) 0).run pg w = .ok (.value (.pointer (some ⟨b, o, none⟩))) w := jP (i := 0) Tryz.underlying148 rfl Bg (by decide) _
theorem dB (b o : Nat) (w : aNE) : (aK 148 (.pointer (some ⟨b, o, none⟩)) 1).run pg w = .ok (.value (.pointer (some ⟨b, o + 1, none⟩))) w := jP (i := 1) Tryz.underlying148 rfl Bg (by decide) _
theorem YQ {k : IntKind} {n : Int} {w : aNE} {K : aNF -> aNE -> Prop} (h0 : 0 <= n) (hn : 16 * n <= 2 ^ 48) (hk : ∀ w', eM w' w.heap.size (FL n.toNat [(.int .i64 0), (.int .i64 0)]) -> aW w w' eT -> w'.heap.size = w.heap.size + 1 -> K (.slice (some ⟨w.heap.size, 0, none⟩) n.toNat n.toNat) w') : aD pg (qC 152 (.int k n) (.int k n)) w K := amE (i := Tryz.t171) Tryz.underlying152 azA rfl (by decide) rfl rfl h0 hn (by omega) hk
theorem fK (n0 : Int) (n1 : Int) (w : aNE) : (fT 171 [(0, (.int .i64 n0)), (1, (.int .i64 n1))]).run pg w = .ok (.value (.agg #[(.int .i64 n0), (.int .i64 n1)])) w := by kernel_rfl
theorem akV {b off : Nat} {cs : List aNF} {w : aNE} (ho : eM w b cs) {v : aNF} (h : cs[off]? = some v) {K : aNF -> Prop} (hk : K v) : An pg 22 (.pointer (some ⟨b, off, none⟩)) w K := aE5 Tryz.underlying22 rfl ho h hk
theorem Zn {b off : Nat} {cs : List aNF} {w : aNE} (ho : eM w b cs) {v : aNF} (h : cs[off]? = some v) {K : aNF -> Prop} (hk : K v) : An pg 27 (.pointer (some ⟨b, off, none⟩)) w K := aE5 Tryz.underlying27 rfl ho h hk
theorem aCh {w : aNE} {K : aNF -> aNE -> Prop} (hk : ∀ w', eM w' w.heap.size [(.slice none 0 0)] -> aW w w' eT -> w'.heap.size = w.heap.size + 1 -> K (.pointer (some ⟨w.heap.size, 0, none⟩)) w') : aD pg (fU 22) w K := oS (i := Tryz.t22) azN rfl hk
theorem aBL {w : aNE} {K : aNF -> aNE -> Prop} (hk : ∀ w', eM w' w.heap.size [(.int .i64 0)] -> aW w w' eT -> w'.heap.size = w.heap.size + 1 -> K (.pointer (some ⟨w.heap.size, 0, none⟩)) w') : aD pg (fU 27) w K := oS (i := Tryz.t27) aEX rfl hk
theorem aHR : (pg).info? 186 = some Tryz.t186 := by kernel_rfl
theorem aqQ {w : aNE} {K : aNF -> aNE -> Prop} (hk : ∀ w', eM w' w.heap.size [(.pointer none)] -> aW w w' eT -> w'.heap.size = w.heap.size + 1 -> K (.pointer (some ⟨w.heap.size, 0, none⟩)) w') : aD pg (fU 186) w K := oS (i := Tryz.t186) aHR rfl hk
theorem aqJ {b off : Nat} {cs : List aNF} {w : aNE} {v : aNF} {K : aNF -> aNE -> Prop} (ho : eM w b cs) (hv : one v = true) (h : off < cs.length) (hk : ∀ w', eM w' b (cs.set off v) -> aW w w' (fun x => x = b) -> w'.heap.size = w.heap.size -> K undef w') : aD pg (aR 186 (.pointer (some ⟨b, off, none⟩)) v) w K := uX aHR rfl ho hv h hk
theorem gL (x : Addr) (w : aNE) : (aL 152 (.pointer (some x))).run pg w = ldC (w.cell? x) w (far pg 152 x w) := ahP Tryz.underlying152 rfl x w
theorem hZ (x : Addr) (w : aNE) : (aL 186 (.pointer (some x))).run pg w = ldC (w.cell? x) w (far pg 186 x w) := ahP Tryz.underlying186 rfl x w
theorem iW (a0 : Option Addr) (l0 c0 : Nat) (w : aNE) : (fT 192 [(0, (.slice a0 l0 c0))]).run pg w = .ok (.value (.agg #[(.slice a0 l0 c0), (.int .i64 0)])) w := by kernel_rfl
theorem fL {ox oy : Operand} (x : Option Addr) (w : aNE) : (aI .eql 156 ox oy (.pointer x) (.pointer none)).run pg w = .ok (.value (.bool x.isNone)) w := axX Tryz.underlying156 x
theorem iL (b o : Nat) (w : aNE) : (aK 192 (.pointer (some ⟨b, o, none⟩)) 0).run pg w = .ok (.value (.pointer (some ⟨b, o, none⟩))) w := jP (i := 0) Tryz.underlying192 rfl azN (by decide) _
theorem gO (b o : Nat) (w : aNE) : (aK 192 (.pointer (some ⟨b, o, none⟩)) 1).run pg w = .ok (.value (.pointer (some ⟨b, o + 1, none⟩))) w := jP (i := 1) Tryz.underlying192 rfl Bg (by decide) _
theorem aoD {k : IntKind} {n : Int} {w : aNE} {K : aNF -> aNE -> Prop} (h0 : 0 <= n) (hn : 24 * n <= 2 ^ 48) (hk : ∀ w', eM w' w.heap.size (FL n.toNat [(.int .u8 0), (.int .i64 0), (.int .i64 0)]) -> aW w w' eT -> w'.heap.size = w.heap.size + 1 -> K (.slice (some ⟨w.heap.size, 0, none⟩) n.toNat n.toNat) w') : aD pg (qC 106 (.int k n) (.int k n)) w K := amE (i := Tryz.t115) Tryz.underlying106 ayJ rfl (by decide) rfl rfl h0 hn (by omega) hk
theorem gU (b o : Nat) (w : aNE) : (aK 165 (.pointer (some ⟨b, o, none⟩)) 0).run pg w = .ok (.value (.pointer (some ⟨b, o, none⟩))) w := jP (i := 0) Tryz.underlying165 rfl azN (by decide) _
theorem lA {k : IntKind} (a : Int) (w : aNE) : (jG 94 5 (.int k a)).run pg w = .ok (.value (.int .u8 (IntKind.u8.wrap a))) w := H5 Tryz.underlying94 Tryz.underlying5
theorem aDQ {n : Nat} {ps : List (Nat × aNF)} {cells : Array aNF} {w : aNE} (h1 : ¬ n * 1 > 2 ^ 24) (h0 : ¬ n * 1 = 0) (hf : Go.Instr.fill (fun j => some (j * 1, 1)) ((Array.range (n * 1)).map ((Tryz.t4.zero.get!).cells[· % (Tryz.t4.zero.get!).cells.size]!)) ps = some cells) {K : aNF -> aNE -> Prop} (hk : ∀ w', eM w' w.heap.size cells.toList -> aW w w' eT -> w'.heap.size = w.heap.size + 1 -> K (.slice (some ⟨w.heap.size, 0, none⟩) n n) w') : aD pg (cV 131 n ps) w K := Il (i := Tryz.t4) Tryz.underlying131 aGh rfl h1 h0 hf hk
theorem aaS {base n m : Nat} {ty : TypeId} {w : aNE} {v x : aNF} {l news : List aNF} (h : sV w base 1 v n l) (hx : Cl w 1 x m news) (hone : ∀ y ∈ news, one y = true) (hb : base <= w.heap.size) (hbytes : (n + m) * 1 <= 140737488355328) {K : aNF -> aNE -> Prop} (hk : ∀ v' w', sV w' base 1 v' (n + m) (l ++ news) -> aW w w' (fun y => base <= y) -> K v' w') : aD pg (lG .append #[131, 131] ty [v, x]) w K := MZ (i := Tryz.t4) Tryz.underlying131 Tryz.underlying131 aGh rfl rfl rfl h hx hone hb (by omega) hbytes (by decide) hk
theorem pX {b off : Nat} {cs : List aNF} {w : aNE} (ho : eM w b cs) (h : off + 2 <= cs.length) {K : aNF -> Prop} (hk : K (.agg ((cs.drop off).take 2).toArray)) : An pg 176 (.pointer (some ⟨b, off, none⟩)) w K := Gz Tryz.underlying176 rfl aBn ho h hk
theorem eF (b o : Nat) (w : aNE) : (aK 176 (.pointer (some ⟨b, o, none⟩)) 0).run pg w = .ok (.value (.pointer (some ⟨b, o, none⟩))) w := jP (i := 0) Tryz.underlying176 rfl aEk (by decide) _
theorem dL (b o : Nat) (w : aNE) : (aK 176 (.pointer (some ⟨b, o, none⟩)) 1).run pg w = .ok (.value (.pointer (some ⟨b, o + 1, none⟩))) w := jP (i := 1) Tryz.underlying176 rfl Bg (by decide) _
theorem kG {k k' : IntKind} {lo hi : Int} (a : Option Addr) (n c : Nat) (w : aNE) (h0 : 0 <= lo) (h1 : lo <= hi) (h2 : hi <= c) : (lZ 131 (.slice a n c) (some (.int k lo)) (some (.int k' hi)) none).run pg w = .ok (.value (.slice (mW a c (lo.toNat) 1) (hi.toNat - lo.toNat) (c - lo.toNat))) w := aBZ Tryz.underlying131 aGh _ n c h0 h1 h2
theorem mC {k : IntKind} {lo : Int} (a : Option Addr) (n c : Nat) (w : aNE) (h0 : 0 <= lo) (h1 : lo <= n) : (lZ 131 (.slice a n c) (some (.int k lo)) none none).run pg w = .ok (.value (.slice (mW a c (lo.toNat) 1) (n - lo.toNat) (c - lo.toNat))) w := axE Tryz.underlying131 aGh _ n c h0 h1
theorem aEz {b off : Nat} {cs : List aNF} {w : aNE} {v : aNF} {K : aNF -> aNE -> Prop} (ho : eM w b cs) (hv : one v = true) (h : off < cs.length) (hk : ∀ w', eM w' b (cs.set off v) -> aW w w' (fun x => x = b) -> w'.heap.size = w.heap.size -> K undef w') : aD pg (aR 131 (.pointer (some ⟨b, off, none⟩)) v) w K := uX aEk rfl ho hv h hk
theorem kH  (w : aNE) : (fT 198 []).run pg w = .ok (.value (.agg #[(.slice none 0 0), (.int .i64 0)])) w := by kernel_rfl
theorem fF {ox oy : Operand} (x : Option Addr) (w : aNE) : (aI .eql 186 ox oy (.pointer x) (.pointer none)).run pg w = .ok (.value (.bool x.isNone)) w := axX Tryz.underlying186 x
theorem fN (b o : Nat) (w : aNE) : (aK 198 (.pointer (some ⟨b, o, none⟩)) 1).run pg w = .ok (.value (.pointer (some ⟨b, o + 1, none⟩))) w := jP (i := 1) Tryz.underlying198 rfl Bg (by decide) _
theorem fH (b o : Nat) (w : aNE) : (aK 198 (.pointer (some ⟨b, o, none⟩)) 0).run pg w = .ok (.value (.pointer (some ⟨b, o, none⟩))) w := jP (i := 0) Tryz.underlying198 rfl azN (by decide) _
theorem iG (a0 : Option Addr) (l0 c0 : Nat) (n1 : Int) (w : aNE) : (fT 198 [(0, (.slice a0 l0 c0)), (1, (.int .i64 n1))]).run pg w = .ok (.value (.agg #[(.slice a0 l0 c0), (.int .i64 n1)])) w := by kernel_rfl
end Go.Proofs.YtgpimhlgaokobaaGreat
namespace Go.Pu
def iU (p : Int) : Int := if p < 0 then 1 else p
def fits : Int -> List Int -> Bool
 | left, [] => left == 0
 | left, p :: r => if p < -1 ∨ left < iU p then false else fits (left - iU p) r
def Fm (ps : List Int) : Int := (ps.map iU).sum
def aAv (log : Int) (ps : List Int) : Bool := decide (5 <= log /\ log <= 15 /\ 1 <= ps.length /\ ps.length <= 256 /\ ps.getLast? ≠ some 0)
def Y6 (log : Int) (ps : List Int) : Bool := aAv log ps && fits (2 ^ log.toNat) ps
theorem HL (p : Int) (ps : List Int) : Fm (p :: ps) = iU p + Fm ps := by simp [Fm]
theorem Wp (a b : List Int) : Fm (a ++ b) = Fm a + Fm b := by simp [Fm]
theorem sT {p : Int} (h : -1 <= p) : 0 <= iU p := by unfold iU; split <;> omega
theorem asV {ps : List Int} (h : ∀ p ∈ ps, -1 <= p) : 0 <= Fm ps := by
 induction ps with
 | nil => simp [Fm]
 | cons p r ih =>
   rw [HL]
   have := sT (h p (by simp))
   have := ih fun q hq => h q (aLx _ hq)
   omega
theorem akR : ∀ {ps : List Int} {left : Int}, fits left ps = true ↔ (∀ p ∈ ps, -1 <= p) /\ Fm ps = left
 | [], left => by simp [fits, Fm]; constructor <;> intro h <;> omega
 | p :: r, left => by
   rw [fits, HL]
   by_cases h : p < -1 ∨ left < iU p
   .rw [if_pos h]
    constructor
    .intro h; cases h
    .rintro ⟨h1, h2⟩
     have hp := h1 p (by simp)
     have := asV (ps := r) fun q hq => h1 q (aLx _ hq)
     omega
   .rw [if_neg h, akR]
    constructor
    .rintro ⟨h1, h2⟩
     exact ⟨fun q hq => by rcases aL2.1 hq with rfl | hq; · omega
                           .exact h1 q hq, by omega⟩
    .rintro ⟨h1, h2⟩
     exact ⟨fun q hq => h1 q (aLx _ hq), by omega⟩
structure May (log : Nat) (ps : List Int) : Prop where
 log5 : 5 <= log
 log15 : log <= 15
 len1 : 1 <= ps.length
 len256 : ps.length <= 256
 last : ps.getLast? ≠ some 0
 low : ∀ p ∈ ps, -1 <= p
 sum : Fm ps = 2 ^ log
theorem May.b {log : Nat} {ps : List Int} (h : May log ps) : Y6 log ps = true := by
 unfold Y6 aAv
 simp only [aLq, decide_eq_true_eq]
 have h1 := h.log5
 have h2 := h.log15
 refine ⟨⟨by omega, by omega, h.len1, h.len256, h.last⟩, ?_⟩
 rw [akR, aK9]
 exact ⟨h.low, h.sum⟩
theorem aCr {log : Nat} (h : log <= 15) : (2 : Int) ^ log <= 32768 := by
 have : 2 ^ log <= 2 ^ 15 := aLj (by omega) h
 have e : ((2 ^ log : Nat) : Int) = (2 : Int) ^ log := by simp
 omega
theorem aDa (log : Nat) : (1 : Int) <= 2 ^ log := by
 have : 1 <= 2 ^ log := Nat.one_le_two_pow
 have e : ((2 ^ log : Nat) : Int) = (2 : Int) ^ log := by simp
 omega
theorem aFb {ps : List Int} (h : ∀ p ∈ ps, -1 <= p) {p : Int} (hp : p ∈ ps) : iU p <= Fm ps := by
 induction ps with
 | nil => cases hp
 | cons q r ih =>
   rw [HL]
   have h0 := sT (h q (by simp))
   have h1 := asV (ps := r) fun q hq => h q (aLx _ hq)
   rcases aL2.1 hp with rfl | hp
   .omega
   .have := ih (fun q hq => h q (aLx _ hq)) hp
    omega
def adv (n a : Nat) : Nat := (a + n / 2 + n / 8 + 3) % n
def afQ (n high : Nat) : Nat -> Nat -> Nat
 | 0, a => a
 | f + 1, a => if a < high then a else afQ n high f (adv n a)
def abW : List Int -> Nat -> Nat -> List Int -> Nat × List Int
 | [], _, high, arr => (high, arr)
 | p :: r, s, high, arr => if p = -1 then abW r (s + 1) (high - 1) (arr.set (high - 1) s) else abW r (s + 1) high arr
def tI : List Int -> Nat -> List Nat
 | [], _ => []
 | p :: r, s => List.replicate p.toNat s ++ tI r (s + 1)
def place (n high : Nat) : List Nat -> Nat -> List Int -> List Int
 | [], _, arr => arr
 | s :: r, a, arr => place n high r (afQ n high n (adv n a)) (arr.set a s)
def rH (x0 : Int) (log : Nat) (ps : List Int) : List Int :=
 place (2 ^ log) (abW ps 0 (2 ^ log) (List.replicate (2 ^ log) x0)).1 (tI ps 0) 0 (abW ps 0 (2 ^ log) (List.replicate (2 ^ log) x0)).2
def pos (n j : Nat) : Nat := (j * (n / 2 + n / 8 + 3)) % n
theorem Mh (n j : Nat) : adv n (pos n j) = pos n (j + 1) := by
 unfold adv pos
 rw [aMH, aMH, Nat.mod_add_mod, aL0, aNl, aMH]
theorem aIp {s : Nat} (hs : s % 2 = 1) : ∀ (k x : Nat), 2 ^ k ∣ s * x -> 2 ^ k ∣ x := by
 intro k
 induction k with
 | zero => intro x _; simp
 | succ k ih =>
   intro x h
   have h2 : 2 ∣ s * x := Nat.dvd_trans ⟨2 ^ k, by rw [aLM, aLJ]⟩ h
   have hx : x % 2 = 0 := by
    have : (s * x) % 2 = 0 := Nat.mod_eq_zero_of_dvd h2
    rw [Nat.mul_mod, hs, aNl, Nat.mod_mod] at this
    exact this
   obtain ⟨y, rfl⟩ : ∃ y, x = 2 * y := ⟨x / 2, by omega⟩
   rw [aLM, aLJ (2 ^ k) 2, show s * (2 * y) = 2 * (s * y) by rw [Nat.mul_left_comm]] at h
   rw [aLM, aLJ (2 ^ k) 2]
   exact Nat.mul_dvd_mul_left 2 (ih y (Nat.dvd_of_mul_dvd_mul_left (by omega) h))
theorem aG2 {log : Nat} (h : 5 <= log) : (2 ^ log / 2 + 2 ^ log / 8 + 3) % 2 = 1 := by
 obtain ⟨k, rfl⟩ : ∃ k, log = k + 5 := ⟨log - 5, by omega⟩
 have : 2 ^ (k + 5) = 32 * 2 ^ k := by rw [aL7, aLJ]
 omega
theorem aID {log : Nat} (h : 5 <= log) {i j : Nat} (hij : i < j) (hj : j < 2 ^ log) : pos (2 ^ log) i ≠ pos (2 ^ log) j := by
 unfold pos
 generalize hst : 2 ^ log / 2 + 2 ^ log / 8 + 3 = st
 have hodd : st % 2 = 1 := by rw [<- hst]; exact aG2 h
 intro e
 have hle : i * st <= j * st := aLG _ (by omega)
 have hd : 2 ^ log ∣ st * (j - i) := by
  rw [aLJ, Nat.sub_mul]
  exact Nat.dvd_of_mod_eq_zero (Nat.sub_mod_eq_zero_of_mod_eq e.symm)
 have := Nat.le_of_dvd (by omega) (aIp hodd _ _ hd)
 omega
theorem aHb : ∀ (n : Nat) (l : List Nat), l.Nodup -> (∀ a ∈ l, a < n) -> l.length <= n := by
 intro n
 induction n with
 | zero => intro l _ h; cases l with
   | nil => simp
   | cons a r => exact absurd (h a (by simp)) (by omega)
 | succ n ih =>
   intro l hd h
   by_cases hn : n ∈ l
   .have := ih (l.erase n) (hd.erase n) (fun a ha => by
     have h1 := h a (List.mem_of_mem_erase ha)
     have h2 : a ≠ n := fun e => by subst e; exact hd.not_mem_erase ha
     omega)
    rw [aNr hn] at this
    omega
   .have := ih l hd (fun a ha => by
     have h1 := h a ha
     have h2 : a ≠ n := fun e => by subst e; exact hn ha
     omega)
    omega
theorem aAM {n : Nat} {l : List Nat} (hd : l.Nodup) (h : ∀ a ∈ l, a < n) (hl : l.length = n) {a : Nat} (ha : a < n) : a ∈ l := by
 refine Classical.byContradiction fun hn => ?_
 have := aHb n (a :: l) (List.nodup_cons.2 ⟨hn, hd⟩) (fun b hb => (aL2.1 hb).elim (fun e => e ▸ ha) (h b))
 simp at this; omega
def qB (n high j : Nat) : List Nat := ((List.range' j (n - j)).map (pos n)).filter (· < high)
theorem Xj {n high j : Nat} (h : j < n) : qB n high j = if pos n j < high then pos n j :: qB n high (j + 1) else qB n high (j + 1) := by
 unfold qB
 rw [show n - j = (n - (j + 1)) + 1 from by omega, List.range'_succ, aMn, aM7]
 simp
theorem alM (n high : Nat) : qB n high n = [] := by unfold qB; simp
theorem awG {n : Nat} (h : 0 < n) (j : Nat) : pos n j < n := aNb _ h
theorem We (n : Nat) : pos n 0 = 0 := by simp [pos]
theorem aKg (n : Nat) : pos n n = 0 := by simp [pos, Nat.mul_mod_right]
theorem aFw {n high : Nat} (hh : 0 < high) : ∀ (d j f : Nat), j + d = n -> d <= f -> afQ n high f (pos n j) = (qB n high j).headD 0 := by
 intro d
 induction d with
 | zero =>
   intro j f hj _
   obtain rfl : j = n := by omega
   rw [alM, aKg]
   cases f with
   | zero => rfl
   | succ f => unfold afQ; rw [if_pos hh] <;> rfl
 | succ d ih =>
   intro j f hj hf
   obtain ⟨f, rfl⟩ : ∃ g, f = g + 1 := ⟨f - 1, by omega⟩
   rw [Xj (by omega)]
   unfold afQ
   split
   .rfl
   .rw [Mh]; exact ih (j + 1) f (by omega) (by omega)
def setAt : List (Nat × Nat) -> List Int -> List Int
 | [], arr => arr
 | (q, s) :: r, arr => setAt r (arr.set q s)
theorem aEd {n high : Nat} (hh : 0 < high) : ∀ (syms : List Nat) (j a : Nat) (arr : List Int), j <= n -> syms.length <= (qB n high j).length -> (syms ≠ [] -> (qB n high j).headD 0 = a) →
 place n high syms a arr = setAt ((qB n high j).zip syms) arr := by
 intro syms
 induction syms with
 | nil => intro j a arr _ _ _; simp [place, setAt]
 | cons s r ih =>
   intro j a arr hj hlen ha
   have ha := ha (by simp)
   have key : ∀ (d j : Nat), j + d = n -> (s :: r).length <= (qB n high j).length -> (qB n high j).headD 0 = a -> ∃ i, i < n /\ j <= i /\ pos n i = a /\ qB n high j = a :: qB n high (i + 1) := by
    intro d
    induction d with
    | zero =>
      intro j hj hl _
      obtain rfl : j = n := by omega
      rw [alM] at hl; simp at hl
    | succ d ihd =>
      intro j hj hl hd
      have e := Xj (high := high) (show j < n by omega)
      by_cases hp : pos n j < high
      .rw [if_pos hp] at e
       rw [e] at hd
       have : pos n j = a := hd
       exact ⟨j, by omega, aLm _, this, by rw [e, this]⟩
      .rw [if_neg hp] at e
       rw [e] at hl hd ⊢
       obtain ⟨i, h1, h2, h3, h4⟩ := ihd (j + 1) (by omega) hl hd
       exact ⟨i, h1, by omega, h3, h4⟩
   obtain ⟨i, h1, h2, h3, h4⟩ := key (n - j) j (by omega) hlen ha
   rw [h4] at hlen ⊢
   simp only [aLw] at hlen
   rw [place, List.zip_cons_cons, setAt]
   refine ih (i + 1) _ _ (by omega) (by omega) (fun hr => ?_)
   rw [<- h3, Mh]
   exact (aFw hh (n - (i + 1)) (i + 1) n (by omega) (by omega)).symm
def wJ : List Int -> Nat -> List Nat
 | [], _ => []
 | p :: r, s => if p = -1 then s :: wJ r (s + 1) else wJ r (s + 1)
def toI (l : List Nat) : List Int := l.map Int.ofNat
theorem aAI : ∀ (ps : List Int) (s high : Nat) (arr : List Int), (wJ ps s).length <= high -> high <= arr.length →
 abW ps s high arr = (high - (wJ ps s).length, arr.take (high - (wJ ps s).length) ++ toI (wJ ps s).reverse ++ arr.drop high) := by
 intro ps
 induction ps with
 | nil => intro s high arr h1 h2; simp [abW, wJ, toI]
 | cons p r ih =>
   intro s high arr h1 h2
   unfold abW wJ
   unfold wJ at h1
   by_cases hp : p = -1
   .rw [if_pos hp, if_pos hp]
    rw [if_pos hp] at h1
    simp only [aLw] at h1 ⊢
    rw [ih (s + 1) (high - 1) _ (by omega) (by simp; omega)]
    congr 1
    .omega
    .have hlt : high - 1 < arr.length := by omega
     rw [List.take_set_of_le (by omega), show high - 1 - (wJ r (s + 1)).length = high - ((wJ r (s + 1)).length + 1) from by omega]
     have : (arr.set (high - 1) (s : Int)).drop (high - 1) = (s : Int) :: arr.drop high := by
      rw [aLK (by simp; omega)]
      simp only [aNg]
      rw [show high - 1 + 1 = high from by omega, List.drop_set_of_lt (by omega)]
     rw [this]
     simp [toI]
   .rw [if_neg hp, if_neg hp]
    rw [if_neg hp] at h1
    exact ih (s + 1) high arr h1 h2
theorem akF : ∀ (l : List (Nat × Nat)) (arr : List Int), (setAt l arr).length = arr.length
 | [], _ => rfl
 | (q, s) :: r, arr => by rw [setAt, akF]; simp
theorem WA {q : Nat} : ∀ (l : List (Nat × Nat)) (arr : List Int), (∀ x ∈ l, x.1 ≠ q) -> (setAt l arr)[q]? = arr[q]?
 | [], _, _ => rfl
 | (a, s) :: r, arr, h => by
   rw [setAt, WA r _ fun x hx => h x (aLx _ hx), List.getElem?_set_ne (h (a, s) (by simp))]
theorem aFO : ∀ (us : List Nat) (ss : List Nat) (arr : List Int) (t : Nat), us.Nodup -> us.length = ss.length -> (∀ q ∈ us, q < arr.length) -> (ht : t < us.length) -> (ht' : t < ss.length) →
 (setAt (us.zip ss) arr)[us[t]]? = some (ss[t] : Int) := by
 intro us
 induction us with
 | nil => intro ss arr t _ _ _ ht; simp at ht
 | cons u us ih =>
   intro ss arr t hd hl hb ht ht'
   cases ss with
   | nil => simp at hl
   | cons x ss =>
     obtain ⟨h1, h2⟩ := List.nodup_cons.1 hd
     rw [List.zip_cons_cons, setAt]
     cases t with
     | zero =>
       simp only [aMF]
       rw [WA _ _ (fun y hy => fun e => h1 (by have := (List.of_mem_zip (a := y.1) (b := y.2) hy).1; rw [e] at this; exact this))]
       have : u < arr.length := hb u (by simp)
       simp [this]
     | succ t =>
       simp only [aNd]
       exact ih ss _ t h2 (by simpa using hl) (fun q hq => by simpa using hb q (aLx _ hq)) (by simpa using ht) (by simpa using ht')
theorem azO : ∀ (n : Nat) (l : List Nat), l.Nodup -> (∀ a ∈ l, a < n) -> l.length = n -> l.Perm (List.range n) := by
 intro n
 induction n with
 | zero => intro l _ _ h; rw [aLI.1 h]; exact List.Perm.refl _
 | succ n ih =>
   intro l hd h hl
   have hn : n ∈ l := aAM hd h hl (by omega)
   have p1 := List.perm_cons_erase hn
   have p2 := ih (l.erase n) (hd.erase n) (fun a ha => by
    have h1 := h a (List.mem_of_mem_erase ha)
    have h2 : a ≠ n := fun e => by subst e; exact hd.not_mem_erase ha
    omega) (by rw [aNr hn]; omega)
   rw [aNo]
   exact p1.trans ((p2.cons n).trans (List.perm_append_singleton n _).symm)
theorem aCS : ∀ (ps : List Int) (s : Nat), (∀ p ∈ ps, -1 <= p) -> ((tI ps s).length : Int) + (wJ ps s).length = Fm ps := by
 intro ps
 induction ps with
 | nil => intro s _; simp [tI, wJ, Fm]
 | cons p r ih =>
   intro s h
   have := ih (s + 1) fun q hq => h q (aLx _ hq)
   have hp := h p (by simp)
   rw [HL]
   unfold tI wJ iU
   by_cases h1 : p = -1
   .rw [if_pos h1, if_pos (by omega)]; subst h1; simp; omega
   .rw [if_neg h1, if_neg (by omega)]; simp; omega
theorem aDK : ∀ (ps : List Int) (s i : Nat), (tI ps s).count (s + i) = if h : i < ps.length then ps[i].toNat else 0 := by
 intro ps
 induction ps with
 | nil => intro s i; simp [tI]
 | cons p r ih =>
   intro s i
   have low : ∀ (ps : List Int) (s a : Nat), a < s -> (tI ps s).count a = 0 := by
    intro ps
    induction ps with
    | nil => intro s a _; simp [tI]
    | cons p r ih =>
      intro s a h
      unfold tI
      rw [aMB, ih (s + 1) a (by omega), List.count_replicate]
      simp; omega
   unfold tI
   rw [aMB, List.count_replicate]
   cases i with
   | zero => rw [aMi, low r (s + 1) s (by omega)]; simp
   | succ i =>
     rw [show s + (i + 1) = s + 1 + i from by omega, ih (s + 1) i]
     have : (s == s + 1 + i) = false := by simp; omega
     rw [this]; simp
theorem aD8 : ∀ (ps : List Int) (s i : Nat), (wJ ps s).count (s + i) = if h : i < ps.length then (if ps[i] = -1 then 1 else 0) else 0 := by
 intro ps
 induction ps with
 | nil => intro s i; simp [wJ]
 | cons p r ih =>
   intro s i
   have low : ∀ (ps : List Int) (s a : Nat), a < s -> (wJ ps s).count a = 0 := by
    intro ps
    induction ps with
    | nil => intro s a _; simp [wJ]
    | cons p r ih =>
      intro s a h
      unfold wJ
      split
      .rw [aMC, ih (s + 1) a (by omega)]; simp; omega
      .exact ih (s + 1) a (by omega)
   unfold wJ
   cases i with
   | zero =>
     rw [aMi]
     by_cases h : p = -1
     .rw [if_pos h, aMC, low r (s + 1) s (by omega)]; simp [h]
     .rw [if_neg h, low r (s + 1) s (by omega)]; simp [h]
   | succ i =>
     have e : s + (i + 1) = s + 1 + i := by omega
     by_cases h : p = -1
     .rw [if_pos h, aMC, e, ih (s + 1) i]
      have : (s == s + 1 + i) = false := by simp; omega
      rw [this]; simp
     .rw [if_neg h, e, ih (s + 1) i]; simp
theorem aIk : ∀ (ps : List Int) (s i : Nat) (h : i < ps.length), ps[i] = -1 -> (wJ ps s)[(ps.take i).count (-1)]? = some (s + i) := by
 intro ps
 induction ps with
 | nil => intro s i h; simp at h
 | cons p r ih =>
   intro s i h hp
   unfold wJ
   cases i with
   | zero => simp only [aMF] at hp; rw [if_pos hp]; simp
   | succ i =>
     simp only [aNd] at hp
     have := ih (s + 1) i (by simpa using h) hp
     rw [aLe, aMC]
     by_cases h1 : p = -1
     .rw [if_pos h1]; simp only [h1, beq_self_eq_true, if_true, aK8]; rw [this]; congr 1; omega
     .rw [if_neg h1]
      have : (p == -1) = false := by simpa using h1
      rw [this]; simp only [aLb, if_false, aMi]
      rw [‹(wJ r (s + 1))[_]? = _›]; congr 1; omega
theorem Zf {log high : Nat} (hl : 5 <= log) (hh : high <= 2 ^ log) : (qB (2 ^ log) high 0).Nodup /\ (∀ a ∈ qB (2 ^ log) high 0, a < high) /\ (qB (2 ^ log) high 0).length = high := by
 have hn : 0 < 2 ^ log := aLC log
 have hnd : ((List.range (2 ^ log)).map (pos (2 ^ log))).Nodup := by
  rw [List.nodup_iff_pairwise_ne, List.pairwise_map]
  refine List.pairwise_iff_getElem.2 fun i j hi hj hij => ?_
  simp only [aNx] at hi hj
  simp only [aMP]
  exact aID hl hij hj
 have hp := azO (2 ^ log) _ hnd (fun a ha => by
  obtain ⟨j, _, rfl⟩ := aMl.1 ha
  exact awG hn j) (by simp)
 unfold qB
 rw [Nat.sub_zero, <- List.range_eq_range']
 refine ⟨hnd.filter _, fun a ha => by simpa using (aNn.1 ha).2, ?_⟩
 rw [(hp.filter _).length_eq]
 have : ∀ m : Nat, high <= m -> ((List.range m).filter (· < high)).length = high := by
  intro m
  induction m with
  | zero => intro h; simp; omega
  | succ m ih =>
    intro h
    rw [aNo, List.filter_append, aLh]
    by_cases hm : high <= m
    .rw [ih hm]; simp; omega
    .have : high = m + 1 := by omega
     subst this
     have : (List.range m).filter (fun x => decide (x < m + 1)) = List.range m := List.filter_eq_self.2 fun a ha => by have := aLR.1 ha; simp; omega
     rw [this]; simp
 exact this _ hh
structure Lay (log : Nat) (ps : List Int) (S : List Int) : Prop where
 len : S.length = 2 ^ log
 cnt : ∀ s (h : s < ps.length), S.count (s : Int) = (iU ps[s]).toNat
 rng : ∀ x ∈ S, ∃ s : Nat, s < ps.length /\ x = s
 top : ∀ s (h : s < ps.length), ps[s] = -1 -> S[2 ^ log - 1 - (ps.take s).count (-1)]? = some (s : Int)
theorem aAz (l : List Nat) (s : Nat) : (toI l).count (s : Int) = l.count s := by
 induction l with
 | nil => rfl
 | cons a r ih =>
   show List.count _ (Int.ofNat a :: toI r) = _
   rw [aMC, aMC, ih]
   congr 1
   by_cases h : a = s
   .subst h; simp
   .simp [h]; omega
theorem aH3 : ∀ (ps : List Int) (s : Nat), ∀ x ∈ tI ps s, s <= x /\ x < s + ps.length := by
 intro ps
 induction ps with
 | nil => intro s x h; simp [tI] at h
 | cons p r ih =>
   intro s x h
   unfold tI at h
   rcases aLQ.1 h with h | h
   .have := (List.mem_replicate.1 h).2; simp; omega
   .have := ih (s + 1) x h; simp; omega
theorem aHB : ∀ (ps : List Int) (s : Nat), ∀ x ∈ wJ ps s, s <= x /\ x < s + ps.length := by
 intro ps
 induction ps with
 | nil => intro s x h; simp [wJ] at h
 | cons p r ih =>
   intro s x h
   unfold wJ at h
   split at h
   .rcases aL2.1 h with rfl | h
    .simp
    .have := ih (s + 1) x h; simp; omega
   .have := ih (s + 1) x h; simp; omega
theorem WG {log : Nat} {ps : List Int} (h : May log ps) (x0 : Int) :
 ∃ low : List Int, rH x0 log ps = low ++ toI (wJ ps 0).reverse /\ low.Perm (toI (tI ps 0)) /\ ((wJ ps 0).length + low.length = 2 ^ log) /\
   (∀ t (h1 : t < (qB (2 ^ log) (tI ps 0).length 0).length) (h2 : t < (tI ps 0).length), low[(qB (2 ^ log) (tI ps 0).length 0)[t]]? = some ((tI ps 0)[t] : Int)) := by
 have hrl := aCS ps 0 h.low
 rw [h.sum] at hrl
 have hpow : ((2 ^ log : Nat) : Int) = (2 : Int) ^ log := by simp
 obtain ⟨m, hm⟩ : ∃ m, m = (wJ ps 0).length := ⟨_, rfl⟩
 obtain ⟨hi, hhi⟩ : ∃ x, x = (tI ps 0).length := ⟨_, rfl⟩
 rw [<- hm, <- hhi] at hrl
 have hsum : hi + m = 2 ^ log := by omega
 have ht := aAI ps 0 (2 ^ log) (List.replicate (2 ^ log) x0) (by omega) (by simp)
 rw [<- hm, show 2 ^ log - m = hi from by omega] at ht
 have e2 : (List.replicate (2 ^ log) x0).take hi = List.replicate hi x0 := by rw [List.take_replicate]; congr 1; omega
 have e3 : (List.replicate (2 ^ log) x0).drop (2 ^ log) = [] := by simp
 rw [e2, e3, aLX] at ht
 unfold rH
 rw [ht]
 simp only
 obtain ⟨u1, u2, u3⟩ := Zf (high := hi) h.log5 (by omega)
 by_cases h0 : hi = 0
 .have hr : tI ps 0 = [] := aLI.1 (by omega)
  rw [hr, h0]
  refine ⟨[], by simp [place], by simp [toI], by simp; omega, fun t _ h2 => by simp at h2⟩
 .have hp := aEd (n := 2 ^ log) (high := hi) (by omega) (tI ps 0) 0 0 (List.replicate hi x0 ++ toI (wJ ps 0).reverse) (by omega) (by rw [u3]; omega) (fun _ => by
   rw [Xj (aLC log), We, if_pos (by omega)] <;> rfl)
  rw [hp]
  generalize hU : qB (2 ^ log) hi 0 = U at *
  have hb : ∀ q ∈ U, q < (List.replicate hi x0 ++ toI (wJ ps 0).reverse).length := fun q hq => by have := u2 q hq; simp; omega
  obtain ⟨R, hR⟩ : ∃ R, R = setAt (U.zip (tI ps 0)) (List.replicate hi x0 ++ toI (wJ ps 0).reverse) := ⟨_, rfl⟩
  have hRl : R.length = hi + m := by rw [hR, akF]; simp [toI, hm]
  have hRd : R.drop hi = toI (wJ ps 0).reverse := by
   apply aMk
   intro i
   rw [aMN, hR, WA _ _ (fun x hx => by
     have := u2 _ (List.of_mem_zip (a := x.1) (b := x.2) hx).1
     omega), aMd (by simp)]
   simp
  have hget : ∀ t (h1 : t < U.length) (h2 : t < (tI ps 0).length), R[U[t]]? = some ((tI ps 0)[t] : Int) := fun t h1 h2 => by
   rw [hR]; exact aFO U _ _ t u1 (by omega) hb h1 h2
  rw [<- hR]
  refine ⟨R.take hi, by rw [<- hRd, aMQ], ?_, by rw [aLn]; omega, fun t h1 h2 => ?_⟩
  .have p1 : (U.map fun q => R.getD q 0).Perm ((List.range hi).map fun q => R.getD q 0) := (azO hi U u1 u2 u3).map _
   have p2 : (U.map fun q => R.getD q 0) = toI (tI ps 0) := by
    apply aMw
    .simp [toI]; omega
    .intro t h1 h2
     simp only [aLk] at h1
     have := hget t h1 (by omega)
     simp only [aMe, toI, aLl, this]
     rfl
   have p3 : ((List.range hi).map fun q => R.getD q 0) = R.take hi := by
    apply aMw
    .simp; omega
    .intro q h1 h2
     simp only [aLk, aNx] at h1
     simp only [aMe, aMP, List.getElem_take, aLl]
     rw [aLg (by omega)] <;> rfl
   rw [p2, p3] at p1
   exact p1.symm
  .subst hhi
   simp only [hU] at h1 ⊢
   have := hget t h1 h2
   rw [aLY (u2 _ (aLW h1))]
   exact this
theorem Og {log : Nat} {ps : List Int} (h : May log ps) (x0 : Int) : Lay log ps (rH x0 log ps) := by
 obtain ⟨low, e, hp, hl, _⟩ := WG h x0
 rw [e]
 refine ⟨by simp [toI]; omega, fun s hs => ?_, fun x hx => ?_, fun s hs hps => ?_⟩
 .rw [aMB, hp.count_eq, aAz, aAz, List.count_reverse]
  have h1 := aDK ps 0 s
  have h2 := aD8 ps 0 s
  rw [aLa] at h1 h2
  rw [h1, h2, dif_pos hs, dif_pos hs]
  have := h.low _ (aLW hs)
  unfold iU
  split <;> split <;> omega
 .rcases aLQ.1 hx with hx | hx
  .have hx := hp.mem_iff.1 hx
   obtain ⟨s, hs, rfl⟩ := aMl.1 hx
   exact ⟨s, by have := aH3 ps 0 s hs; omega, rfl⟩
  .obtain ⟨s, hs, rfl⟩ := aMl.1 hx
   exact ⟨s, by have := aHB ps 0 s (List.mem_reverse.1 hs); omega, rfl⟩
 .have h1 := aIk ps 0 s hs hps
  rw [aLa] at h1
  have hlt : (ps.take s).count (-1) < (wJ ps 0).length := by
   rcases aLv ((ps.take s).count (-1)) (wJ ps 0).length with h | h
   .exact h
   .rw [aLo h] at h1; cases h1
  rw [aMd (by omega)]
  unfold toI
  rw [aLD, List.getElem?_reverse (by omega), show (wJ ps 0).length - 1 - (2 ^ log - 1 - List.count (-1) (List.take s ps) - low.length) = (ps.take s).count (-1) from by omega, h1]
  rfl
theorem aGn {log : Nat} {ps : List Int} (h : May log ps) (x y : Int) : rH x log ps = rH y log ps := by
 obtain ⟨a, e1, p1, l1, g1⟩ := WG h x
 obtain ⟨b, e2, p2, l2, g2⟩ := WG h y
 rw [e1, e2]
 congr 1
 apply aMk
 intro q
 have hrl : (tI ps 0).length = a.length := by rw [p1.length_eq]; simp [toI]
 by_cases hq : q < a.length
 .obtain ⟨u1, u2, u3⟩ := Zf (high := (tI ps 0).length) h.log5 (by omega)
  have hm := aAM u1 u2 u3 (a := q) (by omega)
  obtain ⟨t, ht, rfl⟩ := aMD hm
  rw [g1 t ht (by omega), g2 t ht (by omega)]
 .rw [aLo (by omega), aLo (by omega)]
def bl (k : Nat) : Nat := if k = 0 then 0 else k.log2 + 1
theorem aIP : bl 0 = 0 := rfl
theorem WI (k : Nat) : k < 2 ^ bl k := by
 unfold bl
 split
 .subst_vars; simp
 .exact Nat.lt_log2_self
theorem Zj {k : Nat} (h : k ≠ 0) : 2 ^ (bl k - 1) <= k := by
 unfold bl
 rw [if_neg h, aL9]
 exact Nat.log2_self_le h
theorem NR {k : Nat} (h : k ≠ 0) : 1 <= bl k := by unfold bl; rw [if_neg h]; omega
theorem wO {k n : Nat} (h : k < 2 ^ n) : bl k <= n := by
 by_cases h0 : k = 0
 .subst h0; simp [bl]
 .rcases aLv n (bl k) with hh | hh
  .have h1 := Zj h0
   have := aLj (n := 2) (by omega) (show n <= bl k - 1 by omega)
   omega
  .exact hh
theorem aGE {k n : Nat} (h1 : 2 ^ n <= k) (h2 : k < 2 ^ (n + 1)) : bl k = n + 1 := by
 have h0 : k ≠ 0 := by have := aLC n; omega
 have a := wO h2
 have b := WI k
 rcases aLv (bl k) (n + 1) with h | h
 .have := aLj (n := 2) (by omega) (show bl k <= n by omega)
  omega
 .omega
def kAt (ps S : List Int) (i : Nat) : Nat := (iU (ps.getD (S.getD i 0).toNat 0)).toNat + (S.take i).count (S.getD i 0)
def GN (log : Nat) (x : Int) (k : Nat) : Int × Int × Int := (x, ((log + 1 - bl k : Nat) : Int), ((k * 2 ^ (log + 1 - bl k) : Nat) : Int) - 2 ^ log)
def UU (log : Nat) (ps S : List Int) (i : Nat) : Int × Int × Int := GN log (S.getD i 0) (kAt ps S i)
def xC (log : Nat) (ps : List Int) : List (Int × Int × Int) := (List.range (2 ^ log)).map (UU log ps (rH 0 log ps))
theorem xJ (log : Nat) (ps : List Int) : (xC log ps).length = 2 ^ log := by simp [xC]
theorem azX {S : List Int} {i : Nat} (h : i < S.length) : (S.take i).count S[i] + 1 <= S.count S[i] := by
 have e : S = S.take i ++ S[i] :: S.drop (i + 1) := by rw [<- aLK h, aMQ]
 have : S.count S[i] = (S.take i ++ S[i] :: S.drop (i + 1)).count S[i] := by rw [<- e]
 rw [this, aMB, aMC]; simp
theorem ayQ {log : Nat} {ps : List Int} (h : May log ps) {s : Nat} (hs : s < ps.length) : (iU ps[s]).toNat <= 2 ^ log := by
 have := aFb h.low (aLW hs)
 rw [h.sum] at this
 have hpow : ((2 ^ log : Nat) : Int) = (2 : Int) ^ log := by simp
 rw [<- hpow] at this
 exact Int.toNat_le.2 this
theorem axQ {log : Nat} {ps S : List Int} (h : May log ps) (L : Lay log ps S) {i : Nat} (hi : i < 2 ^ log) :
 ∃ s : Nat, ∃ hs : s < ps.length, S.getD i 0 = (s : Int) /\ 1 <= (iU ps[s]).toNat /\ (iU ps[s]).toNat <= 2 ^ log /\ kAt ps S i = (iU ps[s]).toNat + (S.take i).count (s : Int) /\ (S.take i).count (s : Int) < (iU ps[s]).toNat := by
 have hil : i < S.length := by rw [L.len]; exact hi
 have hg : S.getD i 0 = S[i] := by rw [aLl, aLg hil] <;> rfl
 obtain ⟨s, hs, e⟩ := L.rng _ (aLW hil)
 have hc := azX hil
 rw [e, L.cnt s hs] at hc
 refine ⟨s, hs, by rw [hg, e], by omega, ayQ h hs, ?_, by omega⟩
 unfold kAt
 rw [hg, e, aK9, aLl, aLg hs] <;> rfl
theorem aBN {log k : Nat} (h1 : 1 <= k) (h2 : k < 2 ^ (log + 1)) : 2 ^ log <= k * 2 ^ (log + 1 - bl k) /\ (k + 1) * 2 ^ (log + 1 - bl k) <= 2 ^ (log + 1) /\ bl k <= log + 1 /\ 1 <= bl k := by
 have a := wO h2
 have b := NR (k := k) (by omega)
 have c := Zj (k := k) (by omega)
 have d := WI k
 refine ⟨?_, ?_, a, b⟩
 .calc 2 ^ log = 2 ^ (bl k - 1) * 2 ^ (log + 1 - bl k) := by rw [<- aL7]; congr 1; omega
   _ <= k * 2 ^ (log + 1 - bl k) := aLG _ c
 .calc (k + 1) * 2 ^ (log + 1 - bl k) <= 2 ^ bl k * 2 ^ (log + 1 - bl k) := aLG _ d
   _ = 2 ^ (log + 1) := by rw [<- aL7]; congr 1; omega
theorem aFo (n j : Nat) (hn : 0 < n) : ∃ d, d < n /\ pos n (j + d) = 0 := by
 refine ⟨(n - j % n) % n, aNb _ hn, ?_⟩
 unfold pos
 have : (j + (n - j % n) % n) % n = 0 := by
  rw [Nat.add_mod_mod]
  have h1 := aNb j hn
  have h2 := Nat.div_add_mod j n
  have : j + (n - j % n) = n * (j / n + 1) := by
   rw [aNm, aMy]
   generalize n * (j / n) = y at *
   generalize j % n = r at *
   omega
  rw [this, Nat.mul_mod_right]
 rw [Nat.mul_mod, this, aNB, Nat.zero_mod]
theorem XN {n high : Nat} (hn : 0 < n) (hh : 0 < high) (j : Nat) : ∃ d, (∀ e, e < d -> high <= pos n (j + e)) /\ pos n (j + d) < high /\ afQ n high n (pos n j) = pos n (j + d) := by
 obtain ⟨D, hD, h0⟩ := aFo n j hn
 have key : ∀ (D f j : Nat), D <= f -> pos n (j + D) < high -> ∃ d, (∀ e, e < d -> high <= pos n (j + e)) /\ pos n (j + d) < high /\ afQ n high f (pos n j) = pos n (j + d) := by
  intro D
  induction D with
  | zero =>
    intro f j _ h
    refine ⟨0, fun e he => by omega, h, ?_⟩
    rw [aMi] at h ⊢
    cases f with
    | zero => rfl
    | succ f => unfold afQ; rw [if_pos h]
  | succ D ih =>
    intro f j hf h
    obtain ⟨f, rfl⟩ : ∃ g, f = g + 1 := ⟨f - 1, by omega⟩
    by_cases hj : pos n j < high
    .exact ⟨0, fun e he => by omega, hj, by unfold afQ; rw [if_pos hj] <;> rfl⟩
    .obtain ⟨d, h1, h2, h3⟩ := ih f (j + 1) (by omega) (by rw [show j + 1 + D = j + (D + 1) from by omega]; exact h)
     refine ⟨d + 1, fun e he => ?_, by rw [show j + (d + 1) = j + 1 + d from by omega]; exact h2, ?_⟩
     .cases e with
      | zero => rw [aMi]; omega
      | succ e => rw [show j + (e + 1) = j + 1 + e from by omega]; exact h1 e (by omega)
     .unfold afQ; rw [if_neg hj, Mh, h3]; congr 1; omega
 exact key D n j (by omega) (by rw [h0]; exact hh)
theorem asF {log : Nat} {ps : List Int} (h : May log ps) (x0 : Int) : ∃ arr, abW ps 0 (2 ^ log) (List.replicate (2 ^ log) x0) = ((tI ps 0).length, arr) /\ arr.length = 2 ^ log /\ (wJ ps 0).length + (tI ps 0).length = 2 ^ log /\ rH x0 log ps = place (2 ^ log) (tI ps 0).length (tI ps 0) 0 arr := by
 have hrl := aCS ps 0 h.low
 rw [h.sum] at hrl
 have hpow : ((2 ^ log : Nat) : Int) = (2 : Int) ^ log := by simp
 have hsum : (wJ ps 0).length + (tI ps 0).length = 2 ^ log := by omega
 have ht := aAI ps 0 (2 ^ log) (List.replicate (2 ^ log) x0) (by omega) (by simp)
 rw [show 2 ^ log - (wJ ps 0).length = (tI ps 0).length from by omega] at ht
 refine ⟨_, ht, ?_, hsum, ?_⟩
 .simp [toI]; omega
 .unfold rH; rw [ht]
end Go.Pu
namespace Go.En
open Go
section
variable {P : Program} {w : aNE} {t e : TypeId}
theorem aCo {i : TypeInfo} (hu : P.underlying t = some (.slice e)) (hi : P.info? e = some i)
 {K : aNF -> aNE -> Prop} (hk : ∀ w', eM w' w.heap.size [] -> aW w w' eT -> w'.heap.size = w.heap.size + 1 -> K (.slice (some ⟨w.heap.size, 0, none⟩) 0 0) w') :
 aD P (cV t 0 []) w K := by
 have : (cV t 0 []).run P w = .ok (.value (.slice (some ⟨w.heap.size, 0, none⟩) 0 0)) (w.alloc (.cells ([] : List aNF).toArray e)) := by
  unfold cV; rw [uR]
  have h1 : ¬ (0 > 2 ^ 24) := by omega
  have e : ∀ f : Nat -> aNF, Array.map f (Array.range 0) = #[] := fun f => by simp
  simp only [Instr.buildSlice, underlying, pure_bind, Sem.run_bind, run_program, Result.andThen_ok, hu, Sem.run_pure, kZ hi, aNB, h1, if_false, if_true, newRow, run_newObj, Instr.fill, e]
  rfl
 unfold aD
 rw [this]
 exact hk _ (eM.alloc _ _ _) (aW.alloc _ _ _) (by simp)
def At (v : aNF) (b : Nat) : Prop := ∀ M : Nat -> Prop, ¬ M b -> ¬ inB v M
theorem At.nil (c b : Nat) (a : Option Addr) : At (.slice a 0 c) b := fun M h => by unfold inB; split <;> simp_all
theorem At.at (b o n c : Nat) : At (.slice (some ⟨b, o, none⟩) n c) b := fun M h => by
 unfold inB; split
 .rename_i x m _ e
  obtain ⟨rfl, _⟩ : (⟨b, o, none⟩ : Addr) = x /\ _ := by simpa using e
  exact h
 .simp
theorem sV.at' {w : aNE} {base sz n : Nat} {v : aNF} {l : List aNF} (h : sV w base sz v n l) (hb : base < w.heap.size) : ∃ b, base <= b /\ b < w.heap.size /\ At v b := by
 rcases h.2 with ⟨rfl, rfl⟩ | ⟨b, c, rest, rfl, h2, h3, h4, h5⟩
 .exact ⟨base, aLm _, hb, At.nil _ _ _⟩
 .exact ⟨b, h2, h3.lt, At.at _ _ _ _⟩
end
end Go.En
namespace Go.Proofs.YtgpimhlgaokobaaGreat
open Go Go.En Go.Pu
set_option maxRecDepth 4000
theorem IV (n : Nat) (hn : n <= 40) (w : aNE) : aT pg nZ #[.int .i64 n] w (fun r w' => r = .int .i64 (2 ^ n) /\ w' = w) := by
 refine aoY ?_
 unfold arO Oe Nd OA MR MS Na PI
 refine cS.rule (fun m t w' => ∃ i : Nat, m = n - i /\ t = (.int .i64 (2 ^ i), .int .i64 i) /\ i <= n /\ w' = w) n ⟨0, rfl, rfl, by omega, rfl⟩ ?_
 rintro m t w' ⟨i, rfl, rfl, hi, rfl⟩
 by_cases hlt : i < n
 .have d1 : decide ((i : Int) < (n : Int)) = true := by simp; omega
  have d2 : decide ((i : Int) < 40) = true := by simp; omega
  have hb : (2 : Int) ^ i <= 549755813888 := by
   have : 2 ^ i <= 2 ^ 39 := aLj (by omega) (by omega)
   have e : ((2 ^ i : Nat) : Int) = (2 : Int) ^ i := by simp
   omega
  have hp := aDa i
  simp (disch := omega) only [BN, aD, aS, d1, oN, aP, bK, aA, pB, bE, if_true, bJ, d2, and_true, aG]
  exact ⟨n - (i + 1), by omega, i + 1, rfl, by rw [Int.pow_succ] <;> rfl, by omega⟩
 .have d1 : decide ((i : Int) < (n : Int)) = false := by simp; omega
  have : i = n := by omega
  subst this
  simp (disch := omega) only [BN, aD, aS, d1, oN, bK, aP, aA, Fw, true_and, sL, bE, aLb, if_false, aE, cK]
def aCz : ByteArray := ⟨#[0, 1, 2, 2, 3, 3, 3, 3, 4, 4, 4, 4, 4, 4, 4, 4, 5, 5, 5, 5, 5, 5, 5, 5, 5, 5, 5, 5, 5, 5, 5, 5, 6, 6, 6, 6, 6, 6, 6, 6, 6, 6, 6, 6, 6, 6, 6, 6, 6, 6, 6, 6, 6, 6, 6, 6, 6, 6, 6, 6, 6, 6, 6, 6, 7, 7, 7, 7, 7, 7, 7, 7, 7, 7, 7, 7, 7, 7, 7, 7, 7, 7, 7, 7, 7, 7, 7, 7, 7, 7, 7, 7, 7, 7, 7, 7, 7, 7, 7, 7, 7, 7, 7, 7, 7, 7, 7, 7, 7, 7, 7, 7, 7, 7, 7, 7, 7, 7, 7, 7, 7, 7, 7, 7, 7, 7, 7, 7, 8, 8, 8, 8, 8, 8, 8, 8, 8, 8, 8, 8, 8, 8, 8, 8, 8, 8, 8, 8, 8, 8, 8, 8, 8, 8, 8, 8, 8, 8, 8, 8, 8, 8, 8, 8, 8, 8, 8, 8, 8, 8, 8, 8, 8, 8, 8, 8, 8, 8, 8, 8, 8, 8, 8, 8, 8, 8, 8, 8, 8, 8, 8, 8, 8, 8, 8, 8, 8, 8, 8, 8, 8, 8, 8, 8, 8, 8, 8, 8, 8, 8, 8, 8, 8, 8, 8, 8, 8, 8, 8, 8, 8, 8, 8, 8, 8, 8, 8, 8, 8, 8, 8, 8, 8, 8, 8, 8, 8, 8, 8, 8, 8, 8, 8, 8, 8, 8, 8, 8, 8, 8, 8, 8, 8, 8, 8, 8]⟩
theorem XP : aCz.size = 256 := by decide
set_option maxRecDepth 100000 in
theorem aCR (x : Nat) (h : x < 256) : (aCz[x]'(by rw [XP]; exact h)).toNat = bl x := by
 have : ∀ k : Fin 256, (aCz.data[k.val]!).toNat = bl k.val := by decide +kernel
 have h2 := this ⟨x, h⟩
 simp only at h2
 rw [<- h2]
 have hs : x < aCz.data.size := by have := XP; exact (show aCz.data.size = 256 from this) ▸ h
 rw [getElem!_pos aCz.data x hs]
 rfl
theorem awE {x j : Nat} (h : 2 ^ j <= x) : bl x = bl (x / 2 ^ j) + j := by
 have hp := aLC j
 have h0 : x / 2 ^ j ≠ 0 := by
  have := Nat.div_pos h hp
  omega
 have a := Zj h0
 have b := WI (x / 2 ^ j)
 have c := NR h0
 obtain ⟨m, hm⟩ : ∃ m, bl (x / 2 ^ j) = m + 1 := ⟨bl (x / 2 ^ j) - 1, by omega⟩
 rw [hm, aL9] at a
 rw [hm] at b ⊢
 have h1 : 2 ^ (m + j) <= x := by
  rw [aL7]
  exact aMf (aLG _ a) (Nat.div_mul_le_self _ _)
 have h2 : x < 2 ^ (m + j + 1) := by
  rw [show m + j + 1 = (m + 1) + j from by omega, aL7]
  exact (aMY hp).1 b
 rw [aGE h1 h2]; omega
theorem aDx {x n : Nat} (hx : x < 256) (hn : n <= 1000) (R : aNF -> aNE -> Prop) (w : aNE) (h : R (.int .i64 ((n + bl x : Nat) : Int)) w) :
 uU R (.int .u64 x) (.int .i64 n) w := by
 have hg := aCR x hx
 have hs := XP
 have hb : bl x <= 8 := wO (n := 8) (by omega)
 unfold uU
 change aD pg _ w fun t21 w => aD pg (DX 9 (.string aCz) t21) w _
 simp (disch := omega) only [aD, iB, xK, aA, jD, aK9, hg, dF, aP, bK]
 rw [Int.natCast_add] at h
 exact h
theorem ayU (a b : Nat) : ((a : Int)).fdiv (b : Int) = ((a / b : Nat) : Int) := by rw [aMI _ (by omega)] <;> rfl
theorem XT (x j : Nat) (hj : j <= 64) : ((x : Int)).fdiv (2 ^ (min (j : Nat) IntKind.u64.bits)) = ((x / 2 ^ j : Nat) : Int) := by
 have e : min j IntKind.u64.bits = j := by simp only [IntKind.bits]; omega
 rw [e, <- ayU]; simp
theorem aIN (x : Nat) (hx : x < 18446744073709551616) (w : aNE) : aT pg A8 #[.int .u64 x] w (fun r w' => r = .int .i64 (bl x : Nat) /\ w' = w) := by
 refine W6 ?_
 unfold UQ D4 DL
 have step8 : ∀ (y n : Nat), y < 65536 -> n <= 64 -> n + bl y = bl x -> zG (fun r w' => r = .int .i64 (bl x : Nat) /\ w' = w) (.int .u64 y) (.int .i64 n) w := by
  intro y n hy hn e
  unfold zG DV
  by_cases h : 256 <= y
  .have d : decide ((256 : Int) <= (y : Int)) = true := by simp; omega
   have sh := XT y 8 (by omega)
   have hq : y / 2 ^ 8 < 256 := by omega
   have := awE (x := y) (j := 8) (by omega)
   have e2 : (n : Int) + 8 = ((n + 8 : Nat) : Int) := by omega
   simp (disch := omega) only [aD, nF, d, sR, bK, e2, aP, aA, aG]
   rw [show (8 : Int).toNat = 8 from rfl, sh]
   exact aDx hq (by omega) _ _ ⟨by rw [<- e, this]; congr 2; omega, rfl⟩
  .have d : decide ((256 : Int) <= (y : Int)) = false := by simp; omega
   simp (disch := omega) only [aD, nF, d, sR, bK, aP, aA, aE]
   exact aDx (by omega) (by omega) _ _ ⟨by rw [e], rfl⟩
 have step16 : ∀ (y n : Nat), y < 4294967296 -> n <= 32 -> n + bl y = bl x -> zP (fun r w' => r = .int .i64 (bl x : Nat) /\ w' = w) (.int .u64 y) (.int .i64 n) w := by
  intro y n hy hn e
  unfold zP Ef
  by_cases h : 65536 <= y
  .have d : decide ((65536 : Int) <= (y : Int)) = true := by simp; omega
   have sh := XT y 16 (by omega)
   have hq : y / 2 ^ 16 < 65536 := by omega
   have := awE (x := y) (j := 16) (by omega)
   have e2 : (n : Int) + 16 = ((n + 16 : Nat) : Int) := by omega
   simp (disch := omega) only [aD, nF, d, sR, bK, e2, aP, aA, aG]
   rw [show (16 : Int).toNat = 16 from rfl, sh]
   exact step8 _ _ hq (by omega) (by rw [<- e, this]; omega)
  .have d : decide ((65536 : Int) <= (y : Int)) = false := by simp; omega
   simp (disch := omega) only [aD, nF, d, sR, bK, aP, aA, aE]
   exact step8 _ _ (by omega) (by omega) e
 by_cases h : 4294967296 <= x
 .have d : decide ((4294967296 : Int) <= (x : Int)) = true := by simp; omega
  have sh := XT x 32 (by omega)
  have hq : x / 2 ^ 32 < 4294967296 := by omega
  have := awE (x := x) (j := 32) (by omega)
  simp (disch := omega) only [aD, nF, d, sR, aA, aG]
  rw [show (32 : Int).toNat = 32 from rfl, sh]
  exact step16 _ 32 hq (by omega) (by rw [this]; omega)
 .have d : decide ((4294967296 : Int) <= (x : Int)) = false := by simp; omega
  simp (disch := omega) only [aD, nF, d, sR, aA, aE]
  exact step16 _ 0 (by omega) (by omega) (by omega)
theorem aCw (x : Nat) (hx : x < 18446744073709551616) (w : aNE) : aT pg rZ #[.int .u64 x] w (fun r w' => r = .int .i64 (bl x : Nat) /\ w' = w) := by
 refine Z7 ?_
 simp (disch := omega) only [Zh, Hw, aD, kM, aA, aE]
 exact aIN x hx w
theorem aFx {n : Nat} (h : n <= 20) : IntKind.i64.wrap (1 * 2 ^ (min n IntKind.i64.bits)) = ((2 ^ n : Nat) : Int) := by
 have : ∀ k : Fin 21, IntKind.i64.wrap (1 * 2 ^ (min k.val IntKind.i64.bits)) = ((2 ^ k.val : Nat) : Int) := by decide
 exact this ⟨n, by omega⟩
theorem O6 {w : aNE} {v : aNF} {l : List UInt8} (h : Bs w v l) (h0 : 0 < l.length) : ∃ b off c, v = .slice (some ⟨b, off, none⟩) l.length c /\ l.length <= c /\ ∀ i, (h : i < l.length) -> w.cell? ⟨b, off + i, none⟩ = some (.int .u8 (l[i].toNat : Nat)) := by
 obtain ⟨b, off, c, rfl, hc, hcell⟩ := h.openV (by simpa using h0)
 refine ⟨b, off, c, by rw [aLk], by simpa using hc, fun i hi => ?_⟩
 have := hcell i (by simpa using hi)
 simpa [sU] using this
theorem IP {v : aNF} {l : List UInt8} {w : aNE} (h : Bs w v l) (hl : l.length <= 1000000000) :
 aT pg jS #[v] w (fun r w' => sV w' w.heap.size 1 r l.length (l.map sU) /\ aW w w' eT) := by
 refine T9 ?_
 have h1 := h
 obtain ⟨a, n, c, rfl, hn, hc, hh⟩ := h
 rw [aLk] at hn
 unfold Qh Bp
 cases a with
 | none =>
   have h0 : l = [] := by
    cases l with
    | nil => rfl
    | cons x l => obtain ⟨b, off, h, _⟩ := hh (by simp at hn; omega); cases h
   subst h0
   simp (disch := omega) only [aD, lL, aLS, aA, aG]
   exact ⟨sV.nil _ _ _, aW.refl _ _⟩
 | some x =>
   simp (disch := omega) only [aD, lL, aLt, aA, aE]
   refine aCo Tryz.underlying22 Sr fun w1 o1 x1 s1 => ?_
   have hcl1 := (h1.ext x1 (bZ _)).cl
   rw [aLk] at hcl1
   have hos : sV w1 w.heap.size 1 (.slice (some ⟨w.heap.size, 0, none⟩) 0 0) 0 [] := ⟨rfl, .inr ⟨_, 0, [], rfl, aLm _, o1, rfl, aLm _⟩⟩
   refine mJ hos hcl1 (awD _) x1.size (by omega) fun v3 w3 o3 x3 => ?_
   rw [aLa, aMu] at o3
   exact ⟨o3, x1.trans x3 fun b hb h => Nat.not_le_of_lt hb h⟩
def AtI (v : aNF) (lo hi : Nat) : Prop := ∀ M : Nat -> Prop, (∀ b, lo <= b -> b < hi -> ¬ M b) -> ¬ inB v M
theorem sV.atI {w : aNE} {base sz n : Nat} {v : aNF} {l : List aNF} (h : sV w base sz v n l) : AtI v base w.heap.size := by
 intro M hM
 rcases h.2 with ⟨rfl, rfl⟩ | ⟨b, c, rest, rfl, h2, h3, h4, h5⟩
 .exact fun h => h
 .exact At.at b 0 n c M (hM b h2 h3.lt)
theorem aJS {w : aNE} {a : Option Addr} {n c : Nat} {l : List aNF} (h : Sl w (.slice a n c) l) {k : Nat} (hk : k <= n) : Sl w (.slice a k c) (l.take k) := by
 obtain ⟨a', n', c', e, hn, hc, hh⟩ := h
 cases e
 refine ⟨a, k, c, rfl, by rw [aLn]; omega, by omega, fun h0 => ?_⟩
 obtain ⟨b, off, ha, hcell⟩ := hh (by omega)
 refine ⟨b, off, ha, fun i hi => ?_⟩
 rw [hcell i (by omega), aLY (by omega)]
theorem slA {w : aNE} {a : Option Addr} {n c : Nat} {l : List aNF} (h : Sl w (.slice a n c) l) (h0 : 0 < n) : ∃ b off, a = some ⟨b, off, none⟩ /\ ∀ i, i < n -> w.cell? ⟨b, off + i, none⟩ = l[i]? := by
 obtain ⟨a', n', c', e, hn, hc, hh⟩ := h
 cases e
 exact hh h0
end Go.Proofs.YtgpimhlgaokobaaGreat
namespace Go.En
open Go
section
variable {P : Program}
theorem awT {a : Array aNF} {t x : Nat} {v : aNF} (h : t < a.size) : Vi (a.setIfInBounds t v) x = if x = t then v else Vi a x := by
 unfold Vi
 rw [aLp, aLp]
 by_cases hx : x = t
 .subst hx; rw [aL4 h, if_pos rfl] <;> rfl
 .rw [aL8 (fun e => hx e.symm), if_neg hx]
theorem aFA {N x : Nat} {g : Env} (h : x < N) : Vi (tmpsOf N g) x = g x := by
 unfold Vi tmpsOf
 rw [aLp, aLL (by simpa using h)]
 simp
theorem aIJ {f : FuncId} {fn : Func} (hf : P.funcs[f]? = some fn) (hb : fn.body.isSome = true) (hn : (fn.name == "runtime.NumGoroutine") = false) (cap : Array aNF) (args : List aNF) (w : aNE) :
 (PQ (.func (.func f) #[] cap) args).run P w = .ok (.enter f (args.toArray ++ cap)) w := by
 unfold PQ Deferred.ofValue
 simp only [pure_bind, invoke, Array.empty_append]
 exact akT hf hb hn _ _
def awL (r : Loop) (args : List aNF) : Array aNF := (r.params.zip args.toArray).foldl (fun tmps (t, a) => tmps.setIfInBounds t a) r.tmps
theorem aIq {r : Loop} {a b : Tmp} {t : Array aNF} (hp : r.params = #[a, b]) (ht : r.tmps = t) (x y : aNF) : awL r [x, y] = (t.setIfInBounds a x).setIfInBounds b y := by
 unfold awL; rw [hp, ht]; simp
theorem aIt {l : Nat} {r : Loop} {args : List aNF} {w : aNE} (h : w.heap[l]? = some (.loop r)) (hs : args.length = r.params.size) :
 (PQ (Pa l) args).run P w = .ok (.round l r.fn (awL r args) r.assign r.body) w := by
 unfold PQ Pa Deferred.ofValue
 simp only [pure_bind, invoke, Array.empty_append]
 exact run_yield h (by simpa using hs)
theorem aHV {f fi : FuncId} {fn : Func} {gf : Operand} {ps : Array Tmp} {aK6 bd : Code} {Q : Exit -> Env -> aNE -> Prop} {g : Env} {w : aNE} {cap : Array aNF}
 (hm : noMark (g DS) = true) (he : ev g gf = .func (.func fi) #[] cap) (hf : P.funcs[fi]? = some fn) (hb : fn.body.isSome = true) (hn : (fn.name == "runtime.NumGoroutine") = false)
 (h : aT P fi (#[Pa (w.heap.size + 1)] ++ cap) (rfW f (apL P f) ps aK6 bd g w) fun _ w3 => aHK (w.heap.size + 1) Q (put g (some DS) (.pointer (some ⟨w.heap.size, 0, none⟩))) w3) :
 RF P f gf ps aK6 bd Q g w := by
 unfold RF
 rw [hm]
 simp only
 rw [he, aIJ hf hb hn]
 exact h
theorem aW.putObj (w : aNE) (l : Nat) (o : Obj) : aW w (w.putObj l o) (fun y => y = l) :=
 ⟨rfl, rfl, rfl, by simp, fun b hb hM => World.putObj_heap_other hM⟩
theorem HQ {w w' : aNE} {l : Nat} {o : Obj} {M : Nat -> Prop} (h : w.heap[l]? = some o) (hx : aW w w' M) (hM : ¬ M l) : w'.heap[l]? = some o := by
 have : l < w.heap.size := by
  rcases aLv l w.heap.size with h' | h'
  .exact h'
  .rw [aME h'] at h; cases h
 rw [hx.keep l this hM]; exact h
theorem aI3 {w : aNE} {l : Nat} {o : Obj} (h : w.heap[l]? = some o) : l < w.heap.size := by
 rcases aLv l w.heap.size with h' | h'
 .exact h'
 .rw [aME h'] at h; cases h
theorem aF6 (f : FuncId) (N : Nat) (ps : Array Tmp) (aK6 bd : Code) (g : Env) (w : aNE) :
 aW w (rfW f N ps aK6 bd g w) eT /\ (rfW f N ps aK6 bd g w).heap.size = w.heap.size + 2 /\ (rfW f N ps aK6 bd g w).heap[w.heap.size]? = some (.deferred (some [])) /\
  (rfW f N ps aK6 bd g w).heap[w.heap.size + 1]? = some (.loop { state := .ready, pending := none, fn := f, tmps := tmpsOf N g, params := ps, assign := aK6, body := bd, defers := w.heap.size }) := by
 unfold rfW
 have x1 := aW.alloc w (.deferred (some [])) eT
 have h1 := World.alloc_heap_new w (.deferred (some []))
 have z1 : (w.alloc (.deferred (some []))).heap.size = w.heap.size + 1 := by simp
 generalize w.alloc (.deferred (some [])) = w1 at *
 refine ⟨x1.seq (aW.alloc w1 _ eT), by simp [z1], HQ h1 (aW.alloc w1 _ eT) (fun h => h), ?_⟩
 have := World.alloc_heap_new w1 (.loop { state := .ready, pending := none, fn := f, tmps := tmpsOf N g, params := ps, assign := aK6, body := bd, defers := w.heap.size })
 rw [z1] at this
 exact this
theorem aFG {l : Nat} {r : Loop} {w : aNE} {K : aNE -> Prop} (h : w.heap[l]? = some (.loop r)) (hr : r.state = .ready)
 (hk : ∀ w', w'.heap[l]? = some (.loop { r with state := .busy }) -> aW w w' (fun y => y = l) -> w'.heap.size = w.heap.size -> K w') : Rdy l w K :=
 ⟨r, h, hr, hk _ (World.putObj_heap_same (aI3 h)) (aW.putObj _ _ _) (by simp)⟩
theorem awS {l : Nat} {r : Loop} {j : Option Code} {w : aNE} {R : aNF -> aNE -> Prop} (h : w.heap[l]? = some (.loop r))
 (hk : ∀ w', w'.heap[l]? = some (.loop { r with state := jSt j, pending := j }) -> aW w w' (fun y => y = l) -> w'.heap.size = w.heap.size -> R (.bool j.isNone) w') : aDw l j R w :=
 ⟨r, h, hk _ (World.putObj_heap_same (aI3 h)) (aW.putObj _ _ _) (by simp)⟩
theorem arL {l : Nat} {r : Loop} {w : aNE} {Q : Exit -> Env -> aNE -> Prop} {g : Env} (h : w.heap[l]? = some (.loop r)) (hb : r.state ≠ .busy)
 (hk : ∀ w', aW w w' (fun y => y = l) -> w'.heap.size = w.heap.size -> aJl Q g r.pending w') : aHK l Q g w :=
 ⟨r, h, hb, hk _ (aW.putObj _ _ _) (by simp)⟩
theorem axL {b : Nat} {w : aNE} {K : aNE -> Prop} (h : w.heap[b]? = some (.deferred (some []))) (hk : ∀ w', aW w w' (fun y => y = b) -> w'.heap.size = w.heap.size -> K w') :
 G7 (.pointer (some ⟨b, 0, none⟩)) w K := ⟨h, hk _ (aW.putObj _ _ _) (by simp)⟩
theorem aJI {f : FuncId} (first captured : List aNF) (w : aNE) : (aCs (.func f) first captured).run P w = .ok (.value (.func (.func f) first.toArray captured.toArray)) w := by
 unfold aCs V Instr.makeFunc
 simp [Sem.run_bind, Sem.run_pure]
end
end Go.En
namespace Go.Proofs.YtgpimhlgaokobaaGreat
open Go Go.En Go.Pu
set_option maxRecDepth 4000
theorem aDZ {l : List UInt8} {v : aNF} {box lp : Nat} {r0 : Loop} {w : aNE} (I : Nat -> aNE -> Prop) (S : aNE -> Prop)
 (hI : ∀ i W, I i W -> eM W box [v] /\ Bs W v l /\ W.heap[lp]? = some (.loop r0)) (hp : r0.params.size = 2) (hl : l.length <= 1000000000) (h0 : I l.length w)
 (hs : ∀ i W, (hi : i < l.length) -> I (i + 1) W -> aAK pg lp r0.fn (awL r0 [.int .i64 i, .int .u8 ((l[i]'hi).toNat : Nat)]) r0.assign r0.body W (fun b W' => (b = .bool true /\ I i W') ∨ (b = .bool false /\ S W'))) :
 aT pg oX #[Pa lp, .pointer (some ⟨box, 0, none⟩)] w (fun r W => r = .tuple #[] /\ (I 0 W ∨ S W)) := by
 refine Jk ?_
 obtain ⟨o, hb, hlp⟩ := hI _ _ h0
 have c0 := o.cell (off := 0)
 simp only [aK7] at c0
 obtain ⟨a, n, c, hv, hn, hc, _⟩ := id hb
 rw [aLk] at hn
 unfold CN uD uJ
 subst hn
 have e1 : (l.length : Int) - 1 = (l.length : Int) - 1 := rfl
 subst hv
 simp (disch := omega) only [aD, eQ, c0, aH, true_and, aA, aQ, fE, aP]
 unfold uH uE
 refine cS.rule (fun m (t : aNF) w' => ∃ i : Nat, m = i /\ t = .int .i64 ((i : Int) - 1) /\ i <= l.length /\ I i w') l.length ⟨l.length, rfl, rfl, aLm _, h0⟩ ?_
 rintro i t w1 ⟨i', rfl, rfl, hi, hIw⟩
 unfold rB
 cases i with
 | zero =>
   have d1 : decide ((0 : Int) <= ((0 : Nat) : Int) - 1) = false := rfl
   simp (disch := omega) only [aD, nF, d1, eQ, true_and, fE, aP, aA, aE]
   exact .inl hIw
 | succ j =>
   have e0 : ((j + 1 : Nat) : Int) - 1 = (j : Int) := by omega
   have d1 : decide ((0 : Int) <= (j : Int)) = true := by simp
   obtain ⟨o1, hb1, hlp1⟩ := hI _ _ hIw
   have c1 := o1.cell (off := 0)
   simp only [aK7] at c1
   obtain ⟨b, off, c', hv', hc', hcell⟩ := hb1.openV (by simp; omega)
   simp only [aLk, Value.slice.injEq] at hv'
   obtain ⟨rfl, _, rfl⟩ := hv'
   have g1 := hcell j (by rw [aLk]; omega)
   simp only [aMe, sU] at g1
   have q1 := aIt (P := pg) (args := [.int .i64 (j : Nat), .int .u8 ((l[j]'hi).toNat : Nat)]) hlp1 (by rw [hp] <;> rfl)
   rw [e0]
   simp (disch := omega) only [aD, nF, d1, eQ, true_and, fE, aP, aA, c1, aH, dA, aK9, gS, g1, q1, aCJ, aG]
   obtain ⟨b', w2, hret, hR⟩ := hs j w1 hi hIw
   refine ⟨b', w2, hret, ?_⟩
   rcases hR with ⟨rfl, hI2⟩ | ⟨rfl, hS⟩
   .simp (disch := omega) only [oP, aLu, aA, aE]
    exact ⟨j, by omega, j, rfl, rfl, by omega, hI2⟩
   .simp (disch := omega) only [oP, aLE, aA, aG]
    exact .inr hS
end Go.Proofs.YtgpimhlgaokobaaGreat
namespace Go.Pu
open Go Go.En
def Sw (c : UInt8) : List Bool := (List.range 8).map c.toNat.testBit
def aZ : List UInt8 -> List Bool
 | [] => []
 | c :: l => Sw c ++ aZ l
def wM : List Bool -> Nat
 | [] => 0
 | b :: l => b.toNat + 2 * wM l
theorem zV (c : UInt8) : (Sw c).length = 8 := by simp [Sw]
theorem lY : ∀ l : List UInt8, (aZ l).length = 8 * l.length
 | [] => rfl
 | c :: l => by rw [aZ, aLh, zV, lY l, aLw]; omega
theorem Uf : ∀ a b : List UInt8, aZ (a ++ b) = aZ a ++ aZ b
 | [], b => rfl
 | c :: a, b => by rw [aMh, aZ, aZ, Uf a b, aLF]
theorem aGu (c : UInt8) {k : Nat} (h : k < 8) : (Sw c)[k]? = some (c.toNat.testBit k) := by
 unfold Sw
 rw [aLD, aMb h] <;> rfl
theorem MM : ∀ (l : List UInt8) (i : Nat) (h : i < 8 * l.length), (aZ l)[i]? = some ((l[i / 8]'(by omega)).toNat.testBit (i % 8))
 | [], i, h => by simp at h
 | c :: l, i, h => by
   rw [aZ]
   rcases aLv i 8 with h8 | h8
   .rw [aLy (by rw [zV]; exact h8), aGu c h8]
    have e : i / 8 = 0 := by omega
    have e2 : i % 8 = i := by omega
    simp [e, e2]
   .rw [aMd (by rw [zV]; exact h8), zV, MM l (i - 8) (by simp at h; omega)]
    have e : i / 8 = (i - 8) / 8 + 1 := by omega
    have e2 : (i - 8) % 8 = i % 8 := by omega
    simp [e, e2]
theorem ahJ : ∀ l : List Bool, wM l < 2 ^ l.length
 | [] => by simp [wM]
 | b :: l => by
   have := ahJ l
   rw [wM, aLw, aLM]
   have : b.toNat <= 1 := Bool.toNat_le b
   omega
theorem Wu : ∀ a b : List Bool, wM (a ++ b) = wM a + 2 ^ a.length * wM b
 | [], b => by simp [wM]
 | x :: a, b => by
   rw [aMh, wM, wM, Wu a b, aLw, aLM, aNm, <- aNk, <- aMH, aLJ 2 (2 ^ a.length)]
theorem aF8 (a : List Bool) (x : Bool) : wM (a ++ [x]) = wM a + 2 ^ a.length * x.toNat := by
 rw [Wu]; simp [wM]
def yW (x : Nat) (n : Nat) : List Bool := (List.range n).map x.testBit
theorem G0 (x n : Nat) : (yW x n).length = n := by simp [yW]
theorem PM (x : Nat) : yW x 0 = [] := rfl
theorem abS (x n : Nat) : yW x (n + 1) = yW x n ++ [x.testBit n] := by
 unfold yW; rw [aNo, aLz] <;> rfl
theorem aDU (x n : Nat) : yW x (n + 1) = x.testBit 0 :: yW (x / 2) n := by
 unfold yW
 rw [List.range_succ_eq_map, aMn, aNC]
 congr 1
 apply aLN
 intro k _
 simp [Nat.testBit_succ]
theorem avY : ∀ (n x : Nat), wM (yW x n) = x % 2 ^ n
 | 0, x => by simp [yW, wM, Nat.mod_one]
 | n + 1, x => by
   rw [aDU, wM, avY n (x / 2), aLM, aLJ (2 ^ n) 2, Nat.mod_mul]
   congr 1
   rw [Nat.testBit_zero]
   have : x % 2 = 0 ∨ x % 2 = 1 := by omega
   rcases this with h | h <;> simp [h]
theorem ayX {x i : Nat} (h : x < 2 ^ i) (b : Nat) : x ||| (b * 2 ^ i) = x + 2 ^ i * b := by
 rw [Nat.or_comm, aLJ b, <- Nat.two_pow_add_eq_or_of_lt h b, Nat.add_comm]
theorem aBq {a b : Nat} (ha : a < 2 ^ 64) (hb : b < 2 ^ 64) : orI .u64 (a : Int) (b : Int) = ((a ||| b : Nat) : Int) := by
 have h := Nat.or_lt_two_pow ha hb
 unfold orI
 have e : IntKind.u64.bits = 64 := rfl
 rw [e, BitVec.ofInt_natCast, BitVec.ofInt_natCast, BitVec.toNat_or, BitVec.toNat_ofNat, BitVec.toNat_ofNat, aLP ha, aLP hb]
 exact kS (by omega) (by have : ((a ||| b : Nat) : Int) < ((2 ^ 64 : Nat) : Int) := by exact_mod_cast h
                         omega)
theorem awV {a b : Nat} (ha : a < 2 ^ 8) (hb : b < 2 ^ 8) : orI .u8 (a : Int) (b : Int) = ((a ||| b : Nat) : Int) := by
 have h := Nat.or_lt_two_pow ha hb
 unfold orI
 have e : IntKind.u8.bits = 8 := rfl
 rw [e, BitVec.ofInt_natCast, BitVec.ofInt_natCast, BitVec.toNat_or, BitVec.toNat_ofNat, BitVec.toNat_ofNat, aLP ha, aLP hb]
 exact xK (by omega) (by have : ((a ||| b : Nat) : Int) < ((2 ^ 8 : Nat) : Int) := by exact_mod_cast h
                         omega)
theorem aIK {a : Nat} (h : a < 2 ^ 8) : VF .u8 (a : Int) 1 = ((a % 2 : Nat) : Int) := by
 have : ∀ k : Fin 256, VF .u8 (k.val : Int) 1 = ((k.val % 2 : Nat) : Int) := by decide +kernel
 exact this ⟨a, h⟩
theorem aDo {a : Nat} (h : a < 2 ^ 64) : VF .u64 (a : Int) 1 = ((a % 2 : Nat) : Int) := by
 unfold VF
 have e : IntKind.u64.bits = 64 := rfl
 rw [e, BitVec.ofInt_natCast, show (BitVec.ofInt 64 1) = BitVec.ofNat 64 1 from rfl, BitVec.toNat_and, BitVec.toNat_ofNat, BitVec.toNat_ofNat, aLP h, show 1 % 2 ^ 64 = 1 from rfl, Nat.and_one_is_mod]
 exact kS (by omega) (by omega)
theorem aoG (x k : Nat) : (x.testBit k).toNat = x / 2 ^ k % 2 := by
 rw [aM8]
 have : x / 2 ^ k % 2 = 0 ∨ x / 2 ^ k % 2 = 1 := by omega
 rcases this with h | h <;> simp [h]
def qH (L : List Bool) (n : Nat) : Nat := wM (L.drop (L.length - min n L.length)) * 2 ^ (n - min n L.length)
theorem tC (L : List Bool) (n : Nat) : qH L n < 2 ^ n := by
 unfold qH
 have h := ahJ (L.drop (L.length - min n L.length))
 rw [aLs, show L.length - (L.length - min n L.length) = min n L.length from by omega] at h
 calc _ < 2 ^ min n L.length * 2 ^ (n - min n L.length) := Nat.mul_lt_mul_of_pos_right h (aLC _)
  _ = 2 ^ n := by rw [<- aL7]; congr 1; omega
theorem aAg {L : List Bool} {at' i : Nat} {b : Bool} (h : L[at' + i]? = some b) : (L.drop at').take (i + 1) = (L.drop at').take i ++ [b] := by
 rw [aL6, aMN, h] <;> rfl
def Yf (l : List UInt8) : Option Nat := match l.getLast? with
 | none => none
 | some c => if c.toNat = 0 then none else some (8 * (l.length - 1) + bl c.toNat - 1)
theorem MN {l : List UInt8} (h : 0 < l.length) : Yf l = if (l[l.length - 1]'(by omega)).toNat = 0 then none else some (8 * (l.length - 1) + bl (l[l.length - 1]'(by omega)).toNat - 1) := by
 unfold Yf
 rw [aM2, aLg (by omega)]
theorem Ij {l : List UInt8} {k : Nat} (h : Yf l = some k) : 0 < l.length /\ k < 8 * l.length /\ 8 * (l.length - 1) <= k /\ (aZ l)[k]? = some true /\ ∀ j, k < j -> j < 8 * l.length -> (aZ l)[j]? = some false := by
 have h0 : 0 < l.length := by
  cases l with
  | nil => simp [Yf] at h
  | cons x l => simp
 rw [MN h0] at h
 generalize hc : l[l.length - 1]'(by omega) = c at h
 split at h
 .cases h
 .rename_i hne
  have hk := aLA h
  have h1 := NR hne
  have h2 : bl c.toNat <= 8 := wO (by have : c.toNat < 256 := aLO c
                                      omega)
  have h3 := Zj hne
  have h4 := WI c.toNat
  refine ⟨h0, by omega, by omega, ?_, ?_⟩
  .rw [MM l k (by omega)]
   have e : k / 8 = l.length - 1 := by omega
   have e2 : k % 8 = bl c.toNat - 1 := by omega
   simp only [e, hc, e2]
   rw [aM8]
   obtain ⟨m, hm⟩ : ∃ m, bl c.toNat = m + 1 := ⟨bl c.toNat - 1, by omega⟩
   rw [hm, aL9] at h3 ⊢
   rw [hm, aLM] at h4
   have : c.toNat / 2 ^ m = 1 := by
    have hp := aLC m
    have := (Nat.le_div_iff_mul_le hp).2 (show 1 * 2 ^ m <= c.toNat by omega)
    have := (aMY hp).2 (show c.toNat < 2 * 2 ^ m by omega)
    omega
   simp [this]
  .intro j h5 h6
   rw [MM l j h6]
   have e : j / 8 = l.length - 1 := by omega
   simp only [e, hc]
   rw [Nat.testBit_lt_two_pow]
   exact aMK h4 (aLj (by omega) (by omega))
end Go.Pu
namespace Go.Proofs.YtgpimhlgaokobaaGreat
open Go Go.En Go.Pu
set_option maxRecDepth 4000
theorem aHA {l : List UInt8} {v : aNF} {st n : Nat} {w : aNE} (h : Bs w v l) (hn : n <= 64) (hat : st + n <= 8 * l.length) (hl : l.length <= 1000000000) :
 aT pg Jx #[v, .int .i64 st, .int .i64 n] w (fun r w' => r = .int .u64 (wM (((aZ l).drop st).take n)) /\ w' = w) := by
 refine ayL ?_
 unfold aAN TB TM TV Tv Ts T0 TA
 refine cS.rule (fun m (t : aNF × aNF) w' => ∃ i : Nat, m = n - i /\ t = (.int .u64 (wM (((aZ l).drop st).take i) : Nat), .int .i64 i) /\ i <= n /\ w' = w) n ⟨0, rfl, by simp [wM], by omega, rfl⟩ ?_
 rintro m t w1 ⟨i, rfl, rfl, hi, rfl⟩
 unfold Mn
 by_cases hlt : i < n
 .have d1 : decide ((i : Int) < (n : Int)) = true := by simp; omega
  obtain ⟨b, off, c, rfl, hc, hcell⟩ := h.openV (by simp; omega)
  obtain ⟨q, hq⟩ : ∃ q, q = st + i := ⟨_, rfl⟩
  have e0 : (st : Int) + (i : Int) = (q : Int) := by omega
  have e1 : (q : Int).tdiv 8 = ((q / 8 : Nat) : Int) := by rw [aLr (by omega)]; omega
  have e2 : (q : Int).tmod 8 = ((q % 8 : Nat) : Int) := by rw [aLB (by omega)]; omega
  have hq8 : q / 8 < l.length := by omega
  have hb : (aZ l)[st + i]? = some ((l[q / 8]'hq8).toNat.testBit (q % 8)) := by subst hq; exact MM l _ (by omega)
  have ht := aAg hb
  have g1 := hcell (q / 8) (by simpa using hq8)
  simp only [aMe, sU] at g1
  have hx : (l[q / 8]'hq8).toNat < 256 := aLO _
  generalize (l[q / 8]'hq8).toNat = x at *
  have e3 : (x : Int).fdiv (2 ^ (min (q % 8) IntKind.u8.bits)) = ((x / 2 ^ (q % 8) : Nat) : Int) := by
   rw [show min (q % 8) IntKind.u8.bits = q % 8 from aL3 (by have : IntKind.u8.bits = 8 := rfl
                                                             omega), aMI _ (Int.pow_nonneg (by omega))]
   simp
  have hy : x / 2 ^ (q % 8) < 2 ^ 8 := by have := aMa x (2 ^ (q % 8)); omega
  have e4 := aIK hy
  rw [<- aoG] at e4
  have hbt : (x.testBit (q % 8)).toNat <= 1 := Bool.toNat_le _
  have hlen : (((aZ l).drop st).take i).length = i := by rw [aLn, aLs, lY]; omega
  have hnb := ahJ (((aZ l).drop st).take i)
  have hsn := aF8 (((aZ l).drop st).take i) (x.testBit (q % 8))
  rw [<- ht, hlen] at hsn
  rw [hlen] at hnb
  have hp : 2 ^ i < 2 ^ 64 := Nat.pow_lt_pow_right (by omega) (by omega)
  have hp2 : 2 ^ i <= 2 ^ 63 := aLj (by omega) (by omega)
  generalize (x.testBit (q % 8)).toNat = bt at *
  have hm : bt * 2 ^ i <= 2 ^ i := by
   have := aLG (2 ^ i) hbt
   omega
  have e5 : IntKind.u64.wrap ((bt : Int) * 2 ^ (min i IntKind.u64.bits)) = ((bt * 2 ^ i : Nat) : Int) := by
   rw [show min i IntKind.u64.bits = i from aL3 (by have : IntKind.u64.bits = 64 := rfl
                                                    omega)]
   have e : (bt : Int) * 2 ^ i = ((bt * 2 ^ i : Nat) : Int) := by simp
   rw [e]
   exact kS (by omega) (by omega)
  have e6 := aBq (a := wM (((aZ l).drop st).take i)) (b := bt * 2 ^ i) (by omega) (by omega)
  rw [ayX hnb, <- hsn] at e6
  simp (disch := omega) only [aD, aS, d1, bK, e0, aP, aLk, fW, kS, aA, oR, e1, rD, e2, dA, aK9, gS, g1, aH, sR, e3, wK, e4, iT, pE, e5, LA, e6, and_true, aG]
  exact ⟨n - (i + 1), by omega, i + 1, rfl, rfl, by omega⟩
 .have d1 : decide ((i : Int) < (n : Int)) = false := by simp; omega
  obtain rfl : i = n := by omega
  unfold MB
  simp (disch := omega) only [aD, aS, d1, bK, aP, fW, kS, aA, oR, rD, true_and, aE]
def Fwd (w : aNE) (lo hi : Nat) (l : List UInt8) (st : Nat) : Prop := ∃ v, eM w hi [v, .int .i64 st] /\ Bs w v l /\ AtI v lo hi
theorem Fwd.ext {w w' : aNE} {lo hi st : Nat} {l : List UInt8} {M : Nat -> Prop} (h : Fwd w lo hi l st) (hx : aW w w' M) (hM : ∀ b, lo <= b -> b <= hi -> ¬ M b) (hlh : lo <= hi) : Fwd w' lo hi l st := by
 obtain ⟨v, h1, h2, h3⟩ := h
 exact ⟨v, h1.ext hx (hM _ hlh (aLm _)), h2.ext hx (h3 M fun b hb hh => hM b hb (by omega)), h3⟩
theorem aBU {v : aNF} {l : List UInt8} {w : aNE} (h : Bs w v l) (hl : l.length <= 1000000000) :
 aT pg Bd #[v] w (fun r w' => ∃ hi, r = .pointer (some ⟨hi, 0, none⟩) /\ w.heap.size <= hi /\ hi < w'.heap.size /\ Fwd w' w.heap.size hi l 0 /\ aW w w' eT) := by
 refine Xn ?_
 unfold UL D7
 refine (IP h hl).mono ?_
 rintro r w1 ⟨o1, x1⟩
 have hat := sV.atI o1
 have hs := o1.sl
 obtain ⟨a, c, rfl⟩ := o1.len
 simp (disch := omega) only [aD, iW, aA]
 refine nO fun w2 o2 x2 s2 => ?_
 simp only [Value.cells] at o2
 exact ⟨_, rfl, x1.size, by omega, ⟨_, o2, hs.ext x2 (bZ _), hat⟩, x1.seq x2⟩
theorem XL {l : List UInt8} {lo hi st n : Nat} {w : aNE} (h : Fwd w lo hi l st) (hlh : lo <= hi) (hn : n <= 32) (hst : st <= 8 * l.length) (hl : l.length <= 1000000) :
 aT pg pQ #[.pointer (some ⟨hi, 0, none⟩), .int .i64 n] w (fun r w' =>
  (8 * l.length < st + n /\ r = .tuple #[.int .u64 0, .int .i64 10] /\ Fwd w' lo hi l st /\ aW w w' eT) ∨
  (st + n <= 8 * l.length /\ r = .tuple #[.int .u64 (wM (((aZ l).drop st).take n)), .int .i64 0] /\ Fwd w' lo hi l (st + n) /\ aW w w' (fun y => y = hi))) := by
 refine TC ?_
 obtain ⟨v, o, hs, hat⟩ := h
 unfold Qf Bk
 have d1 : decide ((n : Int) < 0) = false := by simp
 have d2 : decide ((32 : Int) < (n : Int)) = false := by simp; omega
 have c0 := o.cell (off := 0)
 have c1 := o.cell (off := 1)
 simp only [aK7, aK8] at c0 c1
 obtain ⟨a, n', c, hv, hn', hc, hh⟩ := id hs
 rw [aLk] at hn'
 subst hn'
 by_cases hsh : 8 * l.length < st + n
 .have d3 : decide (8 * (l.length : Int) - (st : Int) < (n : Int)) = true := by simp; omega
  subst hv
  have od := kA o
  have c0d := od.cell (off := 0)
  have c1d := od.cell (off := 1)
  simp only [aK7, aK8] at c0d c1d
  simp (disch := omega) only [aD, fL, aLt, qU, true_and, aA, gO, aLa, bO, iL, eQ, dI, bE, aLb, if_false, bJ, aS, d1, dE, d2, c0d, aH, c1d, aQ, oN, aP, fE, d3, aG, aE]
  exact .inl ⟨hsh, ⟨_, kA o, hs.ext (aW.dr _ eT) (bZ _), hat⟩, aW.dr _ _⟩
 .have d3 : decide (8 * (l.length : Int) - (st : Int) < (n : Int)) = false := by simp; omega
  subst hv
  have c0e := (kA o).cell (off := 0)
  have c1e := (kA o).cell (off := 1)
  have od := kA (kA o)
  have c0d := od.cell (off := 0)
  have c1d := od.cell (off := 1)
  simp only [aK7, aK8] at c0d c1d c0e c1e
  simp (disch := omega) only [aD, fL, aLt, qU, true_and, aA, gO, aLa, bO, iL, eQ, dI, bE, aLb, if_false, bJ, aS, d1, dE, d2, c0e, aH, c1e, c0d, c1d, aQ, oN, aP, fE, d3, aE]
  refine (aHA (l := l) (st := st) (n := n) ((hs.ext (aW.dr _ eT) (bZ _)).ext (aW.dr _ eT) (bZ _)) (by omega) (by omega) (by omega)).mono ?_
  rintro r w1 ⟨rfl, rfl⟩
  simp (disch := omega) only [c1d, aH, true_and, aA, bK, aP]
  refine pD od rfl (by simp) fun w2 o2 x2 s2 => ?_
  simp only [aLd, aLc] at o2
  have e1 : (st : Int) + (n : Int) = ((st + n : Nat) : Int) := by omega
  rw [e1] at o2
  have x02 : aW w w2 (fun y => y = hi) := ((aW.dr _ _).seq (aW.dr _ _)).seq x2
  exact .inr ⟨by omega, ⟨_, o2, hs.ext x02 (hat _ fun b hb hh => by omega), hat⟩, x02⟩
theorem aFM {l : List UInt8} {lo hi st : Nat} {w : aNE} (h : Fwd w lo hi l st) (hst : st <= 1000000000) :
 aT pg xP #[.pointer (some ⟨hi, 0, none⟩)] w (fun r w' => r = .int .i64 (((st + 7) / 8 : Nat)) /\ w' = w) := by
 refine TT ?_
 obtain ⟨v, o, hs, hat⟩ := h
 have c1 := o.cell (off := 1)
 simp only [aK7, aK8] at c1
 have e1 : ((st : Int) + 7).tdiv 8 = (((st + 7) / 8 : Nat) : Int) := by rw [aLr (by omega)]; omega
 unfold QB BA
 simp (disch := omega) only [aD, fL, aLt, qU, aA, gO, aLa, bO, and_true, c1, aH, bK, aP, oR, e1, aE]
end Go.Proofs.YtgpimhlgaokobaaGreat
namespace Go.Pu
open Go Go.En
structure atW (B : List Bool) (l : List UInt8) : Prop where
 len : l.length = (B.length + 7) / 8
 bits : aZ l = B ++ List.replicate (8 * l.length - B.length) false
theorem aHP : atW [] [] := ⟨rfl, rfl⟩
theorem aD6 : Sw 0 = List.replicate 8 false := by decide
theorem aAo {B : List Bool} {l : List UInt8} (h : atW B l) (h8 : B.length % 8 = 0) : aZ (l ++ [0]) = B ++ List.replicate (8 * (l.length + 1) - B.length) false /\ (l ++ [(0 : UInt8)]).length = (B.length + 1 + 7) / 8 := by
 have hl := h.len
 refine ⟨?_, by rw [aLh, aL1]; omega⟩
 rw [Uf, h.bits, aZ, aZ, aD6, aLX, aLF]
 congr 1
 rw [show 8 * l.length - B.length = 0 from by omega, show 8 * (l.length + 1) - B.length = 8 from by omega]
 rfl
theorem aHa (c : UInt8) (r : Nat) (hr : r < 8) (y : Bool) (h : c.toNat.testBit r = false) : Sw (UInt8.ofNat (c.toNat + 2 ^ r * y.toNat)) = (Sw c).set r y /\ c.toNat + 2 ^ r * y.toNat < 256 /\ c.toNat ||| (y.toNat * 2 ^ r) = c.toNat + 2 ^ r * y.toNat := by
 have key : ∀ (c : Fin 256) (r : Fin 8) (y : Bool), c.val.testBit r.val = false -> Sw (UInt8.ofNat (c.val + 2 ^ r.val * y.toNat)) = (Sw (UInt8.ofNat c.val)).set r.val y /\ c.val + 2 ^ r.val * y.toNat < 256 /\ c.val ||| (y.toNat * 2 ^ r.val) = c.val + 2 ^ r.val * y.toNat := by decide +kernel
 have := key ⟨c.toNat, aLO c⟩ ⟨r, hr⟩ y h
 simpa using this
theorem aAV : ∀ (l : List UInt8) (i r : Nat) (c : UInt8) (y : Bool) (hi : i < l.length), r < 8 -> Sw c = (Sw l[i]).set r y -> aZ (l.set i c) = (aZ l).set (8 * i + r) y
 | [], i, r, c, y, hi, hr, h => by simp at hi
 | x :: l, 0, r, c, y, hi, hr, h => by
   rw [aLd, aZ, aZ, h, aMr _ _ (by rw [zV]; omega)]
   simp
 | x :: l, i + 1, r, c, y, hi, hr, h => by
   rw [aLc, aZ, aZ, aMO _ _ (by rw [zV]; omega), zV, aAV l i r c y (by simpa using hi) hr (by simpa using h)]
   congr 2
   omega
theorem aCf {B : List Bool} {l : List UInt8} {y : Bool} (hb : aZ l = B ++ List.replicate (8 * l.length - B.length) false) (hl : l.length = (B.length + 1 + 7) / 8) :
 ∃ hi : B.length / 8 < l.length, atW (B ++ [y]) (l.set (B.length / 8) (UInt8.ofNat ((l[B.length / 8]'hi).toNat + 2 ^ (B.length % 8) * y.toNat))) /\
   (l[B.length / 8]'hi).toNat + 2 ^ (B.length % 8) * y.toNat < 256 /\ (l[B.length / 8]'hi).toNat ||| (y.toNat * 2 ^ (B.length % 8)) = (l[B.length / 8]'hi).toNat + 2 ^ (B.length % 8) * y.toNat := by
 have hi : B.length / 8 < l.length := by omega
 have hbit := MM l B.length (by omega)
 rw [hb, aMd (aLm _), aMR, aMz, if_pos (by omega)] at hbit
 have hbit := (aLA hbit).symm
 obtain ⟨h1, h2, h3⟩ := aHa _ (B.length % 8) (by omega) y hbit
 refine ⟨hi, ⟨?_, ?_⟩, h2, h3⟩
 .rw [aNp, aLh, aL1]; exact hl
 .rw [aAV l _ (B.length % 8) _ y hi (by omega) h1, hb, show 8 * (B.length / 8) + B.length % 8 = B.length from by omega, aMO _ _ (aLm _), aMR, aNp, aLh, aL1, aLF]
  congr 1
  rw [show 8 * l.length - B.length = (8 * l.length - (B.length + 1)) + 1 from by omega, aLT, aLd]
  rfl
theorem aG0 {B : List Bool} {l : List UInt8} (h : atW (B ++ [true]) l) : Yf l = some B.length /\ (aZ l).take B.length = B := by
 have hl := h.len
 have hb := h.bits
 rw [aLh, aL1] at hl hb
 have h0 : 0 < l.length := by omega
 have htop : (aZ l)[B.length]? = some true := by
  rw [hb, aLF, aMd (aLm _), aMR] <;> rfl
 have hoff : ∀ j, B.length < j -> j < 8 * l.length -> (aZ l)[j]? = some false := by
  intro j h1 h2
  rw [hb, aLF, aMd (by omega), List.singleton_append, List.getElem?_cons, if_neg (by omega), aMz, if_pos (by omega)]
 refine ⟨?_, by rw [hb, aLF, aNc] <;> rfl⟩
 cases he : Yf l with
 | none =>
   rw [MN h0] at he
   split at he
   .rename_i hz
    rw [MM l _ (by omega)] at htop
    have e : B.length / 8 = l.length - 1 := by omega
    simp only [e, hz] at htop
    simp at htop
   .cases he
 | some k =>
   obtain ⟨_, h1, _, h2, h3⟩ := Ij he
   rcases aNw k B.length with h | h | h
   .rw [h3 _ h (by omega)] at htop; simp at htop
   .rw [h]
   .rw [hoff _ h h1] at h2; simp at h2
theorem aHW {x n : Nat} (h : x < 2 ^ n) : wM (yW x n) = x := by rw [avY, aLP h]
theorem aEl {B : List Bool} {x n : Nat} (h : x < 2 ^ n) : qH (B ++ yW x n) n = x := by
 unfold qH
 rw [aLh, G0, show min n (B.length + n) = n from by omega, aMR, aL9, List.drop_left, aHW h]; simp
end Go.Pu
namespace Go.Proofs.YtgpimhlgaokobaaGreat
open Go Go.En Go.Pu
set_option maxRecDepth 4000
theorem Lp {w w' : aNE} {S M : Nat -> Prop} {sz n : Nat} {v : aNF} {l : List aNF} (h : OSS w S sz v n l) (hx : aW w w' M) (hM : ∀ b, S b -> ¬ M b) : OSS w' S sz v n l := by
 refine ⟨h.1, ?_⟩
 rcases h.2 with h2 | ⟨b, c, rest, h1, h2, h3, h4, h5⟩
 .exact .inl h2
 .exact .inr ⟨b, c, rest, h1, h2, h3.ext hx (hM b h2), h4, h5⟩
def Wr (w : aNE) (lo p : Nat) (B : List Bool) : Prop := lo <= p /\ ∃ v bytes, eM w p [v, .int .i64 B.length] /\ OSS w (fun b => lo <= b /\ b ≠ p) 1 v bytes.length (bytes.map sU) /\ atW B bytes
def Rm (w : aNE) (lo p : Nat) (B : List Bool) : Prop := lo <= p /\ ∃ v bytes, eM w p [v, .int .i64 B.length] /\ OSS w (fun b => lo <= b /\ b ≠ p) 1 v bytes.length (bytes.map sU) /\
 aZ bytes = B ++ List.replicate (8 * bytes.length - B.length) false /\ bytes.length = (B.length + 1 + 7) / 8
theorem Wr.ext {w w' : aNE} {lo p : Nat} {B : List Bool} {M : Nat -> Prop} (h : Wr w lo p B) (hx : aW w w' M) (hM : ∀ b, lo <= b -> ¬ M b) : Wr w' lo p B := by
 obtain ⟨h0, v, bytes, h1, h2, h3⟩ := h
 exact ⟨h0, v, bytes, h1.ext hx (hM _ h0), Lp h2 hx fun b hb => hM b hb.1, h3⟩
theorem aI1 {lo p x i : Nat} {B : List Bool} {t17 : aNF} {w : aNE} (h : Rm w lo p B) (hx : x < 2 ^ 64) (hi : i <= 60) (hB : B.length <= 1000000000)
 {kn : aNF -> aNF -> aNF -> aNF -> aNE -> Prop} (hR : ∀ w', Wr w' lo p (B ++ [x.testBit i]) -> aW w w' (fun y => lo <= y) -> kn (.pointer (some ⟨p, 0, none⟩)) (.int .u64 x) t17 (.int .i64 i) w') :
 oZ kn (.pointer (some ⟨p, 0, none⟩)) (.int .u64 x) (.int .i64 i) t17 (.int .i64 i) w := by
 obtain ⟨h0, v, bytes, o, os, hbits, hlen⟩ := h
 obtain ⟨hlt, hheld, hval, hor⟩ := aCf (y := x.testBit i) hbits hlen
 rcases os.2 with ⟨rfl, hz⟩ | ⟨b, c, rest, rfl, hS, ob, hc, hn⟩
 .rw [hlen] at hz; omega
 generalize hq : B.length = q at *
 have hcell : (bytes.map sU ++ rest)[q / 8]? = some (.int .u8 ((bytes[q / 8]'hlt).toNat : Nat)) := by
  rw [aLy (by rw [aLk]; exact hlt), aLD, aLg hlt] <;> rfl
 have hcl : (bytes[q / 8]'hlt).toNat < 2 ^ 8 := aLO _
 have hset : (bytes.map sU ++ rest).set (q / 8) (.int .u8 (((bytes[q / 8]'hlt).toNat + 2 ^ (q % 8) * (x.testBit i).toNat : Nat))) = (bytes.set (q / 8) (UInt8.ofNat ((bytes[q / 8]'hlt).toNat + 2 ^ (q % 8) * (x.testBit i).toNat))).map sU ++ rest := by
  rw [aMr _ _ (by rw [aLk]; exact hlt), aNt, sU, aMx (by simpa using hval)]
 have hbl : (bytes.set (q / 8) (UInt8.ofNat ((bytes[q / 8]'hlt).toNat + 2 ^ (q % 8) * (x.testBit i).toNat))).length = bytes.length := aNp
 generalize bytes.set (q / 8) (UInt8.ofNat ((bytes[q / 8]'hlt).toNat + 2 ^ (q % 8) * (x.testBit i).toNat)) = bytes' at *
 generalize (bytes[q / 8]'hlt).toNat = y at *
 have e1 : (q : Int).tdiv 8 = ((q / 8 : Nat) : Int) := by rw [aLr (by omega)]; omega
 have e2 : (q : Int).tmod 8 = ((q % 8 : Nat) : Int) := by rw [aLB (by omega)]; omega
 have e3 := XT x i (by omega)
 have hxl : x / 2 ^ i < 2 ^ 64 := by have := aMa x (2 ^ i); omega
 have e4 := aDo hxl
 rw [<- aoG] at e4
 have hbt : (x.testBit i).toNat <= 1 := Bool.toNat_le _
 have hp8 : 2 ^ (q % 8) <= 2 ^ 7 := aLj (by omega) (by omega)
 have hm : (x.testBit i).toNat * 2 ^ (q % 8) <= 2 ^ (q % 8) := by
  have := aLG (2 ^ (q % 8)) hbt
  omega
 have e5 : IntKind.u8.wrap (((x.testBit i).toNat : Int) * 2 ^ (min (q % 8) IntKind.u8.bits)) = (((x.testBit i).toNat * 2 ^ (q % 8) : Nat) : Int) := by
  rw [show min (q % 8) IntKind.u8.bits = q % 8 from aL3 (by have h8 : IntKind.u8.bits = 8 := rfl; omega)]
  have e : ((x.testBit i).toNat : Int) * 2 ^ (q % 8) = (((x.testBit i).toNat * 2 ^ (q % 8) : Nat) : Int) := by simp
  rw [e]
  exact xK (by omega) (by omega)
 have e6 := awV (a := y) (b := (x.testBit i).toNat * 2 ^ (q % 8)) hcl (by omega)
 rw [hor] at e6
 have e7 : (q : Int) + 1 = ((q + 1 : Nat) : Int) := by omega
 have od := kA o
 have obd := kA ob
 have c0 := od.cell (off := 0)
 have c1 := od.cell (off := 1)
 have g := obd.cell (off := q / 8)
 rw [hcell] at g
 simp only [aK7, aK8] at c0 c1
 unfold oZ
 simp (disch := omega) only [aD, qU, fW, kS, aA, fN, aLa, bO, c1, aH, rD, e2, true_and, sR, aK9, e3, wK, e4, iB, xK, pE, e5, oR, e1, aP, fH, eQ, c0, dA, gS, g, LA, e6]
 refine VS obd rfl (by rw [aLh, aLk]; omega) fun w2 o2 x2 s2 => ?_
 rw [hset] at o2
 have op2 := od.ext x2 (fun h => hS.2 h.symm)
 have c12 := op2.cell (off := 1)
 simp only [aK7, aK8] at c12
 simp (disch := omega) only [c12, aH, aA, bK, e7, aP]
 refine pD op2 rfl (by simp) fun w3 o3 x3 s3 => ?_
 simp only [aLd, aLc] at o3
 have hBl : (B ++ [x.testBit i]).length = q + 1 := by rw [aLh, hq] <;> rfl
 refine hR _ ⟨h0, _, bytes', by rw [hBl]; exact o3, ⟨by simp, .inr ⟨b, c, rest, by rw [hbl], hS, o2.ext x3 hS.2, ?_, by rw [hbl]; exact hn⟩⟩, hheld⟩ ?_
 .rw [aLh, aLk] at hc ⊢; rw [hbl]; exact hc
 .exact ((aW.dr _ _).seq (x2.mono fun z _ h => by omega)).seq (x3.mono fun z _ h => by omega)
theorem aKj {lo p x i n : Nat} {B : List Bool} {w : aNE} (hw : Wr w lo p B) (hx : x < 2 ^ 64) (hi : i <= 60) (hB : B.length <= 1000000000)
 {kn : aNF -> aNF -> aNF -> aNF -> aNE -> Prop} (hR : ∀ w', Wr w' lo p (B ++ [x.testBit i]) -> aW w w' (fun y => lo <= y) -> kn (.pointer (some ⟨p, 0, none⟩)) (.int .u64 x) (.int .i64 n) (.int .i64 i) w') :
 tD kn (.pointer (some ⟨p, 0, none⟩)) (.int .u64 x) (.int .i64 n) (.int .i64 i) w := by
 unfold tD wU
 obtain ⟨h0, v, bytes, o, os, hh⟩ := hw
 have c1 := o.cell (off := 1)
 have c0 := o.cell (off := 0)
 simp only [aK7, aK8] at c0 c1
 have e2 : (B.length : Int).tmod 8 = ((B.length % 8 : Nat) : Int) := by rw [aLB (by omega)]; omega
 by_cases h8 : B.length % 8 = 0
 .have d4 : (((B.length % 8 : Nat) : Int) == 0) = true := by rw [h8] <;> rfl
  obtain ⟨hr1, hr2⟩ := aAo hh h8
  have hl2 := hh.len
  have lp := o.lt
  simp (disch := omega) only [aD, qU, aA, fH, eQ, fN, aLa, bO, c1, aH, rD, e2, dQ, d4, c0, aG]
  refine pC (cells := #[.int .u8 0]) (by decide) (by decide) (by kernel_rfl) fun w2 o2 x2 s2 => ?_
  refine zA (m := 1) (news := [sU 0]) (i := Tryz.t5) Tryz.underlying22 Tryz.underlying22 Sr rfl rfl rfl (Lp os x2 (fun _ _ h => h)) (o2.cl (off := 0) (l := [sU 0]) (n := 1) rfl (fun i hi => by rw [aLa] <;> rfl)) (by simp [one, sU]) (fun b hb => ⟨by omega, by omega⟩) (by omega) (by rw [show Tryz.t5.bytes = 1 from rfl]; omega) (by decide) fun v3 w3 o3 x3 => ?_
  have x13 : aW w w3 (fun y => lo <= y /\ y ≠ p) := (x2.mono fun _ _ h => h.elim).seq x3
  have op3 := o.ext x13 (fun h => h.2 rfl)
  have hv3 : ∃ a n c, v3 = .slice a n c := by
   rcases o3.2 with ⟨rfl, _⟩ | ⟨b, c, rest, rfl, _⟩
   .exact ⟨_, _, _, rfl⟩
   .exact ⟨_, _, _, rfl⟩
  obtain ⟨a3, n3, c3, rfl⟩ := hv3
  refine yZ op3 rfl (by simp) fun w4 o4 x4 s4 => ?_
  simp only [aLd, aLc] at o4
  have x14 : aW w w4 (fun y => lo <= y) := (x13.mono fun y _ h => h.1).seq (x4.mono fun y _ h => by omega)
  refine aI1 (w := w4) ⟨h0, _, bytes ++ [0], o4, ?_, ?_, hr2⟩ hx hi hB fun w5 h5 x5 => hR w5 h5 (x14.seq x5)
  .have := Lp o3 x4 (fun b hb h => hb.2 h)
   rw [aLh, aLz]
   exact this
  .rw [aLh]; exact hr1
 .have d4 : (((B.length % 8 : Nat) : Int) == 0) = false := by simp; omega
  simp (disch := omega) only [aD, qU, aA, fH, eQ, fN, aLa, bO, c1, aH, rD, e2, dQ, d4, aE]
  refine aI1 (w := w) ⟨h0, v, bytes, o, os, hh.bits, ?_⟩ hx hi hB fun w5 h5 x5 => hR w5 h5 x5
  rw [hh.len]; omega
theorem aIu {lo p x n : Nat} {B : List Bool} {w : aNE} (h : Wr w lo p B) (hx : x < 2 ^ 64) (hn : n <= 56) (hB : B.length <= 100000000) :
 aT pg rS #[.pointer (some ⟨p, 0, none⟩), .int .u64 x, .int .i64 n] w (fun r w' => r = .tuple #[] /\ Wr w' lo p (B ++ yW x n) /\ aW w w' (fun y => lo <= y)) := by
 refine GI ?_
 unfold Fp vN vO
 by_cases hn0 : n = 0
 .subst hn0
  have d1 : decide (((0 : Nat) : Int) < 1) = true := rfl
  simp (disch := omega) only [aD, fF, aLt, true_and, aA, dI, bE, aLb, if_false, bJ, aS, d1, jM, if_true, aG, cK]
  exact ⟨by rw [PM, aLX]; exact h, aW.refl _ _⟩
 have d1 : decide ((n : Int) < 1) = false := by simp; omega
 have d2 : decide ((56 : Int) < (n : Int)) = false := by simp; omega
 simp (disch := omega) only [aD, fF, aLt, true_and, aA, dI, bE, aLb, if_false, bJ, aS, d1, dE, d2, aE]
 unfold vQ wH
 refine cS.rule (fun m (t : aNF) w' => ∃ i : Nat, m = n - i /\ t = .int .i64 i /\ i <= n /\ Wr w' lo p (B ++ yW x i) /\ aW w w' (fun y => lo <= y)) n
  ⟨0, rfl, rfl, by omega, by rw [PM, aLX]; exact h, aW.refl _ _⟩ ?_
 rintro m t w1 ⟨i, rfl, rfl, hi, hw, x1⟩
 unfold tB wQ
 by_cases hlt : i < n
 .have d3 : decide ((i : Int) < (n : Int)) = true := by simp; omega
  simp (disch := omega) only [aD, aS, d3, aA, aG]
  unfold wI wD
  refine aKj hw hx (by omega) (by rw [aLh, G0]; omega) fun w3 hw3 x3 => ?_
  unfold sW
  simp (disch := omega) only [aD, bK, aP, aA]
  refine ⟨n - (i + 1), by omega, i + 1, rfl, rfl, by omega, ?_, x1.seq x3⟩
  rw [abS, <- aLF]
  exact hw3
 .have d3 : decide ((i : Int) < (n : Int)) = false := by simp; omega
  obtain rfl : i = n := by omega
  simp (disch := omega) only [aD, aS, d3, aA, aE]
  exact ⟨hw, x1⟩
def Ws (w : aNE) (S : Nat -> Prop) (p : Nat) (B : List Bool) : Prop := ¬ S p /\ ∃ v bytes, eM w p [v, .int .i64 B.length] /\ OSS w S 1 v bytes.length (bytes.map sU) /\ atW B bytes
def Rs (w : aNE) (S : Nat -> Prop) (p : Nat) (B : List Bool) : Prop := ¬ S p /\ ∃ v bytes, eM w p [v, .int .i64 B.length] /\ OSS w S 1 v bytes.length (bytes.map sU) /\
 aZ bytes = B ++ List.replicate (8 * bytes.length - B.length) false /\ bytes.length = (B.length + 1 + 7) / 8
theorem Ws.ext {w w' : aNE} {S M : Nat -> Prop} {p : Nat} {B : List Bool} (h : Ws w S p B) (hx : aW w w' M) (hp : ¬ M p) (hM : ∀ b, S b -> ¬ M b) : Ws w' S p B := by
 obtain ⟨h0, v, bytes, h1, h2, h3⟩ := h
 exact ⟨h0, v, bytes, h1.ext hx hp, Lp h2 hx hM, h3⟩
theorem Ws.turn {w : aNE} {S T : Nat -> Prop} {p : Nat} {B : List Bool} (h : Ws w S p B) (hp : ¬ T p) (hT : ∀ b, S b -> b < w.heap.size -> T b) : Ws w T p B := by
 obtain ⟨h0, v, bytes, h1, h2, h3⟩ := h
 refine ⟨hp, v, bytes, h1, ⟨h2.1, ?_⟩, h3⟩
 rcases h2.2 with h2 | ⟨b, c, rest, e, hb, o, hc, hn⟩
 .exact .inl h2
 .exact .inr ⟨b, c, rest, e, hT b hb o.lt, o, hc, hn⟩
theorem aHq {S : Nat -> Prop} {p x i : Nat} {B : List Bool} {t17 : aNF} {w : aNE} (h : Rs w S p B) (hx : x < 2 ^ 64) (hi : i <= 60) (hB : B.length <= 1000000000)
 {kn : aNF -> aNF -> aNF -> aNF -> aNE -> Prop} (hR : ∀ w', Ws w' S p (B ++ [x.testBit i]) -> aW w w' (fun y => y = p ∨ S y) -> kn (.pointer (some ⟨p, 0, none⟩)) (.int .u64 x) t17 (.int .i64 i) w') :
 oZ kn (.pointer (some ⟨p, 0, none⟩)) (.int .u64 x) (.int .i64 i) t17 (.int .i64 i) w := by
 obtain ⟨h0, v, bytes, o, os, hbits, hlen⟩ := h
 obtain ⟨hlt, hheld, hval, hor⟩ := aCf (y := x.testBit i) hbits hlen
 rcases os.2 with ⟨rfl, hz⟩ | ⟨b, c, rest, rfl, hS, ob, hc, hn⟩
 .rw [hlen] at hz; omega
 generalize hq : B.length = q at *
 have hcell : (bytes.map sU ++ rest)[q / 8]? = some (.int .u8 ((bytes[q / 8]'hlt).toNat : Nat)) := by
  rw [aLy (by rw [aLk]; exact hlt), aLD, aLg hlt] <;> rfl
 have hcl : (bytes[q / 8]'hlt).toNat < 2 ^ 8 := aLO _
 have hset : (bytes.map sU ++ rest).set (q / 8) (.int .u8 (((bytes[q / 8]'hlt).toNat + 2 ^ (q % 8) * (x.testBit i).toNat : Nat))) = (bytes.set (q / 8) (UInt8.ofNat ((bytes[q / 8]'hlt).toNat + 2 ^ (q % 8) * (x.testBit i).toNat))).map sU ++ rest := by
  rw [aMr _ _ (by rw [aLk]; exact hlt), aNt, sU, aMx (by simpa using hval)]
 have hbl : (bytes.set (q / 8) (UInt8.ofNat ((bytes[q / 8]'hlt).toNat + 2 ^ (q % 8) * (x.testBit i).toNat))).length = bytes.length := aNp
 generalize bytes.set (q / 8) (UInt8.ofNat ((bytes[q / 8]'hlt).toNat + 2 ^ (q % 8) * (x.testBit i).toNat)) = bytes' at *
 generalize (bytes[q / 8]'hlt).toNat = y at *
 have e1 : (q : Int).tdiv 8 = ((q / 8 : Nat) : Int) := by rw [aLr (by omega)]; omega
 have e2 : (q : Int).tmod 8 = ((q % 8 : Nat) : Int) := by rw [aLB (by omega)]; omega
 have e3 := XT x i (by omega)
 have hxl : x / 2 ^ i < 2 ^ 64 := by have := aMa x (2 ^ i); omega
 have e4 := aDo hxl
 rw [<- aoG] at e4
 have hbt : (x.testBit i).toNat <= 1 := Bool.toNat_le _
 have hp8 : 2 ^ (q % 8) <= 2 ^ 7 := aLj (by omega) (by omega)
 have hm : (x.testBit i).toNat * 2 ^ (q % 8) <= 2 ^ (q % 8) := by
  have := aLG (2 ^ (q % 8)) hbt
  omega
 have e5 : IntKind.u8.wrap (((x.testBit i).toNat : Int) * 2 ^ (min (q % 8) IntKind.u8.bits)) = (((x.testBit i).toNat * 2 ^ (q % 8) : Nat) : Int) := by
  rw [show min (q % 8) IntKind.u8.bits = q % 8 from aL3 (by have h8 : IntKind.u8.bits = 8 := rfl; omega)]
  have e : ((x.testBit i).toNat : Int) * 2 ^ (q % 8) = (((x.testBit i).toNat * 2 ^ (q % 8) : Nat) : Int) := by simp
  rw [e]
  exact xK (by omega) (by omega)
 have e6 := awV (a := y) (b := (x.testBit i).toNat * 2 ^ (q % 8)) hcl (by omega)
 rw [hor] at e6
 have e7 : (q : Int) + 1 = ((q + 1 : Nat) : Int) := by omega
 have od := kA o
 have obd := kA ob
 have c0 := od.cell (off := 0)
 have c1 := od.cell (off := 1)
 have g := obd.cell (off := q / 8)
 rw [hcell] at g
 simp only [aK7, aK8] at c0 c1
 unfold oZ
 simp (disch := omega) only [aD, qU, fW, kS, aA, fN, aLa, bO, c1, aH, rD, e2, true_and, sR, aK9, e3, wK, e4, iB, xK, pE, e5, oR, e1, aP, fH, eQ, c0, dA, gS, g, LA, e6]
 refine VS obd rfl (by rw [aLh, aLk]; omega) fun w2 o2 x2 s2 => ?_
 rw [hset] at o2
 have op2 := od.ext x2 (fun h => h0 (h ▸ hS))
 have c12 := op2.cell (off := 1)
 simp only [aK7, aK8] at c12
 simp (disch := omega) only [c12, aH, aA, bK, e7, aP]
 refine pD op2 rfl (by simp) fun w3 o3 x3 s3 => ?_
 simp only [aLd, aLc] at o3
 have hBl : (B ++ [x.testBit i]).length = q + 1 := by rw [aLh, hq] <;> rfl
 refine hR _ ⟨h0, _, bytes', by rw [hBl]; exact o3, ⟨by simp, .inr ⟨b, c, rest, by rw [hbl], hS, o2.ext x3 (fun h => h0 (h ▸ hS)), ?_, by rw [hbl]; exact hn⟩⟩, hheld⟩ ?_
 .rw [aLh, aLk] at hc ⊢; rw [hbl]; exact hc
 .exact ((aW.dr _ _).seq (x2.mono fun z _ h => .inr (h ▸ hS))).seq (x3.mono fun z _ h => .inl h)
theorem aJy {S : Nat -> Prop} {p x i n : Nat} {B : List Bool} {w : aNE} (hw : Ws w S p B) (hN : ∀ b, w.heap.size <= b -> S b) (hx : x < 2 ^ 64) (hi : i <= 60) (hB : B.length <= 1000000000)
 {kn : aNF -> aNF -> aNF -> aNF -> aNE -> Prop} (hR : ∀ w', Ws w' S p (B ++ [x.testBit i]) -> aW w w' (fun y => y = p ∨ S y) -> kn (.pointer (some ⟨p, 0, none⟩)) (.int .u64 x) (.int .i64 n) (.int .i64 i) w') :
 tD kn (.pointer (some ⟨p, 0, none⟩)) (.int .u64 x) (.int .i64 n) (.int .i64 i) w := by
 unfold tD wU
 obtain ⟨h0, v, bytes, o, os, hh⟩ := hw
 have c1 := o.cell (off := 1)
 have c0 := o.cell (off := 0)
 simp only [aK7, aK8] at c0 c1
 have e2 : (B.length : Int).tmod 8 = ((B.length % 8 : Nat) : Int) := by rw [aLB (by omega)]; omega
 by_cases h8 : B.length % 8 = 0
 .have d4 : (((B.length % 8 : Nat) : Int) == 0) = true := by rw [h8] <;> rfl
  obtain ⟨hr1, hr2⟩ := aAo hh h8
  have hl2 := hh.len
  have lp := o.lt
  simp (disch := omega) only [aD, qU, aA, fH, eQ, fN, aLa, bO, c1, aH, rD, e2, dQ, d4, c0, aG]
  refine pC (cells := #[.int .u8 0]) (by decide) (by decide) (by kernel_rfl) fun w2 o2 x2 s2 => ?_
  refine zA (m := 1) (news := [sU 0]) (i := Tryz.t5) Tryz.underlying22 Tryz.underlying22 Sr rfl rfl rfl (Lp os x2 (fun _ _ h => h)) (o2.cl (off := 0) (l := [sU 0]) (n := 1) rfl (fun i hi => by rw [aLa] <;> rfl)) (by simp [one, sU]) (fun b hb => hN b (by omega)) (by omega) (by rw [show Tryz.t5.bytes = 1 from rfl]; omega) (by decide) fun v3 w3 o3 x3 => ?_
  have x13 : aW w w3 S := (x2.mono fun _ _ h => h.elim).seq x3
  have op3 := o.ext x13 h0
  have hv3 : ∃ a n c, v3 = .slice a n c := by
   rcases o3.2 with ⟨rfl, _⟩ | ⟨b, c, rest, rfl, _⟩
   .exact ⟨_, _, _, rfl⟩
   .exact ⟨_, _, _, rfl⟩
  obtain ⟨a3, n3, c3, rfl⟩ := hv3
  refine yZ op3 rfl (by simp) fun w4 o4 x4 s4 => ?_
  simp only [aLd, aLc] at o4
  have x14 : aW w w4 (fun y => y = p ∨ S y) := (x13.mono fun y _ h => .inr h).seq (x4.mono fun y _ h => .inl h)
  refine aHq (w := w4) ⟨h0, _, bytes ++ [0], o4, ?_, ?_, hr2⟩ hx hi hB fun w5 h5 x5 => hR w5 h5 (x14.seq x5)
  .have := Lp o3 x4 (fun b hb h => h0 (h ▸ hb))
   rw [aLh, aLz]
   exact this
  .rw [aLh]; exact hr1
 .have d4 : (((B.length % 8 : Nat) : Int) == 0) = false := by simp; omega
  simp (disch := omega) only [aD, qU, aA, fH, eQ, fN, aLa, bO, c1, aH, rD, e2, dQ, d4, aE]
  refine aHq (w := w) ⟨h0, v, bytes, o, os, hh.bits, ?_⟩ hx hi hB fun w5 h5 x5 => hR w5 h5 x5
  rw [hh.len]; omega
theorem aGZ {S : Nat -> Prop} {p x n : Nat} {B : List Bool} {w : aNE} (h : Ws w S p B) (hN : ∀ b, w.heap.size <= b -> S b) (hx : x < 2 ^ 64) (hn : n <= 56) (hB : B.length <= 100000000) :
 aT pg rS #[.pointer (some ⟨p, 0, none⟩), .int .u64 x, .int .i64 n] w (fun r w' => r = .tuple #[] /\ Ws w' S p (B ++ yW x n) /\ aW w w' (fun y => y = p ∨ S y)) := by
 refine GI ?_
 unfold Fp vN vO
 by_cases hn0 : n = 0
 .subst hn0
  have d1 : decide (((0 : Nat) : Int) < 1) = true := rfl
  simp (disch := omega) only [aD, fF, aLt, true_and, aA, dI, bE, aLb, if_false, bJ, aS, d1, jM, if_true, aG, cK]
  exact ⟨by rw [PM, aLX]; exact h, aW.refl _ _⟩
 have d1 : decide ((n : Int) < 1) = false := by simp; omega
 have d2 : decide ((56 : Int) < (n : Int)) = false := by simp; omega
 simp (disch := omega) only [aD, fF, aLt, true_and, aA, dI, bE, aLb, if_false, bJ, aS, d1, dE, d2, aE]
 unfold vQ wH
 refine cS.rule (fun m (t : aNF) w' => ∃ i : Nat, m = n - i /\ t = .int .i64 i /\ i <= n /\ Ws w' S p (B ++ yW x i) /\ aW w w' (fun y => y = p ∨ S y)) n
  ⟨0, rfl, rfl, by omega, by rw [PM, aLX]; exact h, aW.refl _ _⟩ ?_
 rintro m t w1 ⟨i, rfl, rfl, hi, hw, x1⟩
 unfold tB wQ
 by_cases hlt : i < n
 .have d3 : decide ((i : Int) < (n : Int)) = true := by simp; omega
  simp (disch := omega) only [aD, aS, d3, aA, aG]
  unfold wI wD
  refine aJy hw (fun b hb => hN b (by have := x1.size; omega)) hx (by omega) (by rw [aLh, G0]; omega) fun w3 hw3 x3 => ?_
  unfold sW
  simp (disch := omega) only [aD, bK, aP, aA]
  refine ⟨n - (i + 1), by omega, i + 1, rfl, rfl, by omega, ?_, x1.seq x3⟩
  rw [abS, <- aLF]
  exact hw3
 .have d3 : decide ((i : Int) < (n : Int)) = false := by simp; omega
  obtain rfl : i = n := by omega
  simp (disch := omega) only [aD, aS, d3, aA, aE]
  exact ⟨hw, x1⟩
theorem Ws.wr {w : aNE} {S : Nat -> Prop} {p : Nat} {B : List Bool} (h : Ws w S p B) : Wr w 0 p B := by
 have h1 := h.turn (T := fun b => 0 <= b /\ b ≠ p) (fun h => h.2 rfl) (fun b hb _ => ⟨aM4 _, fun e => h.1 (e ▸ hb)⟩)
 obtain ⟨h0, v, bytes, a, b, c⟩ := h1
 exact ⟨aM4 _, v, bytes, a, b, c⟩
theorem aBy (w : aNE) : aT pg BZ #[] w (fun r w' => r = .pointer (some ⟨w.heap.size, 0, none⟩) /\ w'.heap.size = w.heap.size + 1 /\ Ws w' (fun _ => False) w.heap.size [] /\ aW w w' eT) := by
 refine YJ ?_
 unfold W9 Gb
 simp (disch := omega) only [aD, kH, aA]
 refine nO fun w1 o1 x1 s1 => ?_
 simp only [Value.cells] at o1
 exact ⟨rfl, by omega, ⟨fun h => h, _, [], o1, ⟨rfl, .inl ⟨rfl, rfl⟩⟩, aHP⟩, x1⟩
theorem aH1 {lo p : Nat} {B : List Bool} {w : aNE} (h : Wr w lo p B) (hB : B.length <= 10000000) :
 aT pg wE #[.pointer (some ⟨p, 0, none⟩)] w (fun r w' => ∃ bytes, Bs w' r bytes /\ atW (B ++ [true]) bytes /\ AtI r w.heap.size w'.heap.size /\ aW w w' eT) := by
 refine Tm ?_
 obtain ⟨h0, v, bytes, o, os, hh⟩ := h
 have c0 := (kA o).cell (off := 0)
 have c1 := (kA o).cell (off := 1)
 simp only [aK7, aK8] at c0 c1
 have hs : Bs w v bytes := by
  have h1 := os.1
  rcases os.2 with ⟨rfl, h2⟩ | ⟨b, c, rest, rfl, h2, h3, h4, h5⟩
  .exact ⟨_, _, _, rfl, by omega, by omega, fun h => by omega⟩
  .refine ⟨_, _, _, rfl, by omega, h5, fun _ => ⟨b, 0, rfl, fun i hi => ?_⟩⟩
   rw [h3.cell, aLa, aLy (by omega)]
 have hl := hh.len
 unfold OO AK
 simp (disch := omega) only [aD, fF, aLt, qU, jJ, Result.ok.injEq, Next.value.injEq, and_true, true_and, aA, fN, aLa, bO, fH, eQ, c0, aH, c1, aE]
 refine (IP (hs.ext (aW.dr _ eT) (bZ _)) (by omega)).mono ?_
 rintro r w1 ⟨o1, x1⟩
 have z1 := x1.size
 have x01 : aW w w1 eT := (aW.dr w eT).seq x1
 have c11 := (o.ext x01 (fun h => h)).cell (off := 1)
 simp only [aK7, aK8] at c11
 have hdr : (dr w).heap.size = w.heap.size := rfl
 rw [hdr] at o1 z1
 obtain ⟨a1, cc1, rfl⟩ := o1.len
 simp (disch := omega) only [c11, aH, aA, iG, true_and]
 refine nO fun w2 o2 x2 s2 => ?_
 simp only [Value.cells] at o2
 have hw : Wr w2 w.heap.size w1.heap.size B := by
  refine ⟨z1, _, bytes, o2, ⟨o1.1, ?_⟩, hh⟩
  rcases o1.2 with h2 | ⟨b, c, rest, h1, h2, h3, h4, h5⟩
  .exact .inl h2
  .have := h3.lt
   exact .inr ⟨b, c, rest, h1, ⟨h2, by omega⟩, h3.ext x2 (fun h => h), h4, h5⟩
 refine (aIu (x := 1) (n := 1) hw (by omega) (by omega) (by omega)).mono ?_
 rintro r w3 ⟨rfl, ⟨h0', v3, bytes3, o3, os3, hh3⟩, x3⟩
 have c03 := o3.cell (off := 0)
 simp only [aK7, aK8] at c03
 simp (disch := omega) only [qU, aA, fH, eQ, c03, aH]
 have e1 : yW 1 1 = [true] := by decide
 rw [e1] at hh3
 refine ⟨bytes3, ?_, hh3, ?_, ?_⟩
 .have h1 := os3.1
  rcases os3.2 with ⟨rfl, h2⟩ | ⟨b, c, rest, rfl, h2, h3, h4, h5⟩
  .exact ⟨_, _, _, rfl, by omega, by omega, fun h => by omega⟩
  .refine ⟨_, _, _, rfl, by omega, h5, fun _ => ⟨b, 0, rfl, fun i hi => ?_⟩⟩
   rw [h3.cell, aLa, aLy (by omega)]
 .intro M hM
  rcases os3.2 with ⟨rfl, h2⟩ | ⟨b, c, rest, rfl, h2, h3, h4, h5⟩
  .exact fun h => h
  .exact At.at b 0 _ c M (hM b h2.1 h3.lt)
 .exact (x01.seq x2).trans x3 fun b hb h => by omega
end Go.Proofs.YtgpimhlgaokobaaGreat
namespace Go.Pu
def F8 (w : Nat) : Nat := if w = 0 then 0 else 2 ^ (w - 1)
def dV (l : List Nat) : Nat := (l.map F8).sum
def rM (d : Nat) (l : List Nat) : Bool := l.all fun w => decide (w <= d)
def gQ (l : List Nat) : Nat :=
 if rM 11 l = true /\ 2 <= l.length /\ l.length <= 256 /\ l.getLast? ≠ some 0 /\ 2 ^ (dV l).log2 = dV l /\ (dV l).log2 <= 11 /\ rM (dV l).log2 l = true then (dV l).log2 else 0
theorem CF (a b : List Nat) : dV (a ++ b) = dV a + dV b := by simp [dV]
theorem oY (w : Nat) (l : List Nat) : dV (w :: l) = F8 w + dV l := by simp [dV]
theorem aB0 {w : Nat} (h : w <= 11) : F8 w <= 1024 := by
 unfold F8
 split
 .omega
 .have : 2 ^ (w - 1) <= 2 ^ 10 := aLj (by omega) (by omega)
  omega
theorem HM : ∀ {l : List Nat}, (∀ w ∈ l, w <= 11) -> dV l <= 1024 * l.length
 | [], _ => by simp [dV]
 | w :: l, h => by
   have h1 := aB0 (h w (aML ..))
   have h2 := HM fun x hx => h x (aLx _ hx)
   rw [oY, aLw]; omega
theorem ajR {w : Nat} : ∀ {l : List Nat}, w ∈ l -> F8 w <= dV l
 | [], h => by cases h
 | x :: l, h => by
   rw [oY]
   rcases aL2.1 h with rfl | h
   .omega
   .have := ajR h; omega
theorem rR {d : Nat} {l : List Nat} : rM d l = true ↔ ∀ w ∈ l, w <= d := by simp [rM]
theorem aCu : ∀ (s : Nat), 0 < s -> ((s &&& (s - 1) = 0) ↔ 2 ^ s.log2 = s) := by
 intro s
 induction s using Nat.strongRecOn with
 | ind s ih =>
   intro h
   by_cases h1 : s = 1
   .subst h1; decide
   .have hl : s.log2 = (s / 2).log2 + 1 := by
     rw [Nat.log2_def, if_pos (by omega)]
    have hd : (s &&& (s - 1)) / 2 = s / 2 &&& (s - 1) / 2 := Nat.and_div_two
    have hm : (s &&& (s - 1)) % 2 = 0 := by
     rcases aMJ (s &&& (s - 1)) with h' | h'
     .exact h'
     .rw [Nat.and_mod_two_eq_one] at h'; omega
    rw [hl, aLM]
    rcases aMJ s with h2 | h2
    .have he : (s - 1) / 2 = s / 2 - 1 := by omega
     rw [he] at hd
     have := ih (s / 2) (by omega) (by omega)
     constructor
     .intro h0
      rw [h0] at hd
      have := this.1 (by omega)
      omega
     .intro h0
      have := this.2 (by omega)
      omega
    .have he : (s - 1) / 2 = s / 2 := by omega
     rw [he, Nat.and_self] at hd
     constructor
     .intro h0; omega
     .intro h0; omega
theorem vZ {l : List Nat} {d : Nat} (h : gQ l = d) (hd : d ≠ 0) : (∀ w ∈ l, w <= d) /\ d <= 11 /\ 2 <= l.length /\ l.length <= 256 /\ l.getLast? ≠ some 0 /\ dV l = 2 ^ d := by
 unfold gQ at h
 split at h
 .rename_i hh
  obtain ⟨h1, h2, h3, h4, h5, h6, h7⟩ := hh
  subst h
  exact ⟨rR.1 h7, h6, h2, h3, h4, h5.symm⟩
 .exact absurd h.symm hd
theorem aFR {l : List Nat} {d : Nat} (h1 : ∀ w ∈ l, w <= d) (h2 : d <= 11) (h3 : 2 <= l.length) (h4 : l.length <= 256) (h5 : l.getLast? ≠ some 0) (h6 : dV l = 2 ^ d) : gQ l = d := by
 unfold gQ
 have hl : (dV l).log2 = d := by rw [h6, aNh]
 rw [hl, if_pos ⟨rR.2 fun w hw => aMf (h1 w hw) h2, h3, h4, h5, h6.symm, h2, rR.2 h1⟩]
def yS (l : List Nat) (w : Nat) : Nat := dV (l.filter fun x => decide (x < w))
def NI (l : List Nat) (s : Nat) : Nat := yS l (l.getD s 0) + (l.take s).count (l.getD s 0) * 2 ^ (l.getD s 0 - 1)
def Eg (l : List Nat) (d s : Nat) : Nat × Nat := if l.getD s 0 = 0 then (0, 0) else (d + 1 - l.getD s 0, NI l s / 2 ^ (l.getD s 0 - 1))
theorem QD (l : List Nat) (w : Nat) (hw : 1 <= w) : yS l (w + 1) = yS l w + l.count w * 2 ^ (w - 1) := by
 unfold yS
 induction l with
 | nil => simp [dV]
 | cons x l ih =>
   rw [aMC, aM7, aM7]
   by_cases h1 : x < w
   .rw [if_pos (by simp; omega), if_pos (by simp; omega), oY, oY, ih]
    have : (x == w) = false := by simp; omega
    rw [this]; simp; omega
   .by_cases h2 : x = w
    .subst h2
     rw [if_pos (by simp), if_neg (by simp), oY, ih]
     have : F8 x = 2 ^ (x - 1) := by unfold F8; rw [if_neg (by omega)]
     rw [this]; simp [aL0]; omega
    .rw [if_neg (by simp; omega), if_neg (by simp; omega), ih]
     have : (x == w) = false := by simpa using h2
     rw [this]; simp
theorem awK (l : List Nat) : yS l 1 = 0 := by
 unfold yS
 induction l with
 | nil => rfl
 | cons x l ih =>
   rw [aM7]
   split
   .rename_i h
    have : x = 0 := by simp at h; omega
    subst this
    rw [oY, ih] <;> rfl
   .exact ih
theorem ZY {l : List Nat} {d : Nat} (h : ∀ w ∈ l, w <= d) : yS l (d + 1) = dV l := by
 unfold yS
 rw [List.filter_eq_self.2 fun a ha => by have := h a ha; simp; omega]
theorem axI {l : List Nat} {d w : Nat} (hs : dV l = 2 ^ d) (hw : w <= d + 1) (h1 : 1 <= w) : 2 ^ (w - 1) ∣ yS l w := by
 have hsplit : ∀ l : List Nat, dV l = yS l w + dV (l.filter fun x => decide (w <= x)) := by
  intro l
  unfold yS
  induction l with
  | nil => rfl
  | cons x l ih =>
    rw [aM7, aM7, oY, ih]
    by_cases h : x < w
    .rw [if_pos (by simpa using h), if_neg (by simp; omega), oY]; omega
    .rw [if_neg (by simpa using h), if_pos (by simp; omega), oY]; omega
 have hhigh : 2 ^ (w - 1) ∣ dV (l.filter fun x => decide (w <= x)) := by
  generalize hL : l.filter (fun x => decide (w <= x)) = L
  have hge : ∀ x ∈ L, w <= x := fun x hx => by rw [<- hL] at hx; simpa using (aNn.1 hx).2
  clear hL
  induction L with
  | nil => exact Nat.dvd_zero _
  | cons x L ih =>
    rw [oY]
    refine Nat.dvd_add ?_ (ih fun y hy => hge y (aLx _ hy))
    have := hge x (aML ..)
    unfold F8
    rw [if_neg (by omega)]
    exact Nat.pow_dvd_pow 2 (by omega)
 have htot : 2 ^ (w - 1) ∣ dV l := by rw [hs]; exact Nat.pow_dvd_pow 2 (by omega)
 rw [hsplit l] at htot
 exact (Nat.dvd_add_left hhigh).1 htot
def tX (l : List Nat) : Option Nat :=
 if rM 11 l = true /\ 1 <= l.length /\ l.length <= 255 /\ 0 < dV l /\ bl (dV l) <= 11 /\ 2 ^ (2 ^ bl (dV l) - dV l).log2 = 2 ^ bl (dV l) - dV l
 then some ((2 ^ bl (dV l) - dV l).log2 + 1) else none
theorem aBX {l : List Nat} {k : Nat} (h : tX l = some k) : gQ (l ++ [k]) = bl (dV l) /\ 1 <= bl (dV l) /\ 1 <= k /\ k <= 11 /\ l.length <= 255 /\ 1 <= l.length /\ ∀ x, gQ (l ++ [x]) = bl (dV l) -> x = k := by
 unfold tX at h
 split at h
 .rename_i hh
  obtain ⟨h1, h2, h3, h4, h5, h6⟩ := hh
  have hk := aLA h
  have hlt := WI (dV l)
  have hle := Zj (k := dV l) (by omega)
  have hb1 := NR (k := dV l) (by omega)
  generalize hD : bl (dV l) = D at *
  generalize hlog : (2 ^ D - dV l).log2 = k0 at *
  have hW : dV (l ++ [k]) = 2 ^ D := by
   rw [CF, oY, <- hk]
   have : F8 (k0 + 1) = 2 ^ k0 := by unfold F8; rw [if_neg (by omega), aL9]
   rw [this, h6]
   have : dV [] = 0 := rfl
   rw [this]; omega
  have hp2 : 2 ^ D = 2 * 2 ^ (D - 1) := by
   obtain ⟨E, rfl⟩ : ∃ E, D = E + 1 := ⟨D - 1, by omega⟩
   rw [aL9, aLM, aLJ]
  have hk0 : k0 <= D - 1 := by
   rcases aLv (D - 1) k0 with hq | hq
   .have := Nat.pow_lt_pow_right (a := 2) (by omega) hq
    omega
   .exact hq
  have hall : ∀ w ∈ l ++ [k], w <= D := by
   intro w hw
   rcases aLQ.1 hw with hw | hw
   .have h7 := ajR hw
    rcases aLv D w with hq | hq
    .exfalso
     unfold F8 at h7
     rw [if_neg (by omega)] at h7
     have := aLj (n := 2) (by omega) (show D <= w - 1 by omega)
     omega
    .exact hq
   .rw [aMX.1 hw]; omega
  refine ⟨aFR hall h5 (by simp; omega) (by simp; omega) (by rw [aNi]; intro e; have := aLA e; omega) hW, hb1, by omega, by omega, h3, h2, fun x hx => ?_⟩
  obtain ⟨q1, q2, q3, q4, q5, q6⟩ := vZ hx (by omega)
  rw [CF, oY] at q6
  have e0 : dV [] = 0 := rfl
  rw [aNi] at q5
  have hx0 : x ≠ 0 := fun e => q5 (by rw [e])
  have hwx : F8 x = 2 ^ (x - 1) := by unfold F8; rw [if_neg hx0]
  rw [hwx, e0] at q6
  have : 2 ^ (x - 1) = 2 ^ k0 := by omega
  have := congrArg Nat.log2 this
  rw [aNh, aNh] at this
  omega
 .cases h
theorem tG {l : List Nat} {s : Nat} (h : s < l.length) : l.getD s 0 ∈ l := by
 rw [aLl, aLg h]; exact aLW h
theorem aHr {l : List Nat} {s : Nat} (h : s < l.length) : (l.take s).count (l.getD s 0) + 1 <= l.count (l.getD s 0) := by
 have hg : l.getD s 0 = l[s] := by rw [aLl, aLg h] <;> rfl
 have e : l = l.take s ++ l[s] :: l.drop (s + 1) := by rw [<- aLK h, aMQ]
 rw [hg]
 have : l.count l[s] = (l.take s ++ l[s] :: l.drop (s + 1)).count l[s] := by rw [<- e]
 rw [this, aMB, aMC]; simp
theorem Wh {l : List Nat} {a b : Nat} (h1 : 1 <= a) (h : a <= b) : yS l a <= yS l b := by
 obtain ⟨c, rfl⟩ := Nat.exists_eq_add_of_le h
 induction c with
 | zero => exact aLm _
 | succ c ih =>
   have := QD l (a + c) (by omega)
   rw [<- aMH]
   have := ih (by omega)
   omega
theorem aHy {l : List Nat} {s : Nat} (h : s < l.length) (h0 : l.getD s 0 ≠ 0) : NI l s + 2 ^ (l.getD s 0 - 1) <= yS l (l.getD s 0 + 1) := by
 have h1 := aHr h
 rw [QD l _ (by omega)]
 unfold NI
 have := aLG (2 ^ (l.getD s 0 - 1)) h1
 rw [aL0] at this
 omega
theorem aDY {l : List Nat} {s d : Nat} (h : s < l.length) (h0 : l.getD s 0 ≠ 0) (hs : dV l = 2 ^ d) (hd : l.getD s 0 <= d) : 2 ^ (l.getD s 0 - 1) ∣ NI l s :=
 Nat.dvd_add (axI hs (by omega) (by omega)) (Nat.dvd_mul_left _ _)
theorem aF9 {l : List Nat} {s d : Nat} (h : s < l.length) (h0 : l.getD s 0 ≠ 0) (hs : dV l = 2 ^ d) (hall : ∀ w ∈ l, w <= d) : NI l s / 2 ^ (l.getD s 0 - 1) < 2 ^ (d + 1 - l.getD s 0) := by
 have hd := hall _ (tG h)
 have h1 := aHy h h0
 have h2 := Wh (l := l) (a := l.getD s 0 + 1) (b := d + 1) (by omega) (by omega)
 rw [ZY hall, hs] at h2
 rw [aMY (aLC _), <- aL7, show d + 1 - l.getD s 0 + (l.getD s 0 - 1) = d from by omega]
 have := aLC (l.getD s 0 - 1)
 omega
theorem aAZ {l : List Nat} {s t d : Nat} (hsl : s < l.length) (htl : t < l.length) (hst : s ≠ t) (hs0 : l.getD s 0 ≠ 0) (ht0 : l.getD t 0 ≠ 0) (hw : l.getD t 0 <= l.getD s 0) (hs : dV l = 2 ^ d) (hall : ∀ w ∈ l, w <= d) :
 NI l t / 2 ^ (l.getD t 0 - 1) / 2 ^ (l.getD s 0 - l.getD t 0) ≠ NI l s / 2 ^ (l.getD s 0 - 1) := by
 rw [aMG, <- aL7, show l.getD t 0 - 1 + (l.getD s 0 - l.getD t 0) = l.getD s 0 - 1 from by omega]
 have hp := aLC (l.getD s 0 - 1)
 obtain ⟨q, hq⟩ := aDY hsl hs0 hs (hall _ (tG hsl))
 rw [hq, aM9 _ hp]
 rcases aLv (l.getD t 0) (l.getD s 0) with hlt | hge
 .have h1 := aHy htl ht0
  have h2 := Wh (l := l) (a := l.getD t 0 + 1) (b := l.getD s 0) (by omega) (by omega)
  have h3 : yS l (l.getD s 0) <= NI l s := Nat.le_add_right _ _
  have hp2 := aLC (l.getD t 0 - 1)
  have : NI l t / 2 ^ (l.getD s 0 - 1) < q := by
   rw [aMY hp, aLJ]
   omega
  omega
 .have he : l.getD t 0 = l.getD s 0 := by omega
  have hne : (l.take t).count (l.getD t 0) ≠ (l.take s).count (l.getD s 0) := by
   have key : ∀ {a b : Nat}, a < b -> b < l.length -> l.getD a 0 = l.getD b 0 -> (l.take a).count (l.getD a 0) < (l.take b).count (l.getD b 0) := by
    intro a b hab hb hab2
    have h1 := aHr (l := l.take b) (s := a) (by rw [aLn]; omega)
    have h2 : (l.take b).getD a 0 = l.getD a 0 := by
     rw [aLl, aLl, aLY hab]
    rw [h2, aNv, aL3 (by omega)] at h1
    rw [<- hab2]; omega
   rcases Nat.lt_or_gt_of_ne hst with h | h
   .have := key h htl he.symm; omega
   .have := key h hsl he; omega
  intro h
  apply hne
  unfold NI at hq h
  rw [he] at h ⊢
  obtain ⟨r, hr⟩ := axI hs (by have := hall _ (tG hsl); omega) (by omega : 1 <= l.getD s 0)
  rw [hr] at hq h
  generalize 2 ^ (l.getD s 0 - 1) = p at *
  generalize (l.take t).count (l.getD s 0) = x at *
  generalize (l.take s).count (l.getD s 0) = y at *
  rw [aLJ x p, <- aNm, aM9 _ hp] at h
  rw [aLJ y p, <- aNm] at hq
  have := Nat.eq_of_mul_eq_mul_left hp hq
  omega
end Go.Pu
namespace Go.Proofs.YtgpimhlgaokobaaGreat
open Go Go.En Go.Pu
set_option maxRecDepth 4000
abbrev bT (l : List UInt8) : List Nat := l.map (·.toNat)
theorem iQ (l : List UInt8) : (bT l).length = l.length := by simp
theorem aCH {l : List UInt8} {i : Nat} (h : i < l.length) : (bT l)[i]? = some (l[i].toNat) := by rw [aLD, aLg h] <;> rfl
theorem XS {l : List UInt8} {i : Nat} (h : i < l.length) : bT (l.take (i + 1)) = bT (l.take i) ++ [l[i].toNat] := by
 unfold bT
 rw [aL6, aLg h, aLz] <;> rfl
theorem aFI {l : List UInt8} (h : 0 < l.length) : (bT l).getLast? = some 0 ↔ l[l.length - 1].toNat = 0 := by
 rw [aM2, iQ, aCH (by omega)]
 simp
theorem Qb (l : List UInt8) : ∀ w ∈ bT l, w < 256 := fun w hw => by
 obtain ⟨x, _, rfl⟩ := aMl.1 hw
 exact aLO x
theorem axP {d : Nat} {l : List Nat} {x : Nat} : rM d (l ++ [x]) = (rM d l && decide (x <= d)) := by
 unfold rM; rw [List.all_append]; simp
theorem axG {d : Nat} {l : List Nat} {i : Nat} (h : rM d (l.take i) = false) : rM d l = false := by
 cases hq : rM d l with
 | false => rfl
 | true =>
   rw [rR] at hq
   have : rM d (l.take i) = true := rR.2 fun w hw => hq w (aMq hw)
   rw [this] at h; cases h
theorem aER {v : aNF} {l : List UInt8} {w : aNE} (h : Bs w v l) (hl : l.length <= 100000) :
 aT pg Ao #[v] w (fun r w' => r = .tuple #[.int .i64 (if rM 11 (bT l) = true then dV (bT l) else 0 : Nat), .bool (rM 11 (bT l))] /\ w' = w) := by
 refine aaO ?_
 obtain ⟨a, n, c, rfl, hn, hc, hh⟩ := id h
 rw [aLk] at hn
 subst hn
 unfold Zb GJ Fk Ii Ig Iy
 simp (disch := omega) only [aD, aQ, aA]
 unfold HK Ie
 refine cS.rule (fun m (t : aNF × aNF) w' => ∃ i : Nat, m = l.length - i /\ t = (.int .i64 (dV (bT (l.take i)) : Nat), .int .i64 i) /\ i <= l.length /\ rM 11 (bT (l.take i)) = true /\ w' = w) l.length
  ⟨0, rfl, by simp [dV], by omega, by simp [rM], rfl⟩ ?_
 rintro m t w1 ⟨i, rfl, rfl, hi, hle, rfl⟩
 unfold Cf Im
 by_cases hlt : i < l.length
 .have d1 : decide ((i : Int) < (l.length : Int)) = true := by simp; omega
  obtain ⟨b, off, rfl, hcell⟩ := slA h (by omega)
  have g1 := hcell i hlt
  rw [aLD, aLg hlt] at g1
  simp only [aLZ, sU] at g1
  have ht := XS hlt
  have hx : (l[i]).toNat < 256 := aLO _
  have hwl := HM (rR.1 hle)
  rw [iQ, aLn] at hwl
  have hsn : rM 11 (bT (l.take (i + 1))) = (rM 11 (bT (l.take i)) && decide ((l[i]).toNat <= 11)) := by rw [ht, axP]
  have hwn : dV (bT (l.take (i + 1))) = dV (bT (l.take i)) + F8 (l[i]).toNat := by rw [ht, CF, oY] <;> rfl
  have hbad : rM 11 (bT (l.take (i + 1))) = false -> rM 11 (bT l) = false := fun h => axG (i := i + 1) (by rw [<- aMZ]; exact h)
  generalize (l[i]).toNat = x at *
  unfold Ch
  by_cases h11 : 11 < x
  .have d2 : decide ((11 : Int) < (x : Int)) = true := by simp; omega
   have hf := hbad (by rw [hsn, hle, decide_eq_false (by omega)] <;> rfl)
   simp (disch := omega) only [aD, aS, d1, dA, aK9, bK, aP, aA, gS, g1, aH, dE, d2, fE, xK, pE, and_true, aG]
   rw [hf]; simp
  .have d2 : decide ((11 : Int) < (x : Int)) = false := by simp; omega
   have hle1 : rM 11 (bT (l.take (i + 1))) = true := by rw [hsn, hle, decide_eq_true (by omega)] <;> rfl
   have hwp := aB0 (w := x) (by omega)
   by_cases h0 : 0 < x
   .have d3 : decide ((0 : Int) < (x : Int)) = true := by simp; omega
    have e1 : (x : Int) - 1 = ((x - 1 : Nat) : Int) := by omega
    have hsh := aFx (n := x - 1) (by omega)
    have hpw : F8 x = 2 ^ (x - 1) := by unfold F8; rw [if_neg (by omega)]
    have e2 : ((dV (bT (l.take i)) : Nat) : Int) + ((2 ^ (x - 1) : Nat) : Int) = ((dV (bT (l.take i)) + 2 ^ (x - 1) : Nat) : Int) := by omega
    rw [hpw] at hwp hwn
    simp (disch := omega) only [aD, aS, d1, dA, aK9, bK, aP, aA, gS, g1, aH, dE, d2, d3, fE, e1, xK, pE, hsh, e2, aG, and_true, aE]
    exact ⟨l.length - (i + 1), by omega, i + 1, rfl, by rw [hwn] <;> rfl, by omega, hle1⟩
   .have d3 : decide ((0 : Int) < (x : Int)) = false := by simp; omega
    have hpw : F8 x = 0 := by unfold F8; rw [if_pos (by omega)]
    simp (disch := omega) only [aD, aS, d1, dA, aK9, bK, aP, aA, gS, g1, aH, dE, d2, d3, fE, aE, and_true, aG]
    exact ⟨l.length - (i + 1), by omega, i + 1, rfl, by rw [hwn, hpw] <;> rfl, by omega, hle1⟩
 .have d1 : decide ((i : Int) < (l.length : Int)) = false := by simp; omega
  obtain rfl : i = l.length := by omega
  rw [aMU] at *
  unfold B8
  simp (disch := omega) only [aD, aS, d1, aA, and_true, aE]
  rw [hle]; simp
theorem aED {a b : Nat} (ha : a < 2 ^ 63) (hb : b < 2 ^ 63) : VF .i64 (a : Int) (b : Int) = ((a &&& b : Nat) : Int) := by
 unfold VF
 have e : IntKind.i64.bits = 64 := rfl
 have h := Nat.and_lt_two_pow (n := 63) a hb
 rw [e, BitVec.ofInt_natCast, BitVec.ofInt_natCast, BitVec.toNat_and, BitVec.toNat_ofNat, BitVec.toNat_ofNat, aLP (by omega), aLP (by omega)]
 exact aP (by omega) (by omega)
theorem aJw {v : aNF} {l : List UInt8} {w : aNE} (h : Bs w v l) (h0 : 0 < l.length) (hl : l.length <= 100000) :
 aT pg AO #[v] w (fun r w' => (∃ m : Nat, r = .int .u8 m /\ (∀ x ∈ bT l, x <= m) /\ m ∈ bT l) /\ w' = w) := by
 refine V9 ?_
 obtain ⟨b, off, c, rfl, hc, hcell⟩ := O6 h h0
 unfold Up CA Cz
 have d0 : decide ((l.length : Int) < 1) = false := by simp; omega
 have g0 := hcell 0 h0
 have t0 : (0 : Int).toNat = 0 := rfl
 simp (disch := omega) only [aD, aQ, aA, aS, d0, aE]
 unfold DU DY
 simp (disch := omega) only [aD, dA, t0, aA, gS, g0, aH]
 unfold Ej Et DN Eh Er
 refine cS.rule (fun m (t : aNF × aNF) w' => ∃ i q : Nat, m = l.length - i /\ t = (.int .u8 q, .int .i64 i) /\ 1 <= i /\ i <= l.length /\ (∀ x ∈ bT (l.take i), x <= q) /\ q ∈ bT (l.take i) /\ w' = w) (l.length - 1)
  ⟨1, l[0].toNat, by omega, rfl, by omega, by omega, ?_, ?_, rfl⟩ ?_
 .intro x hx
  rw [XS (i := 0) h0] at hx
  simp at hx; omega
 .rw [XS (i := 0) h0]; simp
 rintro m t w1 ⟨i, q, rfl, rfl, hi1, hi, hle, hmem, rfl⟩
 unfold zY
 by_cases hlt : i < l.length
 .have d1 : decide ((i : Int) < (l.length : Int)) = true := by simp; omega
  have g1 := hcell i hlt
  have ht := XS hlt
  generalize (l[i]).toNat = x at *
  have hmx : (if (q : Int) <= (x : Int) then (x : Int) else (q : Int)) = ((max q x : Nat) : Int) := by split <;> omega
  have hmx2 : (if (x : Int) > (q : Int) then (x : Int) else (q : Int)) = ((max q x : Nat) : Int) := by split <;> omega
  have hmx3 : (if (q : Int) < (x : Int) then (x : Int) else (q : Int)) = ((max q x : Nat) : Int) := by split <;> omega
  simp (disch := omega) only [aD, aQ, dA, aK9, bK, aP, aA, gS, aS, d1, g1, aH, Bc, hmx2, and_true, aG]
  refine ⟨l.length - (i + 1), by omega, i + 1, max q x, rfl, rfl, by omega, by omega, ?_, ?_⟩
  .intro y hy
   rw [ht] at hy
   rcases aLQ.1 hy with hy | hy
   .have := hle y hy; omega
   .rw [aMX.1 hy]; omega
  .rw [ht, aLQ]
   rcases Nat.le_total q x with h | h
   .rw [Nat.max_eq_right h]; exact .inr (aMX.2 rfl)
   .rw [Nat.max_eq_left h]; exact .inl hmem
 .have d1 : decide ((i : Int) < (l.length : Int)) = false := by simp; omega
  obtain rfl : i = l.length := by omega
  rw [aMU] at *
  unfold zB
  simp (disch := omega) only [aD, aQ, bK, aP, aA, aS, d1, and_true, aE]
  exact ⟨q, rfl, hle, hmem⟩
theorem avO {v : aNF} {l : List UInt8} {w : aNE} (h : Bs w v l) (hl : l.length <= 100000) :
 aT pg Ah #[v] w (fun r w' => r = .int .i64 (gQ (bT l) : Nat) /\ w' = w) := by
 refine acX ?_
 obtain ⟨a, n, c, rfl, hn, hc, hh⟩ := id h
 rw [aLk] at hn
 subst hn
 have no : ¬ (rM 11 (bT l) = true /\ 2 <= (bT l).length /\ (bT l).length <= 256 /\ (bT l).getLast? ≠ some 0 /\ 2 ^ (dV (bT l)).log2 = dV (bT l) /\ (dV (bT l)).log2 <= 11 /\ rM (dV (bT l)).log2 (bT l) = true) -> gQ (bT l) = 0 := fun h => by
  unfold gQ; rw [if_neg h]
 have hnl := iQ l
 unfold Zp HB
 refine (aER h hl).mono ?_
 rintro r w1 ⟨rfl, rfl⟩
 cases hok : rM 11 (bT l) with
 | false =>
   have := no (by rw [hok]; simp)
   simp (disch := omega) only [aD, aLb, if_false, pT, pS, aA, oP, aLE, jM, bE, if_true, aG, cK, and_true]
   rw [this] <;> rfl
 | true =>
   have hw := HM (rR.1 hok)
   rw [hnl] at hw
   by_cases h2 : l.length < 2
   .have d2 : decide ((l.length : Int) < 2) = true := by simp; omega
    have := no (by omega)
    simp (disch := omega) only [aD, if_true, pT, pS, aA, oP, aLu, dI, bE, aLb, if_false, bJ, aQ, aS, d2, jM, aG, cK, and_true]
    rw [this] <;> rfl
   have d2 : decide ((l.length : Int) < 2) = false := by simp; omega
   by_cases h3 : 256 < l.length
   .have d3 : decide ((256 : Int) < (l.length : Int)) = true := by simp; omega
    have := no (by omega)
    simp (disch := omega) only [aD, if_true, pT, pS, aA, oP, aLu, dI, bE, aLb, if_false, bJ, aQ, aS, d2, dE, d3, jM, aG, cK, and_true]
    rw [this] <;> rfl
   have d3 : decide ((256 : Int) < (l.length : Int)) = false := by simp; omega
   obtain ⟨b, off, rfl, hcell⟩ := slA h (by omega)
   have e1 : (l.length : Int) - 1 = ((l.length - 1 : Nat) : Int) := by omega
   have g1 := hcell (l.length - 1) (by omega)
   rw [aLD, aLg (by omega)] at g1
   simp only [aLZ, sU] at g1
   have hla := aFI (l := l) (by omega)
   have hmem : (l[l.length - 1]'(by omega)).toNat ∈ bT l := aMl.2 ⟨_, aLW _, rfl⟩
   generalize (l[l.length - 1]'(by omega)).toNat = x at *
   by_cases h4 : x = 0
   .have d4 : ((x : Int) == 0) = true := by rw [h4] <;> rfl
    have := no (fun h => h.2.2.2.1 (hla.2 h4))
    simp (disch := omega) only [aD, if_true, pT, pS, aA, oP, aLu, dI, bE, aLb, if_false, bJ, aQ, aS, d2, dE, d3, fE, e1, aP, dA, aK9, gS, g1, aH, fW, kS, dQ, d4, jM, aG, cK, and_true]
    rw [this] <;> rfl
   have d4 : ((x : Int) == 0) = false := beq_eq_false_iff_ne.2 (by omega)
   have hwp := ajR hmem
   have hwx : 1 <= F8 x := by unfold F8; rw [if_neg h4]; exact Nat.one_le_two_pow
   obtain ⟨s, hs⟩ : ∃ s, dV (bT l) = s := ⟨_, rfl⟩
   rw [hs] at no hw hwp ⊢
   have e2 : (s : Int) - 1 = ((s - 1 : Nat) : Int) := by omega
   have e3 := aED (a := s) (b := s - 1) (by omega) (by omega)
   have hpw := aCu s (by omega)
   have hlast : (bT l).getLast? ≠ some 0 := fun h => h4 (hla.1 h)
   simp only [if_true]
   by_cases h5 : s &&& (s - 1) = 0
   .have d5 : (((s &&& (s - 1) : Nat) : Int) != 0) = false := by rw [h5] <;> rfl
    have hlog := hpw.1 h5
    have hbl : bl s = s.log2 + 1 := by unfold bl; rw [if_neg (by omega)]
    have e4 : ((s.log2 + 1 : Nat) : Int) - 1 = (s.log2 : Int) := by omega
    have hb20 : bl s <= 20 := wO (by omega)
    simp (disch := omega) only [aD, pT, pS, aA, oP, aLu, dI, bE, aLb, if_false, bJ, aQ, aS, d2, dE, d3, fE, e1, aP, dA, aK9, gS, g1, aH, fW, kS, dQ, d4, e2, wK, e3, cY, d5, and_true, aE]
    refine (aCw s (by omega) w1).mono ?_
    rintro r w2 ⟨rfl, rfl⟩
    rw [hbl]
    by_cases h6 : 11 < s.log2
    .have d6 : decide ((11 : Int) < (s.log2 : Int)) = true := by simp; omega
     have := no (by omega)
     simp (disch := omega) only [fE, e4, aP, aA, dE, d6, jM, bE, if_true, aG, cK, and_true]
     rw [this] <;> rfl
    have d6 : decide ((11 : Int) < (s.log2 : Int)) = false := by simp; omega
    simp (disch := omega) only [fE, e4, aP, aA, dE, d6, dI, bE, aLb, if_false, bJ]
    refine (aJw h (by omega) hl).mono ?_
    rintro r w3 ⟨⟨q, rfl, hq1, hq2⟩, rfl⟩
    have hq := Qb l q hq2
    by_cases h7 : s.log2 < q
    .have d7 : decide ((s.log2 : Int) < (q : Int)) = true := by simp; omega
     have := no (fun h => by have := rR.1 h.2.2.2.2.2.2 q hq2; omega)
     simp (disch := omega) only [dF, aP, aA, dE, d7, and_true, aG]
     rw [this] <;> rfl
    .have d7 : decide ((s.log2 : Int) < (q : Int)) = false := by simp; omega
     have hyes : gQ (bT l) = s.log2 := by
      unfold gQ
      rw [hs, if_pos ⟨hok, by omega, by omega, hlast, hlog, by omega, rR.2 fun y hy => by have := hq1 y hy; omega⟩]
     simp (disch := omega) only [dF, aP, aA, dE, d7, and_true, aE]
     rw [hyes]
   .have d5 : (((s &&& (s - 1) : Nat) : Int) != 0) = true := by simpa using h5
    have := no (fun h => h5 (hpw.2 h.2.2.2.2.1))
    simp (disch := omega) only [aD, pT, pS, aA, oP, aLu, dI, bE, aLb, if_false, bJ, aQ, aS, d2, dE, d3, fE, e1, aP, dA, aK9, gS, g1, aH, fW, kS, dQ, d4, e2, wK, e3, cY, d5, and_true, aG]
    rw [this] <;> rfl
def aIH (w : aNE) (base : Nat) (l : List UInt8) (o : Option Nat) (r : aNF) : Prop := match o with
 | none => r = .tuple #[.slice none 0 0, .int .i64 11]
 | some k => ∃ v, r = .tuple #[v, .int .i64 0] /\ sV w base 1 v (l.length + 1) ((l ++ [UInt8.ofNat k]).map sU)
theorem aET {v : aNF} {l : List UInt8} {w : aNE} (h : Bs w v l) (hl : l.length <= 100000) :
 aT pg Dt #[v] w (fun r w' => aIH w' w.heap.size l (tX (bT l)) r /\ aW w w' eT) := by
 refine acD ?_
 obtain ⟨a, n, c, rfl, hn, hc, hh⟩ := id h
 rw [aLk] at hn
 subst hn
 have hnl := iQ l
 have no : ¬ (rM 11 (bT l) = true /\ 1 <= (bT l).length /\ (bT l).length <= 255 /\ 0 < dV (bT l) /\ bl (dV (bT l)) <= 11 /\ 2 ^ (2 ^ bl (dV (bT l)) - dV (bT l)).log2 = 2 ^ bl (dV (bT l)) - dV (bT l)) -> tX (bT l) = none := fun h => by
  unfold tX; rw [if_neg h]
 unfold Zg H6
 refine (aER h hl).mono ?_
 rintro r w1 ⟨rfl, rfl⟩
 cases hok : rM 11 (bT l) with
 | false =>
   have := no (by rw [hok]; simp)
   simp (disch := omega) only [aD, aLb, if_false, pT, pS, aA, oP, aLE, jM, bE, if_true, aG, cK]
   rw [this]; exact ⟨rfl, aW.refl _ _⟩
 | true =>
   have hw := HM (rR.1 hok)
   rw [hnl] at hw
   by_cases h2 : l.length = 0
   .have d2 : ((l.length : Int) == 0) = true := by rw [h2] <;> rfl
    have := no (by omega)
    simp (disch := omega) only [aD, if_true, pT, pS, aA, oP, aLu, dI, bE, aLb, if_false, bJ, aQ, dQ, d2, jM, aG, cK]
    rw [this]; exact ⟨rfl, aW.refl _ _⟩
   have d2 : ((l.length : Int) == 0) = false := beq_eq_false_iff_ne.2 (by omega)
   by_cases h3 : 256 <= l.length
   .have d3 : decide ((256 : Int) <= (l.length : Int)) = true := by simp; omega
    have := no (by omega)
    simp (disch := omega) only [aD, if_true, pT, pS, aA, oP, aLu, dI, bE, aLb, if_false, bJ, aQ, dQ, d2, nF, d3, jM, aG, cK]
    rw [this]; exact ⟨rfl, aW.refl _ _⟩
   have d3 : decide ((256 : Int) <= (l.length : Int)) = false := by simp; omega
   obtain ⟨s, hs⟩ : ∃ s, dV (bT l) = s := ⟨_, rfl⟩
   rw [hs] at no hw ⊢
   simp only [if_true]
   by_cases h4 : s = 0
   .have d4 : ((s : Int) == 0) = true := by rw [h4] <;> rfl
    have := no (by omega)
    simp (disch := omega) only [aD, pT, pS, aA, oP, aLu, dI, bE, aLb, if_false, bJ, aQ, dQ, d2, nF, d3, d4, fW, kS, aG]
    rw [this]; exact ⟨rfl, aW.refl _ _⟩
   have d4 : ((s : Int) == 0) = false := beq_eq_false_iff_ne.2 (by omega)
   have hbl19 : bl s <= 20 := wO (by omega)
   have hlt := WI s
   have hbl0 := NR h4
   have hp20 : 2 ^ bl s <= 2 ^ 20 := aLj (by omega) hbl19
   have hshl := aFx (n := bl s) hbl19
   have e1 : ((2 ^ bl s : Nat) : Int) - (s : Int) = ((2 ^ bl s - s : Nat) : Int) := by omega
   simp (disch := omega) only [aD, pT, pS, aA, oP, aLu, dI, bE, aLb, if_false, bJ, aQ, dQ, d2, nF, d3, d4, fW, kS, aE]
   refine (aCw s (by omega) w1).mono ?_
   rintro r w2 ⟨rfl, rfl⟩
   obtain ⟨q, hq⟩ : ∃ q, 2 ^ bl s - s = q := ⟨_, rfl⟩
   rw [hq] at no e1
   by_cases h5 : 11 < bl s
   .have d5 : decide ((11 : Int) < (bl s : Int)) = true := by simp; omega
    have := no (by omega)
    simp (disch := omega) only [pE, aK9, hshl, dE, d5, aA, jM, bE, if_true, aG, cK, fE, e1, aP]
    rw [this]; exact ⟨rfl, aW.refl _ _⟩
   have d5 : decide ((11 : Int) < (bl s : Int)) = false := by simp; omega
   have e2 : (q : Int) - 1 = ((q - 1 : Nat) : Int) := by omega
   have e3 := aED (a := q) (b := q - 1) (by omega) (by omega)
   have hpw := aCu q (by omega)
   by_cases h6 : q &&& (q - 1) = 0
   .have d6 : (((q &&& (q - 1) : Nat) : Int) != 0) = false := by rw [h6] <;> rfl
    have hyes : tX (bT l) = some (q.log2 + 1) := by
     unfold tX
     rw [hs, hq, if_pos ⟨hok, by omega, by omega, by omega, by omega, hpw.1 h6⟩]
    have hblq : bl q = q.log2 + 1 := by unfold bl; rw [if_neg (by omega)]
    have hblq2 : bl q <= 20 := wO (by omega)
    simp (disch := omega) only [pE, aK9, hshl, dE, d5, aA, dI, bE, aLb, if_false, bJ, fE, e1, aP, e2, fW, kS, wK, e3, cY, d6, aE]
    refine (IP (h.ext (aW.refl _ eT) (bZ _)) (by omega)).mono ?_
    rintro r w3 ⟨o3, x3⟩
    have z3 := x3.size
    refine (aCw q (by omega) w3).mono ?_
    rintro r w4 ⟨rfl, rfl⟩
    rw [hblq] at hblq2 ⊢
    rw [hyes]
    have e8 : IntKind.u8.wrap ((q.log2 + 1 : Nat) : Int) = ((q.log2 + 1 : Nat) : Int) := xK (by omega) (by omega)
    simp (disch := omega) only [eS, e8, aA]
    obtain ⟨av, cv, rfl⟩ := o3.len
    refine pC (cells := #[.int .u8 (q.log2 + 1 : Nat)]) (by decide) (by decide) (by kernel_rfl) fun w5 o5 x5 s5 => ?_
    have z5 := x5.size
    refine mJ (m := 1) (news := [.int .u8 (q.log2 + 1 : Nat)]) (o3.ext x5 (fun _ _ h => h)) (o5.cl (off := 0) (l := [.int .u8 (q.log2 + 1 : Nat)]) (n := 1) rfl (fun i hi => by rw [aLa])) (by simp [one]) (by omega) (by omega) fun v6 w6 o6 x6 => ?_
    refine ⟨⟨v6, rfl, ?_⟩, (x3.seq x5).trans x6 fun b hb h => by omega⟩
    have hb2 : sU (UInt8.ofNat (q.log2 + 1)) = .int .u8 (q.log2 + 1 : Nat) := by
     unfold sU
     rw [aMx (show q.log2 + 1 < 256 by omega)]
    rw [aLz, aMn, aNs, hb2]
    exact o6
   .have d6 : (((q &&& (q - 1) : Nat) : Int) != 0) = true := by simpa using h6
    have := no (fun h => h6 (hpw.2 h.2.2.2.2.2))
    simp (disch := omega) only [pE, aK9, hshl, dE, d5, aA, dI, bE, aLb, if_false, bJ, fE, e1, aP, e2, fW, kS, wK, e3, cY, d6, aG]
    rw [this]; exact ⟨rfl, aW.refl _ _⟩
end Go.Proofs.YtgpimhlgaokobaaGreat

/- Parts of the proof of LiteralsReads: merged and given short names by a program of ours. -/
import Derived.Laws.IdiomStrings
import Derived.Test.YtgpimhlgaokobaaGreatZaB
set_option linter.unusedVariables false
set_option linter.unusedSimpArgs false
open Array renaming getD_eq_getD_getElem? → aK4, length_toList → aL5, getElem?_setIfInBounds_self_of_lt → aLI, getElem?_setIfInBounds_ne → aLN, getElem?_eq_getElem → aLp, getElem?_modify → aMT, getElem?_eq_none → aMj
open Bool renaming and_eq_true → aK5, false_eq_true → aKQ, not_true → aLb, not_false → aLi, or_eq_false_iff → aMG
open Int renaming tdiv_eq_ediv_of_nonneg → aK6, toNat_natCast → aKO, tmod_eq_emod_of_nonneg → aLg, fdiv_eq_ediv_of_nonneg → aMn
open List renaming getD_eq_getElem?_getD → aK0, length_take → aK2, getElem?_eq_none → aK3, length_drop → aK7, getElem?_cons_zero → aKM, getElem?_cons_succ → aKN, set_cons_succ → aKR, set_cons_zero → aKS, take_succ_cons → aKT, length_append → aKV, getElem?_eq_getElem → aKW, length_map → aKZ, map_cons → aL0, getElem_map → aL3, set_append_left → aL4, drop_succ_cons → aL6, nil_append → aL8, getElem_mem → aLA, getElem?_take_of_lt → aLB, length_singleton → aLE, mem_cons → aLF, append_nil → aLG, take_add_one → aLL, getElem?_range → aLQ, getElem?_append_right → aLS, cons_append → aLV, getElem?_toArray → aLX, ext_getElem? → aLY, mem_map → aLZ, length_cons → aLa, mem_cons_of_mem → aLc, getElem?_append_left → aLd, map_append → aLe, append_assoc → aLj, getElem?_map → aLl, drop_eq_getElem_cons → aLo, length_eq_zero_iff → aLq, map_congr_left → aLs, mem_range → aLu, mem_append → aLx, replicate_succ → aLy, mem_filter → aM2, range_succ → aM3, length_set → aM4, length_erase_of_mem → aM6, map_nil → aM7, map_set → aM8, mem_singleton → aMC, map_take → aME, flatten_cons → aMF, getLast?_eq_getElem? → aMH, filter_cons → aML, take_left' → aMQ, getElem_cons_succ → aMR, getElem_set_self → aMU, getLast?_concat → aMX, ext_getElem → aMa, mem_of_mem_take → aMd, getElem?_replicate → aMe, count_append → aMg, count_cons → aMh, getElem_of_mem → aMi, getElem_cons_zero → aMk, mem_cons_self → aMq, getElem?_drop → aMs, set_append_right → aMt, getElem_range → aMu, take_append_drop → aMv, take_length → aMz, take_take → aNa, length_range → aNc, map_map → aNh
open Nat renaming le_refl → aK1, lt_or_ge → aK9, zero_add → aKP, pow_le_pow_right → aKY, eq_zero_or_pos → aL9, add_mul → aLD, min_eq_left → aLH, pow_add → aLM, add_sub_cancel → aLO, div_le_self → aLP, le_trans → aLT, add_zero → aLW, two_pow_pos → aLh, mul_le_mul_right → aLk, mul_comm → aLm, pow_succ → aLr, mod_eq_of_lt → aLt, one_mul → aM0, mul_add → aM1, div_lt_iff_lt_mul → aMD, zero_le → aMJ, testBit_eq_decide_div_mod_eq → aMM, mul_div_cancel_left → aMN, mod_lt → aMP, log2_two_pow → aMW, mul_assoc → aMZ, mul_one → aMc, div_div_eq_div_mul → aMl, add_assoc → aMm, mod_two_eq_zero_or_one → aMo, lt_of_lt_of_le → aMp, sub_self → aMw, lt_trichotomy → aNb, zero_mul → aNg
open Option renaming isNone_some → aK8, map_some → aLC, isNone_none → aLw
open Option.some renaming inj → aLf
open UInt8 renaming toNat_lt → aLv, toNat_ofNat_of_lt' → aMb
namespace Go.Proofs.YtgpimhlgaokobaaGreat
open Go Go.En
set_option maxRecDepth 20000
attribute [local irreducible] Go.En.bD
variable (Q : Exit -> Env -> aNj -> Prop) (g : Env) (w : aNj)
def rG : FA := ⟨zG, fun i => .leaf ([], []) []⟩
def IJ : List ResultVar := [.cell 4 133, .tmp 5]
noncomputable def qC : Code := dE Tryz.f95
def Iz (R : K1) (Jp b4 Jc tL : aNk) (w : aNj) : Prop :=
 aD pg (aJ 133 Jp 0) w fun f6 w =>
 aD pg (aL 131 f6) w fun f7 w =>
 aD pg (aJ 133 Jp 0) w fun f8 w =>
 aD pg (aL 131 f8) w fun f9 w =>
 aD pg (lO .len #[131] 3 [f9]) w fun i0 w =>
 aD pg (aI .sub 3 aM aM i0 Jc) w fun i2 w =>
 aD pg (lX 131 f7 none (some i2) none) w fun i3 w =>
 aD pg (aJ 133 Jp 0) w fun i4 w =>
 aD pg (aR 131 i4 i3) w fun _u w =>
 aD pg (aL 133 Jp) w fun i5 w =>
 aD pg (aR 133 b4 i5) w fun _u w =>
 zN pg 133 b4 w fun r0 => R (.tuple #[r0, tL]) w
theorem apQ (R : K1) (hr : HR IJ R Q) (h : Iz R (g 2) (g 4) (g 6) (g 7) w) : bD pg rG (aB 1 (aB 1 (aB 4 qC))) Q g w :=
 eP (kn := no) (l := []) h gS hr trivial
def IA (kn : K6) (k0 : K4) (lU Jp b4 Jc tL i_8 : aNk) (w : aNj) : Prop :=
 aD pg (aI .lss 3 aM aM i_8 lU) w fun e7 w =>
 gX e7
  (aD pg (aI .mul 24 aM aM tL (.int .u64 2)) w fun f1 w =>
  aD pg (aJ 133 Jp 1) w fun f2 w =>
  aD pg (aL 3 f2) w fun f3 w =>
  aD pg (aI .add 3 aM aM f3 (aNl 1)) w fun f4 w =>
  aD pg (aJ 133 Jp 1) w fun f5 w =>
  aD pg (aR 3 f5 f4) w fun _u w =>
  aD pg (aI .add 3 aM aM i_8 (aNl 1)) w fun e9 w =>
  kn lU Jp b4 Jc f1 e9 w)
  (k0 Jp b4 Jc tL w)
theorem anN (kn : K6) (k0 : K4) (hn : N6 Q kn 1 2 4 6 7 8) (h0 : E4 Q k0 0 2 4 6 7) (h : IA kn k0 (g 1) (g 2) (g 4) (g 6) (g 7) (g 8) w) : bD pg rG (bI (bI (aB 1 (aF 1 (aB 1 (aB 4 qC)))))) Q g w :=
 eP (kr := no) (l := [(0, fun g w => k0 (g 2) (g 4) (g 6) (g 7) w)]) h hn gS ⟨h0, trivial⟩
def RK (k0 : K4) (lU Jp b4 Jc tL i_8 : aNk) (w : aNj) : Prop :=
 cU (fun (X : (aNk × aNk) -> K0) (t : aNk × aNk) (w : aNj) => IA (fun _ _ _ _ tL i_8 w => X (tL, i_8) w) k0 lU Jp b4 Jc t.1 t.2 w) (tL, i_8) w
theorem alQ (k0 : K4) (h0 : E4 Q k0 0 2 4 6 7) (h : RK k0 (g 1) (g 2) (g 4) (g 6) (g 7) (g 8) w) : bD pg rG (bI (aB 1 (aF 1 (aB 1 (aB 4 qC))))) Q g w := by
 refine Dt (fun g : Env => (g 7, g 8)) (fun X t w => IA (fun _ _ _ _ tL i_8 w => X (tL, i_8) w) k0 (g 1) (g 2) (g 4) (g 6) t.1 t.2 w) h (fun X g1 w1 ha hL => ?_)
 rw [<- jX 1 ha, <- jX 2 ha, <- jX 4 ha, <- jX 6 ha] at hL
 exact (anN _ g1 w1 (fun _ _ _ _ tL i_8 w => X (tL, i_8) w) k0 (fun _ _ h => h) h0 hL)
def Q8 (kn : K4) (lU Jp b4 Jc tL i_8 : aNk) (w : aNj) : Prop :=
 RK kn lU Jp b4 Jc tL i_8 w
def QO (kn : K6) (lU Jp b4 Jc tL : aNk) (w : aNj) : Prop :=
 kn lU Jp b4 Jc tL Jc w
theorem apL (kn : K6) (hn : N6 Q kn 1 2 4 6 7 8) (h : QO kn (g 1) (g 2) (g 4) (g 6) (g 7) w) : bD pg rG (aF 1 (aF 1 (aB 1 (aB 4 qC)))) Q g w :=
 eP (kr := no) (l := []) h hn gS trivial
def Rv (kn : K4) (lU Jp b4 Jc tL : aNk) (w : aNj) : Prop :=
 QO (fun lU Jp b4 Jc tL i_8 w => Q8 kn lU Jp b4 Jc tL i_8 w) lU Jp b4 Jc tL w
def QY (R : K1) (lU Jp b4 Jc tL : aNk) (w : aNj) : Prop :=
 Rv (fun Jp b4 Jc tL w => Iz R Jp b4 Jc tL w) lU Jp b4 Jc tL w
theorem apM (kn : K4) (hn : N4 Q kn 2 4 6 7) (h : Rv kn (g 1) (g 2) (g 4) (g 6) (g 7) w) : bD pg rG (aF 1 (aB 1 (aB 4 qC))) Q g w :=
 jE 1 (apL _ g w (Q8 kn) (fun g w h => aK (wT 0 (alQ _ g w kn hn h))) h)
def RN (kn : K5) (lU Jp b4 Jc : aNk) (w : aNj) : Prop :=
 aD pg (aJ 133 Jp 0) w fun d5 w =>
 aD pg (aL 131 d5) w fun d6 w =>
 aD pg (aJ 133 Jp 0) w fun d7 w =>
 aD pg (aL 131 d7) w fun d8 w =>
 aD pg (lO .len #[131] 3 [d8]) w fun d9 w =>
 aD pg (aI .sub 3 aM aM d9 Jc) w fun e1 w =>
 aD pg (lX 131 d6 (some e1) none none) w fun e2 w =>
 aS pg Bt #[e2] w fun e3 w =>
 kn lU Jp b4 Jc e3 w
theorem alN (kn : K5) (hn : N5 Q kn 1 2 4 6 7) (h : RN kn (g 1) (g 2) (g 4) (g 6) w) : bD pg rG (aF 1 (aB 4 qC)) Q g w :=
 eP (kr := no) (l := []) h hn gS trivial
def Iw (R : K1) (lU Jp b4 Jc : aNk) (w : aNj) : Prop :=
 RN (fun lU Jp b4 Jc tL w => QY R lU Jp b4 Jc tL w) lU Jp b4 Jc w
def OD (kn : K4) (R : K1) (fO lU : aNk) (w : aNj) : Prop :=
 aD pg (BG 133 fO) w fun Jp w =>
 aD pg (fP 133) w fun b4 w =>
 aD pg (aI .lss 3 aM aM lU (aNl 1)) w fun c0 w =>
 Gd (iM c0 false) (fun K => K lU w) w fun c2 w =>
 Gd (iM c0 false) (fun K => aD pg (aI .gtr 3 aM aM c2 (aNl 56)) w K) w fun c3 w =>
 aD pg (jR c0 (.bool true) c3) w fun c4 w =>
 gX c4
  (aD pg (aL 133 Jp) w fun c5 w =>
  aD pg (aR 133 b4 c5) w fun _u w =>
  zN pg 133 b4 w fun r0 => R (.tuple #[r0, (.int .u64 0)]) w)
  (aD pg (aJ 133 Jp 0) w fun c8 w =>
  aD pg (aL 131 c8) w fun c9 w =>
  aD pg (lO .len #[131] 3 [c9]) w fun d0 w =>
  aD pg (aI .gtr 3 aM aM lU d0) w fun d1 w =>
  gX d1
   (aD pg (aJ 133 Jp 0) w fun d2 w =>
   aD pg (aL 131 d2) w fun d3 w =>
   aD pg (lO .len #[131] 3 [d3]) w fun d4 w =>
   kn lU Jp b4 d4 w)
   (kn lU Jp b4 lU w))
theorem aeY (kn : K4) (R : K1) (hn : N4 Q kn 1 2 4 6) (hr : HR IJ R Q) (h : OD kn R (g 0) (g 1) w) : bD pg rG (aF 4 qC) Q g w :=
 eP (l := []) h hn hr trivial
def MF (R : K1) (fO lU : aNk) (w : aNj) : Prop :=
 OD (fun lU Jp b4 Jc w => Iw R lU Jp b4 Jc w) R fO lU w
theorem afW (R : K1) (hr : HR IJ R Q) (h : MF R (g 0) (g 1) w) : bD pg rG qC Q g w :=
 jE 4 (aeY _ g w (Iw R) R (fun g w h => aK (jE 1 (alN _ g w (QY R) (fun g w h => aK (jE 1 (apM _ g w (Iz R) (fun g w h => aK (apQ _ g w R hr h)) h))) h))) hr h)
def ayQ (a0 a1 : aNk) (w : aNj) (R : K1) : Prop :=
 MF R a0 a1 w
theorem asO {a0 a1 : aNk} {w : aNj} {R : K1} (h : ayQ a0 a1 w R) : aS pg zG #[a0, a1] w R := by
 refine uE (ann := rG) Tryz.f95 qC [a0, a1] IJ 57 TryzM.mixed Tryz.func95 ?_
 exact (afW _ _ _ R (fun _ _ h => h) h)
def NY : FA := ⟨BL, fun i => .leaf ([], []) []⟩
def Qg : List ResultVar := [.tmp 0]
noncomputable def LW : Code := dE Tryz.f96
def Gt (R : K1)  (w : aNj) : Prop :=
 aD pg (fV 198 []) w fun b1 w =>
 aD pg (BG 198 b1) w fun b2 w =>
 R b2 w
theorem VO (R : K1) (hr : HR Qg R Q) (h : Gt R w) : bD pg NY LW Q g w :=
 eP (kn := no) (l := []) h gS hr trivial
def VD (w : aNj) (R : K1) : Prop :=
 Gt R w
theorem XL {w : aNj} {R : K1} (h : VD w R) : aS pg BL #[] w R := by
 refine uE (ann := NY) Tryz.f96 LW [] Qg 3 TryzM.mixed Tryz.func96 ?_
 exact (VO _ _ _ R (fun _ _ h => h) h)
def Cs : FA := ⟨yR, fun i => .leaf ([], []) []⟩
def Ep : List ResultVar := [.tmp 2]
noncomputable def Cb : Code := dE Tryz.f97
def yL (R : K1) (Cc : aNk) (w : aNj) : Prop :=
 aD pg (BG 22 Cc) w fun s_1 w =>
 aD pg (aB2 (.func 105) [] [s_1]) w fun b3 w =>
 R b3 w
theorem MI (R : K1) (hr : HR Ep R Q) (h : yL R (g 0) w) : bD pg Cs Cb Q g w :=
 eP (kn := no) (l := []) h gS hr trivial
def I5 (a0 : aNk) (w : aNj) (R : K1) : Prop :=
 yL R a0 w
theorem PC {a0 : aNk} {w : aNj} {R : K1} (h : I5 a0 w R) : aS pg yR #[a0] w R := by
 refine uE (ann := Cs) Tryz.f97 Cb [a0] Ep 4 TryzM.mixed Tryz.func97 ?_
 exact (MI _ _ _ R (fun _ _ h => h) h)
def kV : FA := ⟨rI, fun i => match Nat.beq i 6 with | true => .leaf ([25], []) [(false, []), (false, []), (false, []), (false, []), (false, []), (false, []), (false, []), (false, []), (false, []), (false, []), (false, []), (false, []), (false, []), (false, []), (false, []), (false, []), (false, []), (false, []), (false, []), (false, []), (false, []), (false, []), (false, []), (false, []), (false, []), (true, [])] | false => .leaf ([], []) []⟩
def Bc : List ResultVar := []
noncomputable def kI : Code := dE Tryz.f98
def sU (kn : K4) (xF G2 c7 c8 : aNk) (w : aNj) : Prop :=
 aD pg (aI .add 3 aM aM c8 (aNl 1)) w fun j8 w =>
 kn xF G2 c7 j8 w
theorem S4 (kn : K4) (hn : N4 Q kn 0 1 17 18) (h : sU kn (g 0) (g 1) (g 17) (g 18) w) : bD pg kV (aB 1 (aB 2 (bI (bI (aB 2 kI))))) Q g w :=
 eP (kr := no) (l := []) h hn gS trivial
def oS (kn : K4) (xF G2 wV c7 c8 : aNk) (w : aNj) : Prop :=
 (dr w) = (dr w) /\
 aD pg (vP xF) (dr w) fun e7 w_ => w_ = (dr w) /\
 aD pg (aJ 198 e7 0) (dr w) fun e8 w_ => w_ = (dr w) /\
 aD pg (aL 22 e8) (dr w) fun e9 w_ => w_ = (dr w) /\
 (dr w) = (dr w) /\
 aD pg (vP xF) (dr w) fun f1 w_ => w_ = (dr w) /\
 aD pg (aJ 198 f1 1) (dr w) fun f2 w_ => w_ = (dr w) /\
 aD pg (aL 3 f2) (dr w) fun f3 w_ => w_ = (dr w) /\
 aD pg (aI .quo 3 aM aM f3 (aNl 8)) (dr w) fun f4 w_ => w_ = (dr w) /\
 aD pg (cI 22 e9 f4) (dr w) fun f5 w_ => w_ = (dr w) /\
 aD pg (aL 5 f5) (dr w) fun f6 w_ => w_ = (dr w) /\
 (dr w) = (dr w) /\
 (dr w) = (dr w) /\
 aD pg (jO 3 67 wV) (dr w) fun f9 w_ => w_ = (dr w) /\
 aD pg (aI .shr 24 aM aM G2 f9) (dr w) fun i0 w_ => w_ = (dr w) /\
 aD pg (aI .and 24 aM aM i0 (.int .u64 1)) (dr w) fun i1 w_ => w_ = (dr w) /\
 aD pg (jO 24 5 i1) (dr w) fun i2 w_ => w_ = (dr w) /\
 (dr w) = (dr w) /\
 aD pg (vP xF) (dr w) fun i4 w_ => w_ = (dr w) /\
 aD pg (aJ 198 i4 1) (dr w) fun i5 w_ => w_ = (dr w) /\
 aD pg (aL 3 i5) (dr w) fun i6 w_ => w_ = (dr w) /\
 aD pg (aI .rem 3 aM aM i6 (aNl 8)) (dr w) fun i7 w_ => w_ = (dr w) /\
 aD pg (aI .shl 5 aM aM i2 i7) (dr w) fun i8 w_ => w_ = (dr w) /\
 aD pg (aI .or 5 aM aM f6 i8) (dr w) fun i9 w_ => w_ = (dr w) /\
 aD pg (cI 22 e9 f4) (dr w) fun j0 w_ => w_ = (dr w) /\
 aD pg (aR 5 j0 i9) (dr w) fun _u25 aJN =>
 aD pg (vP xF) aJN fun j2 w =>
 aD pg (aJ 198 j2 1) w fun j3 w =>
 aD pg (aL 3 j3) w fun j4 w =>
 aD pg (aI .add 3 aM aM j4 (aNl 1)) w fun j5 w =>
 aD pg (vP xF) w fun j6 w =>
 aD pg (aJ 198 j6 1) w fun j7 w =>
 aD pg (aR 3 j7 j5) w fun _u w =>
 kn xF G2 c7 c8 w
theorem SD (kn : K4) (hn : N4 Q kn 0 1 17 18) (h : oS kn (g 0) (g 1) (g 6) (g 17) (g 18) w) : bD pg kV (aB 2 (bI (aF 1 (aB 2 (bI (bI (aB 2 kI))))))) Q g w :=
 eP (kr := no) (l := []) h hn gS trivial
def vZ (kn : K5) (xF G2 c7 c8 : aNk) (w : aNj) : Prop :=
 aD pg (vP xF) w fun d2 w =>
 aD pg (aJ 198 d2 1) w fun d3 w =>
 aD pg (aL 3 d3) w fun d4 w =>
 aD pg (aI .rem 3 aM aM d4 (aNl 8)) w fun d5 w =>
 aD pg (aI .eql 3 (.tmp 25) (.const (aNl 0)) d5 (aNl 0)) w fun d6 w =>
 gX d6
  (aD pg (vP xF) w fun d9 w =>
  aD pg (aJ 198 d9 0) w fun e0 w =>
  aD pg (aL 22 e0) w fun e1 w =>
  aD pg (cT 22 1 [(0, (.int .u8 0))]) w fun e2 w =>
  aD pg (lO .append #[22, 22] 22 [e1, e2]) w fun e3 w =>
  aD pg (vP xF) w fun e4 w =>
  aD pg (aJ 198 e4 0) w fun e5 w =>
  aD pg (aR 22 e5 e3) w fun _u w =>
  kn xF G2 c8 c7 c8 w)
  (kn xF G2 c8 c7 c8 w)
theorem Sr (kn : K5) (hn : N5 Q kn 0 1 6 17 18) (h : vZ kn (g 0) (g 1) (g 17) (g 18) w) : bD pg kV (aF 2 (bI (aF 1 (aB 2 (bI (bI (aB 2 kI))))))) Q g w :=
 eP (kr := no) (l := []) h hn gS trivial
def sW (kn : K4) (xF G2 c7 c8 : aNk) (w : aNj) : Prop :=
 vZ (fun xF G2 wV c7 c8 w => oS kn xF G2 wV c7 c8 w) xF G2 c7 c8 w
def wN (kn : K4) (xF G2 c7 c8 : aNk) (w : aNj) : Prop :=
 sW kn xF G2 c7 c8 w
def wB (kn : K4) (xF G2 c7 c8 : aNk) (w : aNj) : Prop :=
 wN (fun xF G2 c7 c8 w => sU kn xF G2 c7 c8 w) xF G2 c7 c8 w
theorem Sk (kn : K4) (hn : N4 Q kn 0 1 17 18) (h : wN kn (g 0) (g 1) (g 17) (g 18) w) : bD pg kV (aF 1 (aB 2 (bI (bI (aB 2 kI))))) Q g w :=
 wT 1 (jE 2 (Sr _ g w (oS kn) (fun g w h => aK (SD _ g w kn hn h)) h))
def vY (kn : K4) (k0 : K0) (xF G2 c7 c8 : aNk) (w : aNj) : Prop :=
 aD pg (aI .lss 3 aM aM c8 c7) w fun c9 w =>
 gX c9
  (kn xF G2 c7 c8 w)
  (k0 w)
theorem RV (kn : K4) (k0 : K0) (hn : N4 Q kn 0 1 17 18) (h0 : E0 Q k0 0) (h : vY kn k0 (g 0) (g 1) (g 17) (g 18) w) : bD pg kV (aF 2 (bI (bI (aB 2 kI)))) Q g w :=
 eP (kr := no) (l := [(0, fun g w => k0 w)]) h hn gS ⟨h0, trivial⟩
def sR (kn : K4) (k0 : K0) (xF G2 c7 c8 : aNk) (w : aNj) : Prop :=
 vY (fun xF G2 c7 c8 w => wB kn xF G2 c7 c8 w) k0 xF G2 c7 c8 w
def wA (k0 : K0) (xF G2 c7 c8 : aNk) (w : aNj) : Prop :=
 cU (fun (X : aNk -> K0) (t : aNk) (w : aNj) => sR (fun _ _ _ c8 w => X c8 w) k0 xF G2 c7 t w) c8 w
theorem SP (kn : K4) (k0 : K0) (hn : N4 Q kn 0 1 17 18) (h0 : E0 Q k0 0) (h : sR kn k0 (g 0) (g 1) (g 17) (g 18) w) : bD pg kV (bI (bI (aB 2 kI))) Q g w :=
 jE 2 (RV _ g w (wB kn) k0 (fun g w h => aK (jE 1 (Sk _ g w (sU kn) (fun g w h => aK (S4 _ g w kn hn h)) h))) h0 h)
theorem Sj (k0 : K0) (h0 : E0 Q k0 0) (h : wA k0 (g 0) (g 1) (g 17) (g 18) w) : bD pg kV (bI (aB 2 kI)) Q g w := by
 refine Dt (fun g : Env => g 18) (fun X t w => sR (fun _ _ _ c8 w => X c8 w) k0 (g 0) (g 1) (g 17) t w) h (fun X g1 w1 ha hL => ?_)
 rw [<- jX 0 ha, <- jX 1 ha, <- jX 17 ha] at hL
 exact (SP _ g1 w1 (fun _ _ _ c8 w => X c8 w) k0 (fun _ _ h => h) h0 hL)
def vK (kn : K0) (xF G2 c7 c8 : aNk) (w : aNj) : Prop :=
 wA kn xF G2 c7 c8 w
def vE (kn : K4) (R : K1) (xF G2 nM : aNk) (w : aNj) : Prop :=
 aD pg (aI .eql 186 (.tmp 7) (.const (.pointer none)) xF (.pointer none)) w fun b8 w =>
 Gd (iM b8 false) (fun K => K nM w) w fun c0 w =>
 Gd (iM b8 false) (fun K => aD pg (aI .lss 3 aM aM c0 (aNl 1)) w K) w fun c1 w =>
 aD pg (jR b8 (.bool true) c1) w fun c2 w =>
 Gd (iM c2 false) (fun K => K nM w) w fun c4 w =>
 Gd (iM c2 false) (fun K => aD pg (aI .gtr 3 aM aM c4 (aNl 56)) w K) w fun c5 w =>
 aD pg (jR c2 (.bool true) c5) w fun c6 w =>
 gX c6
  (R (.tuple #[]) w)
  (kn xF G2 nM (aNl 0) w)
theorem QZ (kn : K4) (R : K1) (hn : N4 Q kn 0 1 17 18) (hr : HR Bc R Q) (h : vE kn R (g 0) (g 1) (g 2) w) : bD pg kV (aF 2 kI) Q g w :=
 eP (l := []) h hn hr trivial
def vH (kn : K0) (R : K1) (xF G2 nM : aNk) (w : aNj) : Prop :=
 vE (fun xF G2 c7 c8 w => vK kn xF G2 c7 c8 w) R xF G2 nM w
theorem Rz (kn : K0) (R : K1) (hn : N0 Q kn) (hr : HR Bc R Q) (h : vH kn R (g 0) (g 1) (g 2) w) : bD pg kV kI Q g w :=
 jE 2 (QZ _ g w (vK kn) R (fun g w h => aK (wT 0 (Sj _ g w kn hn h))) hr h)
def FL (a0 a1 a2 : aNk) (w : aNj) (R : K1) : Prop :=
 vH (fun  w => R (.tuple #[]) w) R a0 a1 a2 w
theorem GC {a0 a1 a2 : aNk} {w : aNj} {R : K1} (h : FL a0 a1 a2 w R) : aS pg rI #[a0, a1, a2] w R := by
 refine uE (ann := kV) Tryz.f98 kI [a0, a1, a2] Bc 69 TryzM.mixed Tryz.func98 ?_
 exact (Rz _ _ _ (fun  w => R (.tuple #[]) w) R (fun _ _ h => h) (fun _ _ h => h) h)
def Fv : FA := ⟨vV, fun i => match Nat.beq i 3 with | true => .leaf ([4, 10], [(4, 6), (4, 7), (4, 8)]) [(false, []), (false, []), (false, []), (false, []), (true, []), (false, []), (false, [1]), (false, [2]), (false, [3]), (false, []), (true, []), (false, [])] | false => .leaf ([], []) []⟩
def Hf : List ResultVar := [.tmp 2]
noncomputable def Ef : Code := dE Tryz.f99
def Ay (R : K1) (xF : aNk) (w : aNj) : Prop :=
 aD pg (aI .eql 186 (.tmp 4) (.const (.pointer none)) xF (.pointer none)) w fun b5 w =>
 gX b5
  (R (.slice none 0 0) w)
  ((dr w) = (dr w) /\
  aD pg (vP xF) (dr w) fun b7 w_ => w_ = (dr w) /\
  aD pg (aJ 198 b7 0) (dr w) fun b8 w_ => w_ = (dr w) /\
  aD pg (aL 22 b8) (dr w) fun b9 w_ => w_ = (dr w) /\
  aS pg jQ #[b9] (dr w) fun c0 VN =>
  VN = VN /\
  aD pg (vP xF) VN fun c2 w_ => w_ = VN /\
  (jF pg (vP xF) c2 (dr w) /\ True) /\
  aD pg (aJ 198 c2 1) VN fun c3 w_ => w_ = VN /\
  (jF pg (aJ 198 c2 1) c3 (dr w) /\ True) /\
  aD pg (aL 3 c3) VN fun c4 w_ => w_ = VN /\
  (jF pg (aL 3 c3) c4 (dr w) /\ True) /\
  aD pg (fV 198 [(0, c0), (1, c4)]) VN fun c5 w_ => w_ = VN /\
  aD pg (BG 198 c5) VN fun c6 aGD =>
  aGD = aGD /\
  aS pg rI #[c6, (.int .u64 1), (aNl 1)] aGD fun c8 w =>
  aD pg (vP c6) w fun d0 w =>
  aD pg (aJ 198 d0 0) w fun d1 w =>
  aD pg (aL 22 d1) w fun d2 w =>
  R d2 w)
theorem Q6 (R : K1) (hr : HR Hf R Q) (h : Ay R (g 0) w) : bD pg Fv Ef Q g w :=
 eP (kn := no) (l := []) h gS hr trivial
def Nr (a0 : aNk) (w : aNj) (R : K1) : Prop :=
 Ay R a0 w
theorem SY {a0 : aNk} {w : aNj} {R : K1} (h : Nr a0 w R) : aS pg vV #[a0] w R := by
 refine uE (ann := Fv) Tryz.f99 Ef [a0] Hf 23 TryzM.mixed Tryz.func99 ?_
 exact (Q6 _ _ _ R (fun _ _ h => h) h)
def uB : FA := ⟨Jo, fun i => .leaf ([], []) []⟩
def Tr : List ResultVar := [.tmp 6]
noncomputable def sT : Code := dE Tryz.f100
def Mh (R : K1) (tL : aNk) (w : aNj) : Prop :=
 R tL w
theorem atY (R : K1) (hr : HR Tr R Q) (h : Mh R (g 7) w) : bD pg uB (aB 1 (aB 2 sT)) Q g w :=
 eP (kn := no) (l := []) h gS hr trivial
def Md (kn : K5) (k0 : K1) (fO Mo tL c0 c1 : aNk) (w : aNj) : Prop :=
 aD pg (aI .lss 3 aM aM c1 c0) w fun c2 w =>
 gX c2
  (aD pg (aI .add 3 aM aM Mo c1) w fun c6 w =>
  aD pg (aI .quo 3 aM aM c6 (aNl 8)) w fun d0 w =>
  aD pg (cI 22 fO d0) w fun d1 w =>
  aD pg (aL 5 d1) w fun d2 w =>
  aD pg (aI .rem 3 aM aM c6 (aNl 8)) w fun d4 w =>
  aD pg (aI .shr 5 aM aM d2 d4) w fun d5 w =>
  aD pg (aI .and 5 aM aM d5 (.int .u8 1)) w fun d6 w =>
  aD pg (jO 5 24 d6) w fun d7 w =>
  aD pg (jO 3 67 c1) w fun d9 w =>
  aD pg (aI .shl 24 aM aM d7 d9) w fun e0 w =>
  aD pg (aI .or 24 aM aM tL e0) w fun e1 w =>
  aD pg (aI .add 3 aM aM c1 (aNl 1)) w fun e2 w =>
  kn fO Mo e1 c0 e2 w)
  (k0 tL w)
theorem atU (kn : K5) (k0 : K1) (hn : N5 Q kn 0 1 7 10 11) (h0 : E1 Q k0 0 7) (h : Md kn k0 (g 0) (g 1) (g 7) (g 10) (g 11) w) : bD pg uB (bI (bI (aB 1 (aF 1 (aB 2 sT))))) Q g w :=
 eP (kr := no) (l := [(0, fun g w => k0 (g 7) w)]) h hn gS ⟨h0, trivial⟩
def TF (k0 : K1) (fO Mo tL c0 c1 : aNk) (w : aNj) : Prop :=
 cU (fun (X : (aNk × aNk) -> K0) (t : aNk × aNk) (w : aNj) => Md (fun _ _ tL _ c1 w => X (tL, c1) w) k0 fO Mo t.1 c0 t.2 w) (tL, c1) w
theorem asH (k0 : K1) (h0 : E1 Q k0 0 7) (h : TF k0 (g 0) (g 1) (g 7) (g 10) (g 11) w) : bD pg uB (bI (aB 1 (aF 1 (aB 2 sT)))) Q g w := by
 refine Dt (fun g : Env => (g 7, g 11)) (fun X t w => Md (fun _ _ tL _ c1 w => X (tL, c1) w) k0 (g 0) (g 1) t.1 (g 10) t.2 w) h (fun X g1 w1 ha hL => ?_)
 rw [<- jX 0 ha, <- jX 1 ha, <- jX 10 ha] at hL
 exact (atU _ g1 w1 (fun _ _ tL _ c1 w => X (tL, c1) w) k0 (fun _ _ h => h) h0 hL)
def Tz (kn : K1) (fO Mo tL c0 c1 : aNk) (w : aNj) : Prop :=
 TF kn fO Mo tL c0 c1 w
def Td (kn : K5) (fO Mo nM tL : aNk) (w : aNj) : Prop :=
 kn fO Mo tL nM (aNl 0) w
theorem asE (kn : K5) (hn : N5 Q kn 0 1 7 10 11) (h : Td kn (g 0) (g 1) (g 2) (g 7) w) : bD pg uB (aF 1 (aF 1 (aB 2 sT))) Q g w :=
 eP (kr := no) (l := []) h hn gS trivial
def Ts (kn : K1) (fO Mo nM tL : aNk) (w : aNj) : Prop :=
 Td (fun fO Mo tL c0 c1 w => Tz kn fO Mo tL c0 c1 w) fO Mo nM tL w
def S8 (R : K1) (fO Mo nM tL : aNk) (w : aNj) : Prop :=
 Ts (fun tL w => Mh R tL w) fO Mo nM tL w
theorem asW (kn : K1) (hn : N1 Q kn 7) (h : Ts kn (g 0) (g 1) (g 2) (g 7) w) : bD pg uB (aF 1 (aB 2 sT)) Q g w :=
 jE 1 (asE _ g w (Tz kn) (fun g w h => aK (wT 0 (asH _ g w kn hn h))) h)
def TI (kn : K4) (fO Mo nM : aNk) (w : aNj) : Prop :=
 kn fO Mo nM (.int .u64 0) w
theorem asG (kn : K4) (hn : N4 Q kn 0 1 2 7) (h : TI kn (g 0) (g 1) (g 2) w) : bD pg uB (aF 2 sT) Q g w :=
 eP (kr := no) (l := []) h hn gS trivial
def TJ (R : K1) (fO Mo nM : aNk) (w : aNj) : Prop :=
 TI (fun fO Mo nM tL w => S8 R fO Mo nM tL w) fO Mo nM w
theorem atN (R : K1) (hr : HR Tr R Q) (h : TJ R (g 0) (g 1) (g 2) w) : bD pg uB sT Q g w :=
 jE 2 (asG _ g w (S8 R) (fun g w h => aK (jE 1 (asW _ g w (Mh R) (fun g w h => aK (atY _ g w R hr h)) h))) h)
def aAR (a0 a1 a2 : aNk) (w : aNj) (R : K1) : Prop :=
 TJ R a0 a1 a2 w
theorem axD {a0 a1 a2 : aNk} {w : aNj} {R : K1} (h : aAR a0 a1 a2 w R) : aS pg Jo #[a0, a1, a2] w R := by
 refine uE (ann := uB) Tryz.f100 sT [a0, a1, a2] Tr 34 TryzM.mixed Tryz.func100 ?_
 exact (atN _ _ _ R (fun _ _ h => h) h)
def sN : FA := ⟨Ma, fun i => .leaf ([], []) []⟩
def wZ : List ResultVar := [.tmp 2]
noncomputable def rN : Code := dE Tryz.f101
def ID (R : K1) (pL : aNk) (w : aNj) : Prop :=
 aD pg (aI .eql 3 (.tmp 60) (.const (aNl 0)) pL (aNl 0)) w fun j1 w =>
 R j1 w
theorem apZ (R : K1) (hr : HR wZ R Q) (h : ID R (g 3) w) : bD pg sN (aB 1 (aB 3 rN)) Q g w :=
 eP (kn := no) (l := []) h gS hr trivial
def Ag (kn : K4) (k0 : K1) (R : K1) (pL f1 f2 f3 : aNk) (w : aNj) : Prop :=
 aD pg (aI .lss 3 aM aM f3 f2) w fun f4 w =>
 gX f4
  (aD pg (cI 42 f1 f3) w fun f5 w =>
  aD pg (aL 3 f5) w fun f6 w =>
  aD pg (aI .lss 3 aM aM f6 (aNl (-1))) w fun f8 w =>
  Gd (iM f8 false) (fun K => K f6 w) w fun i0 w =>
  Gd (iM f8 false) (fun K => aS pg xP #[i0] w K) w fun i1 w =>
  Gd (iM f8 false) (fun K => K pL w) w fun i2 w =>
  Gd (iM f8 false) (fun K => aD pg (aI .gtr 3 aM aM i1 i2) w K) w fun i3 w =>
  aD pg (jR f8 (.bool true) i3) w fun i4 w =>
  gX i4
   (R (.bool false) w)
   (aS pg xP #[f6] w fun i7 w =>
   aD pg (aI .sub 3 aM aM pL i7) w fun i8 w =>
   aD pg (aI .add 3 aM aM f3 (aNl 1)) w fun i9 w =>
   kn i8 f1 f2 i9 w))
  (k0 pL w)
theorem apP (kn : K4) (k0 : K1) (R : K1) (hn : N4 Q kn 3 41 42 43) (h0 : E1 Q k0 0 3) (hr : HR wZ R Q) (h : Ag kn k0 R (g 3) (g 41) (g 42) (g 43) w) : bD pg sN (bI (bI (aB 1 (aF 1 (aB 3 rN))))) Q g w :=
 eP (l := [(0, fun g w => k0 (g 3) w)]) h hn hr ⟨h0, trivial⟩
def QN (k0 : K1) (R : K1) (pL f1 f2 f3 : aNk) (w : aNj) : Prop :=
 cU (fun (X : (aNk × aNk) -> K0) (t : aNk × aNk) (w : aNj) => Ag (fun pL _ _ f3 w => X (pL, f3) w) k0 R t.1 f1 f2 t.2 w) (pL, f3) w
theorem apO (k0 : K1) (R : K1) (h0 : E1 Q k0 0 3) (hr : HR wZ R Q) (h : QN k0 R (g 3) (g 41) (g 42) (g 43) w) : bD pg sN (bI (aB 1 (aF 1 (aB 3 rN)))) Q g w := by
 refine Dt (fun g : Env => (g 3, g 43)) (fun X t w => Ag (fun pL _ _ f3 w => X (pL, f3) w) k0 R t.1 (g 41) (g 42) t.2 w) h (fun X g1 w1 ha hL => ?_)
 rw [<- jX 41 ha, <- jX 42 ha] at hL
 exact (apP _ g1 w1 (fun pL _ _ f3 w => X (pL, f3) w) k0 R (fun _ _ h => h) h0 hr hL)
def Rf (kn : K1) (R : K1) (pL f1 f2 f3 : aNk) (w : aNj) : Prop :=
 QN kn R pL f1 f2 f3 w
def Rd (kn : K4) (cB pL : aNk) (w : aNj) : Prop :=
 aD pg (aJ 100 cB 1) w fun f0 w =>
 aD pg (aL 42 f0) w fun f1 w =>
 aD pg (lO .len #[42] 3 [f1]) w fun f2 w =>
 kn pL f1 f2 (aNl 0) w
theorem anM (kn : K4) (hn : N4 Q kn 3 41 42 43) (h : Rd kn (g 1) (g 3) w) : bD pg sN (aF 1 (aF 1 (aB 3 rN))) Q g w :=
 eP (kr := no) (l := []) h hn gS trivial
def Re (kn : K1) (R : K1) (cB pL : aNk) (w : aNj) : Prop :=
 Rd (fun pL f1 f2 f3 w => Rf kn R pL f1 f2 f3 w) cB pL w
def Qr (R : K1) (cB pL : aNk) (w : aNj) : Prop :=
 Re (fun pL w => ID R pL w) R cB pL w
theorem amX (kn : K1) (R : K1) (hn : N1 Q kn 3) (hr : HR wZ R Q) (h : Re kn R (g 1) (g 3) w) : bD pg sN (aF 1 (aB 3 rN)) Q g w :=
 jE 1 (anM _ g w (Rf kn R) (fun g w h => aK (wT 0 (apO _ g w kn R hn hr h))) h)
def RG (kn : K2) (R : K1) (LP : aNk) (w : aNj) : Prop :=
 aD pg (BG 100 LP) w fun cB w =>
 aD pg (aJ 100 cB 0) w fun b6 w =>
 aD pg (aL 3 b6) w fun b7 w =>
 aD pg (aI .lss 3 aM aM b7 (aNl 5)) w fun b8 w =>
 Gd (iM b8 false) (fun K => aD pg (aJ 100 cB 0) w K) w fun c0 w =>
 Gd (iM b8 false) (fun K => aD pg (aL 3 c0) w K) w fun c1 w =>
 Gd (iM b8 false) (fun K => aD pg (aI .gtr 3 aM aM c1 (aNl 15)) w K) w fun c2 w =>
 aD pg (jR b8 (.bool true) c2) w fun c3 w =>
 Gd (iM c3 false) (fun K => aD pg (aJ 100 cB 1) w K) w fun c5 w =>
 Gd (iM c3 false) (fun K => aD pg (aL 42 c5) w K) w fun c6 w =>
 Gd (iM c3 false) (fun K => aD pg (lO .len #[42] 3 [c6]) w K) w fun c7 w =>
 Gd (iM c3 false) (fun K => aD pg (aI .lss 3 aM aM c7 (aNl 1)) w K) w fun c8 w =>
 aD pg (jR c3 (.bool true) c8) w fun c9 w =>
 Gd (iM c9 false) (fun K => aD pg (aJ 100 cB 1) w K) w fun d1 w =>
 Gd (iM c9 false) (fun K => aD pg (aL 42 d1) w K) w fun d2 w =>
 Gd (iM c9 false) (fun K => aD pg (lO .len #[42] 3 [d2]) w K) w fun d3 w =>
 Gd (iM c9 false) (fun K => aD pg (aI .gtr 3 aM aM d3 (aNl 256)) w K) w fun d4 w =>
 aD pg (jR c9 (.bool true) d4) w fun d5 w =>
 Gd (iM d5 false) (fun K => aD pg (aJ 100 cB 1) w K) w fun d7 w =>
 Gd (iM d5 false) (fun K => aD pg (aL 42 d7) w K) w fun d8 w =>
 Gd (iM d5 false) (fun K => aD pg (aJ 100 cB 1) w K) w fun d9 w =>
 Gd (iM d5 false) (fun K => aD pg (aL 42 d9) w K) w fun e0 w =>
 Gd (iM d5 false) (fun K => aD pg (lO .len #[42] 3 [e0]) w K) w fun e1 w =>
 Gd (iM d5 false) (fun K => aD pg (aI .sub 3 aM aM e1 (aNl 1)) w K) w fun e2 w =>
 Gd (iM d5 false) (fun K => aD pg (cI 42 d8 e2) w K) w fun e3 w =>
 Gd (iM d5 false) (fun K => aD pg (aL 3 e3) w K) w fun e4 w =>
 Gd (iM d5 false) (fun K => aD pg (aI .eql 3 (.tmp 34) (.const (aNl 0)) e4 (aNl 0)) w K) w fun e5 w =>
 aD pg (jR d5 (.bool true) e5) w fun e6 w =>
 gX e6
  (R (.bool false) w)
  (aD pg (aJ 100 cB 0) w fun e7 w =>
  aD pg (aL 3 e7) w fun e8 w =>
  aD pg (aI .shl 3 aM aM (aNl 1) e8) w fun e9 w =>
  kn cB e9 w)
theorem anE (kn : K2) (R : K1) (hn : N2 Q kn 1 3) (hr : HR wZ R Q) (h : RG kn R (g 0) w) : bD pg sN (aF 3 rN) Q g w :=
 eP (l := []) h hn hr trivial
def QI (R : K1) (LP : aNk) (w : aNj) : Prop :=
 RG (fun cB pL w => Qr R cB pL w) R LP w
theorem aoT (R : K1) (hr : HR wZ R Q) (h : QI R (g 0) w) : bD pg sN rN Q g w :=
 jE 3 (anE _ g w (Qr R) R (fun g w h => aK (jE 1 (amX _ g w (ID R) R (fun g w h => aK (apZ _ g w R hr h)) hr h))) hr h)
def avO (a0 : aNk) (w : aNj) (R : K1) : Prop :=
 QI R a0 w
theorem atC {a0 : aNk} {w : aNj} {R : K1} (h : avO a0 w R) : aS pg Ma #[a0] w R := by
 refine uE (ann := sN) Tryz.f101 rN [a0] wZ 62 TryzM.mixed Tryz.func101 ?_
 exact (aoT _ _ _ R (fun _ _ h => h) h)
def nZ : FA := ⟨Bt, fun i => .leaf ([], []) []⟩
def Ld : List ResultVar := [.tmp 2]
noncomputable def nD : Code := dE Tryz.f102
def C9 (R : K1) (A3 : aNk) (w : aNj) : Prop :=
 R A3 w
theorem adS (R : K1) (hr : HR Ld R Q) (h : C9 R (g 3) w) : bD pg nZ (aB 1 (aB 2 nD)) Q g w :=
 eP (kn := no) (l := []) h gS hr trivial
def zZ (kn : K3) (cR A3 lC : aNk) (w : aNj) : Prop :=
 aD pg (aI .sub 3 aM aM lC (aNl 1)) w fun c1 w =>
 kn cR A3 c1 w
theorem acL (kn : K3) (hn : N3 Q kn 0 3 4) (h : zZ kn (g 0) (g 3) (g 4) w) : bD pg nZ (aB 2 (bI (bI (aB 1 (aF 1 (aB 2 nD)))))) Q g w :=
 eP (kr := no) (l := []) h hn gS trivial
def Kw (kn : K3) (k0 : K1) (cR A3 lC : aNk) (w : aNj) : Prop :=
 aD pg (aI .geq 3 aM aM lC (aNl 0)) w fun b9 w =>
 gX b9
  (aD pg (aI .mul 24 aM aM A3 (.int .u64 2)) w fun c3 w =>
  aD pg (cI 131 cR lC) w fun c6 w =>
  aD pg (aL 4 c6) w fun c7 w =>
  gX c7
   (aD pg (aI .add 24 aM aM c3 (.int .u64 1)) w fun c9 w =>
   kn cR c9 lC w)
   (kn cR c3 lC w))
  (k0 A3 w)
theorem Z0 (kn : K3) (k0 : K1) (hn : N3 Q kn 0 3 4) (h0 : E1 Q k0 0 3) (h : Kw kn k0 (g 0) (g 3) (g 4) w) : bD pg nZ (aF 2 (bI (bI (aB 1 (aF 1 (aB 2 nD)))))) Q g w :=
 eP (kr := no) (l := [(0, fun g w => k0 (g 3) w)]) h hn gS ⟨h0, trivial⟩
def Di (kn : K3) (k0 : K1) (cR A3 lC : aNk) (w : aNj) : Prop :=
 Kw (fun cR A3 lC w => zZ kn cR A3 lC w) k0 cR A3 lC w
def Jx (k0 : K1) (cR A3 lC : aNk) (w : aNj) : Prop :=
 cU (fun (X : (aNk × aNk) -> K0) (t : aNk × aNk) (w : aNj) => Di (fun _ A3 lC w => X (A3, lC) w) k0 cR t.1 t.2 w) (A3, lC) w
theorem adQ (kn : K3) (k0 : K1) (hn : N3 Q kn 0 3 4) (h0 : E1 Q k0 0 3) (h : Di kn k0 (g 0) (g 3) (g 4) w) : bD pg nZ (bI (bI (aB 1 (aF 1 (aB 2 nD))))) Q g w :=
 jE 2 (Z0 _ g w (zZ kn) k0 (fun g w h => aK (acL _ g w kn hn h)) h0 h)
theorem acU (k0 : K1) (h0 : E1 Q k0 0 3) (h : Jx k0 (g 0) (g 3) (g 4) w) : bD pg nZ (bI (aB 1 (aF 1 (aB 2 nD)))) Q g w := by
 refine Dt (fun g : Env => (g 3, g 4)) (fun X t w => Di (fun _ A3 lC w => X (A3, lC) w) k0 (g 0) t.1 t.2 w) h (fun X g1 w1 ha hL => ?_)
 rw [<- jX 0 ha] at hL
 exact (adQ _ g1 w1 (fun _ A3 lC w => X (A3, lC) w) k0 (fun _ _ h => h) h0 hL)
def KG (kn : K1) (cR A3 lC : aNk) (w : aNj) : Prop :=
 Jx kn cR A3 lC w
def LA (kn : K3) (cR A3 : aNk) (w : aNj) : Prop :=
 aD pg (lO .len #[131] 3 [cR]) w fun b6 w =>
 aD pg (aI .sub 3 aM aM b6 (aNl 1)) w fun b7 w =>
 kn cR A3 b7 w
theorem ZA (kn : K3) (hn : N3 Q kn 0 3 4) (h : LA kn (g 0) (g 3) w) : bD pg nZ (aF 1 (aF 1 (aB 2 nD))) Q g w :=
 eP (kr := no) (l := []) h hn gS trivial
def Jy (kn : K1) (cR A3 : aNk) (w : aNj) : Prop :=
 LA (fun cR A3 lC w => KG kn cR A3 lC w) cR A3 w
def Lz (R : K1) (cR A3 : aNk) (w : aNj) : Prop :=
 Jy (fun A3 w => C9 R A3 w) cR A3 w
theorem ZR (kn : K1) (hn : N1 Q kn 3) (h : Jy kn (g 0) (g 3) w) : bD pg nZ (aF 1 (aB 2 nD)) Q g w :=
 jE 1 (ZA _ g w (KG kn) (fun g w h => aK (wT 0 (acU _ g w kn hn h))) h)
def Hi (kn : K2) (cR : aNk) (w : aNj) : Prop :=
 kn cR (.int .u64 0) w
theorem XT (kn : K2) (hn : N2 Q kn 0 3) (h : Hi kn (g 0) w) : bD pg nZ (aF 2 nD) Q g w :=
 eP (kr := no) (l := []) h hn gS trivial
def HE (R : K1) (cR : aNk) (w : aNj) : Prop :=
 Hi (fun cR A3 w => Lz R cR A3 w) cR w
theorem Yh (R : K1) (hr : HR Ld R Q) (h : HE R (g 0) w) : bD pg nZ nD Q g w :=
 jE 2 (XT _ g w (Lz R) (fun g w h => aK (jE 1 (ZR _ g w (C9 R) (fun g w h => aK (adS _ g w R hr h)) h))) h)
def afB (a0 : aNk) (w : aNj) (R : K1) : Prop :=
 HE R a0 w
theorem aiP {a0 : aNk} {w : aNj} {R : K1} (h : afB a0 w R) : aS pg Bt #[a0] w R := by
 refine uE (ann := nZ) Tryz.f102 nD [a0] Ld 21 TryzM.mixed Tryz.func102 ?_
 exact (Yh _ _ _ R (fun _ _ h => h) h)
def tG : FA := ⟨IG, fun i => .leaf ([], []) []⟩
def Pv : List ResultVar := [.tmp 2]
noncomputable def sI : Code := dE Tryz.f103
def Fz (R : K1) (nP : aNk) (w : aNj) : Prop :=
 R nP w
theorem aiB (R : K1) (hr : HR Pv R Q) (h : Fz R (g 3) w) : bD pg tG (aB 1 (aB 2 sI)) Q g w :=
 eP (kn := no) (l := []) h gS hr trivial
def ED (kn : K2) (k0 : K1) (oH nP : aNk) (w : aNj) : Prop :=
 aD pg (aI .gtr 3 aM aM oH (aNl 0)) w fun b5 w =>
 gX b5
  (aD pg (aI .quo 3 aM aM oH (aNl 2)) w fun b7 w =>
  aD pg (aI .add 3 aM aM nP (aNl 1)) w fun b9 w =>
  kn b7 b9 w)
  (k0 nP w)
theorem akT (kn : K2) (k0 : K1) (hn : N2 Q kn 0 3) (h0 : E1 Q k0 0 3) (h : ED kn k0 (g 0) (g 3) w) : bD pg tG (bI (bI (aF 1 (aB 2 sI)))) Q g w :=
 eP (kr := no) (l := [(0, fun g w => k0 (g 3) w)]) h hn gS ⟨h0, trivial⟩
def Nc (k0 : K1) (oH nP : aNk) (w : aNj) : Prop :=
 cU (fun (X : (aNk × aNk) -> K0) (t : aNk × aNk) (w : aNj) => ED (fun oH nP w => X (oH, nP) w) k0 t.1 t.2 w) (oH, nP) w
theorem aiJ (k0 : K1) (h0 : E1 Q k0 0 3) (h : Nc k0 (g 0) (g 3) w) : bD pg tG (bI (aF 1 (aB 2 sI))) Q g w := by
 refine Dt (fun g : Env => (g 0, g 3)) (fun X t w => ED (fun oH nP w => X (oH, nP) w) k0 t.1 t.2 w) h (fun X g1 w1 ha hL => ?_)
 exact (akT _ g1 w1 (fun oH nP w => X (oH, nP) w) k0 (fun _ _ h => h) h0 hL)
def O5 (kn : K1) (oH nP : aNk) (w : aNj) : Prop :=
 Nc kn oH nP w
def NL (R : K1) (oH nP : aNk) (w : aNj) : Prop :=
 O5 (fun nP w => Fz R nP w) oH nP w
theorem aiQ (kn : K1) (hn : N1 Q kn 3) (h : O5 kn (g 0) (g 3) w) : bD pg tG (aF 1 (aB 2 sI)) Q g w :=
 wT 0 (aiJ _ g w kn hn h)
def MS (kn : K2) (oH : aNk) (w : aNj) : Prop :=
 kn oH (aNl 0) w
theorem afG (kn : K2) (hn : N2 Q kn 0 3) (h : MS kn (g 0) w) : bD pg tG (aF 2 sI) Q g w :=
 eP (kr := no) (l := []) h hn gS trivial
def Pa (R : K1) (oH : aNk) (w : aNj) : Prop :=
 MS (fun oH nP w => NL R oH nP w) oH w
theorem ahG (R : K1) (hr : HR Pv R Q) (h : Pa R (g 0) w) : bD pg tG sI Q g w :=
 jE 2 (afG _ g w (NL R) (fun g w h => aK (jE 1 (aiQ _ g w (Fz R) (fun g w h => aK (aiB _ g w R hr h)) h))) h)
def aqZ (a0 : aNk) (w : aNj) (R : K1) : Prop :=
 Pa R a0 w
theorem alX {a0 : aNk} {w : aNj} {R : K1} (h : aqZ a0 w R) : aS pg IG #[a0] w R := by
 refine uE (ann := tG) Tryz.f103 sI [a0] Pv 11 TryzM.mixed Tryz.func103 ?_
 exact (ahG _ _ _ R (fun _ _ h => h) h)
def nW : FA := ⟨P3, fun i => .leaf ([], []) []⟩
def tU : List ResultVar := [.tmp 2]
noncomputable def mS : Code := dE Tryz.f104
def LZ (R : K1) (cB gG : aNk) (w : aNj) : Prop :=
 aD pg (aJ 128 cB 0) w fun j1 w =>
 aD pg (aL 3 j1) w fun j2 w =>
 aS pg nU #[j2] w fun j3 w =>
 aD pg (aI .eql 3 (.tmp 60) (.tmp 63) gG j3) w fun j4 w =>
 R j4 w
theorem atQ (R : K1) (hr : HR tU R Q) (h : LZ R (g 1) (g 3) w) : bD pg nW (aB 1 (aB 3 mS)) Q g w :=
 eP (kn := no) (l := []) h gS hr trivial
def Gj (kn : K3) (cB gG lC : aNk) (w : aNj) : Prop :=
 aD pg (aI .add 3 aM aM lC (aNl 1)) w fun f3 w =>
 kn cB gG f3 w
theorem asC (kn : K3) (hn : N3 Q kn 1 3 4) (h : Gj kn (g 1) (g 3) (g 4) w) : bD pg nW (aB 1 (aB 1 (bI (bI (aB 1 (aF 1 (aB 3 mS))))))) Q g w :=
 eP (kr := no) (l := []) h hn gS trivial
def Fj (kn : K3) (cB gG lC p_5 : aNk) (w : aNj) : Prop :=
 aD pg (aI .add 3 aM aM gG p_5) w fun i9 w =>
 kn cB i9 lC w
theorem asF (kn : K3) (hn : N3 Q kn 1 3 4) (h : Fj kn (g 1) (g 3) (g 4) (g 5) w) : bD pg nW (aB 3 (bI (aF 1 (aB 1 (bI (bI (aB 1 (aF 1 (aB 3 mS))))))))) Q g w :=
 eP (kr := no) (l := []) h hn gS trivial
def GF (kn : K4) (R : K1) (cB gG lC : aNk) (w : aNj) : Prop :=
 aD pg (aJ 128 cB 1) w fun f4 w =>
 aD pg (aL 42 f4) w fun f5 w =>
 aD pg (cI 42 f5 lC) w fun f7 w =>
 aD pg (aL 3 f7) w fun f8 w =>
 aD pg (aI .lss 3 aM aM f8 (aNl (-1))) w fun i0 w =>
 Gd (iM i0 false) (fun K => K f8 w) w fun i2 w =>
 Gd (iM i0 false) (fun K => aD pg (aI .gtr 3 aM aM i2 (aNl 32768)) w K) w fun i3 w =>
 aD pg (jR i0 (.bool true) i3) w fun i4 w =>
 gX i4
  (R (.bool false) w)
  (aD pg (aI .lss 3 aM aM f8 (aNl 0)) w fun i6 w =>
  gX i6
   (kn cB gG lC (aNl 1) w)
   (kn cB gG lC f8 w))
theorem asI (kn : K4) (R : K1) (hn : N4 Q kn 1 3 4 5) (hr : HR tU R Q) (h : GF kn R (g 1) (g 3) (g 4) w) : bD pg nW (aF 3 (bI (aF 1 (aB 1 (bI (bI (aB 1 (aF 1 (aB 3 mS))))))))) Q g w :=
 eP (l := []) h hn hr trivial
def Me (kn : K3) (R : K1) (cB gG lC : aNk) (w : aNj) : Prop :=
 GF (fun cB gG lC p_5 w => Fj kn cB gG lC p_5 w) R cB gG lC w
def Fc (kn : K3) (R : K1) (cB gG lC : aNk) (w : aNj) : Prop :=
 Me kn R cB gG lC w
def Fx (kn : K3) (R : K1) (cB gG lC : aNk) (w : aNj) : Prop :=
 Fc (fun cB gG lC w => Gj kn cB gG lC w) R cB gG lC w
theorem atK (kn : K3) (R : K1) (hn : N3 Q kn 1 3 4) (hr : HR tU R Q) (h : Fc kn R (g 1) (g 3) (g 4) w) : bD pg nW (aF 1 (aB 1 (bI (bI (aB 1 (aF 1 (aB 3 mS))))))) Q g w :=
 wT 1 (jE 3 (asI _ g w (Fj kn) R (fun g w h => aK (asF _ g w kn hn h)) hr h))
def B2 (kn : K3) (k0 : K2) (cB gG lC : aNk) (w : aNj) : Prop :=
 aD pg (aJ 128 cB 1) w fun e8 w =>
 aD pg (aL 42 e8) w fun e9 w =>
 aD pg (lO .len #[42] 3 [e9]) w fun f0 w =>
 aD pg (aI .lss 3 aM aM lC f0) w fun f1 w =>
 gX f1
  (kn cB gG lC w)
  (k0 cB gG w)
theorem asT (kn : K3) (k0 : K2) (hn : N3 Q kn 1 3 4) (h0 : E2 Q k0 0 1 3) (h : B2 kn k0 (g 1) (g 3) (g 4) w) : bD pg nW (aF 1 (bI (bI (aB 1 (aF 1 (aB 3 mS)))))) Q g w :=
 eP (kr := no) (l := [(0, fun g w => k0 (g 1) (g 3) w)]) h hn gS ⟨h0, trivial⟩
def yU (kn : K3) (k0 : K2) (R : K1) (cB gG lC : aNk) (w : aNj) : Prop :=
 B2 (fun cB gG lC w => Fx kn R cB gG lC w) k0 cB gG lC w
def Qx (k0 : K2) (R : K1) (cB gG lC : aNk) (w : aNj) : Prop :=
 cU (fun (X : (aNk × aNk) -> K0) (t : aNk × aNk) (w : aNj) => yU (fun _ gG lC w => X (gG, lC) w) k0 R cB t.1 t.2 w) (gG, lC) w
theorem atT (kn : K3) (k0 : K2) (R : K1) (hn : N3 Q kn 1 3 4) (h0 : E2 Q k0 0 1 3) (hr : HR tU R Q) (h : yU kn k0 R (g 1) (g 3) (g 4) w) : bD pg nW (bI (bI (aB 1 (aF 1 (aB 3 mS))))) Q g w :=
 jE 1 (asT _ g w (Fx kn R) k0 (fun g w h => aK (jE 1 (atK _ g w (Gj kn) R (fun g w h => aK (asC _ g w kn hn h)) hr h))) h0 h)
theorem aoF (k0 : K2) (R : K1) (h0 : E2 Q k0 0 1 3) (hr : HR tU R Q) (h : Qx k0 R (g 1) (g 3) (g 4) w) : bD pg nW (bI (aB 1 (aF 1 (aB 3 mS)))) Q g w := by
 refine Dt (fun g : Env => (g 3, g 4)) (fun X t w => yU (fun _ gG lC w => X (gG, lC) w) k0 R (g 1) t.1 t.2 w) h (fun X g1 w1 ha hL => ?_)
 rw [<- jX 1 ha] at hL
 exact (atT _ g1 w1 (fun _ gG lC w => X (gG, lC) w) k0 R (fun _ _ h => h) h0 hr hL)
def Rg (kn : K2) (R : K1) (cB gG lC : aNk) (w : aNj) : Prop :=
 Qx kn R cB gG lC w
def QQ (kn : K3) (cB gG : aNk) (w : aNj) : Prop :=
 kn cB gG (aNl 0) w
theorem apG (kn : K3) (hn : N3 Q kn 1 3 4) (h : QQ kn (g 1) (g 3) w) : bD pg nW (aF 1 (aF 1 (aB 3 mS))) Q g w :=
 eP (kr := no) (l := []) h hn gS trivial
def QH (kn : K2) (R : K1) (cB gG : aNk) (w : aNj) : Prop :=
 QQ (fun cB gG lC w => Rg kn R cB gG lC w) cB gG w
def RO (R : K1) (cB gG : aNk) (w : aNj) : Prop :=
 QH (fun cB gG w => LZ R cB gG w) R cB gG w
theorem anW (kn : K2) (R : K1) (hn : N2 Q kn 1 3) (hr : HR tU R Q) (h : QH kn R (g 1) (g 3) w) : bD pg nW (aF 1 (aB 3 mS)) Q g w :=
 jE 1 (apG _ g w (Rg kn R) (fun g w h => aK (wT 0 (aoF _ g w kn R hn hr h))) h)
def Qp (kn : K2) (R : K1) (LP : aNk) (w : aNj) : Prop :=
 aD pg (BG 128 LP) w fun cB w =>
 aD pg (aJ 128 cB 0) w fun b6 w =>
 aD pg (aL 3 b6) w fun b7 w =>
 aD pg (aI .lss 3 aM aM b7 (aNl 5)) w fun b8 w =>
 Gd (iM b8 false) (fun K => aD pg (aJ 128 cB 0) w K) w fun c0 w =>
 Gd (iM b8 false) (fun K => aD pg (aL 3 c0) w K) w fun c1 w =>
 Gd (iM b8 false) (fun K => aD pg (aI .gtr 3 aM aM c1 (aNl 15)) w K) w fun c2 w =>
 aD pg (jR b8 (.bool true) c2) w fun c3 w =>
 Gd (iM c3 false) (fun K => aD pg (aJ 128 cB 1) w K) w fun c5 w =>
 Gd (iM c3 false) (fun K => aD pg (aL 42 c5) w K) w fun c6 w =>
 Gd (iM c3 false) (fun K => aD pg (lO .len #[42] 3 [c6]) w K) w fun c7 w =>
 Gd (iM c3 false) (fun K => aD pg (aI .eql 3 (.tmp 17) (.const (aNl 0)) c7 (aNl 0)) w K) w fun c8 w =>
 aD pg (jR c3 (.bool true) c8) w fun c9 w =>
 Gd (iM c9 false) (fun K => aD pg (aJ 128 cB 1) w K) w fun d1 w =>
 Gd (iM c9 false) (fun K => aD pg (aL 42 d1) w K) w fun d2 w =>
 Gd (iM c9 false) (fun K => aD pg (lO .len #[42] 3 [d2]) w K) w fun d3 w =>
 Gd (iM c9 false) (fun K => aD pg (aI .gtr 3 aM aM d3 (aNl 256)) w K) w fun d4 w =>
 aD pg (jR c9 (.bool true) d4) w fun d5 w =>
 Gd (iM d5 false) (fun K => aD pg (aJ 128 cB 1) w K) w fun d7 w =>
 Gd (iM d5 false) (fun K => aD pg (aL 42 d7) w K) w fun d8 w =>
 Gd (iM d5 false) (fun K => aD pg (aJ 128 cB 1) w K) w fun d9 w =>
 Gd (iM d5 false) (fun K => aD pg (aL 42 d9) w K) w fun e0 w =>
 Gd (iM d5 false) (fun K => aD pg (lO .len #[42] 3 [e0]) w K) w fun e1 w =>
 Gd (iM d5 false) (fun K => aD pg (aI .sub 3 aM aM e1 (aNl 1)) w K) w fun e2 w =>
 Gd (iM d5 false) (fun K => aD pg (cI 42 d8 e2) w K) w fun e3 w =>
 Gd (iM d5 false) (fun K => aD pg (aL 3 e3) w K) w fun e4 w =>
 Gd (iM d5 false) (fun K => aD pg (aI .eql 3 (.tmp 34) (.const (aNl 0)) e4 (aNl 0)) w K) w fun e5 w =>
 aD pg (jR d5 (.bool true) e5) w fun e6 w =>
 gX e6
  (R (.bool false) w)
  (kn cB (aNl 0) w)
theorem aoS (kn : K2) (R : K1) (hn : N2 Q kn 1 3) (hr : HR tU R Q) (h : Qp kn R (g 0) w) : bD pg nW (aF 3 mS) Q g w :=
 eP (l := []) h hn hr trivial
def Qt (R : K1) (LP : aNk) (w : aNj) : Prop :=
 Qp (fun cB gG w => RO R cB gG w) R LP w
theorem alK (R : K1) (hr : HR tU R Q) (h : Qt R (g 0) w) : bD pg nW mS Q g w :=
 jE 3 (aoS _ g w (RO R) R (fun g w h => aK (jE 1 (anW _ g w (LZ R) R (fun g w h => aK (atQ _ g w R hr h)) hr h))) hr h)
def aAE (a0 : aNk) (w : aNj) (R : K1) : Prop :=
 Qt R a0 w
theorem awT {a0 : aNk} {w : aNj} {R : K1} (h : aAE a0 w R) : aS pg P3 #[a0] w R := by
 refine uE (ann := nW) Tryz.f104 mS [a0] tU 65 TryzM.mixed Tryz.func104 ?_
 exact (alK _ _ _ R (fun _ _ h => h) h)
def nT : FA := ⟨oU, fun i => .leaf ([], []) []⟩
def qV : List ResultVar := []
noncomputable def nH : Code := dE Tryz.f105
def qW (kn : K3) (k0 : K0) (R : K1) (AO b1 i_3 : aNk) (w : aNj) : Prop :=
 aD pg (aI .geq 3 aM aM i_3 (aNl 0)) w fun b8 w =>
 gX b8
  (aD pg (aL 22 b1) w fun c3 w =>
  aD pg (cI 22 c3 i_3) w fun c5 w =>
  aD pg (aL 5 c5) w fun c6 w =>
  aD pg (Pr AO [i_3, c6]) w fun c7 w =>
  aD pg (sUn .not c7) w fun c8 w =>
  gX c8
   (R (.tuple #[]) w)
   (aD pg (aI .sub 3 aM aM i_3 (aNl 1)) w fun c0 w =>
   kn AO b1 c0 w))
  (k0 w)
theorem Hs (kn : K3) (k0 : K0) (R : K1) (hn : N3 Q kn 0 1 3) (h0 : E0 Q k0 0) (hr : HR qV R Q) (h : qW kn k0 R (g 0) (g 1) (g 3) w) : bD pg nT (bI (bI (aB 1 nH))) Q g w :=
 eP (l := [(0, fun g w => k0 w)]) h hn hr ⟨h0, trivial⟩
def tV (k0 : K0) (R : K1) (AO b1 i_3 : aNk) (w : aNj) : Prop :=
 cU (fun (X : aNk -> K0) (t : aNk) (w : aNj) => qW (fun _ _ i_3 w => X i_3 w) k0 R AO b1 t w) i_3 w
theorem Hj (k0 : K0) (R : K1) (h0 : E0 Q k0 0) (hr : HR qV R Q) (h : tV k0 R (g 0) (g 1) (g 3) w) : bD pg nT (bI (aB 1 nH)) Q g w := by
 refine Dt (fun g : Env => g 3) (fun X t w => qW (fun _ _ i_3 w => X i_3 w) k0 R (g 0) (g 1) t w) h (fun X g1 w1 ha hL => ?_)
 rw [<- jX 0 ha, <- jX 1 ha] at hL
 exact (Hs _ g1 w1 (fun _ _ i_3 w => X i_3 w) k0 R (fun _ _ h => h) h0 hr hL)
def tZ (kn : K0) (R : K1) (AO b1 i_3 : aNk) (w : aNj) : Prop :=
 tV kn R AO b1 i_3 w
def tX (kn : K3) (AO b1 : aNk) (w : aNj) : Prop :=
 aD pg (aL 22 b1) w fun b4 w =>
 aD pg (lO .len #[22] 3 [b4]) w fun b5 w =>
 aD pg (aI .sub 3 aM aM b5 (aNl 1)) w fun b6 w =>
 kn AO b1 b6 w
theorem Hm (kn : K3) (hn : N3 Q kn 0 1 3) (h : tX kn (g 0) (g 1) w) : bD pg nT (aF 1 nH) Q g w :=
 eP (kr := no) (l := []) h hn gS trivial
def tY (kn : K0) (R : K1) (AO b1 : aNk) (w : aNj) : Prop :=
 tX (fun AO b1 i_3 w => tZ kn R AO b1 i_3 w) AO b1 w
theorem Io (kn : K0) (R : K1) (hn : N0 Q kn) (hr : HR qV R Q) (h : tY kn R (g 0) (g 1) w) : bD pg nT nH Q g w :=
 jE 1 (Hm _ g w (tZ kn R) (fun g w h => aK (wT 0 (Hj _ g w kn R hn hr h))) h)
def CD (a0 a1 : aNk) (w : aNj) (R : K1) : Prop :=
 tY (fun  w => R (.tuple #[]) w) R a0 a1 w
theorem Ji {a0 a1 : aNk} {w : aNj} {R : K1} (h : CD a0 a1 w R) : aS pg oU #[a0, a1] w R := by
 refine uE (ann := nT) Tryz.f105 nH [a0, a1] qV 19 TryzM.mixed Tryz.func105 ?_
 exact (Io _ _ _ (fun  w => R (.tuple #[]) w) R (fun _ _ h => h) (fun _ _ h => h) h)
end Go.Proofs.YtgpimhlgaokobaaGreat
namespace Go.En
open Go
section
variable {P : Program} {w : aNj} {t : TypeId} {ox oy : Operand} {k : IntKind} {a b : Int}
theorem uO (s : Sem aNk) : (V s).run P w = (s.run P w).andThen fun v w => .ok (.value v) w := by
 unfold V; rw [Sem.run_bind] <;> rfl
theorem aKv (s : Sem Unit) : (U s).run P w = (s.run P w).andThen fun _ w => .ok .skip w := by
 unfold U; rw [Sem.run_bind] <;> rfl
theorem bN : (aI .add t ox oy (.int k a) (.int k b)).run P w = .ok (.value (.int k (k.wrap (a + b)))) w := by
 simp [aI, OJ, uO, binOp, Op.intArith]
theorem fE : (aI .sub t ox oy (.int k a) (.int k b)).run P w = .ok (.value (.int k (k.wrap (a - b)))) w := by
 simp [aI, OJ, uO, binOp, Op.intArith]
theorem oL : (aI .mul t ox oy (.int k a) (.int k b)).run P w = .ok (.value (.int k (k.wrap (a * b)))) w := by
 simp [aI, OJ, uO, binOp, Op.intArith]
theorem oP (h : b ≠ 0) : (aI .quo t ox oy (.int k a) (.int k b)).run P w = .ok (.value (.int k (k.wrap (a.tdiv b)))) w := by
 simp [aI, OJ, uO, binOp, Op.intDiv, h]
theorem rH (h : b ≠ 0) : (aI .rem t ox oy (.int k a) (.int k b)).run P w = .ok (.value (.int k (a.tmod b))) w := by
 simp [aI, OJ, uO, binOp, Op.intDiv, h]
def UD (k : IntKind) (a b : Int) : Int := k.wrap (BitVec.ofInt k.bits a &&& BitVec.ofInt k.bits b).toNat
def orI (k : IntKind) (a b : Int) : Int := k.wrap (BitVec.ofInt k.bits a ||| BitVec.ofInt k.bits b).toNat
def aIh (k : IntKind) (a b : Int) : Int := k.wrap (BitVec.ofInt k.bits a ^^^ BitVec.ofInt k.bits b).toNat
def aEN (k : IntKind) (a b : Int) : Int := k.wrap (BitVec.ofInt k.bits a &&& ~~~BitVec.ofInt k.bits b).toNat
theorem xA : (aI .and t ox oy (.int k a) (.int k b)).run P w = .ok (.value (.int k (UD k a b))) w := by
 simp [aI, OJ, uO, binOp, Op.intBits, UD]
theorem KZ : (aI .or t ox oy (.int k a) (.int k b)).run P w = .ok (.value (.int k (orI k a b))) w := by
 simp [aI, OJ, uO, binOp, Op.intBits, orI]
theorem M7 : (aI .xor t ox oy (.int k a) (.int k b)).run P w = .ok (.value (.int k (aIh k a b))) w := by
 simp [aI, OJ, uO, binOp, Op.intBits, aIh]
theorem uS : (aI .andNot t ox oy (.int k a) (.int k b)).run P w = .ok (.value (.int k (aEN k a b))) w := by
 simp [aI, OJ, uO, binOp, Op.intBits, aEN]
theorem pA {k' : IntKind} (h : 0 <= b) : (aI .shl t ox oy (.int k a) (.int k' b)).run P w = .ok (.value (.int k (k.wrap (a * 2 ^ (min b.toNat k.bits))))) w := by
 simp [aI, OJ, uO, binOp, Op.shift, Int.not_lt.2 h]
theorem sK {k' : IntKind} (h : 0 <= b) : (aI .shr t ox oy (.int k a) (.int k' b)).run P w = .ok (.value (.int k (a.fdiv (2 ^ (min b.toNat k.bits))))) w := by
 simp [aI, OJ, uO, binOp, Op.shift, Int.not_lt.2 h]
theorem dU : (aI .eql t ox oy (.int k a) (.int k b)).run P w = .ok (.value (.bool (a == b))) w := by
 simp [aI, OJ, uO, binOp, Op.intCmp, eqGuard]
theorem dC : (aI .neq t ox oy (.int k a) (.int k b)).run P w = .ok (.value (.bool (a != b))) w := by
 simp [aI, OJ, uO, binOp, Op.intCmp, eqGuard]
theorem aU : (aI .lss t ox oy (.int k a) (.int k b)).run P w = .ok (.value (.bool (decide (a < b)))) w := by
 simp [aI, OJ, uO, binOp, Op.intCmp]
theorem zL : (aI .leq t ox oy (.int k a) (.int k b)).run P w = .ok (.value (.bool (decide (a <= b)))) w := by
 simp [aI, OJ, uO, binOp, Op.intCmp]
theorem dH : (aI .gtr t ox oy (.int k a) (.int k b)).run P w = .ok (.value (.bool (decide (b < a)))) w := by
 simp [aI, OJ, uO, binOp, Op.intCmp]
theorem nE : (aI .geq t ox oy (.int k a) (.int k b)).run P w = .ok (.value (.bool (decide (b <= a)))) w := by
 simp [aI, OJ, uO, binOp, Op.intCmp]
theorem LY : (sUn .neg (.int k a)).run P w = .ok (.value (.int k (k.wrap (0 - a)))) w := by
 simp [sUn, uO, Op.unary, Op.intArith]
theorem M9 : (sUn .xor (.int k a)).run P w = .ok (.value (.int k (aIh k (if k.signed then -1 else k.max) a))) w := by
 simp [sUn, uO, Op.unary, Op.intBits, aIh]
theorem pM (c : Bool) : (sUn .not (.bool c)).run P w = .ok (.value (.bool !c)) w := by
 simp [sUn, uO, Op.unary]
theorem bH (c : Bool) (x y : aNk) : (jR (.bool c) x y).run P w = .ok (.value (if c then x else y)) w := by
 simp [jR, asBool]
theorem avQ {x y : aNk} {r : Bool} (hg : eqGuard .eql t ox oy x y = pure ()) (hb : binOp .eql t x y = (do pure (.bool (<- Op.equal t x y)))) (he : (Op.equal t x y).run P w = .ok r w) :
 (aI .eql t ox oy x y).run P w = .ok (.value (.bool r)) w := by
 unfold aI
 simp only [OJ, uO, hg, hb, pure_bind]
 rw [Sem.run_bind, he] <;> rfl
theorem aGX {x y : aNk} {r : Bool} (hg : eqGuard .neq t ox oy x y = pure ()) (hb : binOp .neq t x y = (do pure (.bool (!(<- Op.equal t x y))))) (he : (Op.equal t x y).run P w = .ok r w) :
 (aI .neq t ox oy x y).run P w = .ok (.value (.bool (!r))) w := by
 unfold aI
 simp only [OJ, uO, hg, hb, pure_bind]
 rw [Sem.run_bind, he] <;> rfl
theorem aFY (n : Nat) (c d : Bool) (hu : P.underlying t = some .bool) : (Op.equalIn (n + 1) t (.bool c) (.bool d)).run P w = .ok (c == d) w := by
 simp only [Op.equalIn, underlying]
 simp [hu]
theorem aIx (c d : Bool) (hu : P.underlying t = some .bool) : (Op.equal t (.bool c) (.bool d)).run P w = .ok (c == d) w := aFY 9999 c d hu
theorem aJg (c d : Bool) (hu : P.underlying t = some .bool) : (aI .eql t ox oy (.bool c) (.bool d)).run P w = .ok (.value (.bool (c == d))) w :=
 avQ rfl rfl (aIx c d hu)
theorem aP {n : Int} (h0 : -9223372036854775808 <= n) (h1 : n <= 9223372036854775807) : IntKind.i64.wrap n = n := by
 unfold IntKind.wrap; simp [IntKind.bits, IntKind.signed]; split <;> omega
theorem kR {n : Int} (h0 : 0 <= n) (h1 : n <= 18446744073709551615) : IntKind.u64.wrap n = n := by
 unfold IntKind.wrap; simp [IntKind.bits, IntKind.signed]; omega
theorem NH {n : Int} (h0 : -2147483648 <= n) (h1 : n <= 2147483647) : IntKind.i32.wrap n = n := by
 unfold IntKind.wrap; simp [IntKind.bits, IntKind.signed]; split <;> omega
theorem LX {n : Int} (h0 : 0 <= n) (h1 : n <= 4294967295) : IntKind.u32.wrap n = n := by
 unfold IntKind.wrap; simp [IntKind.bits, IntKind.signed]; omega
theorem Pq {n : Int} (h0 : 0 <= n) (h1 : n <= 65535) : IntKind.u16.wrap n = n := by
 unfold IntKind.wrap; simp [IntKind.bits, IntKind.signed]; omega
theorem xB {n : Int} (h0 : 0 <= n) (h1 : n <= 255) : IntKind.u8.wrap n = n := by
 unfold IntKind.wrap; simp [IntKind.bits, IntKind.signed]; omega
theorem aDD (x y : ByteArray) (h : ((x.size + y.size : Nat) : Int) <= 9223372036854775807) : (aI .add t ox oy (.string x) (.string y)).run P w = .ok (.value (.string (x ++ y))) w := by
 have : ¬ (((x.size + y.size : Nat) : Int) > IntKind.i64.max) := by
  have e : IntKind.i64.max = 9223372036854775807 := by decide
  rw [e]; omega
 simp only [aI, OJ, uO, binOp, Op.stringOp, this, if_false]
 rfl
theorem vQ (x y : ByteArray) : (aI .eql t ox oy (.string x) (.string y)).run P w = .ok (.value (.bool (x.toList == y.toList))) w := by
 simp [aI, OJ, uO, binOp, Op.stringOp, eqGuard]
theorem aGJ (n : Nat) {e : TypeId} (hu : P.underlying t = some (.pointer e)) (x : Option Addr) : (Op.equalIn (n + 1) t (.pointer x) (.pointer none)).run P w = .ok x.isNone w := by
 simp only [Op.equalIn, underlying]
 cases x <;> simp [hu]
theorem aGO {e : TypeId} (hu : P.underlying t = some (.pointer e)) (x : Option Addr) : (Op.equal t (.pointer x) (.pointer none)).run P w = .ok x.isNone w := aGJ 9999 hu x
theorem aIq (m : Nat) {e : TypeId} (hu : P.underlying t = some (.slice e)) (x : Option Addr) (n c : Nat) : (Op.equalIn (m + 1) t (.slice x n c) (.slice none 0 0)).run P w = .ok x.isNone w := by
 simp only [Op.equalIn, underlying]
 cases x <;> simp [hu]
theorem aJ6 {e : TypeId} (hu : P.underlying t = some (.slice e)) (x : Option Addr) (n c : Nat) : (Op.equal t (.slice x n c) (.slice none 0 0)).run P w = .ok x.isNone w := aIq 9999 hu x n c
theorem axX {e : TypeId} (hu : P.underlying t = some (.pointer e)) (x : Option Addr) : (aI .eql t ox oy (.pointer x) (.pointer none)).run P w = .ok (.value (.bool x.isNone)) w :=
 avQ rfl rfl (aGO hu x)
theorem aIZ {e : TypeId} (hu : P.underlying t = some (.pointer e)) (x : Option Addr) : (aI .neq t ox oy (.pointer x) (.pointer none)).run P w = .ok (.value (.bool (!x.isNone))) w :=
 aGX rfl rfl (aGO hu x)
theorem aHQ {e : TypeId} (hu : P.underlying t = some (.slice e)) (x : Option Addr) (n c : Nat) : (aI .eql t ox oy (.slice x n c) (.slice none 0 0)).run P w = .ok (.value (.bool x.isNone)) w :=
 avQ rfl rfl (aJ6 hu x n c)
theorem HK {s : TypeId} {d : TypeDesc} {kd : IntKind} (hs : P.underlying s = some d) (hu : P.underlying t = some (.int kd)) : (jO s t (.int k a)).run P w = .ok (.value (.int kd (kd.wrap a))) w := by
 cases d <;> simp [jO, uO, convert, underlying, hs, hu, Conv.intToInt]
theorem aaA {ty : TypeId} {e : TypeId} (hu : P.underlying t = some (.slice e)) (x : Option Addr) (n c : Nat) : (lO .len #[t] ty [.slice x n c]).run P w = .ok (.value (.int .i64 n)) w := by
 simp [lO, builtin, Builtin.len_, underlying, hu, goInt]
theorem aI2 {ty : TypeId} (hu : P.underlying t = some .string) (x : ByteArray) : (lO .len #[t] ty [.string x]).run P w = .ok (.value (.int .i64 x.size)) w := by
 simp [lO, builtin, Builtin.len_, underlying, hu, goInt]
theorem LO {ats : Array TypeId} {ty : TypeId} : (lO .min ats ty [.int k a, .int k b]).run P w = .ok (.value (.int k (if b < a then b else a))) w := by
 simp [lO, builtin, Builtin.min_, Builtin.min2]
theorem AD {ats : Array TypeId} {ty : TypeId} : (lO .max ats ty [.int k a, .int k b]).run P w = .ok (.value (.int k (if b > a then b else a))) w := by
 simp [lO, builtin, Builtin.max_, Builtin.max2]
theorem pP (a b : aNk) : (bQ (.tuple #[a, b]) 0).run P w = .ok (.value a) w := Eq.trans rfl rfl
theorem pR (a b : aNk) : (bQ (.tuple #[a, b]) 1).run P w = .ok (.value b) w := Eq.trans rfl rfl
theorem Yb (a b c : aNk) : (bQ (.tuple #[a, b, c]) 0).run P w = .ok (.value a) w := Eq.trans rfl rfl
theorem Ya (a b c : aNk) : (bQ (.tuple #[a, b, c]) 1).run P w = .ok (.value b) w := Eq.trans rfl rfl
theorem YH (a b c : aNk) : (bQ (.tuple #[a, b, c]) 2).run P w = .ok (.value c) w := Eq.trans rfl rfl
theorem x40 (a b c d : aNk) : (bQ (.tuple #[a, b, c, d]) 0).run P w = .ok (.value a) w := Eq.trans rfl rfl
theorem x41 (a b c d : aNk) : (bQ (.tuple #[a, b, c, d]) 1).run P w = .ok (.value b) w := Eq.trans rfl rfl
theorem x42 (a b c d : aNk) : (bQ (.tuple #[a, b, c, d]) 2).run P w = .ok (.value c) w := Eq.trans rfl rfl
theorem x43 (a b c d : aNk) : (bQ (.tuple #[a, b, c, d]) 3).run P w = .ok (.value d) w := Eq.trans rfl rfl
theorem qR (x : Addr) : (vP (.pointer (some x))).run P w = .ok (.value (.pointer (some x))) w := Eq.trans rfl rfl
theorem jJ {fs : Array Field} {f : Field} {i : Nat} {inf : TypeInfo} (hu : P.underlying t = some (.struct fs)) (hf : fs[i]? = some f)
 (hi : P.info? f.type = some inf) (hz : inf.size ≠ 0) (x : Addr) : (aJ t (.pointer (some x)) i).run P w = .ok (.value (.pointer (some (x.add f.offset)))) w := by
 simp [aJ, uO, Instr.fieldAt, underlying, hu, hf, Instr.sureAddr, fieldPlace, sizeOf, typeInfo, hi, hz]
theorem aCK {e : TypeId} {inf : TypeInfo} (hu : P.underlying t = some (.slice e)) (hi : P.info? e = some inf) (x : Addr) (n c : Nat) (h0 : 0 <= a) (h1 : a < n) :
 (cI t (.slice (some x) n c) (.int k a)).run P w = .ok (.value (.pointer (some (x.add (a.toNat * inf.size))))) w := by
 simp [cI, uO, Instr.indexAt, asIntOf, underlying, hu, h0, h1, sizeOf, typeInfo, hi]
theorem aHF {e : TypeId} {len : Nat} {inf : TypeInfo} (hu : P.underlying t = some (.array len e)) (hi : P.info? e = some inf) (x : Addr) (h0 : 0 <= a) (h1 : a < len) :
 (cI t (.pointer (some x)) (.int k a)).run P w = .ok (.value (.pointer (some (x.add (a.toNat * inf.size))))) w := by
 simp [cI, uO, Instr.indexAt, asIntOf, underlying, hu, h0, h1, sizeOf, typeInfo, hi, Instr.sureAddr]
theorem aIU (hu : P.underlying t = some .string) (x : ByteArray) (h0 : 0 <= a) (h1 : a.toNat < x.size) :
 (D6 t (.string x) (.int k a)).run P w = .ok (.value (.int .u8 (x[a.toNat]'h1).toNat)) w := by
 simp [D6, uO, Instr.index, asIntOf, underlying, hu, h0, h1]
end
def eM (w : aNj) (b : Nat) (cs : List aNk) : Prop :=
 ∃ T lo hi, w.heap[b]? = some (.cells cs.toArray T (lo, hi)) /\ (cs.length <= lo ∨ hi = lo)
structure aW (w w' : aNj) (M : Nat -> Prop) : Prop where
 os : w'.os = w.os
 tape : w'.tape = w.tape
 output : w'.output = w.output
 size : w.heap.size <= w'.heap.size
 keep : ∀ b, b < w.heap.size -> ¬ M b -> w'.heap[b]? = w.heap[b]?
def eU : Nat -> Prop := fun _ => False
theorem aW.refl (w : aNj) (M : Nat -> Prop) : aW w w M := ⟨rfl, rfl, rfl, aK1 _, fun _ _ _ => rfl⟩
theorem aW.mono {w w' : aNj} {M N : Nat -> Prop} (h : aW w w' M) (hm : ∀ b, b < w.heap.size -> M b -> N b) : aW w w' N :=
 ⟨h.os, h.tape, h.output, h.size, fun b hb hn => h.keep b hb fun hM => hn (hm b hb hM)⟩
theorem aW.trans {a b c : aNj} {M N : Nat -> Prop} (h : aW a b M) (k : aW b c N) (hn : ∀ x, x < a.heap.size -> N x -> M x) : aW a c M :=
 ⟨k.os.trans h.os, k.tape.trans h.tape, k.output.trans h.output, aLT h.size k.size,
   fun x hx hM => (k.keep x (aMp hx h.size) fun h => hM (hn x hx h)).trans (h.keep x hx hM)⟩
theorem aW.seq {a b c : aNj} {M : Nat -> Prop} (h : aW a b M) (k : aW b c M) : aW a c M := h.trans k fun _ _ h => h
theorem aW.new {a b c : aNj} {M : Nat -> Prop} {x : Nat} (h : aW a b M) (k : aW b c (fun y => y = x)) (hx : a.heap.size <= x) : aW a c M :=
 h.trans k fun y hy e => absurd hy (by subst e; omega)
theorem aW.more {a b c : aNj} {M : Nat -> Prop} (h : aW a b M) (k : aW b c (fun _ => False)) : aW a c M := h.trans k fun _ _ h => h.elim
theorem aW.below {w w' : aNj} (h : aW w w' eU) : Go.RowKit.Below w.heap.size w w' :=
 ⟨h.os, h.tape, h.output, h.size, fun k hk => h.keep k hk fun h => h⟩
theorem aW.dr (w : aNj) (M : Nat -> Prop) : aW w (dr w) M := ⟨rfl, rfl, rfl, aK1 _, fun _ _ _ => rfl⟩
theorem aW.alloc (w : aNj) (o : Obj) (M : Nat -> Prop) : aW w (w.alloc o) M :=
 ⟨rfl, rfl, rfl, by simp, fun b hb _ => by show (w.heap.push o)[b]? = _; rw [Array.getElem?_push, if_neg (by omega)]⟩
theorem asS (w : aNj) (a : Addr) (v : aNk) (b : Nat) (h : b ≠ a.block) : (w.setCell a v).heap[b]? = w.heap[b]? := Go.RowKit.Below.heap_setCell w a v b h
theorem aW.setCell (w : aNj) (a : Addr) (v : aNk) {M : Nat -> Prop} (h : a.block < w.heap.size -> M a.block) : aW w (w.setCell a v) M :=
 ⟨rfl, rfl, rfl, by simp, fun b hb hM => asS w a v b fun e => hM (e ▸ h (e ▸ hb))⟩
theorem eM.lt {w : aNj} {b : Nat} {cs : List aNk} (h : eM w b cs) : b < w.heap.size := by
 obtain ⟨T, lo, hi, h, _⟩ := h
 rcases aK9 b w.heap.size with h' | h'
 .exact h'
 .rw [aMj h'] at h; cases h
theorem eM.ext {w w' : aNj} {b : Nat} {cs : List aNk} {M : Nat -> Prop} (h : eM w b cs) (hx : aW w w' M) (hM : ¬ M b) : eM w' b cs := by
 have := h.lt
 obtain ⟨T, lo, hi, h, k⟩ := h
 exact ⟨T, lo, hi, by rw [hx.keep b this hM]; exact h, k⟩
theorem eM.cell {w : aNj} {b off : Nat} {cs : List aNk} (h : eM w b cs) : w.cell? ⟨b, off, none⟩ = cs[off]? := by
 obtain ⟨T, lo, hi, h, _⟩ := h
 simp [World.cell?, h]
theorem eM.free {w : aNj} {b off : Nat} {cs : List aNk} {s : Option Nat} (h : eM w b cs) (ho : off < cs.length) : w.frozen? ⟨b, off, s⟩ = false := by
 obtain ⟨T, lo, hi, h, k⟩ := h
 simp only [World.frozen?, h]
 rcases k with k | k <;> (simp; omega)
theorem eM.setCell {w : aNj} {b off : Nat} {cs : List aNk} (h : eM w b cs) (v : aNk) : eM (w.setCell ⟨b, off, none⟩ v) b (cs.set off v) := by
 have hb := h.lt
 obtain ⟨T, lo, hi, h, k⟩ := h
 refine ⟨T, lo, hi, ?_, by simpa using k⟩
 simp only [World.setCell, aMT, h]
 simp
theorem eM.alloc (w : aNj) (cs : List aNk) (T : TypeId) : eM (w.alloc (.cells cs.toArray T)) w.heap.size cs :=
 ⟨T, 0, 0, by show (w.heap.push _)[w.heap.size]? = _; simp, .inr rfl⟩
theorem ahD {w w' : aNj} {M : Nat -> Prop} {a : Addr} {v : aNk} (h : w.cell? a = some v) (hx : aW w w' M) (hM : ¬ M a.block) : w'.cell? a = some v := by
 have hb := World.block_lt_of_cell? w a h
 have e := hx.keep _ hb hM
 unfold World.cell? at h ⊢
 rw [e]; exact h
section
variable {P : Program} {w : aNj} {t : TypeId}
def aB4 (d : TypeDesc) : Bool := match d with | .struct _ | .array _ _ => true | _ => false
theorem Sv {d : TypeDesc} (hu : P.underlying t = some d) : (isAgg t).run P w = .ok (aB4 d) w := by
 cases d <;> simp [isAgg, underlying, hu, aB4]
theorem kX {i : TypeInfo} (hi : P.info? t = some i) : (sizeOf t).run P w = .ok i.size w := by simp [sizeOf, typeInfo, hi]
theorem aiW {b off : Nat} {cs : List aNk} (ho : eM w b cs) : ∀ (n i : Nat) (acc : Array aNk), off + i + n <= cs.length →
 (loadCellsFrom ⟨b, off, none⟩ i n acc).run P w = .ok (acc ++ ((cs.drop (off + i)).take n).toArray) w := by
 intro n
 induction n with
 | zero => intro i acc _; simp [loadCellsFrom]
 | succ n ih =>
   intro i acc h
   have hc : w.cell? ((⟨b, off, none⟩ : Addr).add i) = some cs[off + i] := by
    unfold Addr.add
    split
    .rename_i hi; subst hi; rw [ho.cell]; simp
    .show w.cell? ⟨b, off + i, none⟩ = _; rw [ho.cell]; simp
   simp only [loadCellsFrom, Sem.run_bind, run_load, hc, Result.andThen_ok]
   rw [ih (i + 1) _ (by omega)]
   congr 1
   rw [aLo (by omega : off + i < cs.length)]
   simp [aMm]
theorem Y5 {b off n : Nat} {cs : List aNk} (ho : eM w b cs) (h : off + n <= cs.length) :
 (loadCells ⟨b, off, none⟩ n).run P w = .ok ((cs.drop off).take n).toArray w := by
 unfold loadCells
 rw [aiW ho n 0 #[] (by omega)]
 simp
theorem zK {d : TypeDesc} {i : TypeInfo} (hu : P.underlying t = some d) (hd : aB4 d = true) (hi : P.info? t = some i) {b off : Nat} {cs : List aNk} (ho : eM w b cs) (h : off + i.size <= cs.length) :
 (aL t (.pointer (some ⟨b, off, none⟩))).run P w = .ok (.value (.agg ((cs.drop off).take i.size).toArray)) w := by
 unfold aL
 rw [uO]
 simp only [Instr.loadAt, Instr.sureAddr, loadVar, pure_bind, Sem.run_bind, Sv hu, hd, Result.andThen_ok, if_true, kX hi, Y5 ho h, Sem.run_pure]
def one (v : aNk) : Bool := match v with | .agg _ | .tuple _ => false | _ => true
theorem aDv {a : Addr} {v x : aNk} (hv : one v = true) (hc : w.cell? a = some x) (hf : w.frozen? a = false) : (store a v).run P w = .ok () (w.setCell a v) := by
 unfold store
 cases v <;> simp [one] at hv <;> simp [Sem.run, hc, hf]
def bK (cs : List aNk) (off : Nat) : List aNk -> List aNk
 | [] => cs
 | v :: vs => bK (cs.set off v) (off + 1) vs
theorem Fp {b : Nat} {M : Nat -> Prop} (hM : M b) : ∀ (vs : List aNk) (w : aNj) (off i : Nat) (cs : List aNk), eM w b cs -> off + i + vs.length <= cs.length -> (∀ v ∈ vs, one v = true) →
 ∃ w', (storeCells ⟨b, off, none⟩ vs i).run P w = .ok () w' /\ eM w' b (bK cs (off + i) vs) /\ aW w w' M /\ w'.heap.size = w.heap.size /\ w'.drawn = w.drawn := by
 intro vs
 induction vs with
 | nil => intro w off i cs ho _ _; exact ⟨w, by simp [storeCells], ho, aW.refl _ _, rfl, rfl⟩
 | cons v vs ih =>
   intro w off i cs ho h hv
   simp only [aLa] at h
   have ha : (⟨b, off, none⟩ : Addr).add i = ⟨b, off + i, none⟩ := by
    unfold Addr.add; split
    .rename_i hi; subst hi; rfl
    .rfl
   have hlt : off + i < cs.length := by omega
   have hc : w.cell? ⟨b, off + i, none⟩ = some cs[off + i] := by rw [ho.cell]; simp
   have hs := aDv (P := P) (hv v (by simp)) hc (ho.free hlt)
   obtain ⟨w', h1, h2, h3, h4, h5⟩ := ih (w.setCell ⟨b, off + i, none⟩ v) off (i + 1) (cs.set (off + i) v) (ho.setCell v) (by simp; omega) (fun x hx => hv x (aLc _ hx))
   refine ⟨w', ?_, h2, (aW.setCell w _ v fun _ => hM).trans h3 (fun _ _ h => h), by rw [h4]; simp, by rw [h5] <;> rfl⟩
   simp only [storeCells, Sem.run_bind, ha, hs, Result.andThen_ok]
   exact h1
theorem pV {i : TypeInfo} (hi : P.info? t = some i) {b off : Nat} {cs : List aNk} (ho : eM w b cs) {v : aNk} (hs : v.cells.size = i.size)
 (hv : ∀ x ∈ v.cells.toList, one x = true) (h : off + i.size <= cs.length) {K : aNk -> aNj -> Prop}
 (hk : ∀ w', eM w' b (bK cs off v.cells.toList) -> aW w w' (fun x => x = b) -> w'.heap.size = w.heap.size -> K undef w') : aD P (aR t (.pointer (some ⟨b, off, none⟩)) v) w K := by
 obtain ⟨w', h1, h2, h3, h4, _⟩ := Fp (P := P) (M := fun x => x = b) rfl v.cells.toList w off 0 cs ho (by simp [hs]; omega) hv
 have : (aR t (.pointer (some ⟨b, off, none⟩)) v).run P w = .ok .skip w' := by
  unfold aR
  rw [aKv]
  simp only [Instr.storeAt, Instr.sureAddr, storeVar, pure_bind, Sem.run_bind, kX hi, Result.andThen_ok, hs]
  simp [h1]
 unfold aD
 rw [this]
 exact hk w' h2 h3 h4
theorem aoJ {v : aNk} (hv : one v = true) : v.cells = #[v] := by cases v <;> simp [one] at hv <;> rfl
theorem uT {i : TypeInfo} (hi : P.info? t = some i) (h1 : i.size = 1) {b off : Nat} {cs : List aNk} (ho : eM w b cs) {v : aNk} (hv : one v = true) (h : off < cs.length) {K : aNk -> aNj -> Prop}
 (hk : ∀ w', eM w' b (cs.set off v) -> aW w w' (fun x => x = b) -> w'.heap.size = w.heap.size -> K undef w') : aD P (aR t (.pointer (some ⟨b, off, none⟩)) v) w K := by
 have e := aoJ hv
 refine pV hi ho (by rw [e, h1] <;> rfl) (by rw [e]; simpa using hv) (by omega) fun w' a b c => hk w' ?_ b c
 rw [e] at a; exact a
def ldC (c : Option aNk) (w : aNj) (far : Result Next) : Result Next := match c with | some v => .ok (.value v) w | none => far
def far (P : Program) (t : TypeId) (x : Addr) (w : aNj) : Result Next := (aL t (.pointer (some x))).run P w
theorem aH (v : aNk) (w : aNj) (f : Result Next) : ldC (some v) w f = .ok (.value v) w := rfl
theorem afQ {d : TypeDesc} (hu : P.underlying t = some d) (hd : aB4 d = false) (x : Addr) (w : aNj) :
 (aL t (.pointer (some x))).run P w = ldC (w.cell? x) w (far P t x w) := by
 cases h : w.cell? x with
 | none => rfl
 | some v =>
   unfold aL
   rw [uO]
   simp only [Instr.loadAt, Instr.sureAddr, loadVar, pure_bind, Sem.run_bind, Sv hu, hd, Result.andThen_ok, aKQ, if_false, run_load, h, ldC]
theorem FP {d : TypeDesc} {i : TypeInfo} (hu : P.underlying t = some d) (hd : aB4 d = true) (hi : P.info? t = some i) {b off : Nat} {cs : List aNk} (ho : eM w b cs) (h : off + i.size <= cs.length) {K : aNk -> Prop}
 (hk : K (.agg ((cs.drop off).take i.size).toArray)) : zN P t (.pointer (some ⟨b, off, none⟩)) w K := by
 refine ⟨_, ?_, hk⟩
 simp only [asAddr, loadVar, pure_bind, Sem.run_bind, Sv hu, hd, Result.andThen_ok, if_true, kX hi, Y5 ho h, Sem.run_pure]
theorem aEY {d : TypeDesc} (hu : P.underlying t = some d) (hd : aB4 d = false) {b off : Nat} {cs : List aNk} (ho : eM w b cs) {v : aNk} (h : cs[off]? = some v) {K : aNk -> Prop}
 (hk : K v) : zN P t (.pointer (some ⟨b, off, none⟩)) w K := by
 refine ⟨_, ?_, hk⟩
 simp only [asAddr, loadVar, pure_bind, Sem.run_bind, Sv hu, hd, Result.andThen_ok, aKQ, if_false, run_load, ho.cell, h]
theorem nK {v : aNk} {K : aNk -> aNj -> Prop} (hk : ∀ w', eM w' w.heap.size v.cells.toList -> aW w w' eU -> w'.heap.size = w.heap.size + 1 -> K (.pointer (some ⟨w.heap.size, 0, none⟩)) w') :
 aD P (BG t v) w K := by
 have : (BG t v).run P w = .ok (.value (.pointer (some ⟨w.heap.size, 0, none⟩))) (w.alloc (.cells v.cells.toList.toArray t)) := by
  unfold BG; rw [uO]
  simp [Instr.box, newVar, newRow]
 unfold aD
 rw [this]
 exact hk _ (eM.alloc _ _ _) (aW.alloc _ _ _) (by simp)
theorem oM {i : TypeInfo} {z : aNk} (hi : P.info? t = some i) (hz : i.zero = some z) {K : aNk -> aNj -> Prop}
 (hk : ∀ w', eM w' w.heap.size z.cells.toList -> aW w w' eU -> w'.heap.size = w.heap.size + 1 -> K (.pointer (some ⟨w.heap.size, 0, none⟩)) w') :
 aD P (fP t) w K := by
 have : (fP t).run P w = .ok (.value (.pointer (some ⟨w.heap.size, 0, none⟩))) (w.alloc (.cells z.cells.toList.toArray t)) := by
  unfold fP; rw [uO]
  simp [Instr.alloc, zeroValue, typeInfo, hi, hz, newVar, newRow]
 unfold aD
 rw [this]
 exact hk _ (eM.alloc _ _ _) (aW.alloc _ _ _) (by simp)
end
theorem Ai {P : Program} {w : aNj} {k : IntKind} {a : Int} {y : Nat} {code : BoundsCode} (h0 : 0 <= a) (h1 : a <= y) : (Instr.sliceBound (.int k a) y code).run P w = .ok a.toNat w := by
 simp [Instr.sliceBound, asIntOf, h0, h1]
section
variable {P : Program} {w : aNj} {t e : TypeId} {k k' : IntKind} {lo hi : Int} {i : TypeInfo}
def mU (x : Option Addr) (m l sz : Nat) : Option Addr := if m = l then x else x.map (·.add (l * sz))
theorem ayR (hu : P.underlying t = some (.slice e)) (hi' : P.info? e = some i) (x : Option Addr) (n c : Nat) (h0 : 0 <= lo) (h1 : lo <= n) :
 (lX t (.slice x n c) (some (.int k lo)) none none).run P w = .ok (.value (.slice (mU x c lo.toNat i.size) (n - lo.toNat) (c - lo.toNat))) w := by
 simp only [lX, uO, Instr.sliceAt, underlying, hu, Sem.run_bind, run_program, Result.andThen_ok, Sem.run_pure, Instr.slice, Instr.sliceBounds, pure_bind, Ai h0 h1, kX hi', mU]
theorem ayE (hu : P.underlying t = some (.slice e)) (hi' : P.info? e = some i) (x : Option Addr) (n c : Nat) (h0 : 0 <= hi) (h1 : hi <= c) :
 (lX t (.slice x n c) none (some (.int k hi)) none).run P w = .ok (.value (.slice (mU x c 0 i.size) (hi.toNat - 0) (c - 0))) w := by
 simp only [lX, uO, Instr.sliceAt, underlying, hu, Sem.run_bind, run_program, Result.andThen_ok, Sem.run_pure, Instr.slice, Instr.sliceBounds, pure_bind, Ai h0 h1, kX hi', mU]
theorem aBi (hu : P.underlying t = some (.slice e)) (hi' : P.info? e = some i) (x : Option Addr) (n c : Nat) (h0 : 0 <= lo) (h1 : lo <= hi) (h2 : hi <= c) :
 (lX t (.slice x n c) (some (.int k lo)) (some (.int k' hi)) none).run P w = .ok (.value (.slice (mU x c lo.toNat i.size) (hi.toNat - lo.toNat) (c - lo.toNat))) w := by
 have h3 : (0 : Int) <= hi := by omega
 have h4 : lo <= (hi.toNat : Int) := by omega
 simp only [lX, uO, Instr.sliceAt, underlying, hu, Sem.run_bind, run_program, Result.andThen_ok, Sem.run_pure, Instr.slice, Instr.sliceBounds, pure_bind, Ai h3 h2, Ai h0 h4, kX hi', mU]
theorem aCH (hu : P.underlying t = some .string) (x : ByteArray) (h0 : 0 <= lo) (h1 : lo <= x.size) :
 (lX t (.string x) (some (.int k lo)) none none).run P w = .ok (.value (.string (x.extract lo.toNat x.size))) w := by
 simp only [lX, uO, Instr.sliceAt, underlying, hu, Sem.run_bind, run_program, Result.andThen_ok, Sem.run_pure, Instr.slice, Instr.sliceBounds, pure_bind, Option.isSome_none, aKQ, if_false, Ai h0 h1]
theorem aCZ (hu : P.underlying t = some .string) (x : ByteArray) (h0 : 0 <= hi) (h1 : hi <= x.size) :
 (lX t (.string x) none (some (.int k hi)) none).run P w = .ok (.value (.string (x.extract 0 hi.toNat))) w := by
 simp only [lX, uO, Instr.sliceAt, underlying, hu, Sem.run_bind, run_program, Result.andThen_ok, Sem.run_pure, Instr.slice, Instr.sliceBounds, pure_bind, Option.isSome_none, aKQ, if_false, Ai h0 h1]
theorem azR (hu : P.underlying t = some .string) (x : ByteArray) (h0 : 0 <= lo) (h1 : lo <= hi) (h2 : hi <= x.size) :
 (lX t (.string x) (some (.int k lo)) (some (.int k' hi)) none).run P w = .ok (.value (.string (x.extract lo.toNat hi.toNat))) w := by
 have h3 : (0 : Int) <= hi := by omega
 have h4 : lo <= (hi.toNat : Int) := by omega
 simp only [lX, uO, Instr.sliceAt, underlying, hu, Sem.run_bind, run_program, Result.andThen_ok, Sem.run_pure, Instr.slice, Instr.sliceBounds, pure_bind, Option.isSome_none, aKQ, if_false, Ai h3 h2, Ai h0 h4]
end
def Sl (w : aNj) (v : aNk) (l : List aNk) : Prop :=
 ∃ a n c, v = .slice a n c /\ n = l.length /\ n <= c /\ (0 < n -> ∃ b off, a = some ⟨b, off, none⟩ /\ ∀ i, i < n -> w.cell? ⟨b, off + i, none⟩ = l[i]?)
def inB (v : aNk) (M : Nat -> Prop) : Prop := match v with | .slice (some a) (_ + 1) _ => M a.block | _ => False
theorem Sl.ext {w w' : aNj} {v : aNk} {l : List aNk} {M : Nat -> Prop} (h : Sl w v l) (hx : aW w w' M) (hM : ¬ inB v M) : Sl w' v l := by
 obtain ⟨a, n, c, rfl, hn, hc, h⟩ := h
 refine ⟨a, n, c, rfl, hn, hc, fun h0 => ?_⟩
 obtain ⟨b, off, rfl, h2⟩ := h h0
 refine ⟨b, off, rfl, fun i hi => ?_⟩
 have h1 := h2 i hi
 obtain ⟨v, hv⟩ : ∃ v, l[i]? = some v := ⟨l[i], by simp⟩
 rw [hv] at h1 ⊢
 refine ahD h1 hx ?_
 obtain ⟨m, rfl⟩ : ∃ m, n = m + 1 := ⟨n - 1, by omega⟩
 exact hM
theorem Sl.old {w : aNj} {v : aNk} {l : List aNk} (h : Sl w v l) : ¬ inB v (fun b => w.heap.size <= b) := by
 obtain ⟨a, n, c, rfl, hn, hc, h⟩ := h
 unfold inB
 split
 .rename_i x m _ e
  obtain ⟨rfl, rfl, rfl⟩ : a = some x /\ n = m + 1 /\ c = _ := by simpa using e
  obtain ⟨b, off, e, h2⟩ := h (by omega)
  have e := aLf e; subst e
  have h1 := h2 0 (by omega)
  obtain ⟨v, hv⟩ : ∃ v, l[0]? = some v := ⟨l[0], by simp⟩
  rw [hv] at h1
  have := World.block_lt_of_cell? _ _ h1
  simp at this ⊢; omega
 .simp
def vC (x : UInt8) : aNk := .int .u8 x.toNat
abbrev Bs (w : aNj) (v : aNk) (l : List UInt8) : Prop := Sl w v (l.map vC)
theorem OA (b o n : Nat) : (⟨b, o, none⟩ : Addr).add n = ⟨b, o + n, none⟩ := by
 unfold Addr.add; split
 .rename_i h; subst h; rfl
 .rfl
section
variable {P : Program} {w : aNj} {t e : TypeId} {k : IntKind} {a : Int}
theorem SI {inf : TypeInfo} {sz : Nat} (hz : inf.size = sz) (hu : P.underlying t = some (.slice e)) (hi : P.info? e = some inf) (b o n c : Nat) (h0 : 0 <= a) (h1 : a < n) :
 (cI t (.slice (some ⟨b, o, none⟩) n c) (.int k a)).run P w = .ok (.value (.pointer (some ⟨b, o + a.toNat * sz, none⟩))) w := by
 rw [aCK hu hi _ n c h0 h1, OA, hz]
theorem Xq {inf : TypeInfo} (hz : inf.size = 1) (hu : P.underlying t = some (.slice e)) (hi : P.info? e = some inf) (b o n c : Nat) (h0 : 0 <= a) (h1 : a < n) :
 (cI t (.slice (some ⟨b, o, none⟩) n c) (.int k a)).run P w = .ok (.value (.pointer (some ⟨b, o + a.toNat, none⟩))) w := by
 rw [aCK hu hi _ n c h0 h1, OA, hz, aMc]
theorem amC {inf : TypeInfo} {len : Nat} (hz : inf.size = 1) (hu : P.underlying t = some (.array len e)) (hi : P.info? e = some inf) (b o : Nat) (h0 : 0 <= a) (h1 : a < (len : Int)) :
 (cI t (.pointer (some ⟨b, o, none⟩)) (.int k a)).run P w = .ok (.value (.pointer (some ⟨b, o + a.toNat, none⟩))) w := by
 rw [aHF hu hi _ h0 h1, OA, hz, aMc]
end
def gA (x : ByteArray) : List UInt8 := x.data.toList
theorem gR (x : ByteArray) : (gA x).length = x.size := by unfold gA; rw [aL5] <;> rfl
theorem PV (x : ByteArray) (i : Nat) (h : i < x.size) : x[i]'h = (gA x)[i]'(by rw [gR]; exact h) := rfl
theorem BC (x : ByteArray) (a b : Nat) : gA (x.extract a b) = ((gA x).drop a).take (b - a) := by
 unfold gA; rw [ByteArray.data_extract, Array.toList_extract, List.extract_eq_take_drop]
theorem awQ (x y : ByteArray) : gA (x ++ y) = gA x ++ gA y := by
 unfold gA; rw [ByteArray.data_append, Array.toList_append]
theorem amR (l : List UInt8) : gA ⟨l.toArray⟩ = l := rfl
theorem Xn {x y : ByteArray} (h : gA x = gA y) : x = y := by
 cases x; cases y; unfold gA at h; congr; exact Array.toList_inj.1 h
section
variable {P : Program} {w : aNj} {s d e : TypeId}
theorem aG7 (hs : P.underlying s = some (.slice e)) (hd : P.underlying d = some .string) (he : P.underlying e = some (.int .u8)) {l : List UInt8} {v : aNk} (h : Bs w v l) :
 (jO s d v).run P w = .ok (.value (.string ⟨l.toArray⟩)) w := by
 obtain ⟨a, n, c, rfl, hn, hc, h⟩ := h
 simp only [aKZ] at hn
 unfold jO
 rw [uO]
 have key : (convert s d (.slice a n c)).run P w = .ok (.string ⟨l.toArray⟩) w := by
  cases a with
  | none =>
    have hl : l = [] := by
     cases l with
     | nil => rfl
     | cons x l => obtain ⟨b, off, e, _⟩ := h (by rw [hn]; simp); cases e
    subst hl
    rw [run_convert_bytes_string w s d e none n c hs he hd]
    rfl
  | some x =>
    subst hn
    refine run_convert_bytes_back w s d e x c l hs he hd fun j hj => ?_
    obtain ⟨b, off, hx, h2⟩ := h (by omega)
    have hx := aLf hx
    subst hx
    rw [OA, h2 j hj]
    simp [vC, hj]
 rw [key] <;> rfl
end
theorem avX (l : List UInt8) : ∀ x ∈ l.map vC, one x = true := by
 intro x hx
 obtain ⟨c, _, rfl⟩ := aLZ.1 hx
 rfl
theorem Sl.drop {w : aNj} {b o n c : Nat} {l : List aNk} (h : Sl w (.slice (some ⟨b, o, none⟩) n c) l) {k : Nat} (hk : k <= n) :
 Sl w (.slice (mU (some ⟨b, o, none⟩) c k 1) (n - k) (c - k)) (l.drop k) := by
 obtain ⟨x, m, c', e, hm, hc, hh⟩ := h
 cases e
 refine ⟨_, _, _, rfl, by rw [aK7]; omega, by omega, fun h0 => ?_⟩
 obtain ⟨b', o', e, h2⟩ := hh (by omega)
 cases e
 have hne : ¬ c = k := by omega
 refine ⟨b, o + k, by unfold mU; rw [if_neg hne, aLC, OA, aMc], fun i hi => ?_⟩
 rw [aMm, h2 (k + i) (by omega), aMs]
theorem Sl.take {w : aNj} {b o n c : Nat} {l : List aNk} (h : Sl w (.slice (some ⟨b, o, none⟩) n c) l) {k : Nat} (hk : k <= n) :
 Sl w (.slice (mU (some ⟨b, o, none⟩) c 0 1) (k - 0) (c - 0)) (l.take k) := by
 obtain ⟨x, m, c', e, hm, hc, hh⟩ := h
 cases e
 refine ⟨_, _, _, rfl, by rw [aK2]; omega, by omega, fun h0 => ?_⟩
 obtain ⟨b', o', e, h2⟩ := hh (by omega)
 cases e
 have hne : ¬ c = 0 := by omega
 refine ⟨b, o, by unfold mU; rw [if_neg hne, aLC, OA] <;> rfl, fun i hi => ?_⟩
 rw [h2 i (by omega), aLB (by omega)]
theorem eM.bs {w : aNj} {b off c : Nat} {cs : List aNk} {l : List UInt8} (h : eM w b cs) (hc : l.length <= c) (hl : ∀ i (hi : i < l.length), cs[off + i]? = some (vC l[i])) : Bs w (.slice (some ⟨b, off, none⟩) l.length c) l :=
 ⟨_, _, _, rfl, by simp, hc, fun _ => ⟨b, off, rfl, fun i hi => by rw [h.cell, hl i hi]; simp [hi]⟩⟩
section
variable {P : Program} {w : aNj} {t e : TypeId} {k : IntKind} {a : Int}
theorem aI8 {len : Nat} {d : TypeDesc} {i : TypeInfo} (hu : P.underlying t = some (.array len e)) (hd : P.underlying e = some d) (ha : aB4 d = false) (hi : P.info? e = some i) (h1 : i.size = 1)
 (cs : Array aNk) (h0 : 0 <= a) (hl : a < (len : Int)) {v : aNk} (hv : cs[a.toNat]? = some v) : (D6 t (.agg cs) (.int k a)).run P w = .ok (.value v) w := by
 unfold D6
 rw [uO]
 simp only [Instr.index, asIntOf, pure_bind, underlying, hu, Sem.run_bind, run_program, Result.andThen_ok, Sem.run_pure, h0, hl, and_self, if_true, kX hi, h1, aMc, part, Sv hd, ha, aKQ, if_false, hv]
def aKe (P : Program) (t : TypeId) (cs : Array aNk) (k : IntKind) (a : Int) (w : aNj) : Result Next := (D6 t (.agg cs) (.int k a)).run P w
theorem aJw {len : Nat} {d : TypeDesc} {i : TypeInfo} (hu : P.underlying t = some (.array len e)) (hd : P.underlying e = some d) (ha : aB4 d = false) (hi : P.info? e = some i) (h1 : i.size = 1)
 (cs : Array aNk) (h0 : 0 <= a) (hl : a < (len : Int)) : (D6 t (.agg cs) (.int k a)).run P w = ldC cs[a.toNat]? w (aKe P t cs k a w) := by
 cases hv : cs[a.toNat]? with
 | none => rfl
 | some v => exact aI8 hu hd ha hi h1 cs h0 hl hv
theorem aiI {b off : Nat} {l : List aNk} (h : ∀ i, i < l.length -> w.cell? ⟨b, off + i, none⟩ = l[i]?) (n : Nat) (hn : n <= l.length) :
 (loadCells ⟨b, off, none⟩ n).run P w = .ok (l.take n).toArray w := by
 have key : ∀ (m i : Nat) (acc : Array aNk), i + m <= l.length -> (loadCellsFrom ⟨b, off, none⟩ i m acc).run P w = .ok (acc ++ ((l.drop i).take m).toArray) w := by
  intro m
  induction m with
  | zero => intro i acc _; simp [loadCellsFrom]
  | succ m ih =>
    intro i acc hm
    have hc := h i (by omega)
    rw [aKW (by omega)] at hc
    simp only [loadCellsFrom, Sem.run_bind, run_load, OA, hc, Result.andThen_ok]
    rw [ih (i + 1) _ (by omega), aLo (by omega : i < l.length), aKT]
    simp
 unfold loadCells
 rw [key n 0 #[] (by omega)]
 simp
theorem azJ {sz n : Nat} {v : aNk} {l : List aNk} (h1 : sz = 1) (h : Sl w v l) (hn : n <= l.length) : (Builtin.firstCells sz n v).run P w = .ok (l.take n).toArray w := by
 subst h1
 obtain ⟨x, m, c, rfl, hm, hc, hh⟩ := h
 cases x with
 | none =>
   have : l = [] := by
    cases l with
    | nil => rfl
    | cons y l => obtain ⟨b, off, e, _⟩ := hh (by rw [hm]; simp); cases e
   subst this
   simp [Builtin.firstCells]
 | some x =>
   simp only [Builtin.firstCells, aMc]
   by_cases h0 : 0 < m
   .obtain ⟨b, off, e, h2⟩ := hh h0
    have e := aLf e; subst e
    exact aiI (fun i hi => h2 i (by omega)) n hn
   .have h00 : n = 0 := by omega
    subst h00
    simp [loadCells, loadCellsFrom]
theorem aIW {v : aNk} {l : List aNk} (h : Sl w v l) : (Builtin.lenOf v).run P w = .ok l.length w := by
 obtain ⟨x, m, c, rfl, hm, hc, hh⟩ := h
 simp [Builtin.lenOf, hm]
theorem aHG {ty t2 : TypeId} {i : TypeInfo} (hu : P.underlying t = some (.slice e)) (hi : P.info? e = some i) (h1 : i.size = 1) {b off dl c : Nat} {cs : List aNk} (ho : eM w b cs) (hl : off + dl <= cs.length)
 {v : aNk} {l : List aNk} (h : Sl w v l) (hv : ∀ x ∈ l, one x = true) {K : aNk -> aNj -> Prop}
 (hk : ∀ w', eM w' b (bK cs off (l.take (min l.length dl))) -> aW w w' (fun x => x = b) -> w'.heap.size = w.heap.size -> K (.int .i64 (min l.length dl : Nat)) w') :
 aD P (lO .copy #[t, t2] ty [.slice (some ⟨b, off, none⟩) dl c, v]) w K := by
 have hlen : (l.take (min l.length dl)).length = min l.length dl := by rw [aK2]; omega
 obtain ⟨w', s1, s2, s3, s4, _⟩ := Fp (P := P) (M := fun x => x = b) rfl (l.take (min l.length dl)) w off 0 cs ho (by rw [hlen]; omega) (fun x hx => hv x (aMd hx))
 have : (lO .copy #[t, t2] ty [.slice (some ⟨b, off, none⟩) dl c, v]).run P w = .ok (.value (.int .i64 (min l.length dl : Nat))) w' := by
  unfold lO builtin
  simp only [Builtin.copy_, aLX, aKM, aKN]
  simp only [underlying, Sem.run_bind, run_program, Result.andThen_ok, hu, Sem.run_pure, aIW h, kX hi, h1]
  have := azJ (P := P) (n := min l.length dl) rfl h (Nat.min_le_left _ _)
  rw [show (Nat.min l.length dl) = min l.length dl from rfl, this]
  simp only [Result.andThen_ok, s1, goInt]
 unfold aD
 rw [this]
 exact hk w' (by simpa using s2) s3 s4
theorem aBU {i : TypeInfo} {z : aNk} (hu : P.underlying t = some (.slice e)) (hi : P.info? e = some i) (h1 : i.size = 1) (hz : i.zero = some z) (hz1 : one z = true) {n : Int} (h0 : 0 <= n) (hn : i.bytes * n <= 2 ^ 48) (hn2 : n <= 9223372036854775807)
 {K : aNk -> aNj -> Prop}
 (hk : ∀ w', eM w' w.heap.size (List.replicate n.toNat z) -> aW w w' eU -> w'.heap.size = w.heap.size + 1 -> K (.slice (some ⟨w.heap.size, 0, none⟩) n.toNat n.toNat) w') :
 aD P (qA t (.int k n) (.int k n)) w K := by
 have hw : IntKind.i64.wrap n = n := aP (by omega) hn2
 have hcells : z.cells = #[z] := aoJ hz1
 have harr : (Array.range n.toNat).map (fun j => (#[z] : Array aNk)[j % (#[z] : Array aNk).size]!) = (List.replicate n.toNat z).toArray := by
  apply Array.ext
  .simp
  .intro j h1 h2; simp [Nat.mod_one]
 have hz' : (zeroValue e).run P w = .ok z w := by simp [zeroValue, typeInfo, hi, hz]
 have : (qA t (.int k n) (.int k n)).run P w = .ok (.value (.slice (some ⟨w.heap.size, 0, none⟩) n.toNat n.toNat)) (w.alloc (.cells (List.replicate n.toNat z).toArray e)) := by
  unfold qA
  rw [uO]
  have t1 : (decide (n < 0) || decide ((i.bytes : Int) * n > 2 ^ 48) || decide (n < 0) || decide (n > n)) = false := by
   simp only [aMG, decide_eq_false_iff_not]; omega
  by_cases hn0 : n.toNat = 0
  .simp only [Instr.makeSlice, underlying, typeInfo, asInt, asIntOf, pure_bind, Sem.run_bind, run_program, Result.andThen_ok, hu, hi, Sem.run_pure, hw, t1, aKQ, if_false, run_askRoom, kX hi, h1, aMc, hn0, if_true, newRow, run_newObj]
   have : (Array.range 0).map (fun x => (#[] : Array aNk)[x % (#[] : Array aNk).size]!) = (List.replicate 0 z).toArray := by simp
   rw [this]
   rfl
  .simp only [Instr.makeSlice, underlying, typeInfo, asInt, asIntOf, pure_bind, Sem.run_bind, run_program, Result.andThen_ok, hu, hi, Sem.run_pure, hw, t1, aKQ, if_false, run_askRoom, kX hi, h1, aMc, hn0, hz', hcells, newRow, run_newObj, harr]
   rfl
 unfold aD
 rw [this]
 exact hk _ (eM.alloc _ _ _) (aW.alloc _ _ _) (by simp)
end
def Cl (w : aNj) (sz : Nat) (v : aNk) (n : Nat) (l : List aNk) : Prop :=
 ∃ a c, v = .slice a n c /\ l.length = n * sz /\ (0 < n -> ∃ b off, a = some ⟨b, off, none⟩ /\ ∀ i, i < l.length -> w.cell? ⟨b, off + i, none⟩ = l[i]?)
def sM (w : aNj) (base sz : Nat) (v : aNk) (n : Nat) (l : List aNk) : Prop :=
 l.length = n * sz /\ ((v = .slice none 0 0 /\ n = 0) ∨
   ∃ b c rest, v = .slice (some ⟨b, 0, none⟩) n c /\ base <= b /\ eM w b (l ++ rest) /\ (l ++ rest).length = c * sz /\ n <= c)
def OSS (w : aNj) (S : Nat -> Prop) (sz : Nat) (v : aNk) (n : Nat) (l : List aNk) : Prop :=
 l.length = n * sz /\ ((v = .slice none 0 0 /\ n = 0) ∨
   ∃ b c rest, v = .slice (some ⟨b, 0, none⟩) n c /\ S b /\ eM w b (l ++ rest) /\ (l ++ rest).length = c * sz /\ n <= c)
theorem Sl.cl {w : aNj} {v : aNk} {l : List aNk} (h : Sl w v l) : Cl w 1 v l.length l := by
 obtain ⟨a, n, c, rfl, rfl, hc, h⟩ := h
 exact ⟨a, c, rfl, by omega, fun h0 => h h0⟩
theorem eM.cl {w : aNj} {b sz n c off : Nat} {cs l : List aNk} (h : eM w b cs) (hl : l.length = n * sz) (hcs : ∀ i, i < l.length -> cs[off + i]? = l[i]?) : Cl w sz (.slice (some ⟨b, off, none⟩) n c) n l :=
 ⟨_, _, rfl, hl, fun _ => ⟨b, off, rfl, fun i hi => by rw [h.cell, hcs i hi]⟩⟩
theorem sM.nil (w : aNj) (base sz : Nat) : sM w base sz (.slice none 0 0) 0 [] := ⟨by simp, .inl ⟨rfl, rfl⟩⟩
theorem sM.ext {w w' : aNj} {base sz n : Nat} {v : aNk} {l : List aNk} {M : Nat -> Prop} (h : sM w base sz v n l) (hx : aW w w' M) (hM : ∀ b, base <= b -> ¬ M b) : sM w' base sz v n l := by
 refine ⟨h.1, ?_⟩
 rcases h.2 with h2 | ⟨b, c, rest, h1, h2, h3, h4, h5⟩
 .exact .inl h2
 .exact .inr ⟨b, c, rest, h1, h2, h3.ext hx (hM b h2), h4, h5⟩
theorem sM.cl {w : aNj} {base sz n : Nat} {v : aNk} {l : List aNk} (h : sM w base sz v n l) : Cl w sz v n l := by
 rcases h.2 with ⟨rfl, rfl⟩ | ⟨b, c, rest, rfl, h2, h3, h4, h5⟩
 .exact ⟨_, _, rfl, h.1, fun h => by omega⟩
 .refine ⟨_, _, rfl, h.1, fun _ => ⟨b, 0, rfl, fun i hi => ?_⟩⟩
  rw [h3.cell, aKP, aLd hi]
theorem sM.sl {w : aNj} {base n : Nat} {v : aNk} {l : List aNk} (h : sM w base 1 v n l) : Sl w v l := by
 have hl := h.1
 rcases h.2 with ⟨rfl, rfl⟩ | ⟨b, c, rest, rfl, h2, h3, h4, h5⟩
 .exact ⟨_, _, _, rfl, by omega, by omega, fun h => by omega⟩
 .refine ⟨_, _, _, rfl, by omega, h5, fun _ => ⟨b, 0, rfl, fun i hi => ?_⟩⟩
  rw [h3.cell, aKP, aLd (by omega)]
section
variable {P : Program} {w : aNj} {t e : TypeId}
theorem aBz {b off : Nat} {l : List aNk} (h : ∀ i, i < l.length -> w.cell? ⟨b, off + i, none⟩ = l[i]?) : (loadCells ⟨b, off, none⟩ l.length).run P w = .ok l.toArray w := by
 have := aiI (P := P) h l.length (aK1 _)
 rwa [aMz] at this
theorem Cu {sz n : Nat} {v : aNk} {l : List aNk} (h : Cl w sz v n l) : (Builtin.firstCells sz n v).run P w = .ok l.toArray w := by
 obtain ⟨x, c, rfl, hl, hh⟩ := h
 cases x with
 | none =>
   have : n = 0 := by
    rcases aL9 n with h | h
    .exact h
    .obtain ⟨b, off, e, _⟩ := hh h; cases e
   subst this
   have : l = [] := aLq.1 (by omega)
   subst this
   simp [Builtin.firstCells]
 | some x =>
   simp only [Builtin.firstCells]
   rw [<- hl]
   by_cases h0 : 0 < n
   .obtain ⟨b, off, e, h2⟩ := hh h0
    have e := aLf e; subst e
    exact aBz h2
   .have : n = 0 := by omega
    subst this
    have : l = [] := aLq.1 (by omega)
    subst this
    simp [loadCells, loadCellsFrom]
theorem uF (zs : Array aNk) (n : Nat) : (Builtin.zeroCells zs n).size = n * zs.size := by simp [Builtin.zeroCells]
theorem YM (vs : List aNk) : ∀ (aKL rest : List aNk), vs.length <= rest.length -> bK (aKL ++ rest) aKL.length vs = aKL ++ vs ++ rest.drop vs.length := by
 induction vs with
 | nil => intro aKL rest _; simp [bK]
 | cons v vs ih =>
   intro aKL rest h
   cases rest with
   | nil => simp at h
   | cons r rest =>
     have := ih (aKL ++ [v]) rest (by simpa using h)
     simp only [bK, aKV, aLa, List.length_nil, aLj, aLV, aL8] at this ⊢
     rw [aL6, <- this, aMt _ _ (aK1 _), aMw, aKS, aKP]
theorem yN {S : Nat -> Prop} {sz n m : Nat} {i : TypeInfo} {z : aNk} {ty t2 e2 : TypeId} (hu : P.underlying t = some (.slice e)) (hu2 : P.underlying t2 = some (.slice e2)) (hi : P.info? e = some i) (hsz : i.size = sz) (hz : i.zero = some z) (hzs : z.cells.size = sz)
 {v x : aNk} {l news : List aNk} (h : OSS w S sz v n l) (hx : Cl w sz x m news) (hone : ∀ y ∈ news, one y = true) (hb : ∀ b, w.heap.size <= b -> S b)
 (hn : n + m <= 9223372036854775807) (hbytes : (n + m) * i.bytes <= 140737488355328) (_hpos : i.bytes ≠ 0)
 {K : aNk -> aNj -> Prop} (hk : ∀ v' w', OSS w' S sz v' (n + m) (l ++ news) -> aW w w' S -> K v' w') : aD P (lO .append #[t, t2] ty [v, x]) w K := by
 have hlx : (Builtin.lenOf x).run P w = .ok m w := by
  obtain ⟨a, c, rfl, _⟩ := hx; simp [Builtin.lenOf]
 have hnl := hx.choose_spec.choose_spec.2.1
 have hfx := Cu (P := P) hx
 have hmax : IntKind.i64.max = 9223372036854775807 := by decide
 have hnot : ¬ (((n + m : Nat) : Int) > IntKind.i64.max /\ (False ∨ i.bytes = 0)) := by rw [hmax]; omega
 have hz' : ∀ w, (zeroValue e).run P w = .ok z w := fun w => by simp [zeroValue, typeInfo, hi, hz]
 have hlen := h.1
 rcases h.2 with ⟨rfl, rfl⟩ | ⟨b, c, rest, rfl, h2, h3, h4, h5⟩
 .
  have hl0 : l = [] := aLq.1 (by omega)
  subst hl0
  by_cases hm : m = 0
  .subst hm
   have hn0 : news = [] := aLq.1 (by omega)
   subst hn0
   have : (lO .append #[t, t2] ty [.slice none 0 0, x]).run P w = .ok (.value (.slice none 0 0)) w := by
    unfold lO builtin
    simp only [Builtin.append_, aLX, aKM, aKN]
    simp only [underlying, Sem.run_bind, run_program, Result.andThen_ok, hu, hu2, Sem.run_pure, kX hi, hsz, aKQ, if_false, hlx, aK1, aLW, if_true, aLi, hfx]
   unfold aD
   rw [this]
   exact hk _ _ ⟨by simp, .inl ⟨rfl, by omega⟩⟩ (aW.refl _ _)
  .have hfit := growslice_fits (need := 0 + m) (old := 0) (bytes := i.bytes) (by omega) (by omega)
   have hfit' : ¬ (Builtin.nextslicecap (0 + m) 0 * i.bytes > 2 ^ 48) := by omega
   have hle : ¬ (0 + m <= 0) := by omega
   have hq : (Question.appendCap (0 + m) 0 e).forced = false := rfl
   obtain ⟨r, hr⟩ : ∃ r, (Question.appendCap (0 + m) 0 e).cut (w.tape w.drawn (.appendCap (0 + m) 0 e)) = m + r :=
    ⟨(w.tape w.drawn (.appendCap (0 + m) 0 e)) % (2 ^ 63 - (0 + m)), by simp only [Question.cut]; omega⟩
   have : (lO .append #[t, t2] ty [.slice none 0 0, x]).run P w = .ok (.value (.slice (some ⟨w.heap.size, 0, none⟩) (0 + m) (m + r))) ((dr w).alloc (.cells (news ++ (Builtin.zeroCells z.cells (m + r - (0 + m))).toList).toArray e)) := by
    have hfx' := Cu (P := P) (w := dr w) hx
    unfold lO builtin
    simp only [Builtin.append_, aLX, aKM, aKN]
    simp only [underlying, typeInfo, Sem.run_bind, run_program, Result.andThen_ok, hu, hu2, hi, Sem.run_pure, kX hi, hsz, aKQ, if_false, hlx, hle, aLi, if_true, hnot, hfit', run_choose, hq, hr, run_askRoom]
    change ((Sem.run P _ (dr w)).andThen _).andThen _ = _
    simp only [Sem.run_bind, hfx', run_firstCells_none, Result.andThen_ok, hz', Sem.run_pure, newRow, run_newObj]
    have e1 : (#[] ++ news.toArray ++ Builtin.zeroCells z.cells (m + r - (0 + m)) : Array aNk) = (news ++ (Builtin.zeroCells z.cells (m + r - (0 + m))).toList).toArray := by
     apply Array.ext'; simp
    rw [e1]
    rfl
   unfold aD
   rw [this]
   refine hk _ _ ⟨by simp only [aL8]; rw [hnl, aKP], .inr ⟨w.heap.size, m + r, (Builtin.zeroCells z.cells (m + r - (0 + m))).toList, by rw [aKP], hb _ (aK1 _), eM.alloc (dr w) _ _, ?_, by omega⟩⟩ ((aW.dr w _).seq (aW.alloc _ _ _))
   simp only [aL8, aKV, aL5, uF, hzs, hnl]
   rw [show m + r - (0 + m) = r from by omega, aLD]
 .by_cases hc : n + m <= c
  .
   have hroom : news.length <= rest.length := by
    rw [aKV, hlen] at h4
    have : (n + m) * sz <= c * sz := aLk _ hc
    rw [aLD] at this; omega
   obtain ⟨w', s1, s2, s3, s4, _⟩ := Fp (P := P) (M := S) h2 news w (n * sz) 0 (l ++ rest) h3 (by rw [aKV, hlen]; omega) hone
   have : (lO .append #[t, t2] ty [.slice (some ⟨b, 0, none⟩) n c, x]).run P w = .ok (.value (.slice (some ⟨b, 0, none⟩) (n + m) c)) w' := by
    unfold lO builtin
    simp only [Builtin.append_, aLX, aKM, aKN]
    simp only [underlying, Sem.run_bind, run_program, Result.andThen_ok, hu, hu2, Sem.run_pure, kX hi, hsz, aKQ, if_false, hlx, hc, if_true, aLi, hfx, OA, aKP, s1]
   unfold aD
   rw [this]
   rw [aLW, <- hlen, YM _ _ _ hroom] at s2
   refine hk _ _ ⟨by rw [aKV, hlen, hnl, aLD], .inr ⟨b, c, rest.drop news.length, rfl, h2, s2, ?_, hc⟩⟩ s3
   rw [<- h4]; simp; omega
  .
   have hfit := growslice_fits (need := n + m) (old := c) (bytes := i.bytes) (by omega) hbytes
   have hfit' : ¬ (Builtin.nextslicecap (n + m) c * i.bytes > 2 ^ 48) := by omega
   have hq : (Question.appendCap (n + m) c e).forced = false := rfl
   obtain ⟨r, hr⟩ : ∃ r, (Question.appendCap (n + m) c e).cut (w.tape w.drawn (.appendCap (n + m) c e)) = n + m + r :=
    ⟨(w.tape w.drawn (.appendCap (n + m) c e)) % (2 ^ 63 - (n + m)), by simp only [Question.cut]⟩
   have hold : Cl (dr w) sz (.slice (some ⟨b, 0, none⟩) n c) n l := ⟨_, _, rfl, hlen, fun _ => ⟨b, 0, rfl, fun i hi => by
    show w.cell? _ = _
    rw [h3.cell, aKP, aLd hi]⟩⟩
   have : (lO .append #[t, t2] ty [.slice (some ⟨b, 0, none⟩) n c, x]).run P w = .ok (.value (.slice (some ⟨w.heap.size, 0, none⟩) (n + m) (n + m + r))) ((dr w).alloc (.cells (l ++ news ++ (Builtin.zeroCells z.cells (n + m + r - (n + m))).toList).toArray e)) := by
    have hfx' := Cu (P := P) (w := dr w) hx
    have hfo := Cu (P := P) hold
    unfold lO builtin
    simp only [Builtin.append_, aLX, aKM, aKN]
    simp only [underlying, typeInfo, Sem.run_bind, run_program, Result.andThen_ok, hu, hu2, hi, Sem.run_pure, kX hi, hsz, aKQ, if_false, hlx, hc, aLi, if_true, hnot, hfit', run_choose, hq, hr, run_askRoom]
    change ((Sem.run P _ (dr w)).andThen _).andThen _ = _
    simp only [Sem.run_bind, hfx', hfo, Result.andThen_ok, hz', Sem.run_pure, newRow, run_newObj]
    have e1 : (l.toArray ++ news.toArray ++ Builtin.zeroCells z.cells (n + m + r - (n + m)) : Array aNk) = (l ++ news ++ (Builtin.zeroCells z.cells (n + m + r - (n + m))).toList).toArray := by
     apply Array.ext'; simp
    rw [e1]
    rfl
   unfold aD
   rw [this]
   refine hk _ _ ⟨by rw [aKV, hlen, hnl, aLD], .inr ⟨w.heap.size, n + m + r, _, rfl, hb _ (aK1 _), eM.alloc (dr w) _ _, ?_, by omega⟩⟩ ((aW.dr w _).seq (aW.alloc _ _ _))
   simp only [aKV, aL5, uF, hzs, hnl, hlen]
   rw [show n + m + r - (n + m) = r from by omega, aLD, aLD]
theorem Ns {base sz n m : Nat} {i : TypeInfo} {z : aNk} {ty t2 e2 : TypeId} (hu : P.underlying t = some (.slice e)) (hu2 : P.underlying t2 = some (.slice e2)) (hi : P.info? e = some i) (hsz : i.size = sz) (hz : i.zero = some z) (hzs : z.cells.size = sz)
 {v x : aNk} {l news : List aNk} (h : sM w base sz v n l) (hx : Cl w sz x m news) (hone : ∀ y ∈ news, one y = true) (hb : base <= w.heap.size)
 (hn : n + m <= 9223372036854775807) (hbytes : (n + m) * i.bytes <= 140737488355328) (_hpos : i.bytes ≠ 0)
 {K : aNk -> aNj -> Prop} (hk : ∀ v' w', sM w' base sz v' (n + m) (l ++ news) -> aW w w' (fun y => base <= y) -> K v' w') : aD P (lO .append #[t, t2] ty [v, x]) w K :=
 yN (S := fun y => base <= y) hu hu2 hi hsz hz hzs h hx hone (fun _ h => aLT hb h) hn hbytes _hpos hk
end
section
variable {P : Program} {w : aNj} {t e : TypeId}
theorem HJ {i : TypeInfo} {z : aNk} {n : Nat} {ps : List (Nat × aNk)} {cells : Array aNk} (hu : P.underlying t = some (.slice e)) (hi : P.info? e = some i) (hz : i.zero = some z)
 (h1 : ¬ n * i.size > 2 ^ 24) (h0 : ¬ n * i.size = 0) (hf : Instr.fill (fun j => some (j * i.size, i.size)) ((Array.range (n * i.size)).map (z.cells[· % z.cells.size]!)) ps = some cells)
 {K : aNk -> aNj -> Prop} (hk : ∀ w', eM w' w.heap.size cells.toList -> aW w w' eU -> w'.heap.size = w.heap.size + 1 -> K (.slice (some ⟨w.heap.size, 0, none⟩) n n) w') :
 aD P (cT t n ps) w K := by
 have hz' : (zeroValue e).run P w = .ok z w := by simp [zeroValue, typeInfo, hi, hz]
 have : (cT t n ps).run P w = .ok (.value (.slice (some ⟨w.heap.size, 0, none⟩) n n)) (w.alloc (.cells cells.toList.toArray e)) := by
  unfold cT; rw [uO]
  simp only [Instr.buildSlice, underlying, pure_bind, Sem.run_bind, run_program, Result.andThen_ok, hu, Sem.run_pure, kX hi, h1, h0, if_false, hz', hf, newRow, run_newObj]
  rfl
 unfold aD
 rw [this]
 exact hk _ (eM.alloc _ _ _) (aW.alloc _ _ _) (by simp)
theorem eM.mark {b : Nat} {cs : List aNk} (h : eM w b cs) : eM (w.freeze ⟨b, cs.length, none⟩ 1) b cs := by
 have hb := h.lt
 obtain ⟨T, lo, hi, h, k⟩ := h
 by_cases hlh : (lo == hi) = true
 .refine ⟨T, cs.length, cs.length + 1, ?_, .inl (aK1 _)⟩
  show (w.heap.modify b _)[b]? = _
  rw [aMT, if_pos rfl, h]
  have hlh : lo = hi := by simpa using hlh
  simp [hlh]
 .refine ⟨T, min lo cs.length, max hi (cs.length + 1), ?_, .inl ?_⟩
  .show (w.heap.modify b _)[b]? = _
   rw [aMT, if_pos rfl, h]
   have hlh : ¬ lo = hi := by simpa using hlh
   simp [hlh]
  .rcases k with k | k
   .omega
   .exfalso; apply hlh; rw [k]; simp
theorem aW.mark (w : aNj) (a : Addr) : aW w (w.freeze a 1) (fun y => y = a.block) :=
 ⟨rfl, rfl, rfl, by show _ <= (w.heap.modify _ _).size; simp, fun b hb hn => by
  show (w.heap.modify a.block _)[b]? = _
  rw [aMT]
  rw [if_neg (fun h => hn h.symm)]⟩
end
section
variable {P : Program} {w : aNj} {t e : TypeId}
def Grown (es : Array MapEntry) (clock : Nat) : Prop := (es.toList.map (·.born)).Pairwise (· < ·) /\ ∀ e ∈ es.toList, e.born < clock
def Mp {κ : Type} (w : aNj) (m : Nat) (enc : κ -> aNk) (l : List (κ × aNk)) : Prop :=
 ∃ es clock, w.heap[m]? = some (.map es clock) /\ es.toList.map (fun e => (e.key, e.val)) = l.map (fun p => (enc p.1, p.2)) /\ Grown es clock /\ (l.map (·.1)).Nodup
theorem Mp.lt {κ : Type} {m : Nat} {enc : κ -> aNk} {l : List (κ × aNk)} (h : Mp w m enc l) : m < w.heap.size := by
 obtain ⟨es, c, h, _⟩ := h
 rcases aK9 m w.heap.size with h' | h'
 .exact h'
 .rw [aMj h'] at h; cases h
theorem Mp.ext {κ : Type} {w w' : aNj} {m : Nat} {enc : κ -> aNk} {l : List (κ × aNk)} {M : Nat -> Prop} (h : Mp w m enc l) (hx : aW w w' M) (hM : ¬ M m) : Mp w' m enc l := by
 have := h.lt
 obtain ⟨es, c, h, k⟩ := h
 exact ⟨es, c, by rw [hx.keep m this hM]; exact h, k⟩
theorem Mp.dr {κ : Type} {w : aNj} {m : Nat} {enc : κ -> aNk} {l : List (κ × aNk)} (h : Mp w m enc l) : Mp (dr w) m enc l := h
variable {κ : Type} [DecidableEq κ] {enc : κ -> aNk}
end
theorem jW {w : aNj} {b : Nat} {cs : List aNk} (h : eM w b cs) : eM (dr w) b cs := h.ext (aW.dr w eU) (fun h => h)
theorem Sl.dr {w : aNj} {v : aNk} {l : List aNk} (h : Sl w v l) : Sl (dr w) v l := h
theorem Sl.open {w : aNj} {v : aNk} {l : List UInt8} (h : Bs w v l) (h0 : 0 < l.length) : ∃ b off c, v = .slice (some ⟨b, off, none⟩) l.length c /\ l.length <= c /\ ∀ i, (h : i < l.length) -> w.cell? ⟨b, off + i, none⟩ = some (vC l[i]) := by
 obtain ⟨a, n, c, rfl, hn, hc, h⟩ := h
 simp only [aKZ] at hn
 subst hn
 obtain ⟨b, off, rfl, hh⟩ := h h0
 exact ⟨b, off, c, rfl, hc, fun i hi => by rw [hh i hi]; simp [hi]⟩
theorem Sl.len {w : aNj} {v : aNk} {l : List aNk} (h : Sl w v l) : ∃ a c, v = .slice a l.length c /\ l.length <= c := by
 obtain ⟨a, n, c, rfl, rfl, hc, _⟩ := h
 exact ⟨a, c, rfl, hc⟩
theorem bZ (v : aNk) : ¬ inB v eU := by unfold inB eU; split <;> simp
theorem axW {b o m l : Nat} (h : l ≠ m) : mU (some ⟨b, o, none⟩) m l 1 = some ⟨b, o + l, none⟩ := by
 unfold mU; rw [if_neg (fun e => h e.symm)]; simp [OA]
theorem agY {v : aNk} {M N : Nat -> Prop} (h : inB v M) (hm : ∀ b, M b -> N b) : inB v N := by
 unfold inB at *
 split at h
 .exact hm _ h
 .exact h
theorem sM.len {w : aNj} {b sz n : Nat} {v : aNk} {l : List aNk} (h : sM w b sz v n l) : ∃ a c, v = .slice a n c := by
 rcases h.2 with ⟨rfl, rfl⟩ | ⟨x, c, r, rfl, _⟩
 .exact ⟨_, _, rfl⟩
 .exact ⟨_, _, rfl⟩
theorem sM.lower {w : aNj} {a b sz n : Nat} {v : aNk} {l : List aNk} (h : sM w b sz v n l) (hab : a <= b) : sM w a sz v n l := by
 refine ⟨h.1, ?_⟩
 rcases h.2 with h | ⟨x, c, r, h1, h2, h3⟩
 .exact .inl h
 .exact .inr ⟨x, c, r, h1, by omega, h3⟩
theorem Sl.nil (w : aNj) : Sl w (.slice none 0 0) [] := ⟨none, 0, 0, rfl, rfl, aK1 _, fun h => absurd h (by simp)⟩
theorem Sl.take' {w : aNj} {a : Option Addr} {n c : Nat} {l : List aNk} (h : Sl w (.slice a n c) l) {k : Nat} (hk : k <= n) : Sl w (.slice (mU a c 0 1) (k - 0) (c - 0)) (l.take k) := by
 have h' := h
 obtain ⟨a', n', c', e, hn, hc, hh⟩ := h'
 cases e
 by_cases h0 : k = 0
 .subst h0
  exact ⟨_, _, _, rfl, by simp, by omega, fun h => by simp at h⟩
 .obtain ⟨b, off, rfl, _⟩ := hh (by omega)
  exact h.take hk
theorem Sl.drop' {w : aNj} {a : Option Addr} {n c : Nat} {l : List aNk} (h : Sl w (.slice a n c) l) {k : Nat} (hk : k <= n) : Sl w (.slice (mU a c k 1) (n - k) (c - k)) (l.drop k) := by
 have h' := h
 obtain ⟨a', n', c', e, hn, hc, hh⟩ := h'
 cases e
 by_cases h0 : n = 0
 .exact ⟨_, _, _, rfl, by rw [aK7]; omega, by omega, fun h => by omega⟩
 .obtain ⟨b, off, rfl, _⟩ := hh (by omega)
  exact h.drop hk
theorem Sl.mid {w : aNj} {a : Option Addr} {n c : Nat} {l : List aNk} (h : Sl w (.slice a n c) l) {i j : Nat} (hij : i <= j) (hj : j <= n) : Sl w (.slice (mU a c i 1) (j - i) (c - i)) ((l.drop i).take (j - i)) := by
 have h' := h
 obtain ⟨a', n', c', e, hn, hc, hh⟩ := h'
 cases e
 by_cases h0 : j - i = 0
 .rw [h0]
  exact ⟨_, _, _, rfl, by simp, by omega, fun h => by omega⟩
 .obtain ⟨b, off, rfl, _⟩ := hh (by omega)
  have hd := h.drop (k := i) (by omega)
  obtain ⟨a', n', c', e, hn', hc', hh'⟩ := hd
  obtain ⟨b', off', e', h2⟩ := hh' (by have := (Value.slice.inj e).2.1; omega)
  injection e with e1 e2 e3
  subst e3
  refine ⟨_, _, _, rfl, by rw [aK2, aK7]; omega, by omega, fun _ => ⟨b', off', by rw [e1]; exact e', fun x hx => ?_⟩⟩
  rw [h2 x (by omega), aLB hx]
theorem Sl.openV {w : aNj} {v : aNk} {l : List aNk} (h : Sl w v l) (h0 : 0 < l.length) : ∃ b off c, v = .slice (some ⟨b, off, none⟩) l.length c /\ l.length <= c /\ ∀ i, (h : i < l.length) -> w.cell? ⟨b, off + i, none⟩ = some l[i] := by
 obtain ⟨a, n, c, rfl, hn, hc, h⟩ := h
 subst hn
 obtain ⟨b, off, rfl, hh⟩ := h h0
 exact ⟨b, off, c, rfl, hc, fun i hi => by rw [hh i hi]; simp [hi]⟩
theorem Sl.openI {w : aNj} {v : aNk} {k : IntKind} {l : List Int} (h : Sl w v (l.map (Value.int k))) (h0 : 0 < l.length) : ∃ b off c, v = .slice (some ⟨b, off, none⟩) l.length c /\ l.length <= c /\ ∀ i, (h : i < l.length) -> w.cell? ⟨b, off + i, none⟩ = some (.int k l[i]) := by
 obtain ⟨b, off, c, e, hc, hh⟩ := h.openV (by simpa using h0)
 simp only [aKZ] at e hc hh
 exact ⟨b, off, c, e, hc, fun i hi => by rw [hh i hi]; simp⟩
theorem Sl.lenI {w : aNj} {v : aNk} {k : IntKind} {l : List Int} (h : Sl w v (l.map (Value.int k))) : ∃ a c, v = .slice a l.length c /\ l.length <= c := by
 obtain ⟨a, c, e, hc⟩ := h.len
 simp only [aKZ] at e hc
 exact ⟨a, c, e, hc⟩
def Fh (n : Nat) (l : List aNk) : List aNk := (List.replicate n l).flatten
theorem agC (n : Nat) (l : List aNk) : (Fh n l).length = n * l.length := by
 unfold Fh; rw [List.length_flatten]; simp
theorem aFJ : ∀ (n : Nat) (l : List aNk) (j : Nat) (_ : j < n * l.length) (h0 : 0 < l.length), (Fh n l)[j]? = some (l[j % l.length]'(aMP _ h0)) := by
 intro n
 induction n with
 | zero => intro l j h; simp at h
 | succ n ih =>
   intro l j h h0
   unfold Fh
   rw [aLy, aMF]
   by_cases hj : j < l.length
   .rw [aLd hj, aKW hj]
    simp only [aLt hj]
   .rw [aLS (by omega)]
    have := ih l (j - l.length) (by rw [Nat.succ_mul] at h; omega) h0
    unfold Fh at this
    rw [this]
    simp only [<- Nat.mod_eq_sub_mod (show j ≥ l.length by omega)]
theorem aoP {P : Program} {w : aNj} {t e : TypeId} {k : IntKind} {i : TypeInfo} {z : aNk} {sz : Nat} (hu : P.underlying t = some (.slice e)) (hi : P.info? e = some i) (h1 : i.size = sz) (hsz : 0 < sz) (hz : i.zero = some z) (hz1 : z.cells.size = sz) {n : Int} (h0 : 0 <= n) (hn : i.bytes * n <= 2 ^ 48) (hn2 : n <= 9223372036854775807)
 {K : aNk -> aNj -> Prop}
 (hk : ∀ w', eM w' w.heap.size (Fh n.toNat z.cells.toList) -> aW w w' eU -> w'.heap.size = w.heap.size + 1 -> K (.slice (some ⟨w.heap.size, 0, none⟩) n.toNat n.toNat) w') :
 aD P (qA t (.int k n) (.int k n)) w K := by
 have hw : IntKind.i64.wrap n = n := aP (by omega) hn2
 have hl : z.cells.toList.length = sz := by simpa using hz1
 have harr : (Array.range (n.toNat * sz)).map (fun j => z.cells[j % z.cells.size]!) = (Fh n.toNat z.cells.toList).toArray := by
  apply Array.ext
  .simp [agC, hz1]
  .intro j h1 h2
   have hj : j < n.toNat * sz := by simpa using h1
   have := aFJ n.toNat z.cells.toList j (by rw [hl]; exact hj) (by rw [hl]; exact hsz)
   have hm : j % z.cells.size < z.cells.size := aMP _ (by omega)
   simp only [Array.getElem_map, Array.getElem_range, List.getElem_toArray]
   rw [getElem!_pos z.cells _ hm]
   rw [aKW (by rw [agC, hl]; exact hj)] at this
   have := aLf this
   rw [this]
   simp
 have hz' : (zeroValue e).run P w = .ok z w := by simp [zeroValue, typeInfo, hi, hz]
 have : (qA t (.int k n) (.int k n)).run P w = .ok (.value (.slice (some ⟨w.heap.size, 0, none⟩) n.toNat n.toNat)) (w.alloc (.cells (Fh n.toNat z.cells.toList).toArray e)) := by
  unfold qA
  rw [uO]
  have t1 : (decide (n < 0) || decide ((i.bytes : Int) * n > 2 ^ 48) || decide (n < 0) || decide (n > n)) = false := by
   simp only [aMG, decide_eq_false_iff_not]; omega
  by_cases hn0 : n.toNat * sz = 0
  .simp only [Instr.makeSlice, underlying, typeInfo, asInt, asIntOf, pure_bind, Sem.run_bind, run_program, Result.andThen_ok, hu, hi, Sem.run_pure, hw, t1, aKQ, if_false, run_askRoom, kX hi, h1, hn0, if_true, newRow, run_newObj]
   have hn : n.toNat = 0 := by rcases Nat.mul_eq_zero.1 hn0 with h | h <;> omega
   have : (Array.range 0).map (fun x => (#[] : Array aNk)[x % (#[] : Array aNk).size]!) = (Fh n.toNat z.cells.toList).toArray := by rw [hn]; simp [Fh]
   rw [this]
   rfl
  .simp only [Instr.makeSlice, underlying, typeInfo, asInt, asIntOf, pure_bind, Sem.run_bind, run_program, Result.andThen_ok, hu, hi, Sem.run_pure, hw, t1, aKQ, if_false, run_askRoom, kX hi, h1, hn0, hz', newRow, run_newObj, harr]
   rfl
 unfold aD
 rw [this]
 exact hk _ (eM.alloc _ _ _) (aW.alloc _ _ _) (by simp)
abbrev T3 := Int × Int × Int
def fe (k : IntKind) : List T3 -> List aNk
 | [] => []
 | e :: r => .int k e.1 :: .int .i64 e.2.1 :: .int .i64 e.2.2 :: fe k r
theorem pS (k : IntKind) : ∀ L : List T3, (fe k L).length = L.length * 3
 | [] => rfl
 | e :: r => by simp [fe, pS k r]; omega
theorem aAk (k : IntKind) : ∀ L M : List T3, fe k (L ++ M) = fe k L ++ fe k M
 | [], _ => rfl
 | e :: r, M => by simp [fe, aAk k r M]
theorem V6 (k : IntKind) : ∀ (L : List T3) (i : Nat) (h : i < L.length), (fe k L)[i * 3]? = some (.int k L[i].1) /\ (fe k L)[i * 3 + 1]? = some (.int .i64 L[i].2.1) /\ (fe k L)[i * 3 + 2]? = some (.int .i64 L[i].2.2)
 | [], i, h => by simp at h
 | e :: r, 0, _ => ⟨rfl, rfl, rfl⟩
 | e :: r, i + 1, h => by
   have := V6 k r i (by simpa using h)
   rw [aLD]
   exact this
theorem alZ (k : IntKind) : ∀ (L : List T3) (i : Nat) (h : i < L.length) (x : Int), (fe k L).set (i * 3) (.int k x) = fe k (L.set i (x, L[i].2)) /\ (fe k L).set (i * 3 + 1) (.int .i64 x) = fe k (L.set i (L[i].1, x, L[i].2.2)) /\ (fe k L).set (i * 3 + 2) (.int .i64 x) = fe k (L.set i (L[i].1, L[i].2.1, x))
 | [], i, h, _ => by simp at h
 | e :: r, 0, _, x => ⟨rfl, rfl, rfl⟩
 | e :: r, i + 1, h, x => by
   have := alZ k r i (by simpa using h) x
   rw [aLD]
   obtain ⟨h1, h2, h3⟩ := this
   refine ⟨?_, ?_, ?_⟩
   .show (_ :: _ :: _ :: (fe k r).set (i * 3) _) = _; rw [h1] <;> rfl
   .show (_ :: _ :: _ :: (fe k r).set (i * 3 + 1) _) = _; rw [h2] <;> rfl
   .show (_ :: _ :: _ :: (fe k r).set (i * 3 + 2) _) = _; rw [h3] <;> rfl
theorem aEU (k : IntKind) (x : Int) : ∀ n : Nat, Fh n [.int k x, .int .i64 0, .int .i64 0] = fe k (List.replicate n (x, 0, 0))
 | 0 => rfl
 | n + 1 => by
   have := aEU k x n
   unfold Fh at this ⊢
   rw [aLy, aMF, this, aLy] <;> rfl
theorem aDs {P : Program} {w : aNj} {t e : TypeId} {k k' : IntKind} {hi mx : Int} {i : TypeInfo} (hu : P.underlying t = some (.slice e)) (hi' : P.info? e = some i) (x : Option Addr) (n c : Nat) (h0 : 0 <= hi) (h1 : hi <= mx) (h2 : mx <= c) :
 (lX t (.slice x n c) none (some (.int k hi)) (some (.int k' mx))).run P w = .ok (.value (.slice (mU x mx.toNat 0 i.size) (hi.toNat - 0) (mx.toNat - 0))) w := by
 have h3 : (0 : Int) <= mx := by omega
 have h4 : hi <= (mx.toNat : Int) := by omega
 simp only [lX, uO, Instr.sliceAt, underlying, hu, Sem.run_bind, run_program, Result.andThen_ok, Sem.run_pure, Instr.slice, Instr.sliceBounds, pure_bind, Ai h3 h2, Ai h0 h4, kX hi', mU]
end Go.En
namespace Go.Proofs.YtgpimhlgaokobaaGreat
open Go Go.En
set_option maxRecDepth 4000
theorem aV {ty : TypeId} (x : Option Addr) (n c : Nat) (w : aNj) : (lO .len #[22] ty [.slice x n c]).run pg w = .ok (.value (.int .i64 n)) w := aaA Tryz.underlying22 x n c
theorem dW {l : List UInt8} {v : aNk} {w : aNj} (h : Bs w v l) : (jO 22 9 v).run pg w = .ok (.value (.string ⟨l.toArray⟩)) w := aG7 Tryz.underlying22 Tryz.underlying9 Tryz.underlying5 h
theorem aEB : (pg).info? 26 = some Tryz.t26 := by kernel_rfl
theorem wL {w : aNj} {K : aNk -> aNj -> Prop} (hk : ∀ w', eM w' w.heap.size [(.int .u64 0), (.int .u64 0), (.int .i64 0), (.int .u64 0), (.int .u64 0)] -> aW w w' eU -> w'.heap.size = w.heap.size + 1 -> K (.pointer (some ⟨w.heap.size, 0, none⟩)) w') : aD pg (fP 26) w K := oM (i := Tryz.t26) aEB rfl hk
theorem pU {b off : Nat} {cs : List aNk} {w : aNj} {xs : Array aNk} {K : aNk -> aNj -> Prop} (ho : eM w b cs) (hs : xs.size = 5) (hv : ∀ x ∈ xs.toList, one x = true) (h : off + 5 <= cs.length) (hk : ∀ w', eM w' b (bK cs off xs.toList) -> aW w w' (fun x => x = b) -> w'.heap.size = w.heap.size -> K undef w') : aD pg (aR 26 (.pointer (some ⟨b, off, none⟩)) (.agg xs)) w K := pV (v := .agg xs) aEB ho hs hv h hk
theorem axH : (pg).info? 24 = some Tryz.t24 := by kernel_rfl
theorem aQ (b o : Nat) (w : aNj) : (aJ 26 (.pointer (some ⟨b, o, none⟩)) 3).run pg w = .ok (.value (.pointer (some ⟨b, o + 3, none⟩))) w := jJ (i := 3) Tryz.underlying26 rfl axH (by decide) _
theorem gC (x : Addr) (w : aNj) : (aL 24 (.pointer (some x))).run pg w = ldC (w.cell? x) w (far pg 24 x w) := afQ Tryz.underlying24 rfl x w
theorem dS {ty : TypeId} (x : ByteArray) (w : aNj) : (lO .len #[9] ty [.string x]).run pg w = .ok (.value (.int .i64 x.size)) w := aI2 Tryz.underlying9 x
theorem jA {k : IntKind} {a : Int} (x : ByteArray) (w : aNj) (h0 : 0 <= a) (h1 : a.toNat < x.size) : (D6 9 (.string x) (.int k a)).run pg w = .ok (.value (.int .u8 (x[a.toNat]'h1).toNat)) w := aIU Tryz.underlying9 x h0 h1
theorem Sm : (pg).info? 5 = some Tryz.t5 := by kernel_rfl
theorem dM {k : IntKind} {a : Int} (b o n c : Nat) (w : aNj) (h0 : 0 <= a) (h1 : a < n) : (cI 22 (.slice (some ⟨b, o, none⟩) n c) (.int k a)).run pg w = .ok (.value (.pointer (some ⟨b, o + a.toNat, none⟩))) w := Xq rfl Tryz.underlying22 Sm b o n c h0 h1
theorem iH (x : Addr) (w : aNj) : (aL 5 (.pointer (some x))).run pg w = ldC (w.cell? x) w (far pg 5 x w) := afQ Tryz.underlying5 rfl x w
theorem dT {k : IntKind} (a : Int) (w : aNj) : (jO 5 3 (.int k a)).run pg w = .ok (.value (.int .i64 (IntKind.i64.wrap a))) w := HK Tryz.underlying5 Tryz.underlying3
theorem sF {ox oy : Operand} (c d : Bool) (w : aNj) : (aI .eql 4 ox oy (.bool c) (.bool d)).run pg w = .ok (.value (.bool (c == d))) w := aJg c d Tryz.underlying4
theorem oZ {n : Nat} {ps : List (Nat × aNk)} {cells : Array aNk} {w : aNj} (h1 : ¬ n * 1 > 2 ^ 24) (h0 : ¬ n * 1 = 0) (hf : Go.Instr.fill (fun j => some (j * 1, 1)) ((Array.range (n * 1)).map ((Tryz.t5.zero.get!).cells[· % (Tryz.t5.zero.get!).cells.size]!)) ps = some cells) {K : aNk -> aNj -> Prop} (hk : ∀ w', eM w' w.heap.size cells.toList -> aW w w' eU -> w'.heap.size = w.heap.size + 1 -> K (.slice (some ⟨w.heap.size, 0, none⟩) n n) w') : aD pg (cT 22 n ps) w K := HJ (i := Tryz.t5) Tryz.underlying22 Sm rfl h1 h0 hf hk
theorem vF {b off : Nat} {cs : List aNk} {w : aNj} (ho : eM w b cs) (h : off + 5 <= cs.length) {K : aNk -> Prop} (hk : K (.agg ((cs.drop off).take 5).toArray)) : zN pg 26 (.pointer (some ⟨b, off, none⟩)) w K := FP Tryz.underlying26 rfl aEB ho h hk
theorem Ap {b off : Nat} {cs : List aNk} {w : aNj} (ho : eM w b cs) (h : off + 5 <= cs.length) : (aL 26 (.pointer (some ⟨b, off, none⟩))).run pg w = .ok (.value (.agg ((cs.drop off).take 5).toArray)) w := zK Tryz.underlying26 rfl aEB ho h
theorem iP {k : IntKind} (a : Int) (w : aNj) : (jO 5 24 (.int k a)).run pg w = .ok (.value (.int .u64 (IntKind.u64.wrap a))) w := HK Tryz.underlying5 Tryz.underlying24
theorem aY (b o : Nat) (w : aNj) : (aJ 26 (.pointer (some ⟨b, o, none⟩)) 0).run pg w = .ok (.value (.pointer (some ⟨b, o, none⟩))) w := jJ (i := 0) Tryz.underlying26 rfl axH (by decide) _
theorem Mx {b off : Nat} {cs : List aNk} {w : aNj} {v : aNk} {K : aNk -> aNj -> Prop} (ho : eM w b cs) (hv : one v = true) (h : off < cs.length) (hk : ∀ w', eM w' b (cs.set off v) -> aW w w' (fun x => x = b) -> w'.heap.size = w.heap.size -> K undef w') : aD pg (aR 24 (.pointer (some ⟨b, off, none⟩)) v) w K := uT axH rfl ho hv h hk
theorem cC (b o : Nat) (w : aNj) : (aJ 26 (.pointer (some ⟨b, o, none⟩)) 1).run pg w = .ok (.value (.pointer (some ⟨b, o + 1, none⟩))) w := jJ (i := 1) Tryz.underlying26 rfl axH (by decide) _
theorem A2 : (pg).info? 3 = some Tryz.t3 := by kernel_rfl
theorem Xu {n : Nat} {ps : List (Nat × aNk)} {cells : Array aNk} {w : aNj} (h1 : ¬ n * 1 > 2 ^ 24) (h0 : ¬ n * 1 = 0) (hf : Go.Instr.fill (fun j => some (j * 1, 1)) ((Array.range (n * 1)).map ((Tryz.t3.zero.get!).cells[· % (Tryz.t3.zero.get!).cells.size]!)) ps = some cells) {K : aNk -> aNj -> Prop} (hk : ∀ w', eM w' w.heap.size cells.toList -> aW w w' eU -> w'.heap.size = w.heap.size + 1 -> K (.slice (some ⟨w.heap.size, 0, none⟩) n n) w') : aD pg (cT 42 n ps) w K := HJ (i := Tryz.t3) Tryz.underlying42 A2 rfl h1 h0 hf hk
theorem iB {k : IntKind} {a : Int} (b o n c : Nat) (w : aNj) (h0 : 0 <= a) (h1 : a < n) : (cI 42 (.slice (some ⟨b, o, none⟩) n c) (.int k a)).run pg w = .ok (.value (.pointer (some ⟨b, o + a.toNat, none⟩))) w := Xq rfl Tryz.underlying42 A2 b o n c h0 h1
theorem bO (x : Addr) (w : aNj) : (aL 3 (.pointer (some x))).run pg w = ldC (w.cell? x) w (far pg 3 x w) := afQ Tryz.underlying3 rfl x w
theorem bR (b o : Nat) (w : aNj) : (aJ 26 (.pointer (some ⟨b, o, none⟩)) 2).run pg w = .ok (.value (.pointer (some ⟨b, o + 2, none⟩))) w := jJ (i := 2) Tryz.underlying26 rfl A2 (by decide) _
theorem oY {b off : Nat} {cs : List aNk} {w : aNj} {v : aNk} {K : aNk -> aNj -> Prop} (ho : eM w b cs) (hv : one v = true) (h : off < cs.length) (hk : ∀ w', eM w' b (cs.set off v) -> aW w w' (fun x => x = b) -> w'.heap.size = w.heap.size -> K undef w') : aD pg (aR 3 (.pointer (some ⟨b, off, none⟩)) v) w K := uT A2 rfl ho hv h hk
theorem aiK {n : Nat} {ps : List (Nat × aNk)} {cells : Array aNk} {w : aNj} (h1 : ¬ n * 1 > 2 ^ 24) (h0 : ¬ n * 1 = 0) (hf : Go.Instr.fill (fun j => some (j * 1, 1)) ((Array.range (n * 1)).map ((Tryz.t24.zero.get!).cells[· % (Tryz.t24.zero.get!).cells.size]!)) ps = some cells) {K : aNk -> aNj -> Prop} (hk : ∀ w', eM w' w.heap.size cells.toList -> aW w w' eU -> w'.heap.size = w.heap.size + 1 -> K (.slice (some ⟨w.heap.size, 0, none⟩) n n) w') : aD pg (cT 43 n ps) w K := HJ (i := Tryz.t24) Tryz.underlying43 axH rfl h1 h0 hf hk
theorem kQ {k : IntKind} {a : Int} (b o n c : Nat) (w : aNj) (h0 : 0 <= a) (h1 : a < n) : (cI 43 (.slice (some ⟨b, o, none⟩) n c) (.int k a)).run pg w = .ok (.value (.pointer (some ⟨b, o + a.toNat, none⟩))) w := Xq rfl Tryz.underlying43 axH b o n c h0 h1
theorem dF (s0 : ByteArray) (w : aNj) : (fV 45 [(0, (.string s0))]).run pg w = .ok (.value (.agg #[(.string s0), (.int .i64 0)])) w := by kernel_rfl
theorem aEL : (pg).info? 45 = some Tryz.t45 := by kernel_rfl
theorem sX {w : aNj} {K : aNk -> aNj -> Prop} (hk : ∀ w', eM w' w.heap.size [(.string ⟨#[]⟩), (.int .i64 0)] -> aW w w' eU -> w'.heap.size = w.heap.size + 1 -> K (.pointer (some ⟨w.heap.size, 0, none⟩)) w') : aD pg (fP 45) w K := oM (i := Tryz.t45) aEL rfl hk
theorem lV {b off : Nat} {cs : List aNk} {w : aNj} {xs : Array aNk} {K : aNk -> aNj -> Prop} (ho : eM w b cs) (hs : xs.size = 2) (hv : ∀ x ∈ xs.toList, one x = true) (h : off + 2 <= cs.length) (hk : ∀ w', eM w' b (bK cs off xs.toList) -> aW w w' (fun x => x = b) -> w'.heap.size = w.heap.size -> K undef w') : aD pg (aR 45 (.pointer (some ⟨b, off, none⟩)) (.agg xs)) w K := pV (v := .agg xs) aEL ho hs hv h hk
theorem aEF : (pg).info? 27 = some Tryz.t27 := by kernel_rfl
theorem bW (b o : Nat) (w : aNj) : (aJ 45 (.pointer (some ⟨b, o, none⟩)) 1).run pg w = .ok (.value (.pointer (some ⟨b, o + 1, none⟩))) w := jJ (i := 1) Tryz.underlying45 rfl aEF (by decide) _
theorem gQ (x : Addr) (w : aNj) : (aL 27 (.pointer (some x))).run pg w = ldC (w.cell? x) w (far pg 27 x w) := afQ Tryz.underlying27 rfl x w
theorem bY (b o : Nat) (w : aNj) : (aJ 26 (.pointer (some ⟨b, o, none⟩)) 4).run pg w = .ok (.value (.pointer (some ⟨b, o + 4, none⟩))) w := jJ (i := 4) Tryz.underlying26 rfl axH (by decide) _
theorem aEP : (pg).info? 49 = some Tryz.t49 := by kernel_rfl
theorem BM {w : aNj} {K : aNk -> aNj -> Prop} (hk : ∀ w', eM w' w.heap.size [(.int .i64 0), (.int .i64 0), (.int .i64 0), (.int .i64 0), (.int .i64 0)] -> aW w w' eU -> w'.heap.size = w.heap.size + 1 -> K (.pointer (some ⟨w.heap.size, 0, none⟩)) w') : aD pg (fP 49) w K := oM (i := Tryz.t49) aEP rfl hk
theorem rD {b off : Nat} {cs : List aNk} {w : aNj} {xs : Array aNk} {K : aNk -> aNj -> Prop} (ho : eM w b cs) (hs : xs.size = 5) (hv : ∀ x ∈ xs.toList, one x = true) (h : off + 5 <= cs.length) (hk : ∀ w', eM w' b (bK cs off xs.toList) -> aW w w' (fun x => x = b) -> w'.heap.size = w.heap.size -> K undef w') : aD pg (aR 49 (.pointer (some ⟨b, off, none⟩)) (.agg xs)) w K := pV (v := .agg xs) aEP ho hs hv h hk
theorem bG (b o : Nat) (w : aNj) : (aJ 49 (.pointer (some ⟨b, o, none⟩)) 2).run pg w = .ok (.value (.pointer (some ⟨b, o + 2, none⟩))) w := jJ (i := 2) Tryz.underlying49 rfl A2 (by decide) _
theorem eH {k : IntKind} {lo : Int} (a : Option Addr) (n c : Nat) (w : aNj) (h0 : 0 <= lo) (h1 : lo <= n) : (lX 22 (.slice a n c) (some (.int k lo)) none none).run pg w = .ok (.value (.slice (mU a c (lo.toNat) 1) (n - lo.toNat) (c - lo.toNat))) w := ayR Tryz.underlying22 Sm _ n c h0 h1
theorem cN (b o : Nat) (w : aNj) : (aJ 49 (.pointer (some ⟨b, o, none⟩)) 0).run pg w = .ok (.value (.pointer (some ⟨b, o, none⟩))) w := jJ (i := 0) Tryz.underlying49 rfl A2 (by decide) _
theorem bP (b o : Nat) (w : aNj) : (aJ 49 (.pointer (some ⟨b, o, none⟩)) 3).run pg w = .ok (.value (.pointer (some ⟨b, o + 3, none⟩))) w := jJ (i := 3) Tryz.underlying49 rfl A2 (by decide) _
theorem cE (b o : Nat) (w : aNj) : (aJ 49 (.pointer (some ⟨b, o, none⟩)) 4).run pg w = .ok (.value (.pointer (some ⟨b, o + 4, none⟩))) w := jJ (i := 4) Tryz.underlying49 rfl A2 (by decide) _
theorem iX {k : IntKind} {hi : Int} (a : Option Addr) (n c : Nat) (w : aNj) (h0 : 0 <= hi) (h1 : hi <= c) : (lX 22 (.slice a n c) none (some (.int k hi)) none).run pg w = .ok (.value (.slice (mU a c (0) 1) (hi.toNat - 0) (c - 0))) w := ayE Tryz.underlying22 Sm _ n c h0 h1
theorem PR {b off : Nat} {cs : List aNk} {w : aNj} (ho : eM w b cs) (h : off + 5 <= cs.length) : (aL 49 (.pointer (some ⟨b, off, none⟩))).run pg w = .ok (.value (.agg ((cs.drop off).take 5).toArray)) w := zK Tryz.underlying49 rfl aEP ho h
theorem fU {k : IntKind} (a : Int) (w : aNj) : (jO 3 24 (.int k a)).run pg w = .ok (.value (.int .u64 (IntKind.u64.wrap a))) w := HK Tryz.underlying3 Tryz.underlying24
theorem bX {k : IntKind} (a : Int) (w : aNj) : (jO 24 3 (.int k a)).run pg w = .ok (.value (.int .i64 (IntKind.i64.wrap a))) w := HK Tryz.underlying24 Tryz.underlying3
theorem jC {k k' : IntKind} {lo hi : Int} (x : ByteArray) (w : aNj) (h0 : 0 <= lo) (h1 : lo <= hi) (h2 : hi <= x.size) : (lX 9 (.string x) (some (.int k lo)) (some (.int k' hi)) none).run pg w = .ok (.value (.string (x.extract lo.toNat hi.toNat))) w := azR Tryz.underlying9  x h0 h1 h2
theorem jV {k : IntKind} {lo : Int} (x : ByteArray) (w : aNj) (h0 : 0 <= lo) (h1 : lo <= x.size) : (lX 9 (.string x) (some (.int k lo)) none none).run pg w = .ok (.value (.string (x.extract lo.toNat x.size))) w := aCH Tryz.underlying9  x h0 h1
theorem mF {base n m : Nat} {ty : TypeId} {w : aNj} {v x : aNk} {l news : List aNk} (h : sM w base 1 v n l) (hx : Cl w 1 x m news) (hone : ∀ y ∈ news, one y = true) (hb : base <= w.heap.size) (hbytes : (n + m) * 1 <= 140737488355328) {K : aNk -> aNj -> Prop} (hk : ∀ v' w', sM w' base 1 v' (n + m) (l ++ news) -> aW w w' (fun y => base <= y) -> K v' w') : aD pg (lO .append #[22, 22] ty [v, x]) w K := Ns (i := Tryz.t5) Tryz.underlying22 Tryz.underlying22 Sm rfl rfl rfl h hx hone hb (by omega) hbytes (by decide) hk
theorem U9 {b off : Nat} {cs : List aNk} {w : aNj} (ho : eM w b cs) (h : off + 2 <= cs.length) {K : aNk -> Prop} (hk : K (.agg ((cs.drop off).take 2).toArray)) : zN pg 45 (.pointer (some ⟨b, off, none⟩)) w K := FP Tryz.underlying45 rfl aEL ho h hk
theorem EV {b off : Nat} {cs : List aNk} {w : aNj} {v : aNk} {K : aNk -> aNj -> Prop} (ho : eM w b cs) (hv : one v = true) (h : off < cs.length) (hk : ∀ w', eM w' b (cs.set off v) -> aW w w' (fun x => x = b) -> w'.heap.size = w.heap.size -> K undef w') : aD pg (aR 27 (.pointer (some ⟨b, off, none⟩)) v) w K := uT aEF rfl ho hv h hk
theorem mM {b off : Nat} {cs : List aNk} {w : aNj} (ho : eM w b cs) (h : off + 2 <= cs.length) : (aL 45 (.pointer (some ⟨b, off, none⟩))).run pg w = .ok (.value (.agg ((cs.drop off).take 2).toArray)) w := zK Tryz.underlying45 rfl aEL ho h
theorem AI {b off : Nat} {cs : List aNk} {w : aNj} (ho : eM w b cs) (h : off + 5 <= cs.length) {K : aNk -> Prop} (hk : K (.agg ((cs.drop off).take 5).toArray)) : zN pg 49 (.pointer (some ⟨b, off, none⟩)) w K := FP Tryz.underlying49 rfl aEP ho h hk
theorem gW  (w : aNj) : (fV 49 []).run pg w = .ok (.value (.agg #[(.int .i64 0), (.int .i64 0), (.int .i64 0), (.int .i64 0), (.int .i64 0)])) w := by kernel_rfl
theorem gK (n0 : Int) (n1 : Int) (w : aNj) : (fV 49 [(0, (.int .i64 n0)), (1, (.int .i64 n1))]).run pg w = .ok (.value (.agg #[(.int .i64 n0), (.int .i64 n1), (.int .i64 0), (.int .i64 0), (.int .i64 0)])) w := by kernel_rfl
theorem dD (n0 : Int) (n1 : Int) (n2 : Int) (n3 : Int) (w : aNj) : (fV 73 [(0, (.int .i64 n0)), (1, (.int .i64 n1)), (2, (.int .i64 n2)), (3, (.int .i64 n3))]).run pg w = .ok (.value (.agg #[(.int .i64 n0), (.int .i64 n1), (.int .i64 n2), (.int .i64 n3)])) w := by kernel_rfl
theorem cA (b o : Nat) (w : aNj) : (aJ 49 (.pointer (some ⟨b, o, none⟩)) 1).run pg w = .ok (.value (.pointer (some ⟨b, o + 1, none⟩))) w := jJ (i := 1) Tryz.underlying49 rfl A2 (by decide) _
theorem jT {k : IntKind} {a : Int} (cs : Array aNk) (w : aNj) (h0 : 0 <= a) (h1 : a < 4) : (D6 73 (.agg cs) (.int k a)).run pg w = ldC cs[a.toNat]? w (aKe pg 73 cs k a w) := aJw Tryz.underlying73 Tryz.underlying3 rfl A2 rfl cs h0 (by simpa using h1)
theorem lI {ox oy : Operand} (x : Option Addr) (n c : Nat) (w : aNj) : (aI .eql 22 ox oy (.slice x n c) (.slice none 0 0)).run pg w = .ok (.value (.bool x.isNone)) w := aHQ Tryz.underlying22 x n c
theorem fY {k : IntKind} (a : Int) (w : aNj) : (jO 3 67 (.int k a)).run pg w = .ok (.value (.int .u64 (IntKind.u64.wrap a))) w := HK Tryz.underlying3 Tryz.underlying67
theorem oE {k : IntKind} (a : Int) (w : aNj) : (jO 67 3 (.int k a)).run pg w = .ok (.value (.int .i64 (IntKind.i64.wrap a))) w := HK Tryz.underlying67 Tryz.underlying3
theorem arU {k : IntKind} {n : Int} {w : aNj} {K : aNk -> aNj -> Prop} (h0 : 0 <= n) (hn : 1 * n <= 2 ^ 48) (hk : ∀ w', eM w' w.heap.size (List.replicate n.toNat (.int .u8 0)) -> aW w w' eU -> w'.heap.size = w.heap.size + 1 -> K (.slice (some ⟨w.heap.size, 0, none⟩) n.toNat n.toNat) w') : aD pg (qA 22 (.int k n) (.int k n)) w K := aBU (i := Tryz.t5) Tryz.underlying22 Sm rfl rfl rfl h0 hn (by omega) hk
theorem arV {ty : TypeId} {w : aNj} {b off dl c : Nat} {cs : List aNk} (ho : eM w b cs) (hl : off + dl <= cs.length) {v : aNk} {l : List aNk} (h : Sl w v l) (hv : ∀ x ∈ l, one x = true) {K : aNk -> aNj -> Prop} (hk : ∀ w', eM w' b (bK cs off (l.take (min l.length dl))) -> aW w w' (fun x => x = b) -> w'.heap.size = w.heap.size -> K (.int .i64 (min l.length dl : Nat)) w') : aD pg (lO .copy #[22, 22] ty [.slice (some ⟨b, off, none⟩) dl c, v]) w K := aHG Tryz.underlying22 Sm rfl ho hl h hv hk
theorem VC {b off : Nat} {cs : List aNk} {w : aNj} {v : aNk} {K : aNk -> aNj -> Prop} (ho : eM w b cs) (hv : one v = true) (h : off < cs.length) (hk : ∀ w', eM w' b (cs.set off v) -> aW w w' (fun x => x = b) -> w'.heap.size = w.heap.size -> K undef w') : aD pg (aR 5 (.pointer (some ⟨b, off, none⟩)) v) w K := uT Sm rfl ho hv h hk
theorem aKd : (pg).info? 9 = some Tryz.t9 := by kernel_rfl
theorem cD (b o : Nat) (w : aNj) : (aJ 45 (.pointer (some ⟨b, o, none⟩)) 0).run pg w = .ok (.value (.pointer (some ⟨b, o, none⟩))) w := jJ (i := 0) Tryz.underlying45 rfl aKd (by decide) _
theorem mK (x : Addr) (w : aNj) : (aL 9 (.pointer (some x))).run pg w = ldC (w.cell? x) w (far pg 9 x w) := afQ Tryz.underlying9 rfl x w
theorem eS {k : IntKind} (a : Int) (w : aNj) : (jO 3 5 (.int k a)).run pg w = .ok (.value (.int .u8 (IntKind.u8.wrap a))) w := HK Tryz.underlying3 Tryz.underlying5
theorem iV  (w : aNj) : (fV 90 []).run pg w = .ok (.value (.agg #[(.slice none 0 0)])) w := by kernel_rfl
theorem fJ {ox oy : Operand} (x : Option Addr) (w : aNj) : (aI .eql 64 ox oy (.pointer x) (.pointer none)).run pg w = .ok (.value (.bool x.isNone)) w := axX Tryz.underlying64 x
theorem awC : (pg).info? 22 = some Tryz.t22 := by kernel_rfl
theorem fR (b o : Nat) (w : aNj) : (aJ 90 (.pointer (some ⟨b, o, none⟩)) 0).run pg w = .ok (.value (.pointer (some ⟨b, o, none⟩))) w := jJ (i := 0) Tryz.underlying90 rfl awC (by decide) _
theorem eQ (x : Addr) (w : aNj) : (aL 22 (.pointer (some x))).run pg w = ldC (w.cell? x) w (far pg 22 x w) := afQ Tryz.underlying22 rfl x w
theorem hZ {k : IntKind} (a : Int) (w : aNj) : (jO 24 5 (.int k a)).run pg w = .ok (.value (.int .u8 (IntKind.u8.wrap a))) w := HK Tryz.underlying24 Tryz.underlying5
theorem yM {b off : Nat} {cs : List aNk} {w : aNj} {v : aNk} {K : aNk -> aNj -> Prop} (ho : eM w b cs) (hv : one v = true) (h : off < cs.length) (hk : ∀ w', eM w' b (cs.set off v) -> aW w w' (fun x => x = b) -> w'.heap.size = w.heap.size -> K undef w') : aD pg (aR 22 (.pointer (some ⟨b, off, none⟩)) v) w K := uT awC rfl ho hv h hk
theorem gE {ox oy : Operand} (x : Option Addr) (w : aNj) : (aI .neq 64 ox oy (.pointer x) (.pointer none)).run pg w = .ok (.value (.bool (!x.isNone))) w := aIZ Tryz.underlying64 x
theorem mN {k : IntKind} {hi : Int} (x : ByteArray) (w : aNj) (h0 : 0 <= hi) (h1 : hi <= x.size) : (lX 9 (.string x) none (some (.int k hi)) none).run pg w = .ok (.value (.string (x.extract 0 hi.toNat))) w := aCZ Tryz.underlying9  x h0 h1
theorem aFk {b off : Nat} {cs : List aNk} {w : aNj} {v : aNk} {K : aNk -> aNj -> Prop} (ho : eM w b cs) (hv : one v = true) (h : off < cs.length) (hk : ∀ w', eM w' b (cs.set off v) -> aW w w' (fun x => x = b) -> w'.heap.size = w.heap.size -> K undef w') : aD pg (aR 9 (.pointer (some ⟨b, off, none⟩)) v) w K := uT aKd rfl ho hv h hk
theorem iE (a0 : Option Addr) (l0 c0 : Nat) (w : aNj) : (fV 92 [(0, (.slice a0 l0 c0))]).run pg w = .ok (.value (.agg #[(.slice a0 l0 c0), (.int .i64 0)])) w := by kernel_rfl
theorem eF {ox oy : Operand} (x : Option Addr) (w : aNj) : (aI .eql 74 ox oy (.pointer x) (.pointer none)).run pg w = .ok (.value (.bool x.isNone)) w := axX Tryz.underlying74 x
theorem fQ (b o : Nat) (w : aNj) : (aJ 92 (.pointer (some ⟨b, o, none⟩)) 1).run pg w = .ok (.value (.pointer (some ⟨b, o + 1, none⟩))) w := jJ (i := 1) Tryz.underlying92 rfl aEF (by decide) _
theorem kK {k : IntKind} (a : Int) (w : aNj) : (jO 67 94 (.int k a)).run pg w = .ok (.value (.int .u32 (IntKind.u32.wrap a))) w := HK Tryz.underlying67 Tryz.underlying94
theorem lS {k : IntKind} (a : Int) (w : aNj) : (jO 94 67 (.int k a)).run pg w = .ok (.value (.int .u64 (IntKind.u64.wrap a))) w := HK Tryz.underlying94 Tryz.underlying67
theorem aA0 : (pg).info? 100 = some Tryz.t100 := by kernel_rfl
theorem BU {w : aNj} {K : aNk -> aNj -> Prop} (hk : ∀ w', eM w' w.heap.size [(.int .i64 0), (.slice none 0 0)] -> aW w w' eU -> w'.heap.size = w.heap.size + 1 -> K (.pointer (some ⟨w.heap.size, 0, none⟩)) w') : aD pg (fP 100) w K := oM (i := Tryz.t100) aA0 rfl hk
theorem wO {b off : Nat} {cs : List aNk} {w : aNj} {xs : Array aNk} {K : aNk -> aNj -> Prop} (ho : eM w b cs) (hs : xs.size = 2) (hv : ∀ x ∈ xs.toList, one x = true) (h : off + 2 <= cs.length) (hk : ∀ w', eM w' b (bK cs off xs.toList) -> aW w w' (fun x => x = b) -> w'.heap.size = w.heap.size -> K undef w') : aD pg (aR 100 (.pointer (some ⟨b, off, none⟩)) (.agg xs)) w K := pV (v := .agg xs) aA0 ho hs hv h hk
theorem rB {b off : Nat} {cs : List aNk} {w : aNj} (ho : eM w b cs) (h : off + 2 <= cs.length) : (aL 100 (.pointer (some ⟨b, off, none⟩))).run pg w = .ok (.value (.agg ((cs.drop off).take 2).toArray)) w := zK Tryz.underlying100 rfl aA0 ho h
theorem aBJ : (pg).info? 108 = some Tryz.t108 := by kernel_rfl
theorem Mm {w : aNj} {K : aNk -> aNj -> Prop} (hk : ∀ w', eM w' w.heap.size [(.int .i64 0), (.slice none 0 0)] -> aW w w' eU -> w'.heap.size = w.heap.size + 1 -> K (.pointer (some ⟨w.heap.size, 0, none⟩)) w') : aD pg (fP 108) w K := oM (i := Tryz.t108) aBJ rfl hk
theorem IW {b off : Nat} {cs : List aNk} {w : aNj} {xs : Array aNk} {K : aNk -> aNj -> Prop} (ho : eM w b cs) (hs : xs.size = 2) (hv : ∀ x ∈ xs.toList, one x = true) (h : off + 2 <= cs.length) (hk : ∀ w', eM w' b (bK cs off xs.toList) -> aW w w' (fun x => x = b) -> w'.heap.size = w.heap.size -> K undef w') : aD pg (aR 108 (.pointer (some ⟨b, off, none⟩)) (.agg xs)) w K := pV (v := .agg xs) aBJ ho hs hv h hk
theorem nF  (w : aNj) : (fV 111 []).run pg w = .ok (.value (.agg #[(.int .i64 0), (.int .i64 0)])) w := by kernel_rfl
theorem aGK : (pg).info? 111 = some Tryz.t111 := by kernel_rfl
theorem aDN {w : aNj} {K : aNk -> aNj -> Prop} (hk : ∀ w', eM w' w.heap.size [(.int .i64 0), (.int .i64 0)] -> aW w w' eU -> w'.heap.size = w.heap.size + 1 -> K (.pointer (some ⟨w.heap.size, 0, none⟩)) w') : aD pg (fP 111) w K := oM (i := Tryz.t111) aGK rfl hk
theorem aC3 {b off : Nat} {cs : List aNk} {w : aNj} {xs : Array aNk} {K : aNk -> aNj -> Prop} (ho : eM w b cs) (hs : xs.size = 2) (hv : ∀ x ∈ xs.toList, one x = true) (h : off + 2 <= cs.length) (hk : ∀ w', eM w' b (bK cs off xs.toList) -> aW w w' (fun x => x = b) -> w'.heap.size = w.heap.size -> K undef w') : aD pg (aR 111 (.pointer (some ⟨b, off, none⟩)) (.agg xs)) w K := pV (v := .agg xs) aGK ho hs hv h hk
theorem QE {b off : Nat} {cs : List aNk} {w : aNj} (ho : eM w b cs) (h : off + 2 <= cs.length) : (aL 108 (.pointer (some ⟨b, off, none⟩))).run pg w = .ok (.value (.agg ((cs.drop off).take 2).toArray)) w := zK Tryz.underlying108 rfl aBJ ho h
theorem oF {k : IntKind} {a : Int} (b o : Nat) (w : aNj) (h0 : 0 <= a) (h1 : a < 2) : (cI 111 (.pointer (some ⟨b, o, none⟩)) (.int k a)).run pg w = .ok (.value (.pointer (some ⟨b, o + a.toNat, none⟩))) w := amC rfl Tryz.underlying111 A2 b o h0 (by simpa using h1)
theorem aIY : (pg).info? 106 = some Tryz.t106 := by kernel_rfl
theorem cS (b o : Nat) (w : aNj) : (aJ 108 (.pointer (some ⟨b, o, none⟩)) 1).run pg w = .ok (.value (.pointer (some ⟨b, o + 1, none⟩))) w := jJ (i := 1) Tryz.underlying108 rfl aIY (by decide) _
theorem gB (x : Addr) (w : aNj) : (aL 106 (.pointer (some x))).run pg w = ldC (w.cell? x) w (far pg 106 x w) := afQ Tryz.underlying106 rfl x w
theorem avC : (pg).info? 115 = some Tryz.t115 := by kernel_rfl
theorem gU {k : IntKind} {a : Int} (b o n c : Nat) (w : aNj) (h0 : 0 <= a) (h1 : a < n) : (cI 106 (.slice (some ⟨b, o, none⟩) n c) (.int k a)).run pg w = .ok (.value (.pointer (some ⟨b, o + a.toNat * 3, none⟩))) w := SI rfl Tryz.underlying106 avC b o n c h0 h1
theorem Za {b off : Nat} {cs : List aNk} {w : aNj} (ho : eM w b cs) (h : off + 3 <= cs.length) : (aL 115 (.pointer (some ⟨b, off, none⟩))).run pg w = .ok (.value (.agg ((cs.drop off).take 3).toArray)) w := zK Tryz.underlying115 rfl avC ho h
theorem aeR {w : aNj} {K : aNk -> aNj -> Prop} (hk : ∀ w', eM w' w.heap.size [(.int .u8 0), (.int .i64 0), (.int .i64 0)] -> aW w w' eU -> w'.heap.size = w.heap.size + 1 -> K (.pointer (some ⟨w.heap.size, 0, none⟩)) w') : aD pg (fP 115) w K := oM (i := Tryz.t115) avC rfl hk
theorem Y1 {b off : Nat} {cs : List aNk} {w : aNj} {xs : Array aNk} {K : aNk -> aNj -> Prop} (ho : eM w b cs) (hs : xs.size = 3) (hv : ∀ x ∈ xs.toList, one x = true) (h : off + 3 <= cs.length) (hk : ∀ w', eM w' b (bK cs off xs.toList) -> aW w w' (fun x => x = b) -> w'.heap.size = w.heap.size -> K undef w') : aD pg (aR 115 (.pointer (some ⟨b, off, none⟩)) (.agg xs)) w K := pV (v := .agg xs) avC ho hs hv h hk
theorem eK (b o : Nat) (w : aNj) : (aJ 115 (.pointer (some ⟨b, o, none⟩)) 0).run pg w = .ok (.value (.pointer (some ⟨b, o, none⟩))) w := jJ (i := 0) Tryz.underlying115 rfl Sm (by decide) _
theorem gP (b o : Nat) (w : aNj) : (aJ 115 (.pointer (some ⟨b, o, none⟩)) 1).run pg w = .ok (.value (.pointer (some ⟨b, o + 1, none⟩))) w := jJ (i := 1) Tryz.underlying115 rfl A2 (by decide) _
theorem aA3 : (pg).info? 122 = some Tryz.t122 := by kernel_rfl
theorem wW {w : aNj} {K : aNk -> aNj -> Prop} (hk : ∀ w', eM w' w.heap.size [(.int .i64 0), (.slice none 0 0)] -> aW w w' eU -> w'.heap.size = w.heap.size + 1 -> K (.pointer (some ⟨w.heap.size, 0, none⟩)) w') : aD pg (fP 122) w K := oM (i := Tryz.t122) aA3 rfl hk
theorem uZ {b off : Nat} {cs : List aNk} {w : aNj} {xs : Array aNk} {K : aNk -> aNj -> Prop} (ho : eM w b cs) (hs : xs.size = 2) (hv : ∀ x ∈ xs.toList, one x = true) (h : off + 2 <= cs.length) (hk : ∀ w', eM w' b (bK cs off xs.toList) -> aW w w' (fun x => x = b) -> w'.heap.size = w.heap.size -> K undef w') : aD pg (aR 122 (.pointer (some ⟨b, off, none⟩)) (.agg xs)) w K := pV (v := .agg xs) aA3 ho hs hv h hk
theorem Nv {b off : Nat} {cs : List aNk} {w : aNj} (ho : eM w b cs) (h : off + 2 <= cs.length) : (aL 122 (.pointer (some ⟨b, off, none⟩))).run pg w = .ok (.value (.agg ((cs.drop off).take 2).toArray)) w := zK Tryz.underlying122 rfl aA3 ho h
theorem aEp : (pg).info? 73 = some Tryz.t73 := by kernel_rfl
theorem To {w : aNj} {K : aNk -> aNj -> Prop} (hk : ∀ w', eM w' w.heap.size [(.int .i64 0), (.int .i64 0), (.int .i64 0), (.int .i64 0)] -> aW w w' eU -> w'.heap.size = w.heap.size + 1 -> K (.pointer (some ⟨w.heap.size, 0, none⟩)) w') : aD pg (fP 73) w K := oM (i := Tryz.t73) aEp rfl hk
theorem Wb {b off : Nat} {cs : List aNk} {w : aNj} {xs : Array aNk} {K : aNk -> aNj -> Prop} (ho : eM w b cs) (hs : xs.size = 4) (hv : ∀ x ∈ xs.toList, one x = true) (h : off + 4 <= cs.length) (hk : ∀ w', eM w' b (bK cs off xs.toList) -> aW w w' (fun x => x = b) -> w'.heap.size = w.heap.size -> K undef w') : aD pg (aR 73 (.pointer (some ⟨b, off, none⟩)) (.agg xs)) w K := pV (v := .agg xs) aEp ho hs hv h hk
theorem nL {k : IntKind} {a : Int} (b o : Nat) (w : aNj) (h0 : 0 <= a) (h1 : a < 4) : (cI 73 (.pointer (some ⟨b, o, none⟩)) (.int k a)).run pg w = .ok (.value (.pointer (some ⟨b, o + a.toNat, none⟩))) w := amC rfl Tryz.underlying73 A2 b o h0 (by simpa using h1)
theorem aA4 : (pg).info? 128 = some Tryz.t128 := by kernel_rfl
theorem wF {w : aNj} {K : aNk -> aNj -> Prop} (hk : ∀ w', eM w' w.heap.size [(.int .i64 0), (.slice none 0 0)] -> aW w w' eU -> w'.heap.size = w.heap.size + 1 -> K (.pointer (some ⟨w.heap.size, 0, none⟩)) w') : aD pg (fP 128) w K := oM (i := Tryz.t128) aA4 rfl hk
theorem rY {b off : Nat} {cs : List aNk} {w : aNj} {xs : Array aNk} {K : aNk -> aNj -> Prop} (ho : eM w b cs) (hs : xs.size = 2) (hv : ∀ x ∈ xs.toList, one x = true) (h : off + 2 <= cs.length) (hk : ∀ w', eM w' b (bK cs off xs.toList) -> aW w w' (fun x => x = b) -> w'.heap.size = w.heap.size -> K undef w') : aD pg (aR 128 (.pointer (some ⟨b, off, none⟩)) (.agg xs)) w K := pV (v := .agg xs) aA4 ho hs hv h hk
theorem aAX : (pg).info? 133 = some Tryz.t133 := by kernel_rfl
theorem jS {w : aNj} {K : aNk -> aNj -> Prop} (hk : ∀ w', eM w' w.heap.size [(.slice none 0 0), (.int .i64 0)] -> aW w w' eU -> w'.heap.size = w.heap.size + 1 -> K (.pointer (some ⟨w.heap.size, 0, none⟩)) w') : aD pg (fP 133) w K := oM (i := Tryz.t133) aAX rfl hk
theorem cK {b off : Nat} {cs : List aNk} {w : aNj} {xs : Array aNk} {K : aNk -> aNj -> Prop} (ho : eM w b cs) (hs : xs.size = 2) (hv : ∀ x ∈ xs.toList, one x = true) (h : off + 2 <= cs.length) (hk : ∀ w', eM w' b (bK cs off xs.toList) -> aW w w' (fun x => x = b) -> w'.heap.size = w.heap.size -> K undef w') : aD pg (aR 133 (.pointer (some ⟨b, off, none⟩)) (.agg xs)) w K := pV (v := .agg xs) aAX ho hs hv h hk
theorem pW {b off : Nat} {cs : List aNk} {w : aNj} (ho : eM w b cs) (h : off + 2 <= cs.length) : (aL 128 (.pointer (some ⟨b, off, none⟩))).run pg w = .ok (.value (.agg ((cs.drop off).take 2).toArray)) w := zK Tryz.underlying128 rfl aA4 ho h
theorem aBB : (pg).info? 138 = some Tryz.t138 := by kernel_rfl
theorem Br {w : aNj} {K : aNk -> aNj -> Prop} (hk : ∀ w', eM w' w.heap.size [(.int .i64 0), (.slice none 0 0)] -> aW w w' eU -> w'.heap.size = w.heap.size + 1 -> K (.pointer (some ⟨w.heap.size, 0, none⟩)) w') : aD pg (fP 138) w K := oM (i := Tryz.t138) aBB rfl hk
theorem Ao {b off : Nat} {cs : List aNk} {w : aNj} {xs : Array aNk} {K : aNk -> aNj -> Prop} (ho : eM w b cs) (hs : xs.size = 2) (hv : ∀ x ∈ xs.toList, one x = true) (h : off + 2 <= cs.length) (hk : ∀ w', eM w' b (bK cs off xs.toList) -> aW w w' (fun x => x = b) -> w'.heap.size = w.heap.size -> K undef w') : aD pg (aR 138 (.pointer (some ⟨b, off, none⟩)) (.agg xs)) w K := pV (v := .agg xs) aBB ho hs hv h hk
theorem vB {b off : Nat} {cs : List aNk} {w : aNj} (ho : eM w b cs) (h : off + 2 <= cs.length) : (aL 138 (.pointer (some ⟨b, off, none⟩))).run pg w = .ok (.value (.agg ((cs.drop off).take 2).toArray)) w := zK Tryz.underlying138 rfl aBB ho h
theorem fL {b off : Nat} {cs : List aNk} {w : aNj} (ho : eM w b cs) (h : off + 2 <= cs.length) : (aL 133 (.pointer (some ⟨b, off, none⟩))).run pg w = .ok (.value (.agg ((cs.drop off).take 2).toArray)) w := zK Tryz.underlying133 rfl aAX ho h
theorem aHI : (pg).info? 136 = some Tryz.t136 := by kernel_rfl
theorem bL (b o : Nat) (w : aNj) : (aJ 138 (.pointer (some ⟨b, o, none⟩)) 1).run pg w = .ok (.value (.pointer (some ⟨b, o + 1, none⟩))) w := jJ (i := 1) Tryz.underlying138 rfl aHI (by decide) _
theorem bF (x : Addr) (w : aNj) : (aL 136 (.pointer (some x))).run pg w = ldC (w.cell? x) w (far pg 136 x w) := afQ Tryz.underlying136 rfl x w
theorem anZ : (pg).info? 145 = some Tryz.t145 := by kernel_rfl
theorem bT {k : IntKind} {a : Int} (b o n c : Nat) (w : aNj) (h0 : 0 <= a) (h1 : a < n) : (cI 136 (.slice (some ⟨b, o, none⟩) n c) (.int k a)).run pg w = .ok (.value (.pointer (some ⟨b, o + a.toNat * 3, none⟩))) w := SI rfl Tryz.underlying136 anZ b o n c h0 h1
theorem UI {b off : Nat} {cs : List aNk} {w : aNj} (ho : eM w b cs) (h : off + 3 <= cs.length) : (aL 145 (.pointer (some ⟨b, off, none⟩))).run pg w = .ok (.value (.agg ((cs.drop off).take 3).toArray)) w := zK Tryz.underlying145 rfl anZ ho h
theorem WD {w : aNj} {K : aNk -> aNj -> Prop} (hk : ∀ w', eM w' w.heap.size [(.int .i64 0), (.int .i64 0), (.int .i64 0)] -> aW w w' eU -> w'.heap.size = w.heap.size + 1 -> K (.pointer (some ⟨w.heap.size, 0, none⟩)) w') : aD pg (fP 145) w K := oM (i := Tryz.t145) anZ rfl hk
theorem U3 {b off : Nat} {cs : List aNk} {w : aNj} {xs : Array aNk} {K : aNk -> aNj -> Prop} (ho : eM w b cs) (hs : xs.size = 3) (hv : ∀ x ∈ xs.toList, one x = true) (h : off + 3 <= cs.length) (hk : ∀ w', eM w' b (bK cs off xs.toList) -> aW w w' (fun x => x = b) -> w'.heap.size = w.heap.size -> K undef w') : aD pg (aR 145 (.pointer (some ⟨b, off, none⟩)) (.agg xs)) w K := pV (v := .agg xs) anZ ho hs hv h hk
theorem bU (b o : Nat) (w : aNj) : (aJ 145 (.pointer (some ⟨b, o, none⟩)) 0).run pg w = .ok (.value (.pointer (some ⟨b, o, none⟩))) w := jJ (i := 0) Tryz.underlying145 rfl A2 (by decide) _
theorem cM (b o : Nat) (w : aNj) : (aJ 145 (.pointer (some ⟨b, o, none⟩)) 1).run pg w = .ok (.value (.pointer (some ⟨b, o + 1, none⟩))) w := jJ (i := 1) Tryz.underlying145 rfl A2 (by decide) _
theorem gN  (w : aNj) : (fV 148 []).run pg w = .ok (.value (.agg #[(.int .i64 0), (.int .i64 0)])) w := by kernel_rfl
theorem aBD : (pg).info? 148 = some Tryz.t148 := by kernel_rfl
theorem SN {n : Nat} {ps : List (Nat × aNk)} {cells : Array aNk} {w : aNj} (h1 : ¬ n * 2 > 2 ^ 24) (h0 : ¬ n * 2 = 0) (hf : Go.Instr.fill (fun j => some (j * 2, 2)) ((Array.range (n * 2)).map ((Tryz.t148.zero.get!).cells[· % (Tryz.t148.zero.get!).cells.size]!)) ps = some cells) {K : aNk -> aNj -> Prop} (hk : ∀ w', eM w' w.heap.size cells.toList -> aW w w' eU -> w'.heap.size = w.heap.size + 1 -> K (.slice (some ⟨w.heap.size, 0, none⟩) n n) w') : aD pg (cT 84 n ps) w K := HJ (i := Tryz.t148) Tryz.underlying84 aBD rfl h1 h0 hf hk
theorem xJ {base n m : Nat} {ty : TypeId} {w : aNj} {v x : aNk} {l news : List aNk} (h : sM w base 2 v n l) (hx : Cl w 2 x m news) (hone : ∀ y ∈ news, one y = true) (hb : base <= w.heap.size) (hbytes : (n + m) * 16 <= 140737488355328) {K : aNk -> aNj -> Prop} (hk : ∀ v' w', sM w' base 2 v' (n + m) (l ++ news) -> aW w w' (fun y => base <= y) -> K v' w') : aD pg (lO .append #[84, 84] ty [v, x]) w K := Ns (i := Tryz.t148) Tryz.underlying84 Tryz.underlying84 aBD rfl rfl rfl h hx hone hb (by omega) hbytes (by decide) hk
theorem eN (n0 : Int) (n1 : Int) (w : aNj) : (fV 148 [(0, (.int .i64 n0)), (1, (.int .i64 n1))]).run pg w = .ok (.value (.agg #[(.int .i64 n0), (.int .i64 n1)])) w := by kernel_rfl
theorem dI {k : IntKind} {a : Int} (b o n c : Nat) (w : aNj) (h0 : 0 <= a) (h1 : a < n) : (cI 84 (.slice (some ⟨b, o, none⟩) n c) (.int k a)).run pg w = .ok (.value (.pointer (some ⟨b, o + a.toNat * 2, none⟩))) w := SI rfl Tryz.underlying84 aBD b o n c h0 h1
theorem UR {b off : Nat} {cs : List aNk} {w : aNj} {xs : Array aNk} {K : aNk -> aNj -> Prop} (ho : eM w b cs) (hs : xs.size = 2) (hv : ∀ x ∈ xs.toList, one x = true) (h : off + 2 <= cs.length) (hk : ∀ w', eM w' b (bK cs off xs.toList) -> aW w w' (fun x => x = b) -> w'.heap.size = w.heap.size -> K undef w') : aD pg (aR 148 (.pointer (some ⟨b, off, none⟩)) (.agg xs)) w K := pV (v := .agg xs) aBD ho hs hv h hk
theorem aB8 {b off : Nat} {cs : List aNk} {w : aNj} (ho : eM w b cs) (h : off + 4 <= cs.length) : (aL 73 (.pointer (some ⟨b, off, none⟩))).run pg w = .ok (.value (.agg ((cs.drop off).take 4).toArray)) w := zK Tryz.underlying73 rfl aEp ho h
theorem fT (b o : Nat) (w : aNj) : (aJ 92 (.pointer (some ⟨b, o, none⟩)) 0).run pg w = .ok (.value (.pointer (some ⟨b, o, none⟩))) w := jJ (i := 0) Tryz.underlying92 rfl awC (by decide) _
theorem lB {k k' : IntKind} {hi mx : Int} (a : Option Addr) (n c : Nat) (w : aNj) (h0 : 0 <= hi) (h1 : hi <= mx) (h2 : mx <= c) : (lX 22 (.slice a n c) none (some (.int k hi)) (some (.int k' mx))).run pg w = .ok (.value (.slice (mU a mx.toNat 0 1) (hi.toNat - 0) (mx.toNat - 0))) w := aDs Tryz.underlying22 Sm a n c h0 h1 h2
theorem kD {k : IntKind} (a : Int) (w : aNj) : (jO 94 24 (.int k a)).run pg w = .ok (.value (.int .u64 (IntKind.u64.wrap a))) w := HK Tryz.underlying94 Tryz.underlying24
theorem kC {k : IntKind} (a : Int) (w : aNj) : (jO 24 94 (.int k a)).run pg w = .ok (.value (.int .u32 (IntKind.u32.wrap a))) w := HK Tryz.underlying24 Tryz.underlying94
theorem PU {b off : Nat} {cs : List aNk} {w : aNj} (ho : eM w b cs) (h : off + 2 <= cs.length) {K : aNk -> Prop} (hk : K (.agg ((cs.drop off).take 2).toArray)) : zN pg 100 (.pointer (some ⟨b, off, none⟩)) w K := FP Tryz.underlying100 rfl aA0 ho h hk
theorem fX  (w : aNj) : (fV 100 []).run pg w = .ok (.value (.agg #[(.int .i64 0), (.slice none 0 0)])) w := by kernel_rfl
theorem iC (n0 : Int) (w : aNj) : (fV 100 [(0, (.int .i64 n0))]).run pg w = .ok (.value (.agg #[(.int .i64 n0), (.slice none 0 0)])) w := by kernel_rfl
theorem bV (b o : Nat) (w : aNj) : (aJ 100 (.pointer (some ⟨b, o, none⟩)) 0).run pg w = .ok (.value (.pointer (some ⟨b, o, none⟩))) w := jJ (i := 0) Tryz.underlying100 rfl A2 (by decide) _
theorem aHv : (pg).info? 42 = some Tryz.t42 := by kernel_rfl
theorem bJ (b o : Nat) (w : aNj) : (aJ 100 (.pointer (some ⟨b, o, none⟩)) 1).run pg w = .ok (.value (.pointer (some ⟨b, o + 1, none⟩))) w := jJ (i := 1) Tryz.underlying100 rfl aHv (by decide) _
theorem dR (x : Addr) (w : aNj) : (aL 42 (.pointer (some x))).run pg w = ldC (w.cell? x) w (far pg 42 x w) := afQ Tryz.underlying42 rfl x w
theorem R8 {base n m : Nat} {ty : TypeId} {w : aNj} {v x : aNk} {l news : List aNk} (h : sM w base 1 v n l) (hx : Cl w 1 x m news) (hone : ∀ y ∈ news, one y = true) (hb : base <= w.heap.size) (hbytes : (n + m) * 8 <= 140737488355328) {K : aNk -> aNj -> Prop} (hk : ∀ v' w', sM w' base 1 v' (n + m) (l ++ news) -> aW w w' (fun y => base <= y) -> K v' w') : aD pg (lO .append #[42, 42] ty [v, x]) w K := Ns (i := Tryz.t3) Tryz.underlying42 Tryz.underlying42 A2 rfl rfl rfl h hx hone hb (by omega) hbytes (by decide) hk
theorem apD {b off : Nat} {cs : List aNk} {w : aNj} {v : aNk} {K : aNk -> aNj -> Prop} (ho : eM w b cs) (hv : one v = true) (h : off < cs.length) (hk : ∀ w', eM w' b (cs.set off v) -> aW w w' (fun x => x = b) -> w'.heap.size = w.heap.size -> K undef w') : aD pg (aR 42 (.pointer (some ⟨b, off, none⟩)) v) w K := uT aHv rfl ho hv h hk
theorem gD {ty : TypeId} (x : Option Addr) (n c : Nat) (w : aNj) : (lO .len #[42] ty [.slice x n c]).run pg w = .ok (.value (.int .i64 n)) w := aaA Tryz.underlying42 x n c
theorem gF (a0 : Option Addr) (l0 c0 : Nat) (n1 : Int) (w : aNj) : (fV 165 [(0, (.slice a0 l0 c0)), (1, (.int .i64 n1))]).run pg w = .ok (.value (.agg #[(.slice a0 l0 c0), (.int .i64 n1)])) w := by kernel_rfl
theorem azU {b off : Nat} {cs : List aNk} {w : aNj} (ho : eM w b cs) (h : off + 2 <= cs.length) {K : aNk -> Prop} (hk : K (.agg ((cs.drop off).take 2).toArray)) : zN pg 108 (.pointer (some ⟨b, off, none⟩)) w K := FP Tryz.underlying108 rfl aBJ ho h hk
theorem lZ  (w : aNj) : (fV 108 []).run pg w = .ok (.value (.agg #[(.int .i64 0), (.slice none 0 0)])) w := by kernel_rfl
theorem iY (n0 : Int) (a1 : Option Addr) (l1 c1 : Nat) (w : aNj) : (fV 108 [(0, (.int .i64 n0)), (1, (.slice a1 l1 c1))]).run pg w = .ok (.value (.agg #[(.int .i64 n0), (.slice a1 l1 c1)])) w := by kernel_rfl
theorem aFz {k : IntKind} {n : Int} {w : aNj} {K : aNk -> aNj -> Prop} (h0 : 0 <= n) (hn : 8 * n <= 2 ^ 48) (hk : ∀ w', eM w' w.heap.size (List.replicate n.toNat (.int .i64 0)) -> aW w w' eU -> w'.heap.size = w.heap.size + 1 -> K (.slice (some ⟨w.heap.size, 0, none⟩) n.toNat n.toNat) w') : aD pg (qA 42 (.int k n) (.int k n)) w K := aBU (i := Tryz.t3) Tryz.underlying42 A2 rfl rfl rfl h0 hn (by omega) hk
theorem iO {ty : TypeId} (x : Option Addr) (n c : Nat) (w : aNj) : (lO .len #[106] ty [.slice x n c]).run pg w = .ok (.value (.int .i64 n)) w := aaA Tryz.underlying106 x n c
theorem iJ (b o : Nat) (w : aNj) : (aJ 115 (.pointer (some ⟨b, o, none⟩)) 2).run pg w = .ok (.value (.pointer (some ⟨b, o + 2, none⟩))) w := jJ (i := 2) Tryz.underlying115 rfl A2 (by decide) _
theorem jN (b o : Nat) (w : aNj) : (aJ 108 (.pointer (some ⟨b, o, none⟩)) 0).run pg w = .ok (.value (.pointer (some ⟨b, o, none⟩))) w := jJ (i := 0) Tryz.underlying108 rfl A2 (by decide) _
theorem fA {ox oy : Operand} (x : Option Addr) (w : aNj) : (aI .eql 103 ox oy (.pointer x) (.pointer none)).run pg w = .ok (.value (.bool x.isNone)) w := axX Tryz.underlying103 x
theorem dZ (b o : Nat) (w : aNj) : (aJ 165 (.pointer (some ⟨b, o, none⟩)) 1).run pg w = .ok (.value (.pointer (some ⟨b, o + 1, none⟩))) w := jJ (i := 1) Tryz.underlying165 rfl A2 (by decide) _
theorem Xi {b off : Nat} {cs : List aNk} {w : aNj} (ho : eM w b cs) (h : off + 2 <= cs.length) {K : aNk -> Prop} (hk : K (.agg ((cs.drop off).take 2).toArray)) : zN pg 122 (.pointer (some ⟨b, off, none⟩)) w K := FP Tryz.underlying122 rfl aA3 ho h hk
theorem kJ  (w : aNj) : (fV 122 []).run pg w = .ok (.value (.agg #[(.int .i64 0), (.slice none 0 0)])) w := by kernel_rfl
theorem fF {ty : TypeId} (x : Option Addr) (n c : Nat) (w : aNj) : (lO .len #[152] ty [.slice x n c]).run pg w = .ok (.value (.int .i64 n)) w := aaA Tryz.underlying152 x n c
theorem awJ : (pg).info? 171 = some Tryz.t171 := by kernel_rfl
theorem eL {k : IntKind} {a : Int} (b o n c : Nat) (w : aNj) (h0 : 0 <= a) (h1 : a < n) : (cI 152 (.slice (some ⟨b, o, none⟩) n c) (.int k a)).run pg w = .ok (.value (.pointer (some ⟨b, o + a.toNat * 2, none⟩))) w := SI rfl Tryz.underlying152 awJ b o n c h0 h1
theorem SS {b off : Nat} {cs : List aNk} {w : aNj} (ho : eM w b cs) (h : off + 2 <= cs.length) : (aL 171 (.pointer (some ⟨b, off, none⟩))).run pg w = .ok (.value (.agg ((cs.drop off).take 2).toArray)) w := zK Tryz.underlying171 rfl awJ ho h
theorem T7 {w : aNj} {K : aNk -> aNj -> Prop} (hk : ∀ w', eM w' w.heap.size [(.int .i64 0), (.int .i64 0)] -> aW w w' eU -> w'.heap.size = w.heap.size + 1 -> K (.pointer (some ⟨w.heap.size, 0, none⟩)) w') : aD pg (fP 171) w K := oM (i := Tryz.t171) awJ rfl hk
theorem Ib {b off : Nat} {cs : List aNk} {w : aNj} {xs : Array aNk} {K : aNk -> aNj -> Prop} (ho : eM w b cs) (hs : xs.size = 2) (hv : ∀ x ∈ xs.toList, one x = true) (h : off + 2 <= cs.length) (hk : ∀ w', eM w' b (bK cs off xs.toList) -> aW w w' (fun x => x = b) -> w'.heap.size = w.heap.size -> K undef w') : aD pg (aR 171 (.pointer (some ⟨b, off, none⟩)) (.agg xs)) w K := pV (v := .agg xs) awJ ho hs hv h hk
theorem fZ (b o : Nat) (w : aNj) : (aJ 122 (.pointer (some ⟨b, o, none⟩)) 0).run pg w = .ok (.value (.pointer (some ⟨b, o, none⟩))) w := jJ (i := 0) Tryz.underlying122 rfl A2 (by decide) _
theorem cZ (b o : Nat) (w : aNj) : (aJ 171 (.pointer (some ⟨b, o, none⟩)) 0).run pg w = .ok (.value (.pointer (some ⟨b, o, none⟩))) w := jJ (i := 0) Tryz.underlying171 rfl A2 (by decide) _
theorem ayN : (pg).info? 173 = some Tryz.t173 := by kernel_rfl
theorem ahH {k : IntKind} {n : Int} {w : aNj} {K : aNk -> aNj -> Prop} (h0 : 0 <= n) (hn : 16 * n <= 2 ^ 48) (hk : ∀ w', eM w' w.heap.size (Fh n.toNat [(.int .u8 0), (.int .i64 0)]) -> aW w w' eU -> w'.heap.size = w.heap.size + 1 -> K (.slice (some ⟨w.heap.size, 0, none⟩) n.toNat n.toNat) w') : aD pg (qA 120 (.int k n) (.int k n)) w K := aoP (i := Tryz.t173) Tryz.underlying120 ayN rfl (by decide) rfl rfl h0 hn (by omega) hk
theorem aHw : (pg).info? 120 = some Tryz.t120 := by kernel_rfl
theorem fG (b o : Nat) (w : aNj) : (aJ 122 (.pointer (some ⟨b, o, none⟩)) 1).run pg w = .ok (.value (.pointer (some ⟨b, o + 1, none⟩))) w := jJ (i := 1) Tryz.underlying122 rfl aHw (by decide) _
theorem apK {b off : Nat} {cs : List aNk} {w : aNj} {v : aNk} {K : aNk -> aNj -> Prop} (ho : eM w b cs) (hv : one v = true) (h : off < cs.length) (hk : ∀ w', eM w' b (cs.set off v) -> aW w w' (fun x => x = b) -> w'.heap.size = w.heap.size -> K undef w') : aD pg (aR 120 (.pointer (some ⟨b, off, none⟩)) v) w K := uT aHw rfl ho hv h hk
theorem eX (b o : Nat) (w : aNj) : (aJ 171 (.pointer (some ⟨b, o, none⟩)) 1).run pg w = .ok (.value (.pointer (some ⟨b, o + 1, none⟩))) w := jJ (i := 1) Tryz.underlying171 rfl A2 (by decide) _
theorem gZ (x : Addr) (w : aNj) : (aL 120 (.pointer (some x))).run pg w = ldC (w.cell? x) w (far pg 120 x w) := afQ Tryz.underlying120 rfl x w
theorem iU (n0 : Int) (n1 : Int) (w : aNj) : (fV 173 [(0, (.int .u8 n0)), (1, (.int .i64 n1))]).run pg w = .ok (.value (.agg #[(.int .u8 n0), (.int .i64 n1)])) w := by kernel_rfl
theorem iZ {k : IntKind} {a : Int} (b o n c : Nat) (w : aNj) (h0 : 0 <= a) (h1 : a < n) : (cI 120 (.slice (some ⟨b, o, none⟩) n c) (.int k a)).run pg w = .ok (.value (.pointer (some ⟨b, o + a.toNat * 2, none⟩))) w := SI rfl Tryz.underlying120 ayN b o n c h0 h1
theorem Xg {b off : Nat} {cs : List aNk} {w : aNj} {xs : Array aNk} {K : aNk -> aNj -> Prop} (ho : eM w b cs) (hs : xs.size = 2) (hv : ∀ x ∈ xs.toList, one x = true) (h : off + 2 <= cs.length) (hk : ∀ w', eM w' b (bK cs off xs.toList) -> aW w w' (fun x => x = b) -> w'.heap.size = w.heap.size -> K undef w') : aD pg (aR 173 (.pointer (some ⟨b, off, none⟩)) (.agg xs)) w K := pV (v := .agg xs) ayN ho hs hv h hk
theorem ayK {b off : Nat} {cs : List aNk} {w : aNj} (ho : eM w b cs) (h : off + 2 <= cs.length) : (aL 173 (.pointer (some ⟨b, off, none⟩))).run pg w = .ok (.value (.agg ((cs.drop off).take 2).toArray)) w := zK Tryz.underlying173 rfl ayN ho h
theorem azG {w : aNj} {K : aNk -> aNj -> Prop} (hk : ∀ w', eM w' w.heap.size [(.int .u8 0), (.int .i64 0)] -> aW w w' eU -> w'.heap.size = w.heap.size + 1 -> K (.pointer (some ⟨w.heap.size, 0, none⟩)) w') : aD pg (fP 173) w K := oM (i := Tryz.t173) ayN rfl hk
theorem gH (b o : Nat) (w : aNj) : (aJ 173 (.pointer (some ⟨b, o, none⟩)) 0).run pg w = .ok (.value (.pointer (some ⟨b, o, none⟩))) w := jJ (i := 0) Tryz.underlying173 rfl Sm (by decide) _
theorem iF (b o : Nat) (w : aNj) : (aJ 173 (.pointer (some ⟨b, o, none⟩)) 1).run pg w = .ok (.value (.pointer (some ⟨b, o + 1, none⟩))) w := jJ (i := 1) Tryz.underlying173 rfl A2 (by decide) _
theorem aCv {b off : Nat} {cs : List aNk} {w : aNj} (ho : eM w b cs) (h : off + 4 <= cs.length) {K : aNk -> Prop} (hk : K (.agg ((cs.drop off).take 4).toArray)) : zN pg 73 (.pointer (some ⟨b, off, none⟩)) w K := FP Tryz.underlying73 rfl aEp ho h hk
theorem GY {b off : Nat} {cs : List aNk} {w : aNj} (ho : eM w b cs) (h : off + 2 <= cs.length) {K : aNk -> Prop} (hk : K (.agg ((cs.drop off).take 2).toArray)) : zN pg 128 (.pointer (some ⟨b, off, none⟩)) w K := FP Tryz.underlying128 rfl aA4 ho h hk
theorem fD (a0 : Option Addr) (l0 c0 : Nat) (w : aNj) : (fV 176 [(0, (.slice a0 l0 c0))]).run pg w = .ok (.value (.agg #[(.slice a0 l0 c0), (.int .i64 0)])) w := by kernel_rfl
theorem aBw : (pg).info? 176 = some Tryz.t176 := by kernel_rfl
theorem Bu {w : aNj} {K : aNk -> aNj -> Prop} (hk : ∀ w', eM w' w.heap.size [(.slice none 0 0), (.int .i64 0)] -> aW w w' eU -> w'.heap.size = w.heap.size + 1 -> K (.pointer (some ⟨w.heap.size, 0, none⟩)) w') : aD pg (fP 176) w K := oM (i := Tryz.t176) aBw rfl hk
theorem eY {b off : Nat} {cs : List aNk} {w : aNj} {xs : Array aNk} {K : aNk -> aNj -> Prop} (ho : eM w b cs) (hs : xs.size = 2) (hv : ∀ x ∈ xs.toList, one x = true) (h : off + 2 <= cs.length) (hk : ∀ w', eM w' b (bK cs off xs.toList) -> aW w w' (fun x => x = b) -> w'.heap.size = w.heap.size -> K undef w') : aD pg (aR 176 (.pointer (some ⟨b, off, none⟩)) (.agg xs)) w K := pV (v := .agg xs) aBw ho hs hv h hk
theorem jH {b off : Nat} {cs : List aNk} {w : aNj} (ho : eM w b cs) (h : off + 2 <= cs.length) : (aL 176 (.pointer (some ⟨b, off, none⟩))).run pg w = .ok (.value (.agg ((cs.drop off).take 2).toArray)) w := zK Tryz.underlying176 rfl aBw ho h
theorem dK  (w : aNj) : (fV 128 []).run pg w = .ok (.value (.agg #[(.int .i64 0), (.slice none 0 0)])) w := by kernel_rfl
theorem eE (n0 : Int) (w : aNj) : (fV 128 [(0, (.int .i64 n0))]).run pg w = .ok (.value (.agg #[(.int .i64 n0), (.slice none 0 0)])) w := by kernel_rfl
theorem bB (b o : Nat) (w : aNj) : (aJ 128 (.pointer (some ⟨b, o, none⟩)) 0).run pg w = .ok (.value (.pointer (some ⟨b, o, none⟩))) w := jJ (i := 0) Tryz.underlying128 rfl A2 (by decide) _
theorem aN (b o : Nat) (w : aNj) : (aJ 128 (.pointer (some ⟨b, o, none⟩)) 1).run pg w = .ok (.value (.pointer (some ⟨b, o + 1, none⟩))) w := jJ (i := 1) Tryz.underlying128 rfl aHv (by decide) _
theorem lT {b off : Nat} {cs : List aNk} {w : aNj} (ho : eM w b cs) (h : off + 2 <= cs.length) {K : aNk -> Prop} (hk : K (.agg ((cs.drop off).take 2).toArray)) : zN pg 133 (.pointer (some ⟨b, off, none⟩)) w K := FP Tryz.underlying133 rfl aAX ho h hk
theorem eD  (w : aNj) : (fV 133 []).run pg w = .ok (.value (.agg #[(.slice none 0 0), (.int .i64 0)])) w := by kernel_rfl
theorem lE {ty : TypeId} (x : Option Addr) (n c : Nat) (w : aNj) : (lO .len #[131] ty [.slice x n c]).run pg w = .ok (.value (.int .i64 n)) w := aaA Tryz.underlying131 x n c
theorem aF4 : (pg).info? 4 = some Tryz.t4 := by kernel_rfl
theorem nN {k : IntKind} {a : Int} (b o n c : Nat) (w : aNj) (h0 : 0 <= a) (h1 : a < n) : (cI 131 (.slice (some ⟨b, o, none⟩) n c) (.int k a)).run pg w = .ok (.value (.pointer (some ⟨b, o + a.toNat, none⟩))) w := Xq rfl Tryz.underlying131 aF4 b o n c h0 h1
theorem tW (x : Addr) (w : aNj) : (aL 4 (.pointer (some x))).run pg w = ldC (w.cell? x) w (far pg 4 x w) := afQ Tryz.underlying4 rfl x w
theorem lH {k : IntKind} {hi : Int} (a : Option Addr) (n c : Nat) (w : aNj) (h0 : 0 <= hi) (h1 : hi <= c) : (lX 131 (.slice a n c) none (some (.int k hi)) none).run pg w = .ok (.value (.slice (mU a c (0) 1) (hi.toNat - 0) (c - 0))) w := ayE Tryz.underlying131 aF4 _ n c h0 h1
theorem fC (a0 : Option Addr) (l0 c0 : Nat) (w : aNj) : (fV 133 [(0, (.slice a0 l0 c0))]).run pg w = .ok (.value (.agg #[(.slice a0 l0 c0), (.int .i64 0)])) w := by kernel_rfl
theorem UF {b off : Nat} {cs : List aNk} {w : aNj} (ho : eM w b cs) (h : off + 2 <= cs.length) {K : aNk -> Prop} (hk : K (.agg ((cs.drop off).take 2).toArray)) : zN pg 138 (.pointer (some ⟨b, off, none⟩)) w K := FP Tryz.underlying138 rfl aBB ho h hk
theorem eZ  (w : aNj) : (fV 138 []).run pg w = .ok (.value (.agg #[(.int .i64 0), (.slice none 0 0)])) w := by kernel_rfl
theorem fB (n0 : Int) (w : aNj) : (fV 138 [(0, (.int .i64 n0))]).run pg w = .ok (.value (.agg #[(.int .i64 n0), (.slice none 0 0)])) w := by kernel_rfl
theorem eJ (n0 : Int) (w : aNj) : (fV 145 [(0, (.int .i64 n0))]).run pg w = .ok (.value (.agg #[(.int .i64 n0), (.int .i64 0), (.int .i64 0)])) w := by kernel_rfl
theorem Sb {n : Nat} {ps : List (Nat × aNk)} {cells : Array aNk} {w : aNj} (h1 : ¬ n * 3 > 2 ^ 24) (h0 : ¬ n * 3 = 0) (hf : Go.Instr.fill (fun j => some (j * 3, 3)) ((Array.range (n * 3)).map ((Tryz.t145.zero.get!).cells[· % (Tryz.t145.zero.get!).cells.size]!)) ps = some cells) {K : aNk -> aNj -> Prop} (hk : ∀ w', eM w' w.heap.size cells.toList -> aW w w' eU -> w'.heap.size = w.heap.size + 1 -> K (.slice (some ⟨w.heap.size, 0, none⟩) n n) w') : aD pg (cT 136 n ps) w K := HJ (i := Tryz.t145) Tryz.underlying136 anZ rfl h1 h0 hf hk
theorem xK {base n m : Nat} {ty : TypeId} {w : aNj} {v x : aNk} {l news : List aNk} (h : sM w base 3 v n l) (hx : Cl w 3 x m news) (hone : ∀ y ∈ news, one y = true) (hb : base <= w.heap.size) (hbytes : (n + m) * 24 <= 140737488355328) {K : aNk -> aNj -> Prop} (hk : ∀ v' w', sM w' base 3 v' (n + m) (l ++ news) -> aW w w' (fun y => base <= y) -> K v' w') : aD pg (lO .append #[136, 136] ty [v, x]) w K := Ns (i := Tryz.t145) Tryz.underlying136 Tryz.underlying136 anZ rfl rfl rfl h hx hone hb (by omega) hbytes (by decide) hk
theorem RY {b off : Nat} {cs : List aNk} {w : aNj} {v : aNk} {K : aNk -> aNj -> Prop} (ho : eM w b cs) (hv : one v = true) (h : off < cs.length) (hk : ∀ w', eM w' b (cs.set off v) -> aW w w' (fun x => x = b) -> w'.heap.size = w.heap.size -> K undef w') : aD pg (aR 136 (.pointer (some ⟨b, off, none⟩)) v) w K := uT aHI rfl ho hv h hk
theorem aJo : (pg).info? 183 = some Tryz.t183 := by kernel_rfl
theorem aBG {w : aNj} {K : aNk -> aNj -> Prop} (hk : ∀ w', eM w' w.heap.size [(.int .i64 0), (.int .i64 0), (.int .i64 0), (.int .i64 0), (.int .i64 0), (.int .i64 0), (.int .i64 0), (.int .i64 0), (.int .i64 0), (.int .i64 0), (.int .i64 0), (.int .i64 0), (.int .i64 0), (.int .i64 0), (.int .i64 0), (.int .i64 0), (.int .i64 0), (.int .i64 0), (.int .i64 0), (.int .i64 0), (.int .i64 0), (.int .i64 0), (.int .i64 0), (.int .i64 0), (.int .i64 0), (.int .i64 0), (.int .i64 0), (.int .i64 0), (.int .i64 0), (.int .i64 0), (.int .i64 0), (.int .i64 0), (.int .i64 0), (.int .i64 0), (.int .i64 0), (.int .i64 0), (.int .i64 0), (.int .i64 0), (.int .i64 0), (.int .i64 0), (.int .i64 0), (.int .i64 0), (.int .i64 0), (.int .i64 0), (.int .i64 0), (.int .i64 0), (.int .i64 0), (.int .i64 0), (.int .i64 0), (.int .i64 0), (.int .i64 0), (.int .i64 0), (.int .i64 0), (.int .i64 0), (.int .i64 0), (.int .i64 0), (.int .i64 0), (.int .i64 0), (.int .i64 0), (.int .i64 0), (.int .i64 0), (.int .i64 0), (.int .i64 0), (.int .i64 0), (.int .i64 0), (.int .i64 0), (.int .i64 0), (.int .i64 0), (.int .i64 0), (.int .i64 0), (.int .i64 0), (.int .i64 0), (.int .i64 0), (.int .i64 0), (.int .i64 0), (.int .i64 0), (.int .i64 0), (.int .i64 0), (.int .i64 0), (.int .i64 0), (.int .i64 0), (.int .i64 0), (.int .i64 0), (.int .i64 0), (.int .i64 0), (.int .i64 0), (.int .i64 0), (.int .i64 0), (.int .i64 0), (.int .i64 0), (.int .i64 0), (.int .i64 0), (.int .i64 0), (.int .i64 0), (.int .i64 0), (.int .i64 0), (.int .i64 0), (.int .i64 0), (.int .i64 0), (.int .i64 0), (.int .i64 0), (.int .i64 0), (.int .i64 0), (.int .i64 0), (.int .i64 0), (.int .i64 0), (.int .i64 0), (.int .i64 0), (.int .i64 0), (.int .i64 0), (.int .i64 0), (.int .i64 0), (.int .i64 0), (.int .i64 0), (.int .i64 0), (.int .i64 0), (.int .i64 0), (.int .i64 0), (.int .i64 0), (.int .i64 0), (.int .i64 0), (.int .i64 0), (.int .i64 0), (.int .i64 0), (.int .i64 0), (.int .i64 0), (.int .i64 0), (.int .i64 0), (.int .i64 0), (.int .i64 0), (.int .i64 0), (.int .i64 0), (.int .i64 0), (.int .i64 0), (.int .i64 0), (.int .i64 0), (.int .i64 0), (.int .i64 0), (.int .i64 0), (.int .i64 0), (.int .i64 0), (.int .i64 0), (.int .i64 0), (.int .i64 0), (.int .i64 0), (.int .i64 0), (.int .i64 0), (.int .i64 0), (.int .i64 0), (.int .i64 0), (.int .i64 0), (.int .i64 0), (.int .i64 0), (.int .i64 0), (.int .i64 0), (.int .i64 0), (.int .i64 0), (.int .i64 0), (.int .i64 0), (.int .i64 0), (.int .i64 0), (.int .i64 0), (.int .i64 0), (.int .i64 0), (.int .i64 0), (.int .i64 0), (.int .i64 0), (.int .i64 0), (.int .i64 0), (.int .i64 0), (.int .i64 0), (.int .i64 0), (.int .i64 0), (.int .i64 0), (.int .i64 0), (.int .i64 0), (.int .i64 0), (.int .i64 0), (.int .i64 0), (.int .i64 0), (.int .i64 0), (.int .i64 0), (.int .i64 0), (.int .i64 0), (.int .i64 0), (.int .i64 0), (.int .i64 0), (.int .i64 0), (.int .i64 0), (.int .i64 0), (.int .i64 0), (.int .i64 0), (.int .i64 0), (.int .i64 0), (.int .i64 0), (.int .i64 0), (.int .i64 0), (.int .i64 0), (.int .i64 0), (.int .i64 0), (.int .i64 0), (.int .i64 0), (.int .i64 0), (.int .i64 0), (.int .i64 0), (.int .i64 0), (.int .i64 0), (.int .i64 0), (.int .i64 0), (.int .i64 0), (.int .i64 0), (.int .i64 0), (.int .i64 0), (.int .i64 0), (.int .i64 0), (.int .i64 0), (.int .i64 0), (.int .i64 0), (.int .i64 0), (.int .i64 0), (.int .i64 0), (.int .i64 0), (.int .i64 0), (.int .i64 0), (.int .i64 0), (.int .i64 0), (.int .i64 0), (.int .i64 0), (.int .i64 0), (.int .i64 0), (.int .i64 0), (.int .i64 0), (.int .i64 0), (.int .i64 0), (.int .i64 0), (.int .i64 0), (.int .i64 0), (.int .i64 0), (.int .i64 0), (.int .i64 0), (.int .i64 0), (.int .i64 0), (.int .i64 0), (.int .i64 0), (.int .i64 0), (.int .i64 0), (.int .i64 0), (.int .i64 0), (.int .i64 0), (.int .i64 0), (.int .i64 0), (.int .i64 0), (.int .i64 0), (.int .i64 0), (.int .i64 0), (.int .i64 0)] -> aW w w' eU -> w'.heap.size = w.heap.size + 1 -> K (.pointer (some ⟨w.heap.size, 0, none⟩)) w') : aD pg (fP 183) w K := oM (i := Tryz.t183) aJo rfl hk
theorem mQ {k : IntKind} {a : Int} (b o : Nat) (w : aNj) (h0 : 0 <= a) (h1 : a < 256) : (cI 183 (.pointer (some ⟨b, o, none⟩)) (.int k a)).run pg w = .ok (.value (.pointer (some ⟨b, o + a.toNat, none⟩))) w := amC rfl Tryz.underlying183 A2 b o h0 (by simpa using h1)
theorem dB (b o : Nat) (w : aNj) : (aJ 145 (.pointer (some ⟨b, o, none⟩)) 2).run pg w = .ok (.value (.pointer (some ⟨b, o + 2, none⟩))) w := jJ (i := 2) Tryz.underlying145 rfl A2 (by decide) _
theorem dP (b o : Nat) (w : aNj) : (aJ 138 (.pointer (some ⟨b, o, none⟩)) 0).run pg w = .ok (.value (.pointer (some ⟨b, o, none⟩))) w := jJ (i := 0) Tryz.underlying138 rfl A2 (by decide) _
theorem aDL : (pg).info? 131 = some Tryz.t131 := by kernel_rfl
theorem cJ (b o : Nat) (w : aNj) : (aJ 133 (.pointer (some ⟨b, o, none⟩)) 0).run pg w = .ok (.value (.pointer (some ⟨b, o, none⟩))) w := jJ (i := 0) Tryz.underlying133 rfl aDL (by decide) _
theorem lR (x : Addr) (w : aNj) : (aL 131 (.pointer (some x))).run pg w = ldC (w.cell? x) w (far pg 131 x w) := afQ Tryz.underlying131 rfl x w
theorem cO (b o : Nat) (w : aNj) : (aJ 133 (.pointer (some ⟨b, o, none⟩)) 1).run pg w = .ok (.value (.pointer (some ⟨b, o + 1, none⟩))) w := jJ (i := 1) Tryz.underlying133 rfl A2 (by decide) _
theorem dN {ty : TypeId} (x : Option Addr) (n c : Nat) (w : aNj) : (lO .len #[136] ty [.slice x n c]).run pg w = .ok (.value (.int .i64 n)) w := aaA Tryz.underlying136 x n c
theorem cV {ty : TypeId} (x : Option Addr) (n c : Nat) (w : aNj) : (lO .len #[84] ty [.slice x n c]).run pg w = .ok (.value (.int .i64 n)) w := aaA Tryz.underlying84 x n c
theorem cL (b o : Nat) (w : aNj) : (aJ 148 (.pointer (some ⟨b, o, none⟩)) 0).run pg w = .ok (.value (.pointer (some ⟨b, o, none⟩))) w := jJ (i := 0) Tryz.underlying148 rfl A2 (by decide) _
theorem dA (b o : Nat) (w : aNj) : (aJ 148 (.pointer (some ⟨b, o, none⟩)) 1).run pg w = .ok (.value (.pointer (some ⟨b, o + 1, none⟩))) w := jJ (i := 1) Tryz.underlying148 rfl A2 (by decide) _
theorem Yl {k : IntKind} {n : Int} {w : aNj} {K : aNk -> aNj -> Prop} (h0 : 0 <= n) (hn : 16 * n <= 2 ^ 48) (hk : ∀ w', eM w' w.heap.size (Fh n.toNat [(.int .i64 0), (.int .i64 0)]) -> aW w w' eU -> w'.heap.size = w.heap.size + 1 -> K (.slice (some ⟨w.heap.size, 0, none⟩) n.toNat n.toNat) w') : aD pg (qA 152 (.int k n) (.int k n)) w K := aoP (i := Tryz.t171) Tryz.underlying152 awJ rfl (by decide) rfl rfl h0 hn (by omega) hk
theorem fK (n0 : Int) (n1 : Int) (w : aNj) : (fV 171 [(0, (.int .i64 n0)), (1, (.int .i64 n1))]).run pg w = .ok (.value (.agg #[(.int .i64 n0), (.int .i64 n1)])) w := by kernel_rfl
theorem adW {b off : Nat} {cs : List aNk} {w : aNj} (ho : eM w b cs) {v : aNk} (h : cs[off]? = some v) {K : aNk -> Prop} (hk : K v) : zN pg 22 (.pointer (some ⟨b, off, none⟩)) w K := aEY Tryz.underlying22 rfl ho h hk
theorem Zd {b off : Nat} {cs : List aNk} {w : aNj} (ho : eM w b cs) {v : aNk} (h : cs[off]? = some v) {K : aNk -> Prop} (hk : K v) : zN pg 27 (.pointer (some ⟨b, off, none⟩)) w K := aEY Tryz.underlying27 rfl ho h hk
theorem aCc {w : aNj} {K : aNk -> aNj -> Prop} (hk : ∀ w', eM w' w.heap.size [(.slice none 0 0)] -> aW w w' eU -> w'.heap.size = w.heap.size + 1 -> K (.pointer (some ⟨w.heap.size, 0, none⟩)) w') : aD pg (fP 22) w K := oM (i := Tryz.t22) awC rfl hk
theorem aBy {w : aNj} {K : aNk -> aNj -> Prop} (hk : ∀ w', eM w' w.heap.size [(.int .i64 0)] -> aW w w' eU -> w'.heap.size = w.heap.size + 1 -> K (.pointer (some ⟨w.heap.size, 0, none⟩)) w') : aD pg (fP 27) w K := oM (i := Tryz.t27) aEF rfl hk
theorem aGd : (pg).info? 186 = some Tryz.t186 := by kernel_rfl
theorem apS {w : aNj} {K : aNk -> aNj -> Prop} (hk : ∀ w', eM w' w.heap.size [(.pointer none)] -> aW w w' eU -> w'.heap.size = w.heap.size + 1 -> K (.pointer (some ⟨w.heap.size, 0, none⟩)) w') : aD pg (fP 186) w K := oM (i := Tryz.t186) aGd rfl hk
theorem anK {b off : Nat} {cs : List aNk} {w : aNj} {v : aNk} {K : aNk -> aNj -> Prop} (ho : eM w b cs) (hv : one v = true) (h : off < cs.length) (hk : ∀ w', eM w' b (cs.set off v) -> aW w w' (fun x => x = b) -> w'.heap.size = w.heap.size -> K undef w') : aD pg (aR 186 (.pointer (some ⟨b, off, none⟩)) v) w K := uT aGd rfl ho hv h hk
theorem gM (x : Addr) (w : aNj) : (aL 152 (.pointer (some x))).run pg w = ldC (w.cell? x) w (far pg 152 x w) := afQ Tryz.underlying152 rfl x w
theorem hJ (x : Addr) (w : aNj) : (aL 186 (.pointer (some x))).run pg w = ldC (w.cell? x) w (far pg 186 x w) := afQ Tryz.underlying186 rfl x w
theorem iT (a0 : Option Addr) (l0 c0 : Nat) (w : aNj) : (fV 192 [(0, (.slice a0 l0 c0))]).run pg w = .ok (.value (.agg #[(.slice a0 l0 c0), (.int .i64 0)])) w := by kernel_rfl
theorem fM {ox oy : Operand} (x : Option Addr) (w : aNj) : (aI .eql 156 ox oy (.pointer x) (.pointer none)).run pg w = .ok (.value (.bool x.isNone)) w := axX Tryz.underlying156 x
theorem iK (b o : Nat) (w : aNj) : (aJ 192 (.pointer (some ⟨b, o, none⟩)) 0).run pg w = .ok (.value (.pointer (some ⟨b, o, none⟩))) w := jJ (i := 0) Tryz.underlying192 rfl awC (by decide) _
theorem gO (b o : Nat) (w : aNj) : (aJ 192 (.pointer (some ⟨b, o, none⟩)) 1).run pg w = .ok (.value (.pointer (some ⟨b, o + 1, none⟩))) w := jJ (i := 1) Tryz.underlying192 rfl A2 (by decide) _
theorem anS {k : IntKind} {n : Int} {w : aNj} {K : aNk -> aNj -> Prop} (h0 : 0 <= n) (hn : 24 * n <= 2 ^ 48) (hk : ∀ w', eM w' w.heap.size (Fh n.toNat [(.int .u8 0), (.int .i64 0), (.int .i64 0)]) -> aW w w' eU -> w'.heap.size = w.heap.size + 1 -> K (.slice (some ⟨w.heap.size, 0, none⟩) n.toNat n.toNat) w') : aD pg (qA 106 (.int k n) (.int k n)) w K := aoP (i := Tryz.t115) Tryz.underlying106 avC rfl (by decide) rfl rfl h0 hn (by omega) hk
theorem gT (b o : Nat) (w : aNj) : (aJ 165 (.pointer (some ⟨b, o, none⟩)) 0).run pg w = .ok (.value (.pointer (some ⟨b, o, none⟩))) w := jJ (i := 0) Tryz.underlying165 rfl awC (by decide) _
theorem kW {k : IntKind} (a : Int) (w : aNj) : (jO 94 5 (.int k a)).run pg w = .ok (.value (.int .u8 (IntKind.u8.wrap a))) w := HK Tryz.underlying94 Tryz.underlying5
theorem aDZ {n : Nat} {ps : List (Nat × aNk)} {cells : Array aNk} {w : aNj} (h1 : ¬ n * 1 > 2 ^ 24) (h0 : ¬ n * 1 = 0) (hf : Go.Instr.fill (fun j => some (j * 1, 1)) ((Array.range (n * 1)).map ((Tryz.t4.zero.get!).cells[· % (Tryz.t4.zero.get!).cells.size]!)) ps = some cells) {K : aNk -> aNj -> Prop} (hk : ∀ w', eM w' w.heap.size cells.toList -> aW w w' eU -> w'.heap.size = w.heap.size + 1 -> K (.slice (some ⟨w.heap.size, 0, none⟩) n n) w') : aD pg (cT 131 n ps) w K := HJ (i := Tryz.t4) Tryz.underlying131 aF4 rfl h1 h0 hf hk
theorem abI {base n m : Nat} {ty : TypeId} {w : aNj} {v x : aNk} {l news : List aNk} (h : sM w base 1 v n l) (hx : Cl w 1 x m news) (hone : ∀ y ∈ news, one y = true) (hb : base <= w.heap.size) (hbytes : (n + m) * 1 <= 140737488355328) {K : aNk -> aNj -> Prop} (hk : ∀ v' w', sM w' base 1 v' (n + m) (l ++ news) -> aW w w' (fun y => base <= y) -> K v' w') : aD pg (lO .append #[131, 131] ty [v, x]) w K := Ns (i := Tryz.t4) Tryz.underlying131 Tryz.underlying131 aF4 rfl rfl rfl h hx hone hb (by omega) hbytes (by decide) hk
theorem pT {b off : Nat} {cs : List aNk} {w : aNj} (ho : eM w b cs) (h : off + 2 <= cs.length) {K : aNk -> Prop} (hk : K (.agg ((cs.drop off).take 2).toArray)) : zN pg 176 (.pointer (some ⟨b, off, none⟩)) w K := FP Tryz.underlying176 rfl aBw ho h hk
theorem eI (b o : Nat) (w : aNj) : (aJ 176 (.pointer (some ⟨b, o, none⟩)) 0).run pg w = .ok (.value (.pointer (some ⟨b, o, none⟩))) w := jJ (i := 0) Tryz.underlying176 rfl aDL (by decide) _
theorem dJ (b o : Nat) (w : aNj) : (aJ 176 (.pointer (some ⟨b, o, none⟩)) 1).run pg w = .ok (.value (.pointer (some ⟨b, o + 1, none⟩))) w := jJ (i := 1) Tryz.underlying176 rfl A2 (by decide) _
theorem kF {k k' : IntKind} {lo hi : Int} (a : Option Addr) (n c : Nat) (w : aNj) (h0 : 0 <= lo) (h1 : lo <= hi) (h2 : hi <= c) : (lX 131 (.slice a n c) (some (.int k lo)) (some (.int k' hi)) none).run pg w = .ok (.value (.slice (mU a c (lo.toNat) 1) (hi.toNat - lo.toNat) (c - lo.toNat))) w := aBi Tryz.underlying131 aF4 _ n c h0 h1 h2
theorem lY {k : IntKind} {lo : Int} (a : Option Addr) (n c : Nat) (w : aNj) (h0 : 0 <= lo) (h1 : lo <= n) : (lX 131 (.slice a n c) (some (.int k lo)) none none).run pg w = .ok (.value (.slice (mU a c (lo.toNat) 1) (n - lo.toNat) (c - lo.toNat))) w := ayR Tryz.underlying131 aF4 _ n c h0 h1
theorem aDi {b off : Nat} {cs : List aNk} {w : aNj} {v : aNk} {K : aNk -> aNj -> Prop} (ho : eM w b cs) (hv : one v = true) (h : off < cs.length) (hk : ∀ w', eM w' b (cs.set off v) -> aW w w' (fun x => x = b) -> w'.heap.size = w.heap.size -> K undef w') : aD pg (aR 131 (.pointer (some ⟨b, off, none⟩)) v) w K := uT aDL rfl ho hv h hk
theorem kE  (w : aNj) : (fV 198 []).run pg w = .ok (.value (.agg #[(.slice none 0 0), (.int .i64 0)])) w := by kernel_rfl
theorem fH {ox oy : Operand} (x : Option Addr) (w : aNj) : (aI .eql 186 ox oy (.pointer x) (.pointer none)).run pg w = .ok (.value (.bool x.isNone)) w := axX Tryz.underlying186 x
theorem fN (b o : Nat) (w : aNj) : (aJ 198 (.pointer (some ⟨b, o, none⟩)) 1).run pg w = .ok (.value (.pointer (some ⟨b, o + 1, none⟩))) w := jJ (i := 1) Tryz.underlying198 rfl A2 (by decide) _
theorem fI (b o : Nat) (w : aNj) : (aJ 198 (.pointer (some ⟨b, o, none⟩)) 0).run pg w = .ok (.value (.pointer (some ⟨b, o, none⟩))) w := jJ (i := 0) Tryz.underlying198 rfl awC (by decide) _
theorem iG (a0 : Option Addr) (l0 c0 : Nat) (n1 : Int) (w : aNj) : (fV 198 [(0, (.slice a0 l0 c0)), (1, (.int .i64 n1))]).run pg w = .ok (.value (.agg #[(.slice a0 l0 c0), (.int .i64 n1)])) w := by kernel_rfl
end Go.Proofs.YtgpimhlgaokobaaGreat
namespace Go.Pu
def iR (p : Int) : Int := if p < 0 then 1 else p
def fits : Int -> List Int -> Bool
 | left, [] => left == 0
 | left, p :: r => if p < -1 ∨ left < iR p then false else fits (left - iR p) r
def Fi (ps : List Int) : Int := (ps.map iR).sum
def aAs (log : Int) (ps : List Int) : Bool := decide (5 <= log /\ log <= 15 /\ 1 <= ps.length /\ ps.length <= 256 /\ ps.getLast? ≠ some 0)
def X6 (log : Int) (ps : List Int) : Bool := aAs log ps && fits (2 ^ log.toNat) ps
theorem HI (p : Int) (ps : List Int) : Fi (p :: ps) = iR p + Fi ps := by simp [Fi]
theorem VW (a b : List Int) : Fi (a ++ b) = Fi a + Fi b := by simp [Fi]
theorem sL {p : Int} (h : -1 <= p) : 0 <= iR p := by unfold iR; split <;> omega
theorem aqN {ps : List Int} (h : ∀ p ∈ ps, -1 <= p) : 0 <= Fi ps := by
 induction ps with
 | nil => simp [Fi]
 | cons p r ih =>
   rw [HI]
   have := sL (h p (by simp))
   have := ih fun q hq => h q (aLc _ hq)
   omega
theorem ajK : ∀ {ps : List Int} {left : Int}, fits left ps = true ↔ (∀ p ∈ ps, -1 <= p) /\ Fi ps = left
 | [], left => by simp [fits, Fi]; constructor <;> intro h <;> omega
 | p :: r, left => by
   rw [fits, HI]
   by_cases h : p < -1 ∨ left < iR p
   .rw [if_pos h]
    constructor
    .intro h; cases h
    .rintro ⟨h1, h2⟩
     have hp := h1 p (by simp)
     have := aqN (ps := r) fun q hq => h1 q (aLc _ hq)
     omega
   .rw [if_neg h, ajK]
    constructor
    .rintro ⟨h1, h2⟩
     exact ⟨fun q hq => by rcases aLF.1 hq with rfl | hq; · omega
                           .exact h1 q hq, by omega⟩
    .rintro ⟨h1, h2⟩
     exact ⟨fun q hq => h1 q (aLc _ hq), by omega⟩
structure May (log : Nat) (ps : List Int) : Prop where
 log5 : 5 <= log
 log15 : log <= 15
 len1 : 1 <= ps.length
 len256 : ps.length <= 256
 last : ps.getLast? ≠ some 0
 low : ∀ p ∈ ps, -1 <= p
 sum : Fi ps = 2 ^ log
theorem May.b {log : Nat} {ps : List Int} (h : May log ps) : X6 log ps = true := by
 unfold X6 aAs
 simp only [aK5, decide_eq_true_eq]
 have h1 := h.log5
 have h2 := h.log15
 refine ⟨⟨by omega, by omega, h.len1, h.len256, h.last⟩, ?_⟩
 rw [ajK, aKO]
 exact ⟨h.low, h.sum⟩
theorem aCz {log : Nat} (h : log <= 15) : (2 : Int) ^ log <= 32768 := by
 have : 2 ^ log <= 2 ^ 15 := aKY (by omega) h
 have e : ((2 ^ log : Nat) : Int) = (2 : Int) ^ log := by simp
 omega
theorem aCg (log : Nat) : (1 : Int) <= 2 ^ log := by
 have : 1 <= 2 ^ log := Nat.one_le_two_pow
 have e : ((2 ^ log : Nat) : Int) = (2 : Int) ^ log := by simp
 omega
theorem aEC {ps : List Int} (h : ∀ p ∈ ps, -1 <= p) {p : Int} (hp : p ∈ ps) : iR p <= Fi ps := by
 induction ps with
 | nil => cases hp
 | cons q r ih =>
   rw [HI]
   have h0 := sL (h q (by simp))
   have h1 := aqN (ps := r) fun q hq => h q (aLc _ hq)
   rcases aLF.1 hp with rfl | hp
   .omega
   .have := ih (fun q hq => h q (aLc _ hq)) hp
    omega
def adv (n a : Nat) : Nat := (a + n / 2 + n / 8 + 3) % n
def aeV (n high : Nat) : Nat -> Nat -> Nat
 | 0, a => a
 | f + 1, a => if a < high then a else aeV n high f (adv n a)
def adJ : List Int -> Nat -> Nat -> List Int -> Nat × List Int
 | [], _, high, arr => (high, arr)
 | p :: r, s, high, arr => if p = -1 then adJ r (s + 1) (high - 1) (arr.set (high - 1) s) else adJ r (s + 1) high arr
def sY : List Int -> Nat -> List Nat
 | [], _ => []
 | p :: r, s => List.replicate p.toNat s ++ sY r (s + 1)
def place (n high : Nat) : List Nat -> Nat -> List Int -> List Int
 | [], _, arr => arr
 | s :: r, a, arr => place n high r (aeV n high n (adv n a)) (arr.set a s)
def rF (x0 : Int) (log : Nat) (ps : List Int) : List Int :=
 place (2 ^ log) (adJ ps 0 (2 ^ log) (List.replicate (2 ^ log) x0)).1 (sY ps 0) 0 (adJ ps 0 (2 ^ log) (List.replicate (2 ^ log) x0)).2
def pos (n j : Nat) : Nat := (j * (n / 2 + n / 8 + 3)) % n
theorem Mb (n j : Nat) : adv n (pos n j) = pos n (j + 1) := by
 unfold adv pos
 rw [aMm, aMm, Nat.mod_add_mod, aLD, aM0, aMm]
theorem aIv {s : Nat} (hs : s % 2 = 1) : ∀ (k x : Nat), 2 ^ k ∣ s * x -> 2 ^ k ∣ x := by
 intro k
 induction k with
 | zero => intro x _; simp
 | succ k ih =>
   intro x h
   have h2 : 2 ∣ s * x := Nat.dvd_trans ⟨2 ^ k, by rw [aLr, aLm]⟩ h
   have hx : x % 2 = 0 := by
    have : (s * x) % 2 = 0 := Nat.mod_eq_zero_of_dvd h2
    rw [Nat.mul_mod, hs, aM0, Nat.mod_mod] at this
    exact this
   obtain ⟨y, rfl⟩ : ∃ y, x = 2 * y := ⟨x / 2, by omega⟩
   rw [aLr, aLm (2 ^ k) 2, show s * (2 * y) = 2 * (s * y) by rw [Nat.mul_left_comm]] at h
   rw [aLr, aLm (2 ^ k) 2]
   exact Nat.mul_dvd_mul_left 2 (ih y (Nat.dvd_of_mul_dvd_mul_left (by omega) h))
theorem aHD {log : Nat} (h : 5 <= log) : (2 ^ log / 2 + 2 ^ log / 8 + 3) % 2 = 1 := by
 obtain ⟨k, rfl⟩ : ∃ k, log = k + 5 := ⟨log - 5, by omega⟩
 have : 2 ^ (k + 5) = 32 * 2 ^ k := by rw [aLM, aLm]
 omega
theorem aH4 {log : Nat} (h : 5 <= log) {i j : Nat} (hij : i < j) (hj : j < 2 ^ log) : pos (2 ^ log) i ≠ pos (2 ^ log) j := by
 unfold pos
 generalize hst : 2 ^ log / 2 + 2 ^ log / 8 + 3 = st
 have hodd : st % 2 = 1 := by rw [<- hst]; exact aHD h
 intro e
 have hle : i * st <= j * st := aLk _ (by omega)
 have hd : 2 ^ log ∣ st * (j - i) := by
  rw [aLm, Nat.sub_mul]
  exact Nat.dvd_of_mod_eq_zero (Nat.sub_mod_eq_zero_of_mod_eq e.symm)
 have := Nat.le_of_dvd (by omega) (aIv hodd _ _ hd)
 omega
theorem aGr : ∀ (n : Nat) (l : List Nat), l.Nodup -> (∀ a ∈ l, a < n) -> l.length <= n := by
 intro n
 induction n with
 | zero => intro l _ h; cases l with
   | nil => simp
   | cons a r => exact absurd (h a (by simp)) (by omega)
 | succ n ih =>
   intro l hd h
   by_cases hn : n ∈ l
   .have := ih (l.erase n) (hd.erase n) (fun a ha => by
     have h1 := h a (List.mem_of_mem_erase ha)
     have h2 : a ≠ n := fun e => by subst e; exact hd.not_mem_erase ha
     omega)
    rw [aM6 hn] at this
    omega
   .have := ih l hd (fun a ha => by
     have h1 := h a ha
     have h2 : a ≠ n := fun e => by subst e; exact hn ha
     omega)
    omega
theorem aAx {n : Nat} {l : List Nat} (hd : l.Nodup) (h : ∀ a ∈ l, a < n) (hl : l.length = n) {a : Nat} (ha : a < n) : a ∈ l := by
 refine Classical.byContradiction fun hn => ?_
 have := aGr n (a :: l) (List.nodup_cons.2 ⟨hn, hd⟩) (fun b hb => (aLF.1 hb).elim (fun e => e ▸ ha) (h b))
 simp at this; omega
def qB (n high j : Nat) : List Nat := ((List.range' j (n - j)).map (pos n)).filter (· < high)
theorem Vv {n high j : Nat} (h : j < n) : qB n high j = if pos n j < high then pos n j :: qB n high (j + 1) else qB n high (j + 1) := by
 unfold qB
 rw [show n - j = (n - (j + 1)) + 1 from by omega, List.range'_succ, aL0, aML]
 simp
theorem akH (n high : Nat) : qB n high n = [] := by unfold qB; simp
theorem avF {n : Nat} (h : 0 < n) (j : Nat) : pos n j < n := aMP _ h
theorem V4 (n : Nat) : pos n 0 = 0 := by simp [pos]
theorem aJW (n : Nat) : pos n n = 0 := by simp [pos, Nat.mul_mod_right]
theorem aFi {n high : Nat} (hh : 0 < high) : ∀ (d j f : Nat), j + d = n -> d <= f -> aeV n high f (pos n j) = (qB n high j).headD 0 := by
 intro d
 induction d with
 | zero =>
   intro j f hj _
   obtain rfl : j = n := by omega
   rw [akH, aJW]
   cases f with
   | zero => rfl
   | succ f => unfold aeV; rw [if_pos hh] <;> rfl
 | succ d ih =>
   intro j f hj hf
   obtain ⟨f, rfl⟩ : ∃ g, f = g + 1 := ⟨f - 1, by omega⟩
   rw [Vv (by omega)]
   unfold aeV
   split
   .rfl
   .rw [Mb]; exact ih (j + 1) f (by omega) (by omega)
def setAt : List (Nat × Nat) -> List Int -> List Int
 | [], arr => arr
 | (q, s) :: r, arr => setAt r (arr.set q s)
theorem aDj {n high : Nat} (hh : 0 < high) : ∀ (syms : List Nat) (j a : Nat) (arr : List Int), j <= n -> syms.length <= (qB n high j).length -> (syms ≠ [] -> (qB n high j).headD 0 = a) →
 place n high syms a arr = setAt ((qB n high j).zip syms) arr := by
 intro syms
 induction syms with
 | nil => intro j a arr _ _ _; simp [place, setAt]
 | cons s r ih =>
   intro j a arr hj hlen ha
   have ha := ha (by simp)
   have key : ∀ (d j : Nat), j + d = n -> (s :: r).length <= (qB n high j).length -> (qB n high j).headD 0 = a -> ∃ i, i < n /\ j <= i /\ pos n i = a /\ qB n high j = a :: qB n high (i + 1) := by
    intro d
    induction d with
    | zero =>
      intro j hj hl _
      obtain rfl : j = n := by omega
      rw [akH] at hl; simp at hl
    | succ d ihd =>
      intro j hj hl hd
      have e := Vv (high := high) (show j < n by omega)
      by_cases hp : pos n j < high
      .rw [if_pos hp] at e
       rw [e] at hd
       have : pos n j = a := hd
       exact ⟨j, by omega, aK1 _, this, by rw [e, this]⟩
      .rw [if_neg hp] at e
       rw [e] at hl hd ⊢
       obtain ⟨i, h1, h2, h3, h4⟩ := ihd (j + 1) (by omega) hl hd
       exact ⟨i, h1, by omega, h3, h4⟩
   obtain ⟨i, h1, h2, h3, h4⟩ := key (n - j) j (by omega) hlen ha
   rw [h4] at hlen ⊢
   simp only [aLa] at hlen
   rw [place, List.zip_cons_cons, setAt]
   refine ih (i + 1) _ _ (by omega) (by omega) (fun hr => ?_)
   rw [<- h3, Mb]
   exact (aFi hh (n - (i + 1)) (i + 1) n (by omega) (by omega)).symm
def vW : List Int -> Nat -> List Nat
 | [], _ => []
 | p :: r, s => if p = -1 then s :: vW r (s + 1) else vW r (s + 1)
def toI (l : List Nat) : List Int := l.map Int.ofNat
theorem aAg : ∀ (ps : List Int) (s high : Nat) (arr : List Int), (vW ps s).length <= high -> high <= arr.length →
 adJ ps s high arr = (high - (vW ps s).length, arr.take (high - (vW ps s).length) ++ toI (vW ps s).reverse ++ arr.drop high) := by
 intro ps
 induction ps with
 | nil => intro s high arr h1 h2; simp [adJ, vW, toI]
 | cons p r ih =>
   intro s high arr h1 h2
   unfold adJ vW
   unfold vW at h1
   by_cases hp : p = -1
   .rw [if_pos hp, if_pos hp]
    rw [if_pos hp] at h1
    simp only [aLa] at h1 ⊢
    rw [ih (s + 1) (high - 1) _ (by omega) (by simp; omega)]
    congr 1
    .omega
    .have hlt : high - 1 < arr.length := by omega
     rw [List.take_set_of_le (by omega), show high - 1 - (vW r (s + 1)).length = high - ((vW r (s + 1)).length + 1) from by omega]
     have : (arr.set (high - 1) (s : Int)).drop (high - 1) = (s : Int) :: arr.drop high := by
      rw [aLo (by simp; omega)]
      simp only [aMU]
      rw [show high - 1 + 1 = high from by omega, List.drop_set_of_lt (by omega)]
     rw [this]
     simp [toI]
   .rw [if_neg hp, if_neg hp]
    rw [if_neg hp] at h1
    exact ih (s + 1) high arr h1 h2
theorem ajW : ∀ (l : List (Nat × Nat)) (arr : List Int), (setAt l arr).length = arr.length
 | [], _ => rfl
 | (q, s) :: r, arr => by rw [setAt, ajW]; simp
theorem V7 {q : Nat} : ∀ (l : List (Nat × Nat)) (arr : List Int), (∀ x ∈ l, x.1 ≠ q) -> (setAt l arr)[q]? = arr[q]?
 | [], _, _ => rfl
 | (a, s) :: r, arr, h => by
   rw [setAt, V7 r _ fun x hx => h x (aLc _ hx), List.getElem?_set_ne (h (a, s) (by simp))]
theorem aFF : ∀ (us : List Nat) (ss : List Nat) (arr : List Int) (t : Nat), us.Nodup -> us.length = ss.length -> (∀ q ∈ us, q < arr.length) -> (ht : t < us.length) -> (ht' : t < ss.length) →
 (setAt (us.zip ss) arr)[us[t]]? = some (ss[t] : Int) := by
 intro us
 induction us with
 | nil => intro ss arr t _ _ _ ht; simp at ht
 | cons u us ih =>
   intro ss arr t hd hl hb ht ht'
   cases ss with
   | nil => simp at hl
   | cons x ss =>
     obtain ⟨h1, h2⟩ := List.nodup_cons.1 hd
     rw [List.zip_cons_cons, setAt]
     cases t with
     | zero =>
       simp only [aMk]
       rw [V7 _ _ (fun y hy => fun e => h1 (by have := (List.of_mem_zip (a := y.1) (b := y.2) hy).1; rw [e] at this; exact this))]
       have : u < arr.length := hb u (by simp)
       simp [this]
     | succ t =>
       simp only [aMR]
       exact ih ss _ t h2 (by simpa using hl) (fun q hq => by simpa using hb q (aLc _ hq)) (by simpa using ht) (by simpa using ht')
theorem axO : ∀ (n : Nat) (l : List Nat), l.Nodup -> (∀ a ∈ l, a < n) -> l.length = n -> l.Perm (List.range n) := by
 intro n
 induction n with
 | zero => intro l _ _ h; rw [aLq.1 h]; exact List.Perm.refl _
 | succ n ih =>
   intro l hd h hl
   have hn : n ∈ l := aAx hd h hl (by omega)
   have p1 := List.perm_cons_erase hn
   have p2 := ih (l.erase n) (hd.erase n) (fun a ha => by
    have h1 := h a (List.mem_of_mem_erase ha)
    have h2 : a ≠ n := fun e => by subst e; exact hd.not_mem_erase ha
    omega) (by rw [aM6 hn]; omega)
   rw [aM3]
   exact p1.trans ((p2.cons n).trans (List.perm_append_singleton n _).symm)
theorem aC8 : ∀ (ps : List Int) (s : Nat), (∀ p ∈ ps, -1 <= p) -> ((sY ps s).length : Int) + (vW ps s).length = Fi ps := by
 intro ps
 induction ps with
 | nil => intro s _; simp [sY, vW, Fi]
 | cons p r ih =>
   intro s h
   have := ih (s + 1) fun q hq => h q (aLc _ hq)
   have hp := h p (by simp)
   rw [HI]
   unfold sY vW iR
   by_cases h1 : p = -1
   .rw [if_pos h1, if_pos (by omega)]; subst h1; simp; omega
   .rw [if_neg h1, if_neg (by omega)]; simp; omega
theorem aDG : ∀ (ps : List Int) (s i : Nat), (sY ps s).count (s + i) = if h : i < ps.length then ps[i].toNat else 0 := by
 intro ps
 induction ps with
 | nil => intro s i; simp [sY]
 | cons p r ih =>
   intro s i
   have low : ∀ (ps : List Int) (s a : Nat), a < s -> (sY ps s).count a = 0 := by
    intro ps
    induction ps with
    | nil => intro s a _; simp [sY]
    | cons p r ih =>
      intro s a h
      unfold sY
      rw [aMg, ih (s + 1) a (by omega), List.count_replicate]
      simp; omega
   unfold sY
   rw [aMg, List.count_replicate]
   cases i with
   | zero => rw [aLW, low r (s + 1) s (by omega)]; simp
   | succ i =>
     rw [show s + (i + 1) = s + 1 + i from by omega, ih (s + 1) i]
     have : (s == s + 1 + i) = false := by simp; omega
     rw [this]; simp
theorem aDE : ∀ (ps : List Int) (s i : Nat), (vW ps s).count (s + i) = if h : i < ps.length then (if ps[i] = -1 then 1 else 0) else 0 := by
 intro ps
 induction ps with
 | nil => intro s i; simp [vW]
 | cons p r ih =>
   intro s i
   have low : ∀ (ps : List Int) (s a : Nat), a < s -> (vW ps s).count a = 0 := by
    intro ps
    induction ps with
    | nil => intro s a _; simp [vW]
    | cons p r ih =>
      intro s a h
      unfold vW
      split
      .rw [aMh, ih (s + 1) a (by omega)]; simp; omega
      .exact ih (s + 1) a (by omega)
   unfold vW
   cases i with
   | zero =>
     rw [aLW]
     by_cases h : p = -1
     .rw [if_pos h, aMh, low r (s + 1) s (by omega)]; simp [h]
     .rw [if_neg h, low r (s + 1) s (by omega)]; simp [h]
   | succ i =>
     have e : s + (i + 1) = s + 1 + i := by omega
     by_cases h : p = -1
     .rw [if_pos h, aMh, e, ih (s + 1) i]
      have : (s == s + 1 + i) = false := by simp; omega
      rw [this]; simp
     .rw [if_neg h, e, ih (s + 1) i]; simp
theorem aIp : ∀ (ps : List Int) (s i : Nat) (h : i < ps.length), ps[i] = -1 -> (vW ps s)[(ps.take i).count (-1)]? = some (s + i) := by
 intro ps
 induction ps with
 | nil => intro s i h; simp at h
 | cons p r ih =>
   intro s i h hp
   unfold vW
   cases i with
   | zero => simp only [aMk] at hp; rw [if_pos hp]; simp
   | succ i =>
     simp only [aMR] at hp
     have := ih (s + 1) i (by simpa using h) hp
     rw [aKT, aMh]
     by_cases h1 : p = -1
     .rw [if_pos h1]; simp only [h1, beq_self_eq_true, if_true, aKN]; rw [this]; congr 1; omega
     .rw [if_neg h1]
      have : (p == -1) = false := by simpa using h1
      rw [this]; simp only [aKQ, if_false, aLW]
      rw [‹(vW r (s + 1))[_]? = _›]; congr 1; omega
theorem Y6 {log high : Nat} (hl : 5 <= log) (hh : high <= 2 ^ log) : (qB (2 ^ log) high 0).Nodup /\ (∀ a ∈ qB (2 ^ log) high 0, a < high) /\ (qB (2 ^ log) high 0).length = high := by
 have hn : 0 < 2 ^ log := aLh log
 have hnd : ((List.range (2 ^ log)).map (pos (2 ^ log))).Nodup := by
  rw [List.nodup_iff_pairwise_ne, List.pairwise_map]
  refine List.pairwise_iff_getElem.2 fun i j hi hj hij => ?_
  simp only [aNc] at hi hj
  simp only [aMu]
  exact aH4 hl hij hj
 have hp := axO (2 ^ log) _ hnd (fun a ha => by
  obtain ⟨j, _, rfl⟩ := aLZ.1 ha
  exact avF hn j) (by simp)
 unfold qB
 rw [Nat.sub_zero, <- List.range_eq_range']
 refine ⟨hnd.filter _, fun a ha => by simpa using (aM2.1 ha).2, ?_⟩
 rw [(hp.filter _).length_eq]
 have : ∀ m : Nat, high <= m -> ((List.range m).filter (· < high)).length = high := by
  intro m
  induction m with
  | zero => intro h; simp; omega
  | succ m ih =>
    intro h
    rw [aM3, List.filter_append, aKV]
    by_cases hm : high <= m
    .rw [ih hm]; simp; omega
    .have : high = m + 1 := by omega
     subst this
     have : (List.range m).filter (fun x => decide (x < m + 1)) = List.range m := List.filter_eq_self.2 fun a ha => by have := aLu.1 ha; simp; omega
     rw [this]; simp
 exact this _ hh
structure Lay (log : Nat) (ps : List Int) (S : List Int) : Prop where
 len : S.length = 2 ^ log
 cnt : ∀ s (h : s < ps.length), S.count (s : Int) = (iR ps[s]).toNat
 rng : ∀ x ∈ S, ∃ s : Nat, s < ps.length /\ x = s
 top : ∀ s (h : s < ps.length), ps[s] = -1 -> S[2 ^ log - 1 - (ps.take s).count (-1)]? = some (s : Int)
theorem aAK (l : List Nat) (s : Nat) : (toI l).count (s : Int) = l.count s := by
 induction l with
 | nil => rfl
 | cons a r ih =>
   show List.count _ (Int.ofNat a :: toI r) = _
   rw [aMh, aMh, ih]
   congr 1
   by_cases h : a = s
   .subst h; simp
   .simp [h]; omega
theorem aHa : ∀ (ps : List Int) (s : Nat), ∀ x ∈ sY ps s, s <= x /\ x < s + ps.length := by
 intro ps
 induction ps with
 | nil => intro s x h; simp [sY] at h
 | cons p r ih =>
   intro s x h
   unfold sY at h
   rcases aLx.1 h with h | h
   .have := (List.mem_replicate.1 h).2; simp; omega
   .have := ih (s + 1) x h; simp; omega
theorem aHA : ∀ (ps : List Int) (s : Nat), ∀ x ∈ vW ps s, s <= x /\ x < s + ps.length := by
 intro ps
 induction ps with
 | nil => intro s x h; simp [vW] at h
 | cons p r ih =>
   intro s x h
   unfold vW at h
   split at h
   .rcases aLF.1 h with rfl | h
    .simp
    .have := ih (s + 1) x h; simp; omega
   .have := ih (s + 1) x h; simp; omega
theorem Wy {log : Nat} {ps : List Int} (h : May log ps) (x0 : Int) :
 ∃ low : List Int, rF x0 log ps = low ++ toI (vW ps 0).reverse /\ low.Perm (toI (sY ps 0)) /\ ((vW ps 0).length + low.length = 2 ^ log) /\
   (∀ t (h1 : t < (qB (2 ^ log) (sY ps 0).length 0).length) (h2 : t < (sY ps 0).length), low[(qB (2 ^ log) (sY ps 0).length 0)[t]]? = some ((sY ps 0)[t] : Int)) := by
 have hrl := aC8 ps 0 h.low
 rw [h.sum] at hrl
 have hpow : ((2 ^ log : Nat) : Int) = (2 : Int) ^ log := by simp
 obtain ⟨m, hm⟩ : ∃ m, m = (vW ps 0).length := ⟨_, rfl⟩
 obtain ⟨hi, hhi⟩ : ∃ x, x = (sY ps 0).length := ⟨_, rfl⟩
 rw [<- hm, <- hhi] at hrl
 have hsum : hi + m = 2 ^ log := by omega
 have ht := aAg ps 0 (2 ^ log) (List.replicate (2 ^ log) x0) (by omega) (by simp)
 rw [<- hm, show 2 ^ log - m = hi from by omega] at ht
 have e2 : (List.replicate (2 ^ log) x0).take hi = List.replicate hi x0 := by rw [List.take_replicate]; congr 1; omega
 have e3 : (List.replicate (2 ^ log) x0).drop (2 ^ log) = [] := by simp
 rw [e2, e3, aLG] at ht
 unfold rF
 rw [ht]
 simp only
 obtain ⟨u1, u2, u3⟩ := Y6 (high := hi) h.log5 (by omega)
 by_cases h0 : hi = 0
 .have hr : sY ps 0 = [] := aLq.1 (by omega)
  rw [hr, h0]
  refine ⟨[], by simp [place], by simp [toI], by simp; omega, fun t _ h2 => by simp at h2⟩
 .have hp := aDj (n := 2 ^ log) (high := hi) (by omega) (sY ps 0) 0 0 (List.replicate hi x0 ++ toI (vW ps 0).reverse) (by omega) (by rw [u3]; omega) (fun _ => by
   rw [Vv (aLh log), V4, if_pos (by omega)] <;> rfl)
  rw [hp]
  generalize hU : qB (2 ^ log) hi 0 = U at *
  have hb : ∀ q ∈ U, q < (List.replicate hi x0 ++ toI (vW ps 0).reverse).length := fun q hq => by have := u2 q hq; simp; omega
  obtain ⟨R, hR⟩ : ∃ R, R = setAt (U.zip (sY ps 0)) (List.replicate hi x0 ++ toI (vW ps 0).reverse) := ⟨_, rfl⟩
  have hRl : R.length = hi + m := by rw [hR, ajW]; simp [toI, hm]
  have hRd : R.drop hi = toI (vW ps 0).reverse := by
   apply aLY
   intro i
   rw [aMs, hR, V7 _ _ (fun x hx => by
     have := u2 _ (List.of_mem_zip (a := x.1) (b := x.2) hx).1
     omega), aLS (by simp)]
   simp
  have hget : ∀ t (h1 : t < U.length) (h2 : t < (sY ps 0).length), R[U[t]]? = some ((sY ps 0)[t] : Int) := fun t h1 h2 => by
   rw [hR]; exact aFF U _ _ t u1 (by omega) hb h1 h2
  rw [<- hR]
  refine ⟨R.take hi, by rw [<- hRd, aMv], ?_, by rw [aK2]; omega, fun t h1 h2 => ?_⟩
  .have p1 : (U.map fun q => R.getD q 0).Perm ((List.range hi).map fun q => R.getD q 0) := (axO hi U u1 u2 u3).map _
   have p2 : (U.map fun q => R.getD q 0) = toI (sY ps 0) := by
    apply aMa
    .simp [toI]; omega
    .intro t h1 h2
     simp only [aKZ] at h1
     have := hget t h1 (by omega)
     simp only [aL3, toI, aK0, this]
     rfl
   have p3 : ((List.range hi).map fun q => R.getD q 0) = R.take hi := by
    apply aMa
    .simp; omega
    .intro q h1 h2
     simp only [aKZ, aNc] at h1
     simp only [aL3, aMu, List.getElem_take, aK0]
     rw [aKW (by omega)] <;> rfl
   rw [p2, p3] at p1
   exact p1.symm
  .subst hhi
   simp only [hU] at h1 ⊢
   have := hget t h1 h2
   rw [aLB (u2 _ (aLA h1))]
   exact this
theorem OQ {log : Nat} {ps : List Int} (h : May log ps) (x0 : Int) : Lay log ps (rF x0 log ps) := by
 obtain ⟨low, e, hp, hl, _⟩ := Wy h x0
 rw [e]
 refine ⟨by simp [toI]; omega, fun s hs => ?_, fun x hx => ?_, fun s hs hps => ?_⟩
 .rw [aMg, hp.count_eq, aAK, aAK, List.count_reverse]
  have h1 := aDG ps 0 s
  have h2 := aDE ps 0 s
  rw [aKP] at h1 h2
  rw [h1, h2, dif_pos hs, dif_pos hs]
  have := h.low _ (aLA hs)
  unfold iR
  split <;> split <;> omega
 .rcases aLx.1 hx with hx | hx
  .have hx := hp.mem_iff.1 hx
   obtain ⟨s, hs, rfl⟩ := aLZ.1 hx
   exact ⟨s, by have := aHa ps 0 s hs; omega, rfl⟩
  .obtain ⟨s, hs, rfl⟩ := aLZ.1 hx
   exact ⟨s, by have := aHA ps 0 s (List.mem_reverse.1 hs); omega, rfl⟩
 .have h1 := aIp ps 0 s hs hps
  rw [aKP] at h1
  have hlt : (ps.take s).count (-1) < (vW ps 0).length := by
   rcases aK9 ((ps.take s).count (-1)) (vW ps 0).length with h | h
   .exact h
   .rw [aK3 h] at h1; cases h1
  rw [aLS (by omega)]
  unfold toI
  rw [aLl, List.getElem?_reverse (by omega), show (vW ps 0).length - 1 - (2 ^ log - 1 - List.count (-1) (List.take s ps) - low.length) = (ps.take s).count (-1) from by omega, h1]
  rfl
theorem aF5 {log : Nat} {ps : List Int} (h : May log ps) (x y : Int) : rF x log ps = rF y log ps := by
 obtain ⟨a, e1, p1, l1, g1⟩ := Wy h x
 obtain ⟨b, e2, p2, l2, g2⟩ := Wy h y
 rw [e1, e2]
 congr 1
 apply aLY
 intro q
 have hrl : (sY ps 0).length = a.length := by rw [p1.length_eq]; simp [toI]
 by_cases hq : q < a.length
 .obtain ⟨u1, u2, u3⟩ := Y6 (high := (sY ps 0).length) h.log5 (by omega)
  have hm := aAx u1 u2 u3 (a := q) (by omega)
  obtain ⟨t, ht, rfl⟩ := aMi hm
  rw [g1 t ht (by omega), g2 t ht (by omega)]
 .rw [aK3 (by omega), aK3 (by omega)]
def bl (k : Nat) : Nat := if k = 0 then 0 else k.log2 + 1
theorem aHW : bl 0 = 0 := rfl
theorem Wk (k : Nat) : k < 2 ^ bl k := by
 unfold bl
 split
 .subst_vars; simp
 .exact Nat.lt_log2_self
theorem Y9 {k : Nat} (h : k ≠ 0) : 2 ^ (bl k - 1) <= k := by
 unfold bl
 rw [if_neg h, aLO]
 exact Nat.log2_self_le h
theorem Nh {k : Nat} (h : k ≠ 0) : 1 <= bl k := by unfold bl; rw [if_neg h]; omega
theorem wH {k n : Nat} (h : k < 2 ^ n) : bl k <= n := by
 by_cases h0 : k = 0
 .subst h0; simp [bl]
 .rcases aK9 n (bl k) with hh | hh
  .have h1 := Y9 h0
   have := aKY (n := 2) (by omega) (show n <= bl k - 1 by omega)
   omega
  .exact hh
theorem aG9 {k n : Nat} (h1 : 2 ^ n <= k) (h2 : k < 2 ^ (n + 1)) : bl k = n + 1 := by
 have h0 : k ≠ 0 := by have := aLh n; omega
 have a := wH h2
 have b := Wk k
 rcases aK9 (bl k) (n + 1) with h | h
 .have := aKY (n := 2) (by omega) (show bl k <= n by omega)
  omega
 .omega
def kAt (ps S : List Int) (i : Nat) : Nat := (iR (ps.getD (S.getD i 0).toNat 0)).toNat + (S.take i).count (S.getD i 0)
def F8 (log : Nat) (x : Int) (k : Nat) : Int × Int × Int := (x, ((log + 1 - bl k : Nat) : Int), ((k * 2 ^ (log + 1 - bl k) : Nat) : Int) - 2 ^ log)
def Ub (log : Nat) (ps S : List Int) (i : Nat) : Int × Int × Int := F8 log (S.getD i 0) (kAt ps S i)
def wY (log : Nat) (ps : List Int) : List (Int × Int × Int) := (List.range (2 ^ log)).map (Ub log ps (rF 0 log ps))
theorem wU (log : Nat) (ps : List Int) : (wY log ps).length = 2 ^ log := by simp [wY]
theorem azH {S : List Int} {i : Nat} (h : i < S.length) : (S.take i).count S[i] + 1 <= S.count S[i] := by
 have e : S = S.take i ++ S[i] :: S.drop (i + 1) := by rw [<- aLo h, aMv]
 have : S.count S[i] = (S.take i ++ S[i] :: S.drop (i + 1)).count S[i] := by rw [<- e]
 rw [this, aMg, aMh]; simp
theorem awA {log : Nat} {ps : List Int} (h : May log ps) {s : Nat} (hs : s < ps.length) : (iR ps[s]).toNat <= 2 ^ log := by
 have := aEC h.low (aLA hs)
 rw [h.sum] at this
 have hpow : ((2 ^ log : Nat) : Int) = (2 : Int) ^ log := by simp
 rw [<- hpow] at this
 exact Int.toNat_le.2 this
theorem avW {log : Nat} {ps S : List Int} (h : May log ps) (L : Lay log ps S) {i : Nat} (hi : i < 2 ^ log) :
 ∃ s : Nat, ∃ hs : s < ps.length, S.getD i 0 = (s : Int) /\ 1 <= (iR ps[s]).toNat /\ (iR ps[s]).toNat <= 2 ^ log /\ kAt ps S i = (iR ps[s]).toNat + (S.take i).count (s : Int) /\ (S.take i).count (s : Int) < (iR ps[s]).toNat := by
 have hil : i < S.length := by rw [L.len]; exact hi
 have hg : S.getD i 0 = S[i] := by rw [aK0, aKW hil] <;> rfl
 obtain ⟨s, hs, e⟩ := L.rng _ (aLA hil)
 have hc := azH hil
 rw [e, L.cnt s hs] at hc
 refine ⟨s, hs, by rw [hg, e], by omega, awA h hs, ?_, by omega⟩
 unfold kAt
 rw [hg, e, aKO, aK0, aKW hs] <;> rfl
theorem aBq {log k : Nat} (h1 : 1 <= k) (h2 : k < 2 ^ (log + 1)) : 2 ^ log <= k * 2 ^ (log + 1 - bl k) /\ (k + 1) * 2 ^ (log + 1 - bl k) <= 2 ^ (log + 1) /\ bl k <= log + 1 /\ 1 <= bl k := by
 have a := wH h2
 have b := Nh (k := k) (by omega)
 have c := Y9 (k := k) (by omega)
 have d := Wk k
 refine ⟨?_, ?_, a, b⟩
 .calc 2 ^ log = 2 ^ (bl k - 1) * 2 ^ (log + 1 - bl k) := by rw [<- aLM]; congr 1; omega
   _ <= k * 2 ^ (log + 1 - bl k) := aLk _ c
 .calc (k + 1) * 2 ^ (log + 1 - bl k) <= 2 ^ bl k * 2 ^ (log + 1 - bl k) := aLk _ d
   _ = 2 ^ (log + 1) := by rw [<- aLM]; congr 1; omega
theorem aE2 (n j : Nat) (hn : 0 < n) : ∃ d, d < n /\ pos n (j + d) = 0 := by
 refine ⟨(n - j % n) % n, aMP _ hn, ?_⟩
 unfold pos
 have : (j + (n - j % n) % n) % n = 0 := by
  rw [Nat.add_mod_mod]
  have h1 := aMP j hn
  have h2 := Nat.div_add_mod j n
  have : j + (n - j % n) = n * (j / n + 1) := by
   rw [aM1, aMc]
   generalize n * (j / n) = y at *
   generalize j % n = r at *
   omega
  rw [this, Nat.mul_mod_right]
 rw [Nat.mul_mod, this, aNg, Nat.zero_mod]
theorem Xv {n high : Nat} (hn : 0 < n) (hh : 0 < high) (j : Nat) : ∃ d, (∀ e, e < d -> high <= pos n (j + e)) /\ pos n (j + d) < high /\ aeV n high n (pos n j) = pos n (j + d) := by
 obtain ⟨D, hD, h0⟩ := aE2 n j hn
 have key : ∀ (D f j : Nat), D <= f -> pos n (j + D) < high -> ∃ d, (∀ e, e < d -> high <= pos n (j + e)) /\ pos n (j + d) < high /\ aeV n high f (pos n j) = pos n (j + d) := by
  intro D
  induction D with
  | zero =>
    intro f j _ h
    refine ⟨0, fun e he => by omega, h, ?_⟩
    rw [aLW] at h ⊢
    cases f with
    | zero => rfl
    | succ f => unfold aeV; rw [if_pos h]
  | succ D ih =>
    intro f j hf h
    obtain ⟨f, rfl⟩ : ∃ g, f = g + 1 := ⟨f - 1, by omega⟩
    by_cases hj : pos n j < high
    .exact ⟨0, fun e he => by omega, hj, by unfold aeV; rw [if_pos hj] <;> rfl⟩
    .obtain ⟨d, h1, h2, h3⟩ := ih f (j + 1) (by omega) (by rw [show j + 1 + D = j + (D + 1) from by omega]; exact h)
     refine ⟨d + 1, fun e he => ?_, by rw [show j + (d + 1) = j + 1 + d from by omega]; exact h2, ?_⟩
     .cases e with
      | zero => rw [aLW]; omega
      | succ e => rw [show j + (e + 1) = j + 1 + e from by omega]; exact h1 e (by omega)
     .unfold aeV; rw [if_neg hj, Mb, h3]; congr 1; omega
 exact key D n j (by omega) (by rw [h0]; exact hh)
theorem arE {log : Nat} {ps : List Int} (h : May log ps) (x0 : Int) : ∃ arr, adJ ps 0 (2 ^ log) (List.replicate (2 ^ log) x0) = ((sY ps 0).length, arr) /\ arr.length = 2 ^ log /\ (vW ps 0).length + (sY ps 0).length = 2 ^ log /\ rF x0 log ps = place (2 ^ log) (sY ps 0).length (sY ps 0) 0 arr := by
 have hrl := aC8 ps 0 h.low
 rw [h.sum] at hrl
 have hpow : ((2 ^ log : Nat) : Int) = (2 : Int) ^ log := by simp
 have hsum : (vW ps 0).length + (sY ps 0).length = 2 ^ log := by omega
 have ht := aAg ps 0 (2 ^ log) (List.replicate (2 ^ log) x0) (by omega) (by simp)
 rw [show 2 ^ log - (vW ps 0).length = (sY ps 0).length from by omega] at ht
 refine ⟨_, ht, ?_, hsum, ?_⟩
 .simp [toI]; omega
 .unfold rF; rw [ht]
end Go.Pu
namespace Go.En
open Go
section
variable {P : Program} {w : aNj} {t e : TypeId}
theorem aCm {i : TypeInfo} (hu : P.underlying t = some (.slice e)) (hi : P.info? e = some i)
 {K : aNk -> aNj -> Prop} (hk : ∀ w', eM w' w.heap.size [] -> aW w w' eU -> w'.heap.size = w.heap.size + 1 -> K (.slice (some ⟨w.heap.size, 0, none⟩) 0 0) w') :
 aD P (cT t 0 []) w K := by
 have : (cT t 0 []).run P w = .ok (.value (.slice (some ⟨w.heap.size, 0, none⟩) 0 0)) (w.alloc (.cells ([] : List aNk).toArray e)) := by
  unfold cT; rw [uO]
  have h1 : ¬ (0 > 2 ^ 24) := by omega
  have e : ∀ f : Nat -> aNk, Array.map f (Array.range 0) = #[] := fun f => by simp
  simp only [Instr.buildSlice, underlying, pure_bind, Sem.run_bind, run_program, Result.andThen_ok, hu, Sem.run_pure, kX hi, aNg, h1, if_false, if_true, newRow, run_newObj, Instr.fill, e]
  rfl
 unfold aD
 rw [this]
 exact hk _ (eM.alloc _ _ _) (aW.alloc _ _ _) (by simp)
def At (v : aNk) (b : Nat) : Prop := ∀ M : Nat -> Prop, ¬ M b -> ¬ inB v M
theorem At.nil (c b : Nat) (a : Option Addr) : At (.slice a 0 c) b := fun M h => by unfold inB; split <;> simp_all
theorem At.at (b o n c : Nat) : At (.slice (some ⟨b, o, none⟩) n c) b := fun M h => by
 unfold inB; split
 .rename_i x m _ e
  obtain ⟨rfl, _⟩ : (⟨b, o, none⟩ : Addr) = x /\ _ := by simpa using e
  exact h
 .simp
theorem sM.at' {w : aNj} {base sz n : Nat} {v : aNk} {l : List aNk} (h : sM w base sz v n l) (hb : base < w.heap.size) : ∃ b, base <= b /\ b < w.heap.size /\ At v b := by
 rcases h.2 with ⟨rfl, rfl⟩ | ⟨b, c, rest, rfl, h2, h3, h4, h5⟩
 .exact ⟨base, aK1 _, hb, At.nil _ _ _⟩
 .exact ⟨b, h2, h3.lt, At.at _ _ _ _⟩
end
end Go.En
namespace Go.Proofs.YtgpimhlgaokobaaGreat
open Go Go.En Go.Pu
set_option maxRecDepth 4000
theorem IP (n : Nat) (hn : n <= 40) (w : aNj) : aS pg nU #[.int .i64 n] w (fun r w' => r = .int .i64 (2 ^ n) /\ w' = w) := by
 refine aoX ?_
 unfold arS Oz OC M4 NU Og Nw Ph
 refine cU.rule (fun m t w' => ∃ i : Nat, m = n - i /\ t = (.int .i64 (2 ^ i), .int .i64 i) /\ i <= n /\ w' = w) n ⟨0, rfl, rfl, by omega, rfl⟩ ?_
 rintro m t w' ⟨i, rfl, rfl, hi, rfl⟩
 by_cases hlt : i < n
 .have d1 : decide ((i : Int) < (n : Int)) = true := by simp; omega
  have d2 : decide ((i : Int) < 40) = true := by simp; omega
  have hb : (2 : Int) ^ i <= 549755813888 := by
   have : 2 ^ i <= 2 ^ 39 := aKY (by omega) (by omega)
   have e : ((2 ^ i : Nat) : Int) = (2 : Int) ^ i := by simp
   omega
  have hp := aCg i
  simp (disch := omega) only [A7, aD, aU, d1, oL, aP, bN, aA, pZ, bH, if_true, bM, d2, and_true, aG]
  exact ⟨n - (i + 1), by omega, i + 1, rfl, by rw [Int.pow_succ] <;> rfl, by omega⟩
 .have d1 : decide ((i : Int) < (n : Int)) = false := by simp; omega
  have : i = n := by omega
  subst this
  simp (disch := omega) only [A7, aD, aU, d1, oL, bN, aP, aA, FT, true_and, uY, bH, aKQ, if_false, aE, cY]
def aDb : ByteArray := ⟨#[0, 1, 2, 2, 3, 3, 3, 3, 4, 4, 4, 4, 4, 4, 4, 4, 5, 5, 5, 5, 5, 5, 5, 5, 5, 5, 5, 5, 5, 5, 5, 5, 6, 6, 6, 6, 6, 6, 6, 6, 6, 6, 6, 6, 6, 6, 6, 6, 6, 6, 6, 6, 6, 6, 6, 6, 6, 6, 6, 6, 6, 6, 6, 6, 7, 7, 7, 7, 7, 7, 7, 7, 7, 7, 7, 7, 7, 7, 7, 7, 7, 7, 7, 7, 7, 7, 7, 7, 7, 7, 7, 7, 7, 7, 7, 7, 7, 7, 7, 7, 7, 7, 7, 7, 7, 7, 7, 7, 7, 7, 7, 7, 7, 7, 7, 7, 7, 7, 7, 7, 7, 7, 7, 7, 7, 7, 7, 7, 8, 8, 8, 8, 8, 8, 8, 8, 8, 8, 8, 8, 8, 8, 8, 8, 8, 8, 8, 8, 8, 8, 8, 8, 8, 8, 8, 8, 8, 8, 8, 8, 8, 8, 8, 8, 8, 8, 8, 8, 8, 8, 8, 8, 8, 8, 8, 8, 8, 8, 8, 8, 8, 8, 8, 8, 8, 8, 8, 8, 8, 8, 8, 8, 8, 8, 8, 8, 8, 8, 8, 8, 8, 8, 8, 8, 8, 8, 8, 8, 8, 8, 8, 8, 8, 8, 8, 8, 8, 8, 8, 8, 8, 8, 8, 8, 8, 8, 8, 8, 8, 8, 8, 8, 8, 8, 8, 8, 8, 8, 8, 8, 8, 8, 8, 8, 8, 8, 8, 8, 8, 8, 8, 8, 8, 8, 8, 8]⟩
theorem Xo : aDb.size = 256 := by decide
set_option maxRecDepth 100000 in
theorem aCh (x : Nat) (h : x < 256) : (aDb[x]'(by rw [Xo]; exact h)).toNat = bl x := by
 have : ∀ k : Fin 256, (aDb.data[k.val]!).toNat = bl k.val := by decide +kernel
 have h2 := this ⟨x, h⟩
 simp only at h2
 rw [<- h2]
 have hs : x < aDb.data.size := by have := Xo; exact (show aDb.data.size = 256 from this) ▸ h
 rw [getElem!_pos aDb.data x hs]
 rfl
theorem awF {x j : Nat} (h : 2 ^ j <= x) : bl x = bl (x / 2 ^ j) + j := by
 have hp := aLh j
 have h0 : x / 2 ^ j ≠ 0 := by
  have := Nat.div_pos h hp
  omega
 have a := Y9 h0
 have b := Wk (x / 2 ^ j)
 have c := Nh h0
 obtain ⟨m, hm⟩ : ∃ m, bl (x / 2 ^ j) = m + 1 := ⟨bl (x / 2 ^ j) - 1, by omega⟩
 rw [hm, aLO] at a
 rw [hm] at b ⊢
 have h1 : 2 ^ (m + j) <= x := by
  rw [aLM]
  exact aLT (aLk _ a) (Nat.div_mul_le_self _ _)
 have h2 : x < 2 ^ (m + j + 1) := by
  rw [show m + j + 1 = (m + 1) + j from by omega, aLM]
  exact (aMD hp).1 b
 rw [aG9 h1 h2]; omega
theorem aBR {x n : Nat} (hx : x < 256) (hn : n <= 1000) (R : aNk -> aNj -> Prop) (w : aNj) (h : R (.int .i64 ((n + bl x : Nat) : Int)) w) :
 uQ R (.int .u64 x) (.int .i64 n) w := by
 have hg := aCh x hx
 have hs := Xo
 have hb : bl x <= 8 := wH (n := 8) (by omega)
 unfold uQ
 change aD pg _ w fun t21 w => aD pg (D6 9 (.string aDb) t21) w _
 simp (disch := omega) only [aD, hZ, xB, aA, jA, aKO, hg, dT, aP, bN]
 rw [Int.natCast_add] at h
 exact h
theorem avN (a b : Nat) : ((a : Int)).fdiv (b : Int) = ((a / b : Nat) : Int) := by rw [aMn _ (by omega)] <;> rfl
theorem Xp (x j : Nat) (hj : j <= 64) : ((x : Int)).fdiv (2 ^ (min (j : Nat) IntKind.u64.bits)) = ((x / 2 ^ j : Nat) : Int) := by
 have e : min j IntKind.u64.bits = j := by simp only [IntKind.bits]; omega
 rw [e, <- avN]; simp
theorem aIb (x : Nat) (hx : x < 18446744073709551616) (w : aNj) : aS pg AT #[.int .u64 x] w (fun r w' => r = .int .i64 (bl x : Nat) /\ w' = w) := by
 refine VI ?_
 unfold Uj DQ DA
 have step8 : ∀ (y n : Nat), y < 65536 -> n <= 64 -> n + bl y = bl x -> zB (fun r w' => r = .int .i64 (bl x : Nat) /\ w' = w) (.int .u64 y) (.int .i64 n) w := by
  intro y n hy hn e
  unfold zB DI
  by_cases h : 256 <= y
  .have d : decide ((256 : Int) <= (y : Int)) = true := by simp; omega
   have sh := Xp y 8 (by omega)
   have hq : y / 2 ^ 8 < 256 := by omega
   have := awF (x := y) (j := 8) (by omega)
   have e2 : (n : Int) + 8 = ((n + 8 : Nat) : Int) := by omega
   simp (disch := omega) only [aD, nE, d, sK, bN, e2, aP, aA, aG]
   rw [show (8 : Int).toNat = 8 from rfl, sh]
   exact aBR hq (by omega) _ _ ⟨by rw [<- e, this]; congr 2; omega, rfl⟩
  .have d : decide ((256 : Int) <= (y : Int)) = false := by simp; omega
   simp (disch := omega) only [aD, nE, d, sK, bN, aP, aA, aE]
   exact aBR (by omega) (by omega) _ _ ⟨by rw [e], rfl⟩
 have step16 : ∀ (y n : Nat), y < 4294967296 -> n <= 32 -> n + bl y = bl x -> zH (fun r w' => r = .int .i64 (bl x : Nat) /\ w' = w) (.int .u64 y) (.int .i64 n) w := by
  intro y n hy hn e
  unfold zH Dy
  by_cases h : 65536 <= y
  .have d : decide ((65536 : Int) <= (y : Int)) = true := by simp; omega
   have sh := Xp y 16 (by omega)
   have hq : y / 2 ^ 16 < 65536 := by omega
   have := awF (x := y) (j := 16) (by omega)
   have e2 : (n : Int) + 16 = ((n + 16 : Nat) : Int) := by omega
   simp (disch := omega) only [aD, nE, d, sK, bN, e2, aP, aA, aG]
   rw [show (16 : Int).toNat = 16 from rfl, sh]
   exact step8 _ _ hq (by omega) (by rw [<- e, this]; omega)
  .have d : decide ((65536 : Int) <= (y : Int)) = false := by simp; omega
   simp (disch := omega) only [aD, nE, d, sK, bN, aP, aA, aE]
   exact step8 _ _ (by omega) (by omega) e
 by_cases h : 4294967296 <= x
 .have d : decide ((4294967296 : Int) <= (x : Int)) = true := by simp; omega
  have sh := Xp x 32 (by omega)
  have hq : x / 2 ^ 32 < 4294967296 := by omega
  have := awF (x := x) (j := 32) (by omega)
  simp (disch := omega) only [aD, nE, d, sK, aA, aG]
  rw [show (32 : Int).toNat = 32 from rfl, sh]
  exact step16 _ 32 hq (by omega) (by rw [this]; omega)
 .have d : decide ((4294967296 : Int) <= (x : Int)) = false := by simp; omega
  simp (disch := omega) only [aD, nE, d, sK, aA, aE]
  exact step16 _ 0 (by omega) (by omega) (by omega)
theorem aCi (x : Nat) (hx : x < 18446744073709551616) (w : aNj) : aS pg rU #[.int .u64 x] w (fun r w' => r = .int .i64 (bl x : Nat) /\ w' = w) := by
 refine Zz ?_
 simp (disch := omega) only [Y8, Hl, aD, kK, aA, aE]
 exact aIb x hx w
theorem aE9 {n : Nat} (h : n <= 20) : IntKind.i64.wrap (1 * 2 ^ (min n IntKind.i64.bits)) = ((2 ^ n : Nat) : Int) := by
 have : ∀ k : Fin 21, IntKind.i64.wrap (1 * 2 ^ (min k.val IntKind.i64.bits)) = ((2 ^ k.val : Nat) : Int) := by decide
 exact this ⟨n, by omega⟩
theorem OE {w : aNj} {v : aNk} {l : List UInt8} (h : Bs w v l) (h0 : 0 < l.length) : ∃ b off c, v = .slice (some ⟨b, off, none⟩) l.length c /\ l.length <= c /\ ∀ i, (h : i < l.length) -> w.cell? ⟨b, off + i, none⟩ = some (.int .u8 (l[i].toNat : Nat)) := by
 obtain ⟨b, off, c, rfl, hc, hcell⟩ := h.openV (by simpa using h0)
 refine ⟨b, off, c, by rw [aKZ], by simpa using hc, fun i hi => ?_⟩
 have := hcell i (by simpa using hi)
 simpa [vC] using this
theorem Is {v : aNk} {l : List UInt8} {w : aNj} (h : Bs w v l) (hl : l.length <= 1000000000) :
 aS pg jQ #[v] w (fun r w' => sM w' w.heap.size 1 r l.length (l.map vC) /\ aW w w' eU) := by
 refine Tk ?_
 have h1 := h
 obtain ⟨a, n, c, rfl, hn, hc, hh⟩ := h
 rw [aKZ] at hn
 unfold PO BE
 cases a with
 | none =>
   have h0 : l = [] := by
    cases l with
    | nil => rfl
    | cons x l => obtain ⟨b, off, h, _⟩ := hh (by simp at hn; omega); cases h
   subst h0
   simp (disch := omega) only [aD, lI, aLw, aA, aG]
   exact ⟨sM.nil _ _ _, aW.refl _ _⟩
 | some x =>
   simp (disch := omega) only [aD, lI, aK8, aA, aE]
   refine aCm Tryz.underlying22 Sm fun w1 o1 x1 s1 => ?_
   have hcl1 := (h1.ext x1 (bZ _)).cl
   rw [aKZ] at hcl1
   have hos : sM w1 w.heap.size 1 (.slice (some ⟨w.heap.size, 0, none⟩) 0 0) 0 [] := ⟨rfl, .inr ⟨_, 0, [], rfl, aK1 _, o1, rfl, aK1 _⟩⟩
   refine mF hos hcl1 (avX _) x1.size (by omega) fun v3 w3 o3 x3 => ?_
   rw [aKP, aL8] at o3
   exact ⟨o3, x1.trans x3 fun b hb h => Nat.not_le_of_lt hb h⟩
def AtI (v : aNk) (lo hi : Nat) : Prop := ∀ M : Nat -> Prop, (∀ b, lo <= b -> b < hi -> ¬ M b) -> ¬ inB v M
theorem sM.atI {w : aNj} {base sz n : Nat} {v : aNk} {l : List aNk} (h : sM w base sz v n l) : AtI v base w.heap.size := by
 intro M hM
 rcases h.2 with ⟨rfl, rfl⟩ | ⟨b, c, rest, rfl, h2, h3, h4, h5⟩
 .exact fun h => h
 .exact At.at b 0 n c M (hM b h2 h3.lt)
theorem aI4 {w : aNj} {a : Option Addr} {n c : Nat} {l : List aNk} (h : Sl w (.slice a n c) l) {k : Nat} (hk : k <= n) : Sl w (.slice a k c) (l.take k) := by
 obtain ⟨a', n', c', e, hn, hc, hh⟩ := h
 cases e
 refine ⟨a, k, c, rfl, by rw [aK2]; omega, by omega, fun h0 => ?_⟩
 obtain ⟨b, off, ha, hcell⟩ := hh (by omega)
 refine ⟨b, off, ha, fun i hi => ?_⟩
 rw [hcell i (by omega), aLB (by omega)]
theorem slA {w : aNj} {a : Option Addr} {n c : Nat} {l : List aNk} (h : Sl w (.slice a n c) l) (h0 : 0 < n) : ∃ b off, a = some ⟨b, off, none⟩ /\ ∀ i, i < n -> w.cell? ⟨b, off + i, none⟩ = l[i]? := by
 obtain ⟨a', n', c', e, hn, hc, hh⟩ := h
 cases e
 exact hh h0
end Go.Proofs.YtgpimhlgaokobaaGreat
namespace Go.En
open Go
section
variable {P : Program}
theorem axV {a : Array aNk} {t x : Nat} {v : aNk} (h : t < a.size) : UX (a.setIfInBounds t v) x = if x = t then v else UX a x := by
 unfold UX
 rw [aK4, aK4]
 by_cases hx : x = t
 .subst hx; rw [aLI h, if_pos rfl] <;> rfl
 .rw [aLN (fun e => hx e.symm), if_neg hx]
theorem aFx {N x : Nat} {g : Env} (h : x < N) : UX (tmpsOf N g) x = g x := by
 unfold UX tmpsOf
 rw [aK4, aLp (by simpa using h)]
 simp
theorem aHL {f : FuncId} {fn : Func} (hf : P.funcs[f]? = some fn) (hb : fn.body.isSome = true) (hn : (fn.name == "runtime.NumGoroutine") = false) (cap : Array aNk) (args : List aNk) (w : aNj) :
 (Pr (.func (.func f) #[] cap) args).run P w = .ok (.enter f (args.toArray ++ cap)) w := by
 unfold Pr Deferred.ofValue
 simp only [pure_bind, invoke, Array.empty_append]
 exact ajJ hf hb hn _ _
def axC (r : Loop) (args : List aNk) : Array aNk := (r.params.zip args.toArray).foldl (fun tmps (t, a) => tmps.setIfInBounds t a) r.tmps
theorem aHT {r : Loop} {a b : Tmp} {t : Array aNk} (hp : r.params = #[a, b]) (ht : r.tmps = t) (x y : aNk) : axC r [x, y] = (t.setIfInBounds a x).setIfInBounds b y := by
 unfold axC; rw [hp, ht]; simp
theorem aH6 {l : Nat} {r : Loop} {args : List aNk} {w : aNj} (h : w.heap[l]? = some (.loop r)) (hs : args.length = r.params.size) :
 (Pr (Nu l) args).run P w = .ok (.round l r.fn (axC r args) r.assign r.body) w := by
 unfold Pr Nu Deferred.ofValue
 simp only [pure_bind, invoke, Array.empty_append]
 exact run_yield h (by simpa using hs)
theorem aGy {f fi : FuncId} {fn : Func} {gf : Operand} {ps : Array Tmp} {aKL bd : Code} {Q : Exit -> Env -> aNj -> Prop} {g : Env} {w : aNj} {cap : Array aNk}
 (hm : noMark (g DS) = true) (he : ev g gf = .func (.func fi) #[] cap) (hf : P.funcs[fi]? = some fn) (hb : fn.body.isSome = true) (hn : (fn.name == "runtime.NumGoroutine") = false)
 (h : aS P fi (#[Nu (w.heap.size + 1)] ++ cap) (rfW f (amE P f) ps aKL bd g w) fun _ w3 => aGG (w.heap.size + 1) Q (put g (some DS) (.pointer (some ⟨w.heap.size, 0, none⟩))) w3) :
 RF P f gf ps aKL bd Q g w := by
 unfold RF
 rw [hm]
 simp only
 rw [he, aHL hf hb hn]
 exact h
theorem aW.putObj (w : aNj) (l : Nat) (o : Obj) : aW w (w.putObj l o) (fun y => y = l) :=
 ⟨rfl, rfl, rfl, by simp, fun b hb hM => World.putObj_heap_other hM⟩
theorem Hq {w w' : aNj} {l : Nat} {o : Obj} {M : Nat -> Prop} (h : w.heap[l]? = some o) (hx : aW w w' M) (hM : ¬ M l) : w'.heap[l]? = some o := by
 have : l < w.heap.size := by
  rcases aK9 l w.heap.size with h' | h'
  .exact h'
  .rw [aMj h'] at h; cases h
 rw [hx.keep l this hM]; exact h
theorem aIJ {w : aNj} {l : Nat} {o : Obj} (h : w.heap[l]? = some o) : l < w.heap.size := by
 rcases aK9 l w.heap.size with h' | h'
 .exact h'
 .rw [aMj h'] at h; cases h
theorem aFW (f : FuncId) (N : Nat) (ps : Array Tmp) (aKL bd : Code) (g : Env) (w : aNj) :
 aW w (rfW f N ps aKL bd g w) eU /\ (rfW f N ps aKL bd g w).heap.size = w.heap.size + 2 /\ (rfW f N ps aKL bd g w).heap[w.heap.size]? = some (.deferred (some [])) /\
  (rfW f N ps aKL bd g w).heap[w.heap.size + 1]? = some (.loop { state := .ready, pending := none, fn := f, tmps := tmpsOf N g, params := ps, assign := aKL, body := bd, defers := w.heap.size }) := by
 unfold rfW
 have x1 := aW.alloc w (.deferred (some [])) eU
 have h1 := World.alloc_heap_new w (.deferred (some []))
 have z1 : (w.alloc (.deferred (some []))).heap.size = w.heap.size + 1 := by simp
 generalize w.alloc (.deferred (some [])) = w1 at *
 refine ⟨x1.seq (aW.alloc w1 _ eU), by simp [z1], Hq h1 (aW.alloc w1 _ eU) (fun h => h), ?_⟩
 have := World.alloc_heap_new w1 (.loop { state := .ready, pending := none, fn := f, tmps := tmpsOf N g, params := ps, assign := aKL, body := bd, defers := w.heap.size })
 rw [z1] at this
 exact this
theorem aFj {l : Nat} {r : Loop} {w : aNj} {K : aNj -> Prop} (h : w.heap[l]? = some (.loop r)) (hr : r.state = .ready)
 (hk : ∀ w', w'.heap[l]? = some (.loop { r with state := .busy }) -> aW w w' (fun y => y = l) -> w'.heap.size = w.heap.size -> K w') : Rdy l w K :=
 ⟨r, h, hr, hk _ (World.putObj_heap_same (aIJ h)) (aW.putObj _ _ _) (by simp)⟩
theorem axJ {l : Nat} {r : Loop} {j : Option Code} {w : aNj} {R : aNk -> aNj -> Prop} (h : w.heap[l]? = some (.loop r))
 (hk : ∀ w', w'.heap[l]? = some (.loop { r with state := jSt j, pending := j }) -> aW w w' (fun y => y = l) -> w'.heap.size = w.heap.size -> R (.bool j.isNone) w') : aCk l j R w :=
 ⟨r, h, hk _ (World.putObj_heap_same (aIJ h)) (aW.putObj _ _ _) (by simp)⟩
theorem aqU {l : Nat} {r : Loop} {w : aNj} {Q : Exit -> Env -> aNj -> Prop} {g : Env} (h : w.heap[l]? = some (.loop r)) (hb : r.state ≠ .busy)
 (hk : ∀ w', aW w w' (fun y => y = l) -> w'.heap.size = w.heap.size -> aJr Q g r.pending w') : aGG l Q g w :=
 ⟨r, h, hb, hk _ (aW.putObj _ _ _) (by simp)⟩
theorem ayJ {b : Nat} {w : aNj} {K : aNj -> Prop} (h : w.heap[b]? = some (.deferred (some []))) (hk : ∀ w', aW w w' (fun y => y = b) -> w'.heap.size = w.heap.size -> K w') :
 G1 (.pointer (some ⟨b, 0, none⟩)) w K := ⟨h, hk _ (aW.putObj _ _ _) (by simp)⟩
theorem aJf {f : FuncId} (first captured : List aNk) (w : aNj) : (aB2 (.func f) first captured).run P w = .ok (.value (.func (.func f) first.toArray captured.toArray)) w := by
 unfold aB2 V Instr.makeFunc
 simp [Sem.run_bind, Sem.run_pure]
end
end Go.En
namespace Go.Proofs.YtgpimhlgaokobaaGreat
open Go Go.En Go.Pu
set_option maxRecDepth 4000
theorem aEi {l : List UInt8} {v : aNk} {box lp : Nat} {r0 : Loop} {w : aNj} (I : Nat -> aNj -> Prop) (S : aNj -> Prop)
 (hI : ∀ i W, I i W -> eM W box [v] /\ Bs W v l /\ W.heap[lp]? = some (.loop r0)) (hp : r0.params.size = 2) (hl : l.length <= 1000000000) (h0 : I l.length w)
 (hs : ∀ i W, (hi : i < l.length) -> I (i + 1) W -> aAM pg lp r0.fn (axC r0 [.int .i64 i, .int .u8 ((l[i]'hi).toNat : Nat)]) r0.assign r0.body W (fun b W' => (b = .bool true /\ I i W') ∨ (b = .bool false /\ S W'))) :
 aS pg oU #[Nu lp, .pointer (some ⟨box, 0, none⟩)] w (fun r W => r = .tuple #[] /\ (I 0 W ∨ S W)) := by
 refine Ji ?_
 obtain ⟨o, hb, hlp⟩ := hI _ _ h0
 have c0 := o.cell (off := 0)
 simp only [aKM] at c0
 obtain ⟨a, n, c, hv, hn, hc, _⟩ := id hb
 rw [aKZ] at hn
 unfold CD tY tX
 subst hn
 have e1 : (l.length : Int) - 1 = (l.length : Int) - 1 := rfl
 subst hv
 simp (disch := omega) only [aD, eQ, c0, aH, true_and, aA, aV, fE, aP]
 unfold tZ tV
 refine cU.rule (fun m (t : aNk) w' => ∃ i : Nat, m = i /\ t = .int .i64 ((i : Int) - 1) /\ i <= l.length /\ I i w') l.length ⟨l.length, rfl, rfl, aK1 _, h0⟩ ?_
 rintro i t w1 ⟨i', rfl, rfl, hi, hIw⟩
 unfold qW
 cases i with
 | zero =>
   have d1 : decide ((0 : Int) <= ((0 : Nat) : Int) - 1) = false := rfl
   simp (disch := omega) only [aD, nE, d1, eQ, true_and, fE, aP, aA, aE]
   exact .inl hIw
 | succ j =>
   have e0 : ((j + 1 : Nat) : Int) - 1 = (j : Int) := by omega
   have d1 : decide ((0 : Int) <= (j : Int)) = true := by simp
   obtain ⟨o1, hb1, hlp1⟩ := hI _ _ hIw
   have c1 := o1.cell (off := 0)
   simp only [aKM] at c1
   obtain ⟨b, off, c', hv', hc', hcell⟩ := hb1.openV (by simp; omega)
   simp only [aKZ, Value.slice.injEq] at hv'
   obtain ⟨rfl, _, rfl⟩ := hv'
   have g1 := hcell j (by rw [aKZ]; omega)
   simp only [aL3, vC] at g1
   have q1 := aH6 (P := pg) (args := [.int .i64 (j : Nat), .int .u8 ((l[j]'hi).toNat : Nat)]) hlp1 (by rw [hp] <;> rfl)
   rw [e0]
   simp (disch := omega) only [aD, nE, d1, eQ, true_and, fE, aP, aA, c1, aH, dM, aKO, iH, g1, q1, aDc, aG]
   obtain ⟨b', w2, hret, hR⟩ := hs j w1 hi hIw
   refine ⟨b', w2, hret, ?_⟩
   rcases hR with ⟨rfl, hI2⟩ | ⟨rfl, hS⟩
   .simp (disch := omega) only [pM, aLb, aA, aE]
    exact ⟨j, by omega, j, rfl, rfl, by omega, hI2⟩
   .simp (disch := omega) only [pM, aLi, aA, aG]
    exact .inr hS
end Go.Proofs.YtgpimhlgaokobaaGreat
namespace Go.Pu
open Go Go.En
def SK (c : UInt8) : List Bool := (List.range 8).map c.toNat.testBit
def aZ : List UInt8 -> List Bool
 | [] => []
 | c :: l => SK c ++ aZ l
def vX : List Bool -> Nat
 | [] => 0
 | b :: l => b.toNat + 2 * vX l
theorem zI (c : UInt8) : (SK c).length = 8 := by simp [SK]
theorem lW : ∀ l : List UInt8, (aZ l).length = 8 * l.length
 | [] => rfl
 | c :: l => by rw [aZ, aKV, zI, lW l, aLa]; omega
theorem S6 : ∀ a b : List UInt8, aZ (a ++ b) = aZ a ++ aZ b
 | [], b => rfl
 | c :: a, b => by rw [aLV, aZ, aZ, S6 a b, aLj]
theorem aFS (c : UInt8) {k : Nat} (h : k < 8) : (SK c)[k]? = some (c.toNat.testBit k) := by
 unfold SK
 rw [aLl, aLQ h] <;> rfl
theorem My : ∀ (l : List UInt8) (i : Nat) (h : i < 8 * l.length), (aZ l)[i]? = some ((l[i / 8]'(by omega)).toNat.testBit (i % 8))
 | [], i, h => by simp at h
 | c :: l, i, h => by
   rw [aZ]
   rcases aK9 i 8 with h8 | h8
   .rw [aLd (by rw [zI]; exact h8), aFS c h8]
    have e : i / 8 = 0 := by omega
    have e2 : i % 8 = i := by omega
    simp [e, e2]
   .rw [aLS (by rw [zI]; exact h8), zI, My l (i - 8) (by simp at h; omega)]
    have e : i / 8 = (i - 8) / 8 + 1 := by omega
    have e2 : (i - 8) % 8 = i % 8 := by omega
    simp [e, e2]
theorem afK : ∀ l : List Bool, vX l < 2 ^ l.length
 | [] => by simp [vX]
 | b :: l => by
   have := afK l
   rw [vX, aLa, aLr]
   have : b.toNat <= 1 := Bool.toNat_le b
   omega
theorem VU : ∀ a b : List Bool, vX (a ++ b) = vX a + 2 ^ a.length * vX b
 | [], b => by simp [vX]
 | x :: a, b => by
   rw [aLV, vX, vX, VU a b, aLa, aLr, aM1, <- aMZ, <- aMm, aLm 2 (2 ^ a.length)]
theorem aFg (a : List Bool) (x : Bool) : vX (a ++ [x]) = vX a + 2 ^ a.length * x.toNat := by
 rw [VU]; simp [vX]
def yK (x : Nat) (n : Nat) : List Bool := (List.range n).map x.testBit
theorem F9 (x n : Nat) : (yK x n).length = n := by simp [yK]
theorem O6 (x : Nat) : yK x 0 = [] := rfl
theorem abG (x n : Nat) : yK x (n + 1) = yK x n ++ [x.testBit n] := by
 unfold yK; rw [aM3, aLe] <;> rfl
theorem aEm (x n : Nat) : yK x (n + 1) = x.testBit 0 :: yK (x / 2) n := by
 unfold yK
 rw [List.range_succ_eq_map, aL0, aNh]
 congr 1
 apply aLs
 intro k _
 simp [Nat.testBit_succ]
theorem axY : ∀ (n x : Nat), vX (yK x n) = x % 2 ^ n
 | 0, x => by simp [yK, vX, Nat.mod_one]
 | n + 1, x => by
   rw [aEm, vX, axY n (x / 2), aLr, aLm (2 ^ n) 2, Nat.mod_mul]
   congr 1
   rw [Nat.testBit_zero]
   have : x % 2 = 0 ∨ x % 2 = 1 := by omega
   rcases this with h | h <;> simp [h]
theorem ayU {x i : Nat} (h : x < 2 ^ i) (b : Nat) : x ||| (b * 2 ^ i) = x + 2 ^ i * b := by
 rw [Nat.or_comm, aLm b, <- Nat.two_pow_add_eq_or_of_lt h b, Nat.add_comm]
theorem aAZ {a b : Nat} (ha : a < 2 ^ 64) (hb : b < 2 ^ 64) : orI .u64 (a : Int) (b : Int) = ((a ||| b : Nat) : Int) := by
 have h := Nat.or_lt_two_pow ha hb
 unfold orI
 have e : IntKind.u64.bits = 64 := rfl
 rw [e, BitVec.ofInt_natCast, BitVec.ofInt_natCast, BitVec.toNat_or, BitVec.toNat_ofNat, BitVec.toNat_ofNat, aLt ha, aLt hb]
 exact kR (by omega) (by have : ((a ||| b : Nat) : Int) < ((2 ^ 64 : Nat) : Int) := by exact_mod_cast h
                         omega)
theorem axF {a b : Nat} (ha : a < 2 ^ 8) (hb : b < 2 ^ 8) : orI .u8 (a : Int) (b : Int) = ((a ||| b : Nat) : Int) := by
 have h := Nat.or_lt_two_pow ha hb
 unfold orI
 have e : IntKind.u8.bits = 8 := rfl
 rw [e, BitVec.ofInt_natCast, BitVec.ofInt_natCast, BitVec.toNat_or, BitVec.toNat_ofNat, BitVec.toNat_ofNat, aLt ha, aLt hb]
 exact xB (by omega) (by have : ((a ||| b : Nat) : Int) < ((2 ^ 8 : Nat) : Int) := by exact_mod_cast h
                         omega)
theorem aH2 {a : Nat} (h : a < 2 ^ 8) : UD .u8 (a : Int) 1 = ((a % 2 : Nat) : Int) := by
 have : ∀ k : Fin 256, UD .u8 (k.val : Int) 1 = ((k.val % 2 : Nat) : Int) := by decide +kernel
 exact this ⟨a, h⟩
theorem aDa {a : Nat} (h : a < 2 ^ 64) : UD .u64 (a : Int) 1 = ((a % 2 : Nat) : Int) := by
 unfold UD
 have e : IntKind.u64.bits = 64 := rfl
 rw [e, BitVec.ofInt_natCast, show (BitVec.ofInt 64 1) = BitVec.ofNat 64 1 from rfl, BitVec.toNat_and, BitVec.toNat_ofNat, BitVec.toNat_ofNat, aLt h, show 1 % 2 ^ 64 = 1 from rfl, Nat.and_one_is_mod]
 exact kR (by omega) (by omega)
theorem aoA (x k : Nat) : (x.testBit k).toNat = x / 2 ^ k % 2 := by
 rw [aMM]
 have : x / 2 ^ k % 2 = 0 ∨ x / 2 ^ k % 2 = 1 := by omega
 rcases this with h | h <;> simp [h]
def qF (L : List Bool) (n : Nat) : Nat := vX (L.drop (L.length - min n L.length)) * 2 ^ (n - min n L.length)
theorem sO (L : List Bool) (n : Nat) : qF L n < 2 ^ n := by
 unfold qF
 have h := afK (L.drop (L.length - min n L.length))
 rw [aK7, show L.length - (L.length - min n L.length) = min n L.length from by omega] at h
 calc _ < 2 ^ min n L.length * 2 ^ (n - min n L.length) := Nat.mul_lt_mul_of_pos_right h (aLh _)
  _ = 2 ^ n := by rw [<- aLM]; congr 1; omega
theorem azF {L : List Bool} {at' i : Nat} {b : Bool} (h : L[at' + i]? = some b) : (L.drop at').take (i + 1) = (L.drop at').take i ++ [b] := by
 rw [aLL, aMs, h] <;> rfl
def XU (l : List UInt8) : Option Nat := match l.getLast? with
 | none => none
 | some c => if c.toNat = 0 then none else some (8 * (l.length - 1) + bl c.toNat - 1)
theorem Mv {l : List UInt8} (h : 0 < l.length) : XU l = if (l[l.length - 1]'(by omega)).toNat = 0 then none else some (8 * (l.length - 1) + bl (l[l.length - 1]'(by omega)).toNat - 1) := by
 unfold XU
 rw [aMH, aKW (by omega)]
theorem HS {l : List UInt8} {k : Nat} (h : XU l = some k) : 0 < l.length /\ k < 8 * l.length /\ 8 * (l.length - 1) <= k /\ (aZ l)[k]? = some true /\ ∀ j, k < j -> j < 8 * l.length -> (aZ l)[j]? = some false := by
 have h0 : 0 < l.length := by
  cases l with
  | nil => simp [XU] at h
  | cons x l => simp
 rw [Mv h0] at h
 generalize hc : l[l.length - 1]'(by omega) = c at h
 split at h
 .cases h
 .rename_i hne
  have hk := aLf h
  have h1 := Nh hne
  have h2 : bl c.toNat <= 8 := wH (by have : c.toNat < 256 := aLv c
                                      omega)
  have h3 := Y9 hne
  have h4 := Wk c.toNat
  refine ⟨h0, by omega, by omega, ?_, ?_⟩
  .rw [My l k (by omega)]
   have e : k / 8 = l.length - 1 := by omega
   have e2 : k % 8 = bl c.toNat - 1 := by omega
   simp only [e, hc, e2]
   rw [aMM]
   obtain ⟨m, hm⟩ : ∃ m, bl c.toNat = m + 1 := ⟨bl c.toNat - 1, by omega⟩
   rw [hm, aLO] at h3 ⊢
   rw [hm, aLr] at h4
   have : c.toNat / 2 ^ m = 1 := by
    have hp := aLh m
    have := (Nat.le_div_iff_mul_le hp).2 (show 1 * 2 ^ m <= c.toNat by omega)
    have := (aMD hp).2 (show c.toNat < 2 * 2 ^ m by omega)
    omega
   simp [this]
  .intro j h5 h6
   rw [My l j h6]
   have e : j / 8 = l.length - 1 := by omega
   simp only [e, hc]
   rw [Nat.testBit_lt_two_pow]
   exact aMp h4 (aKY (by omega) (by omega))
end Go.Pu
namespace Go.Proofs.YtgpimhlgaokobaaGreat
open Go Go.En Go.Pu
set_option maxRecDepth 4000
theorem aGS {l : List UInt8} {v : aNk} {st n : Nat} {w : aNj} (h : Bs w v l) (hn : n <= 64) (hat : st + n <= 8 * l.length) (hl : l.length <= 1000000000) :
 aS pg Jo #[v, .int .i64 st, .int .i64 n] w (fun r w' => r = .int .u64 (vX (((aZ l).drop st).take n)) /\ w' = w) := by
 refine axD ?_
 unfold aAR TJ TI S8 Ts Td Tz TF
 refine cU.rule (fun m (t : aNk × aNk) w' => ∃ i : Nat, m = n - i /\ t = (.int .u64 (vX (((aZ l).drop st).take i) : Nat), .int .i64 i) /\ i <= n /\ w' = w) n ⟨0, rfl, by simp [vX], by omega, rfl⟩ ?_
 rintro m t w1 ⟨i, rfl, rfl, hi, rfl⟩
 unfold Md
 by_cases hlt : i < n
 .have d1 : decide ((i : Int) < (n : Int)) = true := by simp; omega
  obtain ⟨b, off, c, rfl, hc, hcell⟩ := h.openV (by simp; omega)
  obtain ⟨q, hq⟩ : ∃ q, q = st + i := ⟨_, rfl⟩
  have e0 : (st : Int) + (i : Int) = (q : Int) := by omega
  have e1 : (q : Int).tdiv 8 = ((q / 8 : Nat) : Int) := by rw [aK6 (by omega)]; omega
  have e2 : (q : Int).tmod 8 = ((q % 8 : Nat) : Int) := by rw [aLg (by omega)]; omega
  have hq8 : q / 8 < l.length := by omega
  have hb : (aZ l)[st + i]? = some ((l[q / 8]'hq8).toNat.testBit (q % 8)) := by subst hq; exact My l _ (by omega)
  have ht := azF hb
  have g1 := hcell (q / 8) (by simpa using hq8)
  simp only [aL3, vC] at g1
  have hx : (l[q / 8]'hq8).toNat < 256 := aLv _
  generalize (l[q / 8]'hq8).toNat = x at *
  have e3 : (x : Int).fdiv (2 ^ (min (q % 8) IntKind.u8.bits)) = ((x / 2 ^ (q % 8) : Nat) : Int) := by
   rw [show min (q % 8) IntKind.u8.bits = q % 8 from aLH (by have : IntKind.u8.bits = 8 := rfl
                                                             omega), aMn _ (Int.pow_nonneg (by omega))]
   simp
  have hy : x / 2 ^ (q % 8) < 2 ^ 8 := by have := aLP x (2 ^ (q % 8)); omega
  have e4 := aH2 hy
  rw [<- aoA] at e4
  have hbt : (x.testBit (q % 8)).toNat <= 1 := Bool.toNat_le _
  have hlen : (((aZ l).drop st).take i).length = i := by rw [aK2, aK7, lW]; omega
  have hnb := afK (((aZ l).drop st).take i)
  have hsn := aFg (((aZ l).drop st).take i) (x.testBit (q % 8))
  rw [<- ht, hlen] at hsn
  rw [hlen] at hnb
  have hp : 2 ^ i < 2 ^ 64 := Nat.pow_lt_pow_right (by omega) (by omega)
  have hp2 : 2 ^ i <= 2 ^ 63 := aKY (by omega) (by omega)
  generalize (x.testBit (q % 8)).toNat = bt at *
  have hm : bt * 2 ^ i <= 2 ^ i := by
   have := aLk (2 ^ i) hbt
   omega
  have e5 : IntKind.u64.wrap ((bt : Int) * 2 ^ (min i IntKind.u64.bits)) = ((bt * 2 ^ i : Nat) : Int) := by
   rw [show min i IntKind.u64.bits = i from aLH (by have : IntKind.u64.bits = 64 := rfl
                                                    omega)]
   have e : (bt : Int) * 2 ^ i = ((bt * 2 ^ i : Nat) : Int) := by simp
   rw [e]
   exact kR (by omega) (by omega)
  have e6 := aAZ (a := vX (((aZ l).drop st).take i)) (b := bt * 2 ^ i) (by omega) (by omega)
  rw [ayU hnb, <- hsn] at e6
  simp (disch := omega) only [aD, aU, d1, bN, e0, aP, aKZ, fY, kR, aA, oP, e1, rH, e2, dM, aKO, iH, g1, aH, sK, e3, xA, e4, iP, pA, e5, KZ, e6, and_true, aG]
  exact ⟨n - (i + 1), by omega, i + 1, rfl, rfl, by omega⟩
 .have d1 : decide ((i : Int) < (n : Int)) = false := by simp; omega
  obtain rfl : i = n := by omega
  unfold Mh
  simp (disch := omega) only [aD, aU, d1, bN, aP, fY, kR, aA, oP, rH, true_and, aE]
def Fwd (w : aNj) (lo hi : Nat) (l : List UInt8) (st : Nat) : Prop := ∃ v, eM w hi [v, .int .i64 st] /\ Bs w v l /\ AtI v lo hi
theorem Fwd.ext {w w' : aNj} {lo hi st : Nat} {l : List UInt8} {M : Nat -> Prop} (h : Fwd w lo hi l st) (hx : aW w w' M) (hM : ∀ b, lo <= b -> b <= hi -> ¬ M b) (hlh : lo <= hi) : Fwd w' lo hi l st := by
 obtain ⟨v, h1, h2, h3⟩ := h
 exact ⟨v, h1.ext hx (hM _ hlh (aK1 _)), h2.ext hx (h3 M fun b hb hh => hM b hb (by omega)), h3⟩
theorem aBl {v : aNk} {l : List UInt8} {w : aNj} (h : Bs w v l) (hl : l.length <= 1000000000) :
 aS pg AR #[v] w (fun r w' => ∃ hi, r = .pointer (some ⟨hi, 0, none⟩) /\ w.heap.size <= hi /\ hi < w'.heap.size /\ Fwd w' w.heap.size hi l 0 /\ aW w w' eU) := by
 refine V5 ?_
 unfold Uz Eb
 refine (Is h hl).mono ?_
 rintro r w1 ⟨o1, x1⟩
 have hat := sM.atI o1
 have hs := o1.sl
 obtain ⟨a, c, rfl⟩ := o1.len
 simp (disch := omega) only [aD, iT, aA]
 refine nK fun w2 o2 x2 s2 => ?_
 simp only [Value.cells] at o2
 exact ⟨_, rfl, x1.size, by omega, ⟨_, o2, hs.ext x2 (bZ _), hat⟩, x1.seq x2⟩
theorem Xt {l : List UInt8} {lo hi st n : Nat} {w : aNj} (h : Fwd w lo hi l st) (hlh : lo <= hi) (hn : n <= 32) (hst : st <= 8 * l.length) (hl : l.length <= 1000000) :
 aS pg pK #[.pointer (some ⟨hi, 0, none⟩), .int .i64 n] w (fun r w' =>
  (8 * l.length < st + n /\ r = .tuple #[.int .u64 0, .int .i64 10] /\ Fwd w' lo hi l st /\ aW w w' eU) ∨
  (st + n <= 8 * l.length /\ r = .tuple #[.int .u64 (vX (((aZ l).drop st).take n)), .int .i64 0] /\ Fwd w' lo hi l (st + n) /\ aW w w' (fun y => y = hi))) := by
 refine S5 ?_
 obtain ⟨v, o, hs, hat⟩ := h
 unfold P6 BB
 have d1 : decide ((n : Int) < 0) = false := by simp
 have d2 : decide ((32 : Int) < (n : Int)) = false := by simp; omega
 have c0 := o.cell (off := 0)
 have c1 := o.cell (off := 1)
 simp only [aKM, aKN] at c0 c1
 obtain ⟨a, n', c, hv, hn', hc, hh⟩ := id hs
 rw [aKZ] at hn'
 subst hn'
 by_cases hsh : 8 * l.length < st + n
 .have d3 : decide (8 * (l.length : Int) - (st : Int) < (n : Int)) = true := by simp; omega
  subst hv
  have od := jW o
  have c0d := od.cell (off := 0)
  have c1d := od.cell (off := 1)
  simp only [aKM, aKN] at c0d c1d
  simp (disch := omega) only [aD, fM, aK8, qR, true_and, aA, gO, aKP, bO, iK, eQ, dG, bH, aKQ, if_false, bM, aU, d1, dH, d2, c0d, aH, c1d, aV, oL, aP, fE, d3, aG, aE]
  exact .inl ⟨hsh, ⟨_, jW o, hs.ext (aW.dr _ eU) (bZ _), hat⟩, aW.dr _ _⟩
 .have d3 : decide (8 * (l.length : Int) - (st : Int) < (n : Int)) = false := by simp; omega
  subst hv
  have c0e := (jW o).cell (off := 0)
  have c1e := (jW o).cell (off := 1)
  have od := jW (jW o)
  have c0d := od.cell (off := 0)
  have c1d := od.cell (off := 1)
  simp only [aKM, aKN] at c0d c1d c0e c1e
  simp (disch := omega) only [aD, fM, aK8, qR, true_and, aA, gO, aKP, bO, iK, eQ, dG, bH, aKQ, if_false, bM, aU, d1, dH, d2, c0e, aH, c1e, c0d, c1d, aV, oL, aP, fE, d3, aE]
  refine (aGS (l := l) (st := st) (n := n) ((hs.ext (aW.dr _ eU) (bZ _)).ext (aW.dr _ eU) (bZ _)) (by omega) (by omega) (by omega)).mono ?_
  rintro r w1 ⟨rfl, rfl⟩
  simp (disch := omega) only [c1d, aH, true_and, aA, bN, aP]
  refine oY od rfl (by simp) fun w2 o2 x2 s2 => ?_
  simp only [aKS, aKR] at o2
  have e1 : (st : Int) + (n : Int) = ((st + n : Nat) : Int) := by omega
  rw [e1] at o2
  have x02 : aW w w2 (fun y => y = hi) := ((aW.dr _ _).seq (aW.dr _ _)).seq x2
  exact .inr ⟨by omega, ⟨_, o2, hs.ext x02 (hat _ fun b hb hh => by omega), hat⟩, x02⟩
theorem aFM {l : List UInt8} {lo hi st : Nat} {w : aNj} (h : Fwd w lo hi l st) (hst : st <= 1000000000) :
 aS pg xE #[.pointer (some ⟨hi, 0, none⟩)] w (fun r w' => r = .int .i64 (((st + 7) / 8 : Nat)) /\ w' = w) := by
 refine TC ?_
 obtain ⟨v, o, hs, hat⟩ := h
 have c1 := o.cell (off := 1)
 simp only [aKM, aKN] at c1
 have e1 : ((st : Int) + 7).tdiv 8 = (((st + 7) / 8 : Nat) : Int) := by rw [aK6 (by omega)]; omega
 unfold PJ Bg
 simp (disch := omega) only [aD, fM, aK8, qR, aA, gO, aKP, bO, and_true, c1, aH, bN, aP, oP, e1, aE]
end Go.Proofs.YtgpimhlgaokobaaGreat
namespace Go.Pu
open Go Go.En
structure auF (B : List Bool) (l : List UInt8) : Prop where
 len : l.length = (B.length + 7) / 8
 bits : aZ l = B ++ List.replicate (8 * l.length - B.length) false
theorem aGt : auF [] [] := ⟨rfl, rfl⟩
theorem aEo : SK 0 = List.replicate 8 false := by decide
theorem aAo {B : List Bool} {l : List UInt8} (h : auF B l) (h8 : B.length % 8 = 0) : aZ (l ++ [0]) = B ++ List.replicate (8 * (l.length + 1) - B.length) false /\ (l ++ [(0 : UInt8)]).length = (B.length + 1 + 7) / 8 := by
 have hl := h.len
 refine ⟨?_, by rw [aKV, aLE]; omega⟩
 rw [S6, h.bits, aZ, aZ, aEo, aLG, aLj]
 congr 1
 rw [show 8 * l.length - B.length = 0 from by omega, show 8 * (l.length + 1) - B.length = 8 from by omega]
 rfl
theorem aGA (c : UInt8) (r : Nat) (hr : r < 8) (y : Bool) (h : c.toNat.testBit r = false) : SK (UInt8.ofNat (c.toNat + 2 ^ r * y.toNat)) = (SK c).set r y /\ c.toNat + 2 ^ r * y.toNat < 256 /\ c.toNat ||| (y.toNat * 2 ^ r) = c.toNat + 2 ^ r * y.toNat := by
 have key : ∀ (c : Fin 256) (r : Fin 8) (y : Bool), c.val.testBit r.val = false -> SK (UInt8.ofNat (c.val + 2 ^ r.val * y.toNat)) = (SK (UInt8.ofNat c.val)).set r.val y /\ c.val + 2 ^ r.val * y.toNat < 256 /\ c.val ||| (y.toNat * 2 ^ r.val) = c.val + 2 ^ r.val * y.toNat := by decide +kernel
 have := key ⟨c.toNat, aLv c⟩ ⟨r, hr⟩ y h
 simpa using this
theorem aAH : ∀ (l : List UInt8) (i r : Nat) (c : UInt8) (y : Bool) (hi : i < l.length), r < 8 -> SK c = (SK l[i]).set r y -> aZ (l.set i c) = (aZ l).set (8 * i + r) y
 | [], i, r, c, y, hi, hr, h => by simp at hi
 | x :: l, 0, r, c, y, hi, hr, h => by
   rw [aKS, aZ, aZ, h, aL4 _ _ (by rw [zI]; omega)]
   simp
 | x :: l, i + 1, r, c, y, hi, hr, h => by
   rw [aKR, aZ, aZ, aMt _ _ (by rw [zI]; omega), zI, aAH l i r c y (by simpa using hi) hr (by simpa using h)]
   congr 2
   omega
theorem aCr {B : List Bool} {l : List UInt8} {y : Bool} (hb : aZ l = B ++ List.replicate (8 * l.length - B.length) false) (hl : l.length = (B.length + 1 + 7) / 8) :
 ∃ hi : B.length / 8 < l.length, auF (B ++ [y]) (l.set (B.length / 8) (UInt8.ofNat ((l[B.length / 8]'hi).toNat + 2 ^ (B.length % 8) * y.toNat))) /\
   (l[B.length / 8]'hi).toNat + 2 ^ (B.length % 8) * y.toNat < 256 /\ (l[B.length / 8]'hi).toNat ||| (y.toNat * 2 ^ (B.length % 8)) = (l[B.length / 8]'hi).toNat + 2 ^ (B.length % 8) * y.toNat := by
 have hi : B.length / 8 < l.length := by omega
 have hbit := My l B.length (by omega)
 rw [hb, aLS (aK1 _), aMw, aMe, if_pos (by omega)] at hbit
 have hbit := (aLf hbit).symm
 obtain ⟨h1, h2, h3⟩ := aGA _ (B.length % 8) (by omega) y hbit
 refine ⟨hi, ⟨?_, ?_⟩, h2, h3⟩
 .rw [aM4, aKV, aLE]; exact hl
 .rw [aAH l _ (B.length % 8) _ y hi (by omega) h1, hb, show 8 * (B.length / 8) + B.length % 8 = B.length from by omega, aMt _ _ (aK1 _), aMw, aM4, aKV, aLE, aLj]
  congr 1
  rw [show 8 * l.length - B.length = (8 * l.length - (B.length + 1)) + 1 from by omega, aLy, aKS]
  rfl
theorem aHj {B : List Bool} {l : List UInt8} (h : auF (B ++ [true]) l) : XU l = some B.length /\ (aZ l).take B.length = B := by
 have hl := h.len
 have hb := h.bits
 rw [aKV, aLE] at hl hb
 have h0 : 0 < l.length := by omega
 have htop : (aZ l)[B.length]? = some true := by
  rw [hb, aLj, aLS (aK1 _), aMw] <;> rfl
 have hoff : ∀ j, B.length < j -> j < 8 * l.length -> (aZ l)[j]? = some false := by
  intro j h1 h2
  rw [hb, aLj, aLS (by omega), List.singleton_append, List.getElem?_cons, if_neg (by omega), aMe, if_pos (by omega)]
 refine ⟨?_, by rw [hb, aLj, aMQ] <;> rfl⟩
 cases he : XU l with
 | none =>
   rw [Mv h0] at he
   split at he
   .rename_i hz
    rw [My l _ (by omega)] at htop
    have e : B.length / 8 = l.length - 1 := by omega
    simp only [e, hz] at htop
    simp at htop
   .cases he
 | some k =>
   obtain ⟨_, h1, _, h2, h3⟩ := HS he
   rcases aNb k B.length with h | h | h
   .rw [h3 _ h (by omega)] at htop; simp at htop
   .rw [h]
   .rw [hoff _ h h1] at h2; simp at h2
theorem aGh {x n : Nat} (h : x < 2 ^ n) : vX (yK x n) = x := by rw [axY, aLt h]
theorem aDW {B : List Bool} {x n : Nat} (h : x < 2 ^ n) : qF (B ++ yK x n) n = x := by
 unfold qF
 rw [aKV, F9, show min n (B.length + n) = n from by omega, aMw, aLO, List.drop_left, aGh h]; simp
end Go.Pu
namespace Go.Proofs.YtgpimhlgaokobaaGreat
open Go Go.En Go.Pu
set_option maxRecDepth 4000
theorem JO {w w' : aNj} {S M : Nat -> Prop} {sz n : Nat} {v : aNk} {l : List aNk} (h : OSS w S sz v n l) (hx : aW w w' M) (hM : ∀ b, S b -> ¬ M b) : OSS w' S sz v n l := by
 refine ⟨h.1, ?_⟩
 rcases h.2 with h2 | ⟨b, c, rest, h1, h2, h3, h4, h5⟩
 .exact .inl h2
 .exact .inr ⟨b, c, rest, h1, h2, h3.ext hx (hM b h2), h4, h5⟩
def Wr (w : aNj) (lo p : Nat) (B : List Bool) : Prop := lo <= p /\ ∃ v bytes, eM w p [v, .int .i64 B.length] /\ OSS w (fun b => lo <= b /\ b ≠ p) 1 v bytes.length (bytes.map vC) /\ auF B bytes
def Rm (w : aNj) (lo p : Nat) (B : List Bool) : Prop := lo <= p /\ ∃ v bytes, eM w p [v, .int .i64 B.length] /\ OSS w (fun b => lo <= b /\ b ≠ p) 1 v bytes.length (bytes.map vC) /\
 aZ bytes = B ++ List.replicate (8 * bytes.length - B.length) false /\ bytes.length = (B.length + 1 + 7) / 8
theorem Wr.ext {w w' : aNj} {lo p : Nat} {B : List Bool} {M : Nat -> Prop} (h : Wr w lo p B) (hx : aW w w' M) (hM : ∀ b, lo <= b -> ¬ M b) : Wr w' lo p B := by
 obtain ⟨h0, v, bytes, h1, h2, h3⟩ := h
 exact ⟨h0, v, bytes, h1.ext hx (hM _ h0), JO h2 hx fun b hb => hM b hb.1, h3⟩
theorem aIK {lo p x i : Nat} {B : List Bool} {t17 : aNk} {w : aNj} (h : Rm w lo p B) (hx : x < 2 ^ 64) (hi : i <= 60) (hB : B.length <= 1000000000)
 {kn : aNk -> aNk -> aNk -> aNk -> aNj -> Prop} (hR : ∀ w', Wr w' lo p (B ++ [x.testBit i]) -> aW w w' (fun y => lo <= y) -> kn (.pointer (some ⟨p, 0, none⟩)) (.int .u64 x) t17 (.int .i64 i) w') :
 oS kn (.pointer (some ⟨p, 0, none⟩)) (.int .u64 x) (.int .i64 i) t17 (.int .i64 i) w := by
 obtain ⟨h0, v, bytes, o, os, hbits, hlen⟩ := h
 obtain ⟨hlt, hheld, hval, hor⟩ := aCr (y := x.testBit i) hbits hlen
 rcases os.2 with ⟨rfl, hz⟩ | ⟨b, c, rest, rfl, hS, ob, hc, hn⟩
 .rw [hlen] at hz; omega
 generalize hq : B.length = q at *
 have hcell : (bytes.map vC ++ rest)[q / 8]? = some (.int .u8 ((bytes[q / 8]'hlt).toNat : Nat)) := by
  rw [aLd (by rw [aKZ]; exact hlt), aLl, aKW hlt] <;> rfl
 have hcl : (bytes[q / 8]'hlt).toNat < 2 ^ 8 := aLv _
 have hset : (bytes.map vC ++ rest).set (q / 8) (.int .u8 (((bytes[q / 8]'hlt).toNat + 2 ^ (q % 8) * (x.testBit i).toNat : Nat))) = (bytes.set (q / 8) (UInt8.ofNat ((bytes[q / 8]'hlt).toNat + 2 ^ (q % 8) * (x.testBit i).toNat))).map vC ++ rest := by
  rw [aL4 _ _ (by rw [aKZ]; exact hlt), aM8, vC, aMb (by simpa using hval)]
 have hbl : (bytes.set (q / 8) (UInt8.ofNat ((bytes[q / 8]'hlt).toNat + 2 ^ (q % 8) * (x.testBit i).toNat))).length = bytes.length := aM4
 generalize bytes.set (q / 8) (UInt8.ofNat ((bytes[q / 8]'hlt).toNat + 2 ^ (q % 8) * (x.testBit i).toNat)) = bytes' at *
 generalize (bytes[q / 8]'hlt).toNat = y at *
 have e1 : (q : Int).tdiv 8 = ((q / 8 : Nat) : Int) := by rw [aK6 (by omega)]; omega
 have e2 : (q : Int).tmod 8 = ((q % 8 : Nat) : Int) := by rw [aLg (by omega)]; omega
 have e3 := Xp x i (by omega)
 have hxl : x / 2 ^ i < 2 ^ 64 := by have := aLP x (2 ^ i); omega
 have e4 := aDa hxl
 rw [<- aoA] at e4
 have hbt : (x.testBit i).toNat <= 1 := Bool.toNat_le _
 have hp8 : 2 ^ (q % 8) <= 2 ^ 7 := aKY (by omega) (by omega)
 have hm : (x.testBit i).toNat * 2 ^ (q % 8) <= 2 ^ (q % 8) := by
  have := aLk (2 ^ (q % 8)) hbt
  omega
 have e5 : IntKind.u8.wrap (((x.testBit i).toNat : Int) * 2 ^ (min (q % 8) IntKind.u8.bits)) = (((x.testBit i).toNat * 2 ^ (q % 8) : Nat) : Int) := by
  rw [show min (q % 8) IntKind.u8.bits = q % 8 from aLH (by have h8 : IntKind.u8.bits = 8 := rfl; omega)]
  have e : ((x.testBit i).toNat : Int) * 2 ^ (q % 8) = (((x.testBit i).toNat * 2 ^ (q % 8) : Nat) : Int) := by simp
  rw [e]
  exact xB (by omega) (by omega)
 have e6 := axF (a := y) (b := (x.testBit i).toNat * 2 ^ (q % 8)) hcl (by omega)
 rw [hor] at e6
 have e7 : (q : Int) + 1 = ((q + 1 : Nat) : Int) := by omega
 have od := jW o
 have obd := jW ob
 have c0 := od.cell (off := 0)
 have c1 := od.cell (off := 1)
 have g := obd.cell (off := q / 8)
 rw [hcell] at g
 simp only [aKM, aKN] at c0 c1
 unfold oS
 simp (disch := omega) only [aD, qR, fY, kR, aA, fN, aKP, bO, c1, aH, rH, e2, true_and, sK, aKO, e3, xA, e4, hZ, xB, pA, e5, oP, e1, aP, fI, eQ, c0, dM, iH, g, KZ, e6]
 refine VC obd rfl (by rw [aKV, aKZ]; omega) fun w2 o2 x2 s2 => ?_
 rw [hset] at o2
 have op2 := od.ext x2 (fun h => hS.2 h.symm)
 have c12 := op2.cell (off := 1)
 simp only [aKM, aKN] at c12
 simp (disch := omega) only [c12, aH, aA, bN, e7, aP]
 refine oY op2 rfl (by simp) fun w3 o3 x3 s3 => ?_
 simp only [aKS, aKR] at o3
 have hBl : (B ++ [x.testBit i]).length = q + 1 := by rw [aKV, hq] <;> rfl
 refine hR _ ⟨h0, _, bytes', by rw [hBl]; exact o3, ⟨by simp, .inr ⟨b, c, rest, by rw [hbl], hS, o2.ext x3 hS.2, ?_, by rw [hbl]; exact hn⟩⟩, hheld⟩ ?_
 .rw [aKV, aKZ] at hc ⊢; rw [hbl]; exact hc
 .exact ((aW.dr _ _).seq (x2.mono fun z _ h => by omega)).seq (x3.mono fun z _ h => by omega)
theorem aJM {lo p x i n : Nat} {B : List Bool} {w : aNj} (hw : Wr w lo p B) (hx : x < 2 ^ 64) (hi : i <= 60) (hB : B.length <= 1000000000)
 {kn : aNk -> aNk -> aNk -> aNk -> aNj -> Prop} (hR : ∀ w', Wr w' lo p (B ++ [x.testBit i]) -> aW w w' (fun y => lo <= y) -> kn (.pointer (some ⟨p, 0, none⟩)) (.int .u64 x) (.int .i64 n) (.int .i64 i) w') :
 sW kn (.pointer (some ⟨p, 0, none⟩)) (.int .u64 x) (.int .i64 n) (.int .i64 i) w := by
 unfold sW vZ
 obtain ⟨h0, v, bytes, o, os, hh⟩ := hw
 have c1 := o.cell (off := 1)
 have c0 := o.cell (off := 0)
 simp only [aKM, aKN] at c0 c1
 have e2 : (B.length : Int).tmod 8 = ((B.length % 8 : Nat) : Int) := by rw [aLg (by omega)]; omega
 by_cases h8 : B.length % 8 = 0
 .have d4 : (((B.length % 8 : Nat) : Int) == 0) = true := by rw [h8] <;> rfl
  obtain ⟨hr1, hr2⟩ := aAo hh h8
  have hl2 := hh.len
  have lp := o.lt
  simp (disch := omega) only [aD, qR, aA, fI, eQ, fN, aKP, bO, c1, aH, rH, e2, dU, d4, c0, aG]
  refine oZ (cells := #[.int .u8 0]) (by decide) (by decide) (by kernel_rfl) fun w2 o2 x2 s2 => ?_
  refine yN (m := 1) (news := [vC 0]) (i := Tryz.t5) Tryz.underlying22 Tryz.underlying22 Sm rfl rfl rfl (JO os x2 (fun _ _ h => h)) (o2.cl (off := 0) (l := [vC 0]) (n := 1) rfl (fun i hi => by rw [aKP] <;> rfl)) (by simp [one, vC]) (fun b hb => ⟨by omega, by omega⟩) (by omega) (by rw [show Tryz.t5.bytes = 1 from rfl]; omega) (by decide) fun v3 w3 o3 x3 => ?_
  have x13 : aW w w3 (fun y => lo <= y /\ y ≠ p) := (x2.mono fun _ _ h => h.elim).seq x3
  have op3 := o.ext x13 (fun h => h.2 rfl)
  have hv3 : ∃ a n c, v3 = .slice a n c := by
   rcases o3.2 with ⟨rfl, _⟩ | ⟨b, c, rest, rfl, _⟩
   .exact ⟨_, _, _, rfl⟩
   .exact ⟨_, _, _, rfl⟩
  obtain ⟨a3, n3, c3, rfl⟩ := hv3
  refine yM op3 rfl (by simp) fun w4 o4 x4 s4 => ?_
  simp only [aKS, aKR] at o4
  have x14 : aW w w4 (fun y => lo <= y) := (x13.mono fun y _ h => h.1).seq (x4.mono fun y _ h => by omega)
  refine aIK (w := w4) ⟨h0, _, bytes ++ [0], o4, ?_, ?_, hr2⟩ hx hi hB fun w5 h5 x5 => hR w5 h5 (x14.seq x5)
  .have := JO o3 x4 (fun b hb h => hb.2 h)
   rw [aKV, aLe]
   exact this
  .rw [aKV]; exact hr1
 .have d4 : (((B.length % 8 : Nat) : Int) == 0) = false := by simp; omega
  simp (disch := omega) only [aD, qR, aA, fI, eQ, fN, aKP, bO, c1, aH, rH, e2, dU, d4, aE]
  refine aIK (w := w) ⟨h0, v, bytes, o, os, hh.bits, ?_⟩ hx hi hB fun w5 h5 x5 => hR w5 h5 x5
  rw [hh.len]; omega
theorem aIg {lo p x n : Nat} {B : List Bool} {w : aNj} (h : Wr w lo p B) (hx : x < 2 ^ 64) (hn : n <= 56) (hB : B.length <= 100000000) :
 aS pg rI #[.pointer (some ⟨p, 0, none⟩), .int .u64 x, .int .i64 n] w (fun r w' => r = .tuple #[] /\ Wr w' lo p (B ++ yK x n) /\ aW w w' (fun y => lo <= y)) := by
 refine GC ?_
 unfold FL vH vE
 by_cases hn0 : n = 0
 .subst hn0
  have d1 : decide (((0 : Nat) : Int) < 1) = true := rfl
  simp (disch := omega) only [aD, fH, aK8, true_and, aA, dG, bH, aKQ, if_false, bM, aU, d1, jI, if_true, aG, cY]
  exact ⟨by rw [O6, aLG]; exact h, aW.refl _ _⟩
 have d1 : decide ((n : Int) < 1) = false := by simp; omega
 have d2 : decide ((56 : Int) < (n : Int)) = false := by simp; omega
 simp (disch := omega) only [aD, fH, aK8, true_and, aA, dG, bH, aKQ, if_false, bM, aU, d1, dH, d2, aE]
 unfold vK wA
 refine cU.rule (fun m (t : aNk) w' => ∃ i : Nat, m = n - i /\ t = .int .i64 i /\ i <= n /\ Wr w' lo p (B ++ yK x i) /\ aW w w' (fun y => lo <= y)) n
  ⟨0, rfl, rfl, by omega, by rw [O6, aLG]; exact h, aW.refl _ _⟩ ?_
 rintro m t w1 ⟨i, rfl, rfl, hi, hw, x1⟩
 unfold sR vY
 by_cases hlt : i < n
 .have d3 : decide ((i : Int) < (n : Int)) = true := by simp; omega
  simp (disch := omega) only [aD, aU, d3, aA, aG]
  unfold wB wN
  refine aJM hw hx (by omega) (by rw [aKV, F9]; omega) fun w3 hw3 x3 => ?_
  unfold sU
  simp (disch := omega) only [aD, bN, aP, aA]
  refine ⟨n - (i + 1), by omega, i + 1, rfl, rfl, by omega, ?_, x1.seq x3⟩
  rw [abG, <- aLj]
  exact hw3
 .have d3 : decide ((i : Int) < (n : Int)) = false := by simp; omega
  obtain rfl : i = n := by omega
  simp (disch := omega) only [aD, aU, d3, aA, aE]
  exact ⟨hw, x1⟩
def Ws (w : aNj) (S : Nat -> Prop) (p : Nat) (B : List Bool) : Prop := ¬ S p /\ ∃ v bytes, eM w p [v, .int .i64 B.length] /\ OSS w S 1 v bytes.length (bytes.map vC) /\ auF B bytes
def Rs (w : aNj) (S : Nat -> Prop) (p : Nat) (B : List Bool) : Prop := ¬ S p /\ ∃ v bytes, eM w p [v, .int .i64 B.length] /\ OSS w S 1 v bytes.length (bytes.map vC) /\
 aZ bytes = B ++ List.replicate (8 * bytes.length - B.length) false /\ bytes.length = (B.length + 1 + 7) / 8
theorem Ws.ext {w w' : aNj} {S M : Nat -> Prop} {p : Nat} {B : List Bool} (h : Ws w S p B) (hx : aW w w' M) (hp : ¬ M p) (hM : ∀ b, S b -> ¬ M b) : Ws w' S p B := by
 obtain ⟨h0, v, bytes, h1, h2, h3⟩ := h
 exact ⟨h0, v, bytes, h1.ext hx hp, JO h2 hx hM, h3⟩
theorem Ws.turn {w : aNj} {S T : Nat -> Prop} {p : Nat} {B : List Bool} (h : Ws w S p B) (hp : ¬ T p) (hT : ∀ b, S b -> b < w.heap.size -> T b) : Ws w T p B := by
 obtain ⟨h0, v, bytes, h1, h2, h3⟩ := h
 refine ⟨hp, v, bytes, h1, ⟨h2.1, ?_⟩, h3⟩
 rcases h2.2 with h2 | ⟨b, c, rest, e, hb, o, hc, hn⟩
 .exact .inl h2
 .exact .inr ⟨b, c, rest, e, hT b hb o.lt, o, hc, hn⟩
theorem aGf {S : Nat -> Prop} {p x i : Nat} {B : List Bool} {t17 : aNk} {w : aNj} (h : Rs w S p B) (hx : x < 2 ^ 64) (hi : i <= 60) (hB : B.length <= 1000000000)
 {kn : aNk -> aNk -> aNk -> aNk -> aNj -> Prop} (hR : ∀ w', Ws w' S p (B ++ [x.testBit i]) -> aW w w' (fun y => y = p ∨ S y) -> kn (.pointer (some ⟨p, 0, none⟩)) (.int .u64 x) t17 (.int .i64 i) w') :
 oS kn (.pointer (some ⟨p, 0, none⟩)) (.int .u64 x) (.int .i64 i) t17 (.int .i64 i) w := by
 obtain ⟨h0, v, bytes, o, os, hbits, hlen⟩ := h
 obtain ⟨hlt, hheld, hval, hor⟩ := aCr (y := x.testBit i) hbits hlen
 rcases os.2 with ⟨rfl, hz⟩ | ⟨b, c, rest, rfl, hS, ob, hc, hn⟩
 .rw [hlen] at hz; omega
 generalize hq : B.length = q at *
 have hcell : (bytes.map vC ++ rest)[q / 8]? = some (.int .u8 ((bytes[q / 8]'hlt).toNat : Nat)) := by
  rw [aLd (by rw [aKZ]; exact hlt), aLl, aKW hlt] <;> rfl
 have hcl : (bytes[q / 8]'hlt).toNat < 2 ^ 8 := aLv _
 have hset : (bytes.map vC ++ rest).set (q / 8) (.int .u8 (((bytes[q / 8]'hlt).toNat + 2 ^ (q % 8) * (x.testBit i).toNat : Nat))) = (bytes.set (q / 8) (UInt8.ofNat ((bytes[q / 8]'hlt).toNat + 2 ^ (q % 8) * (x.testBit i).toNat))).map vC ++ rest := by
  rw [aL4 _ _ (by rw [aKZ]; exact hlt), aM8, vC, aMb (by simpa using hval)]
 have hbl : (bytes.set (q / 8) (UInt8.ofNat ((bytes[q / 8]'hlt).toNat + 2 ^ (q % 8) * (x.testBit i).toNat))).length = bytes.length := aM4
 generalize bytes.set (q / 8) (UInt8.ofNat ((bytes[q / 8]'hlt).toNat + 2 ^ (q % 8) * (x.testBit i).toNat)) = bytes' at *
 generalize (bytes[q / 8]'hlt).toNat = y at *
 have e1 : (q : Int).tdiv 8 = ((q / 8 : Nat) : Int) := by rw [aK6 (by omega)]; omega
 have e2 : (q : Int).tmod 8 = ((q % 8 : Nat) : Int) := by rw [aLg (by omega)]; omega
 have e3 := Xp x i (by omega)
 have hxl : x / 2 ^ i < 2 ^ 64 := by have := aLP x (2 ^ i); omega
 have e4 := aDa hxl
 rw [<- aoA] at e4
 have hbt : (x.testBit i).toNat <= 1 := Bool.toNat_le _
 have hp8 : 2 ^ (q % 8) <= 2 ^ 7 := aKY (by omega) (by omega)
 have hm : (x.testBit i).toNat * 2 ^ (q % 8) <= 2 ^ (q % 8) := by
  have := aLk (2 ^ (q % 8)) hbt
  omega
 have e5 : IntKind.u8.wrap (((x.testBit i).toNat : Int) * 2 ^ (min (q % 8) IntKind.u8.bits)) = (((x.testBit i).toNat * 2 ^ (q % 8) : Nat) : Int) := by
  rw [show min (q % 8) IntKind.u8.bits = q % 8 from aLH (by have h8 : IntKind.u8.bits = 8 := rfl; omega)]
  have e : ((x.testBit i).toNat : Int) * 2 ^ (q % 8) = (((x.testBit i).toNat * 2 ^ (q % 8) : Nat) : Int) := by simp
  rw [e]
  exact xB (by omega) (by omega)
 have e6 := axF (a := y) (b := (x.testBit i).toNat * 2 ^ (q % 8)) hcl (by omega)
 rw [hor] at e6
 have e7 : (q : Int) + 1 = ((q + 1 : Nat) : Int) := by omega
 have od := jW o
 have obd := jW ob
 have c0 := od.cell (off := 0)
 have c1 := od.cell (off := 1)
 have g := obd.cell (off := q / 8)
 rw [hcell] at g
 simp only [aKM, aKN] at c0 c1
 unfold oS
 simp (disch := omega) only [aD, qR, fY, kR, aA, fN, aKP, bO, c1, aH, rH, e2, true_and, sK, aKO, e3, xA, e4, hZ, xB, pA, e5, oP, e1, aP, fI, eQ, c0, dM, iH, g, KZ, e6]
 refine VC obd rfl (by rw [aKV, aKZ]; omega) fun w2 o2 x2 s2 => ?_
 rw [hset] at o2
 have op2 := od.ext x2 (fun h => h0 (h ▸ hS))
 have c12 := op2.cell (off := 1)
 simp only [aKM, aKN] at c12
 simp (disch := omega) only [c12, aH, aA, bN, e7, aP]
 refine oY op2 rfl (by simp) fun w3 o3 x3 s3 => ?_
 simp only [aKS, aKR] at o3
 have hBl : (B ++ [x.testBit i]).length = q + 1 := by rw [aKV, hq] <;> rfl
 refine hR _ ⟨h0, _, bytes', by rw [hBl]; exact o3, ⟨by simp, .inr ⟨b, c, rest, by rw [hbl], hS, o2.ext x3 (fun h => h0 (h ▸ hS)), ?_, by rw [hbl]; exact hn⟩⟩, hheld⟩ ?_
 .rw [aKV, aKZ] at hc ⊢; rw [hbl]; exact hc
 .exact ((aW.dr _ _).seq (x2.mono fun z _ h => .inr (h ▸ hS))).seq (x3.mono fun z _ h => .inl h)
theorem aJk {S : Nat -> Prop} {p x i n : Nat} {B : List Bool} {w : aNj} (hw : Ws w S p B) (hN : ∀ b, w.heap.size <= b -> S b) (hx : x < 2 ^ 64) (hi : i <= 60) (hB : B.length <= 1000000000)
 {kn : aNk -> aNk -> aNk -> aNk -> aNj -> Prop} (hR : ∀ w', Ws w' S p (B ++ [x.testBit i]) -> aW w w' (fun y => y = p ∨ S y) -> kn (.pointer (some ⟨p, 0, none⟩)) (.int .u64 x) (.int .i64 n) (.int .i64 i) w') :
 sW kn (.pointer (some ⟨p, 0, none⟩)) (.int .u64 x) (.int .i64 n) (.int .i64 i) w := by
 unfold sW vZ
 obtain ⟨h0, v, bytes, o, os, hh⟩ := hw
 have c1 := o.cell (off := 1)
 have c0 := o.cell (off := 0)
 simp only [aKM, aKN] at c0 c1
 have e2 : (B.length : Int).tmod 8 = ((B.length % 8 : Nat) : Int) := by rw [aLg (by omega)]; omega
 by_cases h8 : B.length % 8 = 0
 .have d4 : (((B.length % 8 : Nat) : Int) == 0) = true := by rw [h8] <;> rfl
  obtain ⟨hr1, hr2⟩ := aAo hh h8
  have hl2 := hh.len
  have lp := o.lt
  simp (disch := omega) only [aD, qR, aA, fI, eQ, fN, aKP, bO, c1, aH, rH, e2, dU, d4, c0, aG]
  refine oZ (cells := #[.int .u8 0]) (by decide) (by decide) (by kernel_rfl) fun w2 o2 x2 s2 => ?_
  refine yN (m := 1) (news := [vC 0]) (i := Tryz.t5) Tryz.underlying22 Tryz.underlying22 Sm rfl rfl rfl (JO os x2 (fun _ _ h => h)) (o2.cl (off := 0) (l := [vC 0]) (n := 1) rfl (fun i hi => by rw [aKP] <;> rfl)) (by simp [one, vC]) (fun b hb => hN b (by omega)) (by omega) (by rw [show Tryz.t5.bytes = 1 from rfl]; omega) (by decide) fun v3 w3 o3 x3 => ?_
  have x13 : aW w w3 S := (x2.mono fun _ _ h => h.elim).seq x3
  have op3 := o.ext x13 h0
  have hv3 : ∃ a n c, v3 = .slice a n c := by
   rcases o3.2 with ⟨rfl, _⟩ | ⟨b, c, rest, rfl, _⟩
   .exact ⟨_, _, _, rfl⟩
   .exact ⟨_, _, _, rfl⟩
  obtain ⟨a3, n3, c3, rfl⟩ := hv3
  refine yM op3 rfl (by simp) fun w4 o4 x4 s4 => ?_
  simp only [aKS, aKR] at o4
  have x14 : aW w w4 (fun y => y = p ∨ S y) := (x13.mono fun y _ h => .inr h).seq (x4.mono fun y _ h => .inl h)
  refine aGf (w := w4) ⟨h0, _, bytes ++ [0], o4, ?_, ?_, hr2⟩ hx hi hB fun w5 h5 x5 => hR w5 h5 (x14.seq x5)
  .have := JO o3 x4 (fun b hb h => h0 (h ▸ hb))
   rw [aKV, aLe]
   exact this
  .rw [aKV]; exact hr1
 .have d4 : (((B.length % 8 : Nat) : Int) == 0) = false := by simp; omega
  simp (disch := omega) only [aD, qR, aA, fI, eQ, fN, aKP, bO, c1, aH, rH, e2, dU, d4, aE]
  refine aGf (w := w) ⟨h0, v, bytes, o, os, hh.bits, ?_⟩ hx hi hB fun w5 h5 x5 => hR w5 h5 x5
  rw [hh.len]; omega
theorem aGu {S : Nat -> Prop} {p x n : Nat} {B : List Bool} {w : aNj} (h : Ws w S p B) (hN : ∀ b, w.heap.size <= b -> S b) (hx : x < 2 ^ 64) (hn : n <= 56) (hB : B.length <= 100000000) :
 aS pg rI #[.pointer (some ⟨p, 0, none⟩), .int .u64 x, .int .i64 n] w (fun r w' => r = .tuple #[] /\ Ws w' S p (B ++ yK x n) /\ aW w w' (fun y => y = p ∨ S y)) := by
 refine GC ?_
 unfold FL vH vE
 by_cases hn0 : n = 0
 .subst hn0
  have d1 : decide (((0 : Nat) : Int) < 1) = true := rfl
  simp (disch := omega) only [aD, fH, aK8, true_and, aA, dG, bH, aKQ, if_false, bM, aU, d1, jI, if_true, aG, cY]
  exact ⟨by rw [O6, aLG]; exact h, aW.refl _ _⟩
 have d1 : decide ((n : Int) < 1) = false := by simp; omega
 have d2 : decide ((56 : Int) < (n : Int)) = false := by simp; omega
 simp (disch := omega) only [aD, fH, aK8, true_and, aA, dG, bH, aKQ, if_false, bM, aU, d1, dH, d2, aE]
 unfold vK wA
 refine cU.rule (fun m (t : aNk) w' => ∃ i : Nat, m = n - i /\ t = .int .i64 i /\ i <= n /\ Ws w' S p (B ++ yK x i) /\ aW w w' (fun y => y = p ∨ S y)) n
  ⟨0, rfl, rfl, by omega, by rw [O6, aLG]; exact h, aW.refl _ _⟩ ?_
 rintro m t w1 ⟨i, rfl, rfl, hi, hw, x1⟩
 unfold sR vY
 by_cases hlt : i < n
 .have d3 : decide ((i : Int) < (n : Int)) = true := by simp; omega
  simp (disch := omega) only [aD, aU, d3, aA, aG]
  unfold wB wN
  refine aJk hw (fun b hb => hN b (by have := x1.size; omega)) hx (by omega) (by rw [aKV, F9]; omega) fun w3 hw3 x3 => ?_
  unfold sU
  simp (disch := omega) only [aD, bN, aP, aA]
  refine ⟨n - (i + 1), by omega, i + 1, rfl, rfl, by omega, ?_, x1.seq x3⟩
  rw [abG, <- aLj]
  exact hw3
 .have d3 : decide ((i : Int) < (n : Int)) = false := by simp; omega
  obtain rfl : i = n := by omega
  simp (disch := omega) only [aD, aU, d3, aA, aE]
  exact ⟨hw, x1⟩
theorem Ws.wr {w : aNj} {S : Nat -> Prop} {p : Nat} {B : List Bool} (h : Ws w S p B) : Wr w 0 p B := by
 have h1 := h.turn (T := fun b => 0 <= b /\ b ≠ p) (fun h => h.2 rfl) (fun b hb _ => ⟨aMJ _, fun e => h.1 (e ▸ hb)⟩)
 obtain ⟨h0, v, bytes, a, b, c⟩ := h1
 exact ⟨aMJ _, v, bytes, a, b, c⟩
theorem aBA (w : aNj) : aS pg BL #[] w (fun r w' => r = .pointer (some ⟨w.heap.size, 0, none⟩) /\ w'.heap.size = w.heap.size + 1 /\ Ws w' (fun _ => False) w.heap.size [] /\ aW w w' eU) := by
 refine XL ?_
 unfold VD Gt
 simp (disch := omega) only [aD, kE, aA]
 refine nK fun w1 o1 x1 s1 => ?_
 simp only [Value.cells] at o1
 exact ⟨rfl, by omega, ⟨fun h => h, _, [], o1, ⟨rfl, .inl ⟨rfl, rfl⟩⟩, aGt⟩, x1⟩
theorem aHf {lo p : Nat} {B : List Bool} {w : aNj} (h : Wr w lo p B) (hB : B.length <= 10000000) :
 aS pg vV #[.pointer (some ⟨p, 0, none⟩)] w (fun r w' => ∃ bytes, Bs w' r bytes /\ auF (B ++ [true]) bytes /\ AtI r w.heap.size w'.heap.size /\ aW w w' eU) := by
 refine SY ?_
 obtain ⟨h0, v, bytes, o, os, hh⟩ := h
 have c0 := (jW o).cell (off := 0)
 have c1 := (jW o).cell (off := 1)
 simp only [aKM, aKN] at c0 c1
 have hs : Bs w v bytes := by
  have h1 := os.1
  rcases os.2 with ⟨rfl, h2⟩ | ⟨b, c, rest, rfl, h2, h3, h4, h5⟩
  .exact ⟨_, _, _, rfl, by omega, by omega, fun h => by omega⟩
  .refine ⟨_, _, _, rfl, by omega, h5, fun _ => ⟨b, 0, rfl, fun i hi => ?_⟩⟩
   rw [h3.cell, aKP, aLd (by omega)]
 have hl := hh.len
 unfold Nr Ay
 simp (disch := omega) only [aD, fH, aK8, qR, jF, Result.ok.injEq, Next.value.injEq, and_true, true_and, aA, fN, aKP, bO, fI, eQ, c0, aH, c1, aE]
 refine (Is (hs.ext (aW.dr _ eU) (bZ _)) (by omega)).mono ?_
 rintro r w1 ⟨o1, x1⟩
 have z1 := x1.size
 have x01 : aW w w1 eU := (aW.dr w eU).seq x1
 have c11 := (o.ext x01 (fun h => h)).cell (off := 1)
 simp only [aKM, aKN] at c11
 have hdr : (dr w).heap.size = w.heap.size := rfl
 rw [hdr] at o1 z1
 obtain ⟨a1, cc1, rfl⟩ := o1.len
 simp (disch := omega) only [c11, aH, aA, iG, true_and]
 refine nK fun w2 o2 x2 s2 => ?_
 simp only [Value.cells] at o2
 have hw : Wr w2 w.heap.size w1.heap.size B := by
  refine ⟨z1, _, bytes, o2, ⟨o1.1, ?_⟩, hh⟩
  rcases o1.2 with h2 | ⟨b, c, rest, h1, h2, h3, h4, h5⟩
  .exact .inl h2
  .have := h3.lt
   exact .inr ⟨b, c, rest, h1, ⟨h2, by omega⟩, h3.ext x2 (fun h => h), h4, h5⟩
 refine (aIg (x := 1) (n := 1) hw (by omega) (by omega) (by omega)).mono ?_
 rintro r w3 ⟨rfl, ⟨h0', v3, bytes3, o3, os3, hh3⟩, x3⟩
 have c03 := o3.cell (off := 0)
 simp only [aKM, aKN] at c03
 simp (disch := omega) only [qR, aA, fI, eQ, c03, aH]
 have e1 : yK 1 1 = [true] := by decide
 rw [e1] at hh3
 refine ⟨bytes3, ?_, hh3, ?_, ?_⟩
 .have h1 := os3.1
  rcases os3.2 with ⟨rfl, h2⟩ | ⟨b, c, rest, rfl, h2, h3, h4, h5⟩
  .exact ⟨_, _, _, rfl, by omega, by omega, fun h => by omega⟩
  .refine ⟨_, _, _, rfl, by omega, h5, fun _ => ⟨b, 0, rfl, fun i hi => ?_⟩⟩
   rw [h3.cell, aKP, aLd (by omega)]
 .intro M hM
  rcases os3.2 with ⟨rfl, h2⟩ | ⟨b, c, rest, rfl, h2, h3, h4, h5⟩
  .exact fun h => h
  .exact At.at b 0 _ c M (hM b h2.1 h3.lt)
 .exact (x01.seq x2).trans x3 fun b hb h => by omega
end Go.Proofs.YtgpimhlgaokobaaGreat
namespace Go.Pu
def FQ (w : Nat) : Nat := if w = 0 then 0 else 2 ^ (w - 1)
def dV (l : List Nat) : Nat := (l.map FQ).sum
def qZ (d : Nat) (l : List Nat) : Bool := l.all fun w => decide (w <= d)
def jD (l : List Nat) : Nat :=
 if qZ 11 l = true /\ 2 <= l.length /\ l.length <= 256 /\ l.getLast? ≠ some 0 /\ 2 ^ (dV l).log2 = dV l /\ (dV l).log2 <= 11 /\ qZ (dV l).log2 l = true then (dV l).log2 else 0
theorem CA (a b : List Nat) : dV (a ++ b) = dV a + dV b := by simp [dV]
theorem pB (w : Nat) (l : List Nat) : dV (w :: l) = FQ w + dV l := by simp [dV]
theorem aBF {w : Nat} (h : w <= 11) : FQ w <= 1024 := by
 unfold FQ
 split
 .omega
 .have : 2 ^ (w - 1) <= 2 ^ 10 := aKY (by omega) (by omega)
  omega
theorem HZ : ∀ {l : List Nat}, (∀ w ∈ l, w <= 11) -> dV l <= 1024 * l.length
 | [], _ => by simp [dV]
 | w :: l, h => by
   have h1 := aBF (h w (aMq ..))
   have h2 := HZ fun x hx => h x (aLc _ hx)
   rw [pB, aLa]; omega
theorem aiN {w : Nat} : ∀ {l : List Nat}, w ∈ l -> FQ w <= dV l
 | [], h => by cases h
 | x :: l, h => by
   rw [pB]
   rcases aLF.1 h with rfl | h
   .omega
   .have := aiN h; omega
theorem rJ {d : Nat} {l : List Nat} : qZ d l = true ↔ ∀ w ∈ l, w <= d := by simp [qZ]
theorem aCT : ∀ (s : Nat), 0 < s -> ((s &&& (s - 1) = 0) ↔ 2 ^ s.log2 = s) := by
 intro s
 induction s using Nat.strongRecOn with
 | ind s ih =>
   intro h
   by_cases h1 : s = 1
   .subst h1; decide
   .have hl : s.log2 = (s / 2).log2 + 1 := by
     rw [Nat.log2_def, if_pos (by omega)]
    have hd : (s &&& (s - 1)) / 2 = s / 2 &&& (s - 1) / 2 := Nat.and_div_two
    have hm : (s &&& (s - 1)) % 2 = 0 := by
     rcases aMo (s &&& (s - 1)) with h' | h'
     .exact h'
     .rw [Nat.and_mod_two_eq_one] at h'; omega
    rw [hl, aLr]
    rcases aMo s with h2 | h2
    .have he : (s - 1) / 2 = s / 2 - 1 := by omega
     rw [he] at hd
     have := ih (s / 2) (by omega) (by omega)
     constructor
     .intro h0
      rw [h0] at hd
      have := this.1 (by omega)
      omega
     .intro h0
      have := this.2 (by omega)
      omega
    .have he : (s - 1) / 2 = s / 2 := by omega
     rw [he, Nat.and_self] at hd
     constructor
     .intro h0; omega
     .intro h0; omega
theorem yA {l : List Nat} {d : Nat} (h : jD l = d) (hd : d ≠ 0) : (∀ w ∈ l, w <= d) /\ d <= 11 /\ 2 <= l.length /\ l.length <= 256 /\ l.getLast? ≠ some 0 /\ dV l = 2 ^ d := by
 unfold jD at h
 split at h
 .rename_i hh
  obtain ⟨h1, h2, h3, h4, h5, h6, h7⟩ := hh
  subst h
  exact ⟨rJ.1 h7, h6, h2, h3, h4, h5.symm⟩
 .exact absurd h.symm hd
theorem aF0 {l : List Nat} {d : Nat} (h1 : ∀ w ∈ l, w <= d) (h2 : d <= 11) (h3 : 2 <= l.length) (h4 : l.length <= 256) (h5 : l.getLast? ≠ some 0) (h6 : dV l = 2 ^ d) : jD l = d := by
 unfold jD
 have hl : (dV l).log2 = d := by rw [h6, aMW]
 rw [hl, if_pos ⟨rJ.2 fun w hw => aLT (h1 w hw) h2, h3, h4, h5, h6.symm, h2, rJ.2 h1⟩]
def xS (l : List Nat) (w : Nat) : Nat := dV (l.filter fun x => decide (x < w))
def Ot (l : List Nat) (s : Nat) : Nat := xS l (l.getD s 0) + (l.take s).count (l.getD s 0) * 2 ^ (l.getD s 0 - 1)
def Fm (l : List Nat) (d s : Nat) : Nat × Nat := if l.getD s 0 = 0 then (0, 0) else (d + 1 - l.getD s 0, Ot l s / 2 ^ (l.getD s 0 - 1))
theorem Qc (l : List Nat) (w : Nat) (hw : 1 <= w) : xS l (w + 1) = xS l w + l.count w * 2 ^ (w - 1) := by
 unfold xS
 induction l with
 | nil => simp [dV]
 | cons x l ih =>
   rw [aMh, aML, aML]
   by_cases h1 : x < w
   .rw [if_pos (by simp; omega), if_pos (by simp; omega), pB, pB, ih]
    have : (x == w) = false := by simp; omega
    rw [this]; simp; omega
   .by_cases h2 : x = w
    .subst h2
     rw [if_pos (by simp), if_neg (by simp), pB, ih]
     have : FQ x = 2 ^ (x - 1) := by unfold FQ; rw [if_neg (by omega)]
     rw [this]; simp [aLD]; omega
    .rw [if_neg (by simp; omega), if_neg (by simp; omega), ih]
     have : (x == w) = false := by simpa using h2
     rw [this]; simp
theorem awX (l : List Nat) : xS l 1 = 0 := by
 unfold xS
 induction l with
 | nil => rfl
 | cons x l ih =>
   rw [aML]
   split
   .rename_i h
    have : x = 0 := by simp at h; omega
    subst this
    rw [pB, ih] <;> rfl
   .exact ih
theorem acX {l : List Nat} {d : Nat} (h : ∀ w ∈ l, w <= d) : xS l (d + 1) = dV l := by
 unfold xS
 rw [List.filter_eq_self.2 fun a ha => by have := h a ha; simp; omega]
theorem axT {l : List Nat} {d w : Nat} (hs : dV l = 2 ^ d) (hw : w <= d + 1) (h1 : 1 <= w) : 2 ^ (w - 1) ∣ xS l w := by
 have hsplit : ∀ l : List Nat, dV l = xS l w + dV (l.filter fun x => decide (w <= x)) := by
  intro l
  unfold xS
  induction l with
  | nil => rfl
  | cons x l ih =>
    rw [aML, aML, pB, ih]
    by_cases h : x < w
    .rw [if_pos (by simpa using h), if_neg (by simp; omega), pB]; omega
    .rw [if_neg (by simpa using h), if_pos (by simp; omega), pB]; omega
 have hhigh : 2 ^ (w - 1) ∣ dV (l.filter fun x => decide (w <= x)) := by
  generalize hL : l.filter (fun x => decide (w <= x)) = L
  have hge : ∀ x ∈ L, w <= x := fun x hx => by rw [<- hL] at hx; simpa using (aM2.1 hx).2
  clear hL
  induction L with
  | nil => exact Nat.dvd_zero _
  | cons x L ih =>
    rw [pB]
    refine Nat.dvd_add ?_ (ih fun y hy => hge y (aLc _ hy))
    have := hge x (aMq ..)
    unfold FQ
    rw [if_neg (by omega)]
    exact Nat.pow_dvd_pow 2 (by omega)
 have htot : 2 ^ (w - 1) ∣ dV l := by rw [hs]; exact Nat.pow_dvd_pow 2 (by omega)
 rw [hsplit l] at htot
 exact (Nat.dvd_add_left hhigh).1 htot
def tJ (l : List Nat) : Option Nat :=
 if qZ 11 l = true /\ 1 <= l.length /\ l.length <= 255 /\ 0 < dV l /\ bl (dV l) <= 11 /\ 2 ^ (2 ^ bl (dV l) - dV l).log2 = 2 ^ bl (dV l) - dV l
 then some ((2 ^ bl (dV l) - dV l).log2 + 1) else none
theorem aBc {l : List Nat} {k : Nat} (h : tJ l = some k) : jD (l ++ [k]) = bl (dV l) /\ 1 <= bl (dV l) /\ 1 <= k /\ k <= 11 /\ l.length <= 255 /\ 1 <= l.length /\ ∀ x, jD (l ++ [x]) = bl (dV l) -> x = k := by
 unfold tJ at h
 split at h
 .rename_i hh
  obtain ⟨h1, h2, h3, h4, h5, h6⟩ := hh
  have hk := aLf h
  have hlt := Wk (dV l)
  have hle := Y9 (k := dV l) (by omega)
  have hb1 := Nh (k := dV l) (by omega)
  generalize hD : bl (dV l) = D at *
  generalize hlog : (2 ^ D - dV l).log2 = k0 at *
  have hW : dV (l ++ [k]) = 2 ^ D := by
   rw [CA, pB, <- hk]
   have : FQ (k0 + 1) = 2 ^ k0 := by unfold FQ; rw [if_neg (by omega), aLO]
   rw [this, h6]
   have : dV [] = 0 := rfl
   rw [this]; omega
  have hp2 : 2 ^ D = 2 * 2 ^ (D - 1) := by
   obtain ⟨E, rfl⟩ : ∃ E, D = E + 1 := ⟨D - 1, by omega⟩
   rw [aLO, aLr, aLm]
  have hk0 : k0 <= D - 1 := by
   rcases aK9 (D - 1) k0 with hq | hq
   .have := Nat.pow_lt_pow_right (a := 2) (by omega) hq
    omega
   .exact hq
  have hall : ∀ w ∈ l ++ [k], w <= D := by
   intro w hw
   rcases aLx.1 hw with hw | hw
   .have h7 := aiN hw
    rcases aK9 D w with hq | hq
    .exfalso
     unfold FQ at h7
     rw [if_neg (by omega)] at h7
     have := aKY (n := 2) (by omega) (show D <= w - 1 by omega)
     omega
    .exact hq
   .rw [aMC.1 hw]; omega
  refine ⟨aF0 hall h5 (by simp; omega) (by simp; omega) (by rw [aMX]; intro e; have := aLf e; omega) hW, hb1, by omega, by omega, h3, h2, fun x hx => ?_⟩
  obtain ⟨q1, q2, q3, q4, q5, q6⟩ := yA hx (by omega)
  rw [CA, pB] at q6
  have e0 : dV [] = 0 := rfl
  rw [aMX] at q5
  have hx0 : x ≠ 0 := fun e => q5 (by rw [e])
  have hwx : FQ x = 2 ^ (x - 1) := by unfold FQ; rw [if_neg hx0]
  rw [hwx, e0] at q6
  have : 2 ^ (x - 1) = 2 ^ k0 := by omega
  have := congrArg Nat.log2 this
  rw [aMW, aMW] at this
  omega
 .cases h
theorem tN {l : List Nat} {s : Nat} (h : s < l.length) : l.getD s 0 ∈ l := by
 rw [aK0, aKW h]; exact aLA h
theorem aG6 {l : List Nat} {s : Nat} (h : s < l.length) : (l.take s).count (l.getD s 0) + 1 <= l.count (l.getD s 0) := by
 have hg : l.getD s 0 = l[s] := by rw [aK0, aKW h] <;> rfl
 have e : l = l.take s ++ l[s] :: l.drop (s + 1) := by rw [<- aLo h, aMv]
 rw [hg]
 have : l.count l[s] = (l.take s ++ l[s] :: l.drop (s + 1)).count l[s] := by rw [<- e]
 rw [this, aMg, aMh]; simp
theorem VJ {l : List Nat} {a b : Nat} (h1 : 1 <= a) (h : a <= b) : xS l a <= xS l b := by
 obtain ⟨c, rfl⟩ := Nat.exists_eq_add_of_le h
 induction c with
 | zero => exact aK1 _
 | succ c ih =>
   have := Qc l (a + c) (by omega)
   rw [<- aMm]
   have := ih (by omega)
   omega
theorem aHz {l : List Nat} {s : Nat} (h : s < l.length) (h0 : l.getD s 0 ≠ 0) : Ot l s + 2 ^ (l.getD s 0 - 1) <= xS l (l.getD s 0 + 1) := by
 have h1 := aG6 h
 rw [Qc l _ (by omega)]
 unfold Ot
 have := aLk (2 ^ (l.getD s 0 - 1)) h1
 rw [aLD] at this
 omega
theorem aEk {l : List Nat} {s d : Nat} (h : s < l.length) (h0 : l.getD s 0 ≠ 0) (hs : dV l = 2 ^ d) (hd : l.getD s 0 <= d) : 2 ^ (l.getD s 0 - 1) ∣ Ot l s :=
 Nat.dvd_add (axT hs (by omega) (by omega)) (Nat.dvd_mul_left _ _)
theorem aFN {l : List Nat} {s d : Nat} (h : s < l.length) (h0 : l.getD s 0 ≠ 0) (hs : dV l = 2 ^ d) (hall : ∀ w ∈ l, w <= d) : Ot l s / 2 ^ (l.getD s 0 - 1) < 2 ^ (d + 1 - l.getD s 0) := by
 have hd := hall _ (tN h)
 have h1 := aHz h h0
 have h2 := VJ (l := l) (a := l.getD s 0 + 1) (b := d + 1) (by omega) (by omega)
 rw [acX hall, hs] at h2
 rw [aMD (aLh _), <- aLM, show d + 1 - l.getD s 0 + (l.getD s 0 - 1) = d from by omega]
 have := aLh (l.getD s 0 - 1)
 omega
theorem aAj {l : List Nat} {s t d : Nat} (hsl : s < l.length) (htl : t < l.length) (hst : s ≠ t) (hs0 : l.getD s 0 ≠ 0) (ht0 : l.getD t 0 ≠ 0) (hw : l.getD t 0 <= l.getD s 0) (hs : dV l = 2 ^ d) (hall : ∀ w ∈ l, w <= d) :
 Ot l t / 2 ^ (l.getD t 0 - 1) / 2 ^ (l.getD s 0 - l.getD t 0) ≠ Ot l s / 2 ^ (l.getD s 0 - 1) := by
 rw [aMl, <- aLM, show l.getD t 0 - 1 + (l.getD s 0 - l.getD t 0) = l.getD s 0 - 1 from by omega]
 have hp := aLh (l.getD s 0 - 1)
 obtain ⟨q, hq⟩ := aEk hsl hs0 hs (hall _ (tN hsl))
 rw [hq, aMN _ hp]
 rcases aK9 (l.getD t 0) (l.getD s 0) with hlt | hge
 .have h1 := aHz htl ht0
  have h2 := VJ (l := l) (a := l.getD t 0 + 1) (b := l.getD s 0) (by omega) (by omega)
  have h3 : xS l (l.getD s 0) <= Ot l s := Nat.le_add_right _ _
  have hp2 := aLh (l.getD t 0 - 1)
  have : Ot l t / 2 ^ (l.getD s 0 - 1) < q := by
   rw [aMD hp, aLm]
   omega
  omega
 .have he : l.getD t 0 = l.getD s 0 := by omega
  have hne : (l.take t).count (l.getD t 0) ≠ (l.take s).count (l.getD s 0) := by
   have key : ∀ {a b : Nat}, a < b -> b < l.length -> l.getD a 0 = l.getD b 0 -> (l.take a).count (l.getD a 0) < (l.take b).count (l.getD b 0) := by
    intro a b hab hb hab2
    have h1 := aG6 (l := l.take b) (s := a) (by rw [aK2]; omega)
    have h2 : (l.take b).getD a 0 = l.getD a 0 := by
     rw [aK0, aK0, aLB hab]
    rw [h2, aNa, aLH (by omega)] at h1
    rw [<- hab2]; omega
   rcases Nat.lt_or_gt_of_ne hst with h | h
   .have := key h htl he.symm; omega
   .have := key h hsl he; omega
  intro h
  apply hne
  unfold Ot at hq h
  rw [he] at h ⊢
  obtain ⟨r, hr⟩ := axT hs (by have := hall _ (tN hsl); omega) (by omega : 1 <= l.getD s 0)
  rw [hr] at hq h
  generalize 2 ^ (l.getD s 0 - 1) = p at *
  generalize (l.take t).count (l.getD s 0) = x at *
  generalize (l.take s).count (l.getD s 0) = y at *
  rw [aLm x p, <- aM1, aMN _ hp] at h
  rw [aLm y p, <- aM1] at hq
  have := Nat.eq_of_mul_eq_mul_left hp hq
  omega
end Go.Pu
namespace Go.Proofs.YtgpimhlgaokobaaGreat
open Go Go.En Go.Pu
set_option maxRecDepth 4000
abbrev cF (l : List UInt8) : List Nat := l.map (·.toNat)
theorem jY (l : List UInt8) : (cF l).length = l.length := by simp
theorem aCE {l : List UInt8} {i : Nat} (h : i < l.length) : (cF l)[i]? = some (l[i].toNat) := by rw [aLl, aKW h] <;> rfl
theorem Xw {l : List UInt8} {i : Nat} (h : i < l.length) : cF (l.take (i + 1)) = cF (l.take i) ++ [l[i].toNat] := by
 unfold cF
 rw [aLL, aKW h, aLe] <;> rfl
theorem aFs {l : List UInt8} (h : 0 < l.length) : (cF l).getLast? = some 0 ↔ l[l.length - 1].toNat = 0 := by
 rw [aMH, jY, aCE (by omega)]
 simp
theorem P1 (l : List UInt8) : ∀ w ∈ cF l, w < 256 := fun w hw => by
 obtain ⟨x, _, rfl⟩ := aLZ.1 hw
 exact aLv x
theorem ayC {d : Nat} {l : List Nat} {x : Nat} : qZ d (l ++ [x]) = (qZ d l && decide (x <= d)) := by
 unfold qZ; rw [List.all_append]; simp
theorem axA {d : Nat} {l : List Nat} {i : Nat} (h : qZ d (l.take i) = false) : qZ d l = false := by
 cases hq : qZ d l with
 | false => rfl
 | true =>
   rw [rJ] at hq
   have : qZ d (l.take i) = true := rJ.2 fun w hw => hq w (aMd hw)
   rw [this] at h; cases h
theorem aEJ {v : aNk} {l : List UInt8} {w : aNj} (h : Bs w v l) (hl : l.length <= 100000) :
 aS pg zY #[v] w (fun r w' => r = .tuple #[.int .i64 (if qZ 11 (cF l) = true then dV (cF l) else 0 : Nat), .bool (qZ 11 (cF l))] /\ w' = w) := by
 refine acE ?_
 obtain ⟨a, n, c, rfl, hn, hc, hh⟩ := id h
 rw [aKZ] at hn
 subst hn
 unfold YO FN Gm Ia HA HH
 simp (disch := omega) only [aD, aV, aA]
 unfold Ig Hr
 refine cU.rule (fun m (t : aNk × aNk) w' => ∃ i : Nat, m = l.length - i /\ t = (.int .i64 (dV (cF (l.take i)) : Nat), .int .i64 i) /\ i <= l.length /\ qZ 11 (cF (l.take i)) = true /\ w' = w) l.length
  ⟨0, rfl, by simp [dV], by omega, by simp [qZ], rfl⟩ ?_
 rintro m t w1 ⟨i, rfl, rfl, hi, hle, rfl⟩
 unfold BO Hu
 by_cases hlt : i < l.length
 .have d1 : decide ((i : Int) < (l.length : Int)) = true := by simp; omega
  obtain ⟨b, off, rfl, hcell⟩ := slA h (by omega)
  have g1 := hcell i hlt
  rw [aLl, aKW hlt] at g1
  simp only [aLC, vC] at g1
  have ht := Xw hlt
  have hx : (l[i]).toNat < 256 := aLv _
  have hwl := HZ (rJ.1 hle)
  rw [jY, aK2] at hwl
  have hsn : qZ 11 (cF (l.take (i + 1))) = (qZ 11 (cF (l.take i)) && decide ((l[i]).toNat <= 11)) := by rw [ht, ayC]
  have hwn : dV (cF (l.take (i + 1))) = dV (cF (l.take i)) + FQ (l[i]).toNat := by rw [ht, CA, pB] <;> rfl
  have hbad : qZ 11 (cF (l.take (i + 1))) = false -> qZ 11 (cF l) = false := fun h => axA (i := i + 1) (by rw [<- aME]; exact h)
  generalize (l[i]).toNat = x at *
  unfold B1
  by_cases h11 : 11 < x
  .have d2 : decide ((11 : Int) < (x : Int)) = true := by simp; omega
   have hf := hbad (by rw [hsn, hle, decide_eq_false (by omega)] <;> rfl)
   simp (disch := omega) only [aD, aU, d1, dM, aKO, bN, aP, aA, iH, g1, aH, dH, d2, fE, xB, pA, and_true, aG]
   rw [hf]; simp
  .have d2 : decide ((11 : Int) < (x : Int)) = false := by simp; omega
   have hle1 : qZ 11 (cF (l.take (i + 1))) = true := by rw [hsn, hle, decide_eq_true (by omega)] <;> rfl
   have hwp := aBF (w := x) (by omega)
   by_cases h0 : 0 < x
   .have d3 : decide ((0 : Int) < (x : Int)) = true := by simp; omega
    have e1 : (x : Int) - 1 = ((x - 1 : Nat) : Int) := by omega
    have hsh := aE9 (n := x - 1) (by omega)
    have hpw : FQ x = 2 ^ (x - 1) := by unfold FQ; rw [if_neg (by omega)]
    have e2 : ((dV (cF (l.take i)) : Nat) : Int) + ((2 ^ (x - 1) : Nat) : Int) = ((dV (cF (l.take i)) + 2 ^ (x - 1) : Nat) : Int) := by omega
    rw [hpw] at hwp hwn
    simp (disch := omega) only [aD, aU, d1, dM, aKO, bN, aP, aA, iH, g1, aH, dH, d2, d3, fE, e1, xB, pA, hsh, e2, aG, and_true, aE]
    exact ⟨l.length - (i + 1), by omega, i + 1, rfl, by rw [hwn] <;> rfl, by omega, hle1⟩
   .have d3 : decide ((0 : Int) < (x : Int)) = false := by simp; omega
    have hpw : FQ x = 0 := by unfold FQ; rw [if_pos (by omega)]
    simp (disch := omega) only [aD, aU, d1, dM, aKO, bN, aP, aA, iH, g1, aH, dH, d2, d3, fE, aE, and_true, aG]
    exact ⟨l.length - (i + 1), by omega, i + 1, rfl, by rw [hwn, hpw] <;> rfl, by omega, hle1⟩
 .have d1 : decide ((i : Int) < (l.length : Int)) = false := by simp; omega
  obtain rfl : i = l.length := by omega
  rw [aMz] at *
  unfold B5
  simp (disch := omega) only [aD, aU, d1, aA, and_true, aE]
  rw [hle]; simp
theorem aEj {a b : Nat} (ha : a < 2 ^ 63) (hb : b < 2 ^ 63) : UD .i64 (a : Int) (b : Int) = ((a &&& b : Nat) : Int) := by
 unfold UD
 have e : IntKind.i64.bits = 64 := rfl
 have h := Nat.and_lt_two_pow (n := 63) a hb
 rw [e, BitVec.ofInt_natCast, BitVec.ofInt_natCast, BitVec.toNat_and, BitVec.toNat_ofNat, BitVec.toNat_ofNat, aLt (by omega), aLt (by omega)]
 exact aP (by omega) (by omega)
theorem aJt {v : aNk} {l : List UInt8} {w : aNj} (h : Bs w v l) (h0 : 0 < l.length) (hl : l.length <= 100000) :
 aS pg AH #[v] w (fun r w' => (∃ m : Nat, r = .int .u8 m /\ (∀ x ∈ cF l, x <= m) /\ m ∈ cF l) /\ w' = w) := by
 refine VR ?_
 obtain ⟨b, off, c, rfl, hc, hcell⟩ := OE h h0
 unfold T4 Ch Cf
 have d0 : decide ((l.length : Int) < 1) = false := by simp; omega
 have g0 := hcell 0 h0
 have t0 : (0 : Int).toNat = 0 := rfl
 simp (disch := omega) only [aD, aV, aA, aU, d0, aE]
 unfold DN Dx
 simp (disch := omega) only [aD, dM, t0, aA, iH, g0, aH]
 unfold Ea DW DY DO DG
 refine cU.rule (fun m (t : aNk × aNk) w' => ∃ i q : Nat, m = l.length - i /\ t = (.int .u8 q, .int .i64 i) /\ 1 <= i /\ i <= l.length /\ (∀ x ∈ cF (l.take i), x <= q) /\ q ∈ cF (l.take i) /\ w' = w) (l.length - 1)
  ⟨1, l[0].toNat, by omega, rfl, by omega, by omega, ?_, ?_, rfl⟩ ?_
 .intro x hx
  rw [Xw (i := 0) h0] at hx
  simp at hx; omega
 .rw [Xw (i := 0) h0]; simp
 rintro m t w1 ⟨i, q, rfl, rfl, hi1, hi, hle, hmem, rfl⟩
 unfold yZ
 by_cases hlt : i < l.length
 .have d1 : decide ((i : Int) < (l.length : Int)) = true := by simp; omega
  have g1 := hcell i hlt
  have ht := Xw hlt
  generalize (l[i]).toNat = x at *
  have hmx : (if (q : Int) <= (x : Int) then (x : Int) else (q : Int)) = ((max q x : Nat) : Int) := by split <;> omega
  have hmx2 : (if (x : Int) > (q : Int) then (x : Int) else (q : Int)) = ((max q x : Nat) : Int) := by split <;> omega
  have hmx3 : (if (q : Int) < (x : Int) then (x : Int) else (q : Int)) = ((max q x : Nat) : Int) := by split <;> omega
  simp (disch := omega) only [aD, aV, dM, aKO, bN, aP, aA, iH, aU, d1, g1, aH, AD, hmx2, and_true, aG]
  refine ⟨l.length - (i + 1), by omega, i + 1, max q x, rfl, rfl, by omega, by omega, ?_, ?_⟩
  .intro y hy
   rw [ht] at hy
   rcases aLx.1 hy with hy | hy
   .have := hle y hy; omega
   .rw [aMC.1 hy]; omega
  .rw [ht, aLx]
   rcases Nat.le_total q x with h | h
   .rw [Nat.max_eq_right h]; exact .inr (aMC.2 rfl)
   .rw [Nat.max_eq_left h]; exact .inl hmem
 .have d1 : decide ((i : Int) < (l.length : Int)) = false := by simp; omega
  obtain rfl : i = l.length := by omega
  rw [aMz] at *
  unfold yT
  simp (disch := omega) only [aD, aV, bN, aP, aA, aU, d1, and_true, aE]
  exact ⟨q, rfl, hle, hmem⟩
theorem auR {v : aNk} {l : List UInt8} {w : aNj} (h : Bs w v l) (hl : l.length <= 100000) :
 aS pg zV #[v] w (fun r w' => r = .int .i64 (jD (cF l) : Nat) /\ w' = w) := by
 refine Zr ?_
 obtain ⟨a, n, c, rfl, hn, hc, hh⟩ := id h
 rw [aKZ] at hn
 subst hn
 have no : ¬ (qZ 11 (cF l) = true /\ 2 <= (cF l).length /\ (cF l).length <= 256 /\ (cF l).getLast? ≠ some 0 /\ 2 ^ (dV (cF l)).log2 = dV (cF l) /\ (dV (cF l)).log2 <= 11 /\ qZ (dV (cF l)).log2 (cF l) = true) -> jD (cF l) = 0 := fun h => by
  unfold jD; rw [if_neg h]
 have hnl := jY l
 unfold YP HM
 refine (aEJ h hl).mono ?_
 rintro r w1 ⟨rfl, rfl⟩
 cases hok : qZ 11 (cF l) with
 | false =>
   have := no (by rw [hok]; simp)
   simp (disch := omega) only [aD, aKQ, if_false, pP, pR, aA, pM, aLi, jI, bH, if_true, aG, cY, and_true]
   rw [this] <;> rfl
 | true =>
   have hw := HZ (rJ.1 hok)
   rw [hnl] at hw
   by_cases h2 : l.length < 2
   .have d2 : decide ((l.length : Int) < 2) = true := by simp; omega
    have := no (by omega)
    simp (disch := omega) only [aD, if_true, pP, pR, aA, pM, aLb, dG, bH, aKQ, if_false, bM, aV, aU, d2, jI, aG, cY, and_true]
    rw [this] <;> rfl
   have d2 : decide ((l.length : Int) < 2) = false := by simp; omega
   by_cases h3 : 256 < l.length
   .have d3 : decide ((256 : Int) < (l.length : Int)) = true := by simp; omega
    have := no (by omega)
    simp (disch := omega) only [aD, if_true, pP, pR, aA, pM, aLb, dG, bH, aKQ, if_false, bM, aV, aU, d2, dH, d3, jI, aG, cY, and_true]
    rw [this] <;> rfl
   have d3 : decide ((256 : Int) < (l.length : Int)) = false := by simp; omega
   obtain ⟨b, off, rfl, hcell⟩ := slA h (by omega)
   have e1 : (l.length : Int) - 1 = ((l.length - 1 : Nat) : Int) := by omega
   have g1 := hcell (l.length - 1) (by omega)
   rw [aLl, aKW (by omega)] at g1
   simp only [aLC, vC] at g1
   have hla := aFs (l := l) (by omega)
   have hmem : (l[l.length - 1]'(by omega)).toNat ∈ cF l := aLZ.2 ⟨_, aLA _, rfl⟩
   generalize (l[l.length - 1]'(by omega)).toNat = x at *
   by_cases h4 : x = 0
   .have d4 : ((x : Int) == 0) = true := by rw [h4] <;> rfl
    have := no (fun h => h.2.2.2.1 (hla.2 h4))
    simp (disch := omega) only [aD, if_true, pP, pR, aA, pM, aLb, dG, bH, aKQ, if_false, bM, aV, aU, d2, dH, d3, fE, e1, aP, dM, aKO, iH, g1, aH, fY, kR, dU, d4, jI, aG, cY, and_true]
    rw [this] <;> rfl
   have d4 : ((x : Int) == 0) = false := beq_eq_false_iff_ne.2 (by omega)
   have hwp := aiN hmem
   have hwx : 1 <= FQ x := by unfold FQ; rw [if_neg h4]; exact Nat.one_le_two_pow
   obtain ⟨s, hs⟩ : ∃ s, dV (cF l) = s := ⟨_, rfl⟩
   rw [hs] at no hw hwp ⊢
   have e2 : (s : Int) - 1 = ((s - 1 : Nat) : Int) := by omega
   have e3 := aEj (a := s) (b := s - 1) (by omega) (by omega)
   have hpw := aCT s (by omega)
   have hlast : (cF l).getLast? ≠ some 0 := fun h => h4 (hla.1 h)
   simp only [if_true]
   by_cases h5 : s &&& (s - 1) = 0
   .have d5 : (((s &&& (s - 1) : Nat) : Int) != 0) = false := by rw [h5] <;> rfl
    have hlog := hpw.1 h5
    have hbl : bl s = s.log2 + 1 := by unfold bl; rw [if_neg (by omega)]
    have e4 : ((s.log2 + 1 : Nat) : Int) - 1 = (s.log2 : Int) := by omega
    have hb20 : bl s <= 20 := wH (by omega)
    simp (disch := omega) only [aD, pP, pR, aA, pM, aLb, dG, bH, aKQ, if_false, bM, aV, aU, d2, dH, d3, fE, e1, aP, dM, aKO, iH, g1, aH, fY, kR, dU, d4, e2, xA, e3, dC, d5, and_true, aE]
    refine (aCi s (by omega) w1).mono ?_
    rintro r w2 ⟨rfl, rfl⟩
    rw [hbl]
    by_cases h6 : 11 < s.log2
    .have d6 : decide ((11 : Int) < (s.log2 : Int)) = true := by simp; omega
     have := no (by omega)
     simp (disch := omega) only [fE, e4, aP, aA, dH, d6, jI, bH, if_true, aG, cY, and_true]
     rw [this] <;> rfl
    have d6 : decide ((11 : Int) < (s.log2 : Int)) = false := by simp; omega
    simp (disch := omega) only [fE, e4, aP, aA, dH, d6, dG, bH, aKQ, if_false, bM]
    refine (aJt h (by omega) hl).mono ?_
    rintro r w3 ⟨⟨q, rfl, hq1, hq2⟩, rfl⟩
    have hq := P1 l q hq2
    by_cases h7 : s.log2 < q
    .have d7 : decide ((s.log2 : Int) < (q : Int)) = true := by simp; omega
     have := no (fun h => by have := rJ.1 h.2.2.2.2.2.2 q hq2; omega)
     simp (disch := omega) only [dT, aP, aA, dH, d7, and_true, aG]
     rw [this] <;> rfl
    .have d7 : decide ((s.log2 : Int) < (q : Int)) = false := by simp; omega
     have hyes : jD (cF l) = s.log2 := by
      unfold jD
      rw [hs, if_pos ⟨hok, by omega, by omega, hlast, hlog, by omega, rJ.2 fun y hy => by have := hq1 y hy; omega⟩]
     simp (disch := omega) only [dT, aP, aA, dH, d7, and_true, aE]
     rw [hyes]
   .have d5 : (((s &&& (s - 1) : Nat) : Int) != 0) = true := by simpa using h5
    have := no (fun h => h5 (hpw.2 h.2.2.2.2.1))
    simp (disch := omega) only [aD, pP, pR, aA, pM, aLb, dG, bH, aKQ, if_false, bM, aV, aU, d2, dH, d3, fE, e1, aP, dM, aKO, iH, g1, aH, fY, kR, dU, d4, e2, xA, e3, dC, d5, and_true, aG]
    rw [this] <;> rfl
def aHR (w : aNj) (base : Nat) (l : List UInt8) (o : Option Nat) (r : aNk) : Prop := match o with
 | none => r = .tuple #[.slice none 0 0, .int .i64 11]
 | some k => ∃ v, r = .tuple #[v, .int .i64 0] /\ sM w base 1 v (l.length + 1) ((l ++ [UInt8.ofNat k]).map vC)
theorem aEy {v : aNk} {l : List UInt8} {w : aNj} (h : Bs w v l) (hl : l.length <= 100000) :
 aS pg Dm #[v] w (fun r w' => aHR w' w.heap.size l (tJ (cF l)) r /\ aW w w' eU) := by
 refine aaQ ?_
 obtain ⟨a, n, c, rfl, hn, hc, hh⟩ := id h
 rw [aKZ] at hn
 subst hn
 have hnl := jY l
 have no : ¬ (qZ 11 (cF l) = true /\ 1 <= (cF l).length /\ (cF l).length <= 255 /\ 0 < dV (cF l) /\ bl (dV (cF l)) <= 11 /\ 2 ^ (2 ^ bl (dV (cF l)) - dV (cF l)).log2 = 2 ^ bl (dV (cF l)) - dV (cF l)) -> tJ (cF l) = none := fun h => by
  unfold tJ; rw [if_neg h]
 unfold YV Ii
 refine (aEJ h hl).mono ?_
 rintro r w1 ⟨rfl, rfl⟩
 cases hok : qZ 11 (cF l) with
 | false =>
   have := no (by rw [hok]; simp)
   simp (disch := omega) only [aD, aKQ, if_false, pP, pR, aA, pM, aLi, jI, bH, if_true, aG, cY]
   rw [this]; exact ⟨rfl, aW.refl _ _⟩
 | true =>
   have hw := HZ (rJ.1 hok)
   rw [hnl] at hw
   by_cases h2 : l.length = 0
   .have d2 : ((l.length : Int) == 0) = true := by rw [h2] <;> rfl
    have := no (by omega)
    simp (disch := omega) only [aD, if_true, pP, pR, aA, pM, aLb, dG, bH, aKQ, if_false, bM, aV, dU, d2, jI, aG, cY]
    rw [this]; exact ⟨rfl, aW.refl _ _⟩
   have d2 : ((l.length : Int) == 0) = false := beq_eq_false_iff_ne.2 (by omega)
   by_cases h3 : 256 <= l.length
   .have d3 : decide ((256 : Int) <= (l.length : Int)) = true := by simp; omega
    have := no (by omega)
    simp (disch := omega) only [aD, if_true, pP, pR, aA, pM, aLb, dG, bH, aKQ, if_false, bM, aV, dU, d2, nE, d3, jI, aG, cY]
    rw [this]; exact ⟨rfl, aW.refl _ _⟩
   have d3 : decide ((256 : Int) <= (l.length : Int)) = false := by simp; omega
   obtain ⟨s, hs⟩ : ∃ s, dV (cF l) = s := ⟨_, rfl⟩
   rw [hs] at no hw ⊢
   simp only [if_true]
   by_cases h4 : s = 0
   .have d4 : ((s : Int) == 0) = true := by rw [h4] <;> rfl
    have := no (by omega)
    simp (disch := omega) only [aD, pP, pR, aA, pM, aLb, dG, bH, aKQ, if_false, bM, aV, dU, d2, nE, d3, d4, fY, kR, aG]
    rw [this]; exact ⟨rfl, aW.refl _ _⟩
   have d4 : ((s : Int) == 0) = false := beq_eq_false_iff_ne.2 (by omega)
   have hbl19 : bl s <= 20 := wH (by omega)
   have hlt := Wk s
   have hbl0 := Nh h4
   have hp20 : 2 ^ bl s <= 2 ^ 20 := aKY (by omega) hbl19
   have hshl := aE9 (n := bl s) hbl19
   have e1 : ((2 ^ bl s : Nat) : Int) - (s : Int) = ((2 ^ bl s - s : Nat) : Int) := by omega
   simp (disch := omega) only [aD, pP, pR, aA, pM, aLb, dG, bH, aKQ, if_false, bM, aV, dU, d2, nE, d3, d4, fY, kR, aE]
   refine (aCi s (by omega) w1).mono ?_
   rintro r w2 ⟨rfl, rfl⟩
   obtain ⟨q, hq⟩ : ∃ q, 2 ^ bl s - s = q := ⟨_, rfl⟩
   rw [hq] at no e1
   by_cases h5 : 11 < bl s
   .have d5 : decide ((11 : Int) < (bl s : Int)) = true := by simp; omega
    have := no (by omega)
    simp (disch := omega) only [pA, aKO, hshl, dH, d5, aA, jI, bH, if_true, aG, cY, fE, e1, aP]
    rw [this]; exact ⟨rfl, aW.refl _ _⟩
   have d5 : decide ((11 : Int) < (bl s : Int)) = false := by simp; omega
   have e2 : (q : Int) - 1 = ((q - 1 : Nat) : Int) := by omega
   have e3 := aEj (a := q) (b := q - 1) (by omega) (by omega)
   have hpw := aCT q (by omega)
   by_cases h6 : q &&& (q - 1) = 0
   .have d6 : (((q &&& (q - 1) : Nat) : Int) != 0) = false := by rw [h6] <;> rfl
    have hyes : tJ (cF l) = some (q.log2 + 1) := by
     unfold tJ
     rw [hs, hq, if_pos ⟨hok, by omega, by omega, by omega, by omega, hpw.1 h6⟩]
    have hblq : bl q = q.log2 + 1 := by unfold bl; rw [if_neg (by omega)]
    have hblq2 : bl q <= 20 := wH (by omega)
    simp (disch := omega) only [pA, aKO, hshl, dH, d5, aA, dG, bH, aKQ, if_false, bM, fE, e1, aP, e2, fY, kR, xA, e3, dC, d6, aE]
    refine (Is (h.ext (aW.refl _ eU) (bZ _)) (by omega)).mono ?_
    rintro r w3 ⟨o3, x3⟩
    have z3 := x3.size
    refine (aCi q (by omega) w3).mono ?_
    rintro r w4 ⟨rfl, rfl⟩
    rw [hblq] at hblq2 ⊢
    rw [hyes]
    have e8 : IntKind.u8.wrap ((q.log2 + 1 : Nat) : Int) = ((q.log2 + 1 : Nat) : Int) := xB (by omega) (by omega)
    simp (disch := omega) only [eS, e8, aA]
    obtain ⟨av, cv, rfl⟩ := o3.len
    refine oZ (cells := #[.int .u8 (q.log2 + 1 : Nat)]) (by decide) (by decide) (by kernel_rfl) fun w5 o5 x5 s5 => ?_
    have z5 := x5.size
    refine mF (m := 1) (news := [.int .u8 (q.log2 + 1 : Nat)]) (o3.ext x5 (fun _ _ h => h)) (o5.cl (off := 0) (l := [.int .u8 (q.log2 + 1 : Nat)]) (n := 1) rfl (fun i hi => by rw [aKP])) (by simp [one]) (by omega) (by omega) fun v6 w6 o6 x6 => ?_
    refine ⟨⟨v6, rfl, ?_⟩, (x3.seq x5).trans x6 fun b hb h => by omega⟩
    have hb2 : vC (UInt8.ofNat (q.log2 + 1)) = .int .u8 (q.log2 + 1 : Nat) := by
     unfold vC
     rw [aMb (show q.log2 + 1 < 256 by omega)]
    rw [aLe, aL0, aM7, hb2]
    exact o6
   .have d6 : (((q &&& (q - 1) : Nat) : Int) != 0) = true := by simpa using h6
    have := no (fun h => h6 (hpw.2 h.2.2.2.2.2))
    simp (disch := omega) only [pA, aKO, hshl, dH, d5, aA, dG, bH, aKQ, if_false, bM, fE, e1, aP, e2, fY, kR, xA, e3, dC, d6, aG]
    rw [this]; exact ⟨rfl, aW.refl _ _⟩
end Go.Proofs.YtgpimhlgaokobaaGreat

/- Parts of the proof of LiteralsPlain: merged and given short names by a program of ours. -/
import Derived.Laws.IdiomStrings
import Derived.Test.YtgpimhlgaokobaaGreatZbB
set_option linter.unusedVariables false
set_option linter.unusedSimpArgs false
open Array renaming getElem?_eq_getElem → aL3, getD_eq_getD_getElem? → aLI, length_toList → aMJ, getElem?_eq_none → aMY, getElem?_setIfInBounds_self_of_lt → aMn, getElem?_setIfInBounds_ne → aMs, getElem?_modify → aNx
open Bool renaming and_eq_true → aLJ, not_true → aLL, not_false → aLX, false_eq_true → aLu, or_eq_false_iff → aNk
open Int renaming tdiv_eq_ediv_of_nonneg → aLK, tmod_eq_emod_of_nonneg → aLU, toNat_natCast → aLs, fdiv_eq_ediv_of_nonneg → aM2
open List renaming drop_eq_getElem_cons → aL2, length_eq_zero_iff → aL4, map_congr_left → aL7, mem_range → aL8, getElem?_eq_getElem → aLA, length_map → aLD, getD_eq_getElem?_getD → aLE, length_take → aLG, getElem?_eq_none → aLH, length_drop → aLM, length_cons → aLP, mem_cons_of_mem → aLQ, getElem?_append_left → aLR, map_append → aLS, append_assoc → aLV, getElem?_map → aLZ, getElem?_cons_zero → aLq, getElem?_cons_succ → aLr, set_cons_succ → aLv, set_cons_zero → aLw, take_succ_cons → aLx, length_append → aLz, mem_cons_self → aM5, getElem?_drop → aM7, set_append_right → aM8, getElem_range → aM9, getElem?_toArray → aMB, ext_getElem? → aMC, mem_map → aMD, map_cons → aME, getElem_map → aMH, set_append_left → aMI, drop_succ_cons → aMK, nil_append → aMM, ext_getElem → aMP, mem_of_mem_take → aMS, getElem?_replicate → aMT, count_append → aMV, count_cons → aMW, getElem_of_mem → aMX, getElem_cons_zero → aMZ, mem_append → aMb, replicate_succ → aMc, append_nil → aMd, getElem_mem → aMf, getElem?_take_of_lt → aMg, length_singleton → aMj, mem_cons → aMl, cons_append → aMp, take_add_one → aMq, getElem?_range → aMv, getElem?_append_right → aMx, getLast?_concat → aNB, mem_filter → aNH, range_succ → aNI, length_set → aNJ, length_erase_of_mem → aNL, map_nil → aNM, map_set → aNN, take_take → aNP, length_range → aNR, map_map → aNV, take_append_drop → aNa, take_length → aNd, mem_singleton → aNg, map_take → aNi, flatten_cons → aNj, getLast?_eq_getElem? → aNl, filter_cons → aNp, take_left' → aNu, getElem_cons_succ → aNv, getElem_set_self → aNy
open Nat renaming mul_comm → aL1, mod_eq_of_lt → aL5, pow_succ → aL6, pow_le_pow_right → aLC, le_refl → aLF, lt_or_ge → aLO, two_pow_pos → aLW, mul_le_mul_right → aLY, zero_add → aLt, div_div_eq_div_mul → aM0, add_assoc → aM1, mod_two_eq_zero_or_one → aM3, lt_of_lt_of_le → aM4, add_zero → aMA, eq_zero_or_pos → aMO, mul_one → aMR, add_mul → aMi, min_eq_left → aMm, pow_add → aMr, add_sub_cancel → aMt, div_le_self → aMu, le_trans → aMy, log2_two_pow → aNA, mul_assoc → aNE, one_mul → aNF, mul_add → aNG, lt_trichotomy → aNQ, zero_mul → aNU, sub_self → aNb, div_lt_iff_lt_mul → aNh, zero_le → aNn, testBit_eq_decide_div_mod_eq → aNq, mul_div_cancel_left → aNr, mod_lt → aNt
open Option renaming isNone_some → aLN, isNone_none → aMa, map_some → aMh
open Option.some renaming inj → aLT
open UInt8 renaming toNat_lt → aL9, toNat_ofNat_of_lt' → aMQ
namespace Go.Proofs.YtgpimhlgaokobaaGreat
open Go Go.En
set_option maxRecDepth 20000
attribute [local irreducible] Go.En.bD
variable (Q : Exit -> Env -> aNX -> Prop) (g : Env) (w : aNX)
def rN : FA := ⟨zE, fun i => .leaf ([], []) []⟩
def Jc : List ResultVar := [.cell 4 133, .tmp 5]
noncomputable def qJ : Code := dH Tryz.f95
def Ja (R : K1) (JC b4 Jm tR : aNY) (w : aNX) : Prop :=
 aD pg (aK 133 JC 0) w fun f6 w =>
 aD pg (aL 131 f6) w fun f7 w =>
 aD pg (aK 133 JC 0) w fun f8 w =>
 aD pg (aL 131 f8) w fun f9 w =>
 aD pg (lI .len #[131] 3 [f9]) w fun i0 w =>
 aD pg (aI .sub 3 aM aM i0 Jm) w fun i2 w =>
 aD pg (mD 131 f7 none (some i2) none) w fun i3 w =>
 aD pg (aK 133 JC 0) w fun i4 w =>
 aD pg (aT 131 i4 i3) w fun _u w =>
 aD pg (aL 133 JC) w fun i5 w =>
 aD pg (aT 133 b4 i5) w fun _u w =>
 Ac pg 133 b4 w fun r0 => R (.tuple #[r0, tR]) w
theorem anX (R : K1) (hr : HR Jc R Q) (h : Ja R (g 2) (g 4) (g 6) (g 7) w) : bD pg rN (aB 1 (aB 1 (aB 4 qJ))) Q g w :=
 eK (kn := no) (l := []) h gR hr trivial
def IY (kn : K6) (k0 : K4) (kN JC b4 Jm tR i_8 : aNY) (w : aNX) : Prop :=
 aD pg (aI .lss 3 aM aM i_8 kN) w fun e7 w =>
 gU e7
  (aD pg (aI .mul 24 aM aM tR (.int .u64 2)) w fun f1 w =>
  aD pg (aK 133 JC 1) w fun f2 w =>
  aD pg (aL 3 f2) w fun f3 w =>
  aD pg (aI .add 3 aM aM f3 (aNZ 1)) w fun f4 w =>
  aD pg (aK 133 JC 1) w fun f5 w =>
  aD pg (aT 3 f5 f4) w fun _u w =>
  aD pg (aI .add 3 aM aM i_8 (aNZ 1)) w fun e9 w =>
  kn kN JC b4 Jm f1 e9 w)
  (k0 JC b4 Jm tR w)
theorem apA (kn : K6) (k0 : K4) (hn : N6 Q kn 1 2 4 6 7 8) (h0 : E4 Q k0 0 2 4 6 7) (h : IY kn k0 (g 1) (g 2) (g 4) (g 6) (g 7) (g 8) w) : bD pg rN (bI (bI (aB 1 (aF 1 (aB 1 (aB 4 qJ)))))) Q g w :=
 eK (kr := no) (l := [(0, fun g w => k0 (g 2) (g 4) (g 6) (g 7) w)]) h hn gR ⟨h0, trivial⟩
def Rk (k0 : K4) (kN JC b4 Jm tR i_8 : aNY) (w : aNX) : Prop :=
 cR (fun (X : (aNY × aNY) -> K0) (t : aNY × aNY) (w : aNX) => IY (fun _ _ _ _ tR i_8 w => X (tR, i_8) w) k0 kN JC b4 Jm t.1 t.2 w) (tR, i_8) w
theorem apQ (k0 : K4) (h0 : E4 Q k0 0 2 4 6 7) (h : Rk k0 (g 1) (g 2) (g 4) (g 6) (g 7) (g 8) w) : bD pg rN (bI (aB 1 (aF 1 (aB 1 (aB 4 qJ))))) Q g w := by
 refine CX (fun g : Env => (g 7, g 8)) (fun X t w => IY (fun _ _ _ _ tR i_8 w => X (tR, i_8) w) k0 (g 1) (g 2) (g 4) (g 6) t.1 t.2 w) h (fun X g1 w1 ha hL => ?_)
 rw [<- kA 1 ha, <- kA 2 ha, <- kA 4 ha, <- kA 6 ha] at hL
 exact (apA _ g1 w1 (fun _ _ _ _ tR i_8 w => X (tR, i_8) w) k0 (fun _ _ h => h) h0 hL)
def QV (kn : K4) (kN JC b4 Jm tR i_8 : aNY) (w : aNX) : Prop :=
 Rk kn kN JC b4 Jm tR i_8 w
def R6 (kn : K6) (kN JC b4 Jm tR : aNY) (w : aNX) : Prop :=
 kn kN JC b4 Jm tR Jm w
theorem aoF (kn : K6) (hn : N6 Q kn 1 2 4 6 7 8) (h : R6 kn (g 1) (g 2) (g 4) (g 6) (g 7) w) : bD pg rN (aF 1 (aF 1 (aB 1 (aB 4 qJ)))) Q g w :=
 eK (kr := no) (l := []) h hn gR trivial
def RX (kn : K4) (kN JC b4 Jm tR : aNY) (w : aNX) : Prop :=
 R6 (fun kN JC b4 Jm tR i_8 w => QV kn kN JC b4 Jm tR i_8 w) kN JC b4 Jm tR w
def RO (R : K1) (kN JC b4 Jm tR : aNY) (w : aNX) : Prop :=
 RX (fun JC b4 Jm tR w => Ja R JC b4 Jm tR w) kN JC b4 Jm tR w
theorem aqN (kn : K4) (hn : N4 Q kn 2 4 6 7) (h : RX kn (g 1) (g 2) (g 4) (g 6) (g 7) w) : bD pg rN (aF 1 (aB 1 (aB 4 qJ))) Q g w :=
 jA 1 (aoF _ g w (QV kn) (fun g w h => aJ (xC 0 (apQ _ g w kn hn h))) h)
def Q9 (kn : K5) (kN JC b4 Jm : aNY) (w : aNX) : Prop :=
 aD pg (aK 133 JC 0) w fun d5 w =>
 aD pg (aL 131 d5) w fun d6 w =>
 aD pg (aK 133 JC 0) w fun d7 w =>
 aD pg (aL 131 d7) w fun d8 w =>
 aD pg (lI .len #[131] 3 [d8]) w fun d9 w =>
 aD pg (aI .sub 3 aM aM d9 Jm) w fun e1 w =>
 aD pg (mD 131 d6 (some e1) none none) w fun e2 w =>
 aS pg BA #[e2] w fun e3 w =>
 kn kN JC b4 Jm e3 w
theorem aqO (kn : K5) (hn : N5 Q kn 1 2 4 6 7) (h : Q9 kn (g 1) (g 2) (g 4) (g 6) w) : bD pg rN (aF 1 (aB 4 qJ)) Q g w :=
 eK (kr := no) (l := []) h hn gR trivial
def IT (R : K1) (kN JC b4 Jm : aNY) (w : aNX) : Prop :=
 Q9 (fun kN JC b4 Jm tR w => RO R kN JC b4 Jm tR w) kN JC b4 Jm w
def Pe (kn : K4) (R : K1) (eX kN : aNY) (w : aNX) : Prop :=
 aD pg (B4 133 eX) w fun JC w =>
 aD pg (fW 133) w fun b4 w =>
 aD pg (aI .lss 3 aM aM kN (aNZ 1)) w fun c0 w =>
 Gd (gQ c0 false) (fun K => K kN w) w fun c2 w =>
 Gd (gQ c0 false) (fun K => aD pg (aI .gtr 3 aM aM c2 (aNZ 56)) w K) w fun c3 w =>
 aD pg (iO c0 (.bool true) c3) w fun c4 w =>
 gU c4
  (aD pg (aL 133 JC) w fun c5 w =>
  aD pg (aT 133 b4 c5) w fun _u w =>
  Ac pg 133 b4 w fun r0 => R (.tuple #[r0, (.int .u64 0)]) w)
  (aD pg (aK 133 JC 0) w fun c8 w =>
  aD pg (aL 131 c8) w fun c9 w =>
  aD pg (lI .len #[131] 3 [c9]) w fun d0 w =>
  aD pg (aI .gtr 3 aM aM kN d0) w fun d1 w =>
  gU d1
   (aD pg (aK 133 JC 0) w fun d2 w =>
   aD pg (aL 131 d2) w fun d3 w =>
   aD pg (lI .len #[131] 3 [d3]) w fun d4 w =>
   kn kN JC b4 d4 w)
   (kn kN JC b4 kN w))
theorem ahQ (kn : K4) (R : K1) (hn : N4 Q kn 1 2 4 6) (hr : HR Jc R Q) (h : Pe kn R (g 0) (g 1) w) : bD pg rN (aF 4 qJ) Q g w :=
 eK (l := []) h hn hr trivial
def NH (R : K1) (eX kN : aNY) (w : aNX) : Prop :=
 Pe (fun kN JC b4 Jm w => IT R kN JC b4 Jm w) R eX kN w
theorem ahD (R : K1) (hr : HR Jc R Q) (h : NH R (g 0) (g 1) w) : bD pg rN qJ Q g w :=
 jA 4 (ahQ _ g w (IT R) R (fun g w h => aJ (jA 1 (aqO _ g w (RO R) (fun g w h => aJ (jA 1 (aqN _ g w (Ja R) (fun g w h => aJ (anX _ g w R hr h)) h))) h))) hr h)
def awH (a0 a1 : aNY) (w : aNX) (R : K1) : Prop :=
 NH R a0 a1 w
theorem avI {a0 a1 : aNY} {w : aNX} {R : K1} (h : awH a0 a1 w R) : aS pg zE #[a0, a1] w R := by
 refine uP (ann := rN) Tryz.f95 qJ [a0, a1] Jc 57 TryzM.mixed Tryz.func95 ?_
 exact (ahD _ _ _ R (fun _ _ h => h) h)
def OH : FA := ⟨BZ, fun i => .leaf ([], []) []⟩
def Qq : List ResultVar := [.tmp 0]
noncomputable def L7 : Code := dH Tryz.f96
def ES (R : K1)  (w : aNX) : Prop :=
 aD pg (fX 198 []) w fun b1 w =>
 aD pg (B4 198 b1) w fun b2 w =>
 R b2 w
theorem Xa (R : K1) (hr : HR Qq R Q) (h : ES R w) : bD pg OH L7 Q g w :=
 eK (kn := no) (l := []) h gR hr trivial
def V7 (w : aNX) (R : K1) : Prop :=
 ES R w
theorem Zc {w : aNX} {R : K1} (h : V7 w R) : aS pg BZ #[] w R := by
 refine uP (ann := OH) Tryz.f96 L7 [] Qq 3 TryzM.mixed Tryz.func96 ?_
 exact (Xa _ _ _ R (fun _ _ h => h) h)
def CQ : FA := ⟨zY, fun i => .leaf ([], []) []⟩
def EJ : List ResultVar := [.tmp 2]
noncomputable def Cy : Code := dH Tryz.f97
def xX (R : K1) (Cz : aNY) (w : aNX) : Prop :=
 aD pg (B4 22 Cz) w fun s_1 w =>
 aD pg (aDu (.func 105) [] [s_1]) w fun b3 w =>
 R b3 w
theorem Od (R : K1) (hr : HR EJ R Q) (h : xX R (g 0) w) : bD pg CQ Cy Q g w :=
 eK (kn := no) (l := []) h gR hr trivial
def Jj (a0 : aNY) (w : aNX) (R : K1) : Prop :=
 xX R a0 w
theorem P5 {a0 : aNY} {w : aNX} {R : K1} (h : Jj a0 w R) : aS pg zY #[a0] w R := by
 refine uP (ann := CQ) Tryz.f97 Cy [a0] EJ 4 TryzM.mixed Tryz.func97 ?_
 exact (Od _ _ _ R (fun _ _ h => h) h)
def lA : FA := ⟨rP, fun i => match Nat.beq i 6 with | true => .leaf ([25], []) [(false, []), (false, []), (false, []), (false, []), (false, []), (false, []), (false, []), (false, []), (false, []), (false, []), (false, []), (false, []), (false, []), (false, []), (false, []), (false, []), (false, []), (false, []), (false, []), (false, []), (false, []), (false, []), (false, []), (false, []), (false, []), (true, [])] | false => .leaf ([], []) []⟩
def BN : List ResultVar := []
noncomputable def kL : Code := dH Tryz.f98
def tA (kn : K4) (xR Hd c7 c8 : aNY) (w : aNX) : Prop :=
 aD pg (aI .add 3 aM aM c8 (aNZ 1)) w fun j8 w =>
 kn xR Hd c7 j8 w
theorem Ta (kn : K4) (hn : N4 Q kn 0 1 17 18) (h : tA kn (g 0) (g 1) (g 17) (g 18) w) : bD pg lA (aB 1 (aB 2 (bI (bI (aB 2 kL))))) Q g w :=
 eK (kr := no) (l := []) h hn gR trivial
def pB (kn : K4) (xR Hd xG c7 c8 : aNY) (w : aNX) : Prop :=
 (dr w) = (dr w) /\
 aD pg (wA xR) (dr w) fun e7 w_ => w_ = (dr w) /\
 aD pg (aK 198 e7 0) (dr w) fun e8 w_ => w_ = (dr w) /\
 aD pg (aL 22 e8) (dr w) fun e9 w_ => w_ = (dr w) /\
 (dr w) = (dr w) /\
 aD pg (wA xR) (dr w) fun f1 w_ => w_ = (dr w) /\
 aD pg (aK 198 f1 1) (dr w) fun f2 w_ => w_ = (dr w) /\
 aD pg (aL 3 f2) (dr w) fun f3 w_ => w_ = (dr w) /\
 aD pg (aI .quo 3 aM aM f3 (aNZ 8)) (dr w) fun f4 w_ => w_ = (dr w) /\
 aD pg (cI 22 e9 f4) (dr w) fun f5 w_ => w_ = (dr w) /\
 aD pg (aL 5 f5) (dr w) fun f6 w_ => w_ = (dr w) /\
 (dr w) = (dr w) /\
 (dr w) = (dr w) /\
 aD pg (jP 3 67 xG) (dr w) fun f9 w_ => w_ = (dr w) /\
 aD pg (aI .shr 24 aM aM Hd f9) (dr w) fun i0 w_ => w_ = (dr w) /\
 aD pg (aI .and 24 aM aM i0 (.int .u64 1)) (dr w) fun i1 w_ => w_ = (dr w) /\
 aD pg (jP 24 5 i1) (dr w) fun i2 w_ => w_ = (dr w) /\
 (dr w) = (dr w) /\
 aD pg (wA xR) (dr w) fun i4 w_ => w_ = (dr w) /\
 aD pg (aK 198 i4 1) (dr w) fun i5 w_ => w_ = (dr w) /\
 aD pg (aL 3 i5) (dr w) fun i6 w_ => w_ = (dr w) /\
 aD pg (aI .rem 3 aM aM i6 (aNZ 8)) (dr w) fun i7 w_ => w_ = (dr w) /\
 aD pg (aI .shl 5 aM aM i2 i7) (dr w) fun i8 w_ => w_ = (dr w) /\
 aD pg (aI .or 5 aM aM f6 i8) (dr w) fun i9 w_ => w_ = (dr w) /\
 aD pg (cI 22 e9 f4) (dr w) fun j0 w_ => w_ = (dr w) /\
 aD pg (aT 5 j0 i9) (dr w) fun _u25 aKQ =>
 aD pg (wA xR) aKQ fun j2 w =>
 aD pg (aK 198 j2 1) w fun j3 w =>
 aD pg (aL 3 j3) w fun j4 w =>
 aD pg (aI .add 3 aM aM j4 (aNZ 1)) w fun j5 w =>
 aD pg (wA xR) w fun j6 w =>
 aD pg (aK 198 j6 1) w fun j7 w =>
 aD pg (aT 3 j7 j5) w fun _u w =>
 kn xR Hd c7 c8 w
theorem SI (kn : K4) (hn : N4 Q kn 0 1 17 18) (h : pB kn (g 0) (g 1) (g 6) (g 17) (g 18) w) : bD pg lA (aB 2 (bI (aF 1 (aB 2 (bI (bI (aB 2 kL))))))) Q g w :=
 eK (kr := no) (l := []) h hn gR trivial
def wK (kn : K5) (xR Hd c7 c8 : aNY) (w : aNX) : Prop :=
 aD pg (wA xR) w fun d2 w =>
 aD pg (aK 198 d2 1) w fun d3 w =>
 aD pg (aL 3 d3) w fun d4 w =>
 aD pg (aI .rem 3 aM aM d4 (aNZ 8)) w fun d5 w =>
 aD pg (aI .eql 3 (.tmp 25) (.const (aNZ 0)) d5 (aNZ 0)) w fun d6 w =>
 gU d6
  (aD pg (wA xR) w fun d9 w =>
  aD pg (aK 198 d9 0) w fun e0 w =>
  aD pg (aL 22 e0) w fun e1 w =>
  aD pg (cU 22 1 [(0, (.int .u8 0))]) w fun e2 w =>
  aD pg (lI .append #[22, 22] 22 [e1, e2]) w fun e3 w =>
  aD pg (wA xR) w fun e4 w =>
  aD pg (aK 198 e4 0) w fun e5 w =>
  aD pg (aT 22 e5 e3) w fun _u w =>
  kn xR Hd c8 c7 c8 w)
  (kn xR Hd c8 c7 c8 w)
theorem SL (kn : K5) (hn : N5 Q kn 0 1 6 17 18) (h : wK kn (g 0) (g 1) (g 17) (g 18) w) : bD pg lA (aF 2 (bI (aF 1 (aB 2 (bI (bI (aB 2 kL))))))) Q g w :=
 eK (kr := no) (l := []) h hn gR trivial
def sW (kn : K4) (xR Hd c7 c8 : aNY) (w : aNX) : Prop :=
 wK (fun xR Hd xG c7 c8 w => pB kn xR Hd xG c7 c8 w) xR Hd c7 c8 w
def wG (kn : K4) (xR Hd c7 c8 : aNY) (w : aNX) : Prop :=
 sW kn xR Hd c7 c8 w
def wU (kn : K4) (xR Hd c7 c8 : aNY) (w : aNX) : Prop :=
 wG (fun xR Hd c7 c8 w => tA kn xR Hd c7 c8 w) xR Hd c7 c8 w
theorem SD (kn : K4) (hn : N4 Q kn 0 1 17 18) (h : wG kn (g 0) (g 1) (g 17) (g 18) w) : bD pg lA (aF 1 (aB 2 (bI (bI (aB 2 kL))))) Q g w :=
 xC 1 (jA 2 (SL _ g w (pB kn) (fun g w h => aJ (SI _ g w kn hn h)) h))
def wZ (kn : K4) (k0 : K0) (xR Hd c7 c8 : aNY) (w : aNX) : Prop :=
 aD pg (aI .lss 3 aM aM c8 c7) w fun c9 w =>
 gU c9
  (kn xR Hd c7 c8 w)
  (k0 w)
theorem SH (kn : K4) (k0 : K0) (hn : N4 Q kn 0 1 17 18) (h0 : E0 Q k0 0) (h : wZ kn k0 (g 0) (g 1) (g 17) (g 18) w) : bD pg lA (aF 2 (bI (bI (aB 2 kL)))) Q g w :=
 eK (kr := no) (l := [(0, fun g w => k0 w)]) h hn gR ⟨h0, trivial⟩
def tD (kn : K4) (k0 : K0) (xR Hd c7 c8 : aNY) (w : aNX) : Prop :=
 wZ (fun xR Hd c7 c8 w => wU kn xR Hd c7 c8 w) k0 xR Hd c7 c8 w
def wY (k0 : K0) (xR Hd c7 c8 : aNY) (w : aNX) : Prop :=
 cR (fun (X : aNY -> K0) (t : aNY) (w : aNX) => tD (fun _ _ _ c8 w => X c8 w) k0 xR Hd c7 t w) c8 w
theorem SY (kn : K4) (k0 : K0) (hn : N4 Q kn 0 1 17 18) (h0 : E0 Q k0 0) (h : tD kn k0 (g 0) (g 1) (g 17) (g 18) w) : bD pg lA (bI (bI (aB 2 kL))) Q g w :=
 jA 2 (SH _ g w (wU kn) k0 (fun g w h => aJ (jA 1 (SD _ g w (tA kn) (fun g w h => aJ (Ta _ g w kn hn h)) h))) h0 h)
theorem SF (k0 : K0) (h0 : E0 Q k0 0) (h : wY k0 (g 0) (g 1) (g 17) (g 18) w) : bD pg lA (bI (aB 2 kL)) Q g w := by
 refine CX (fun g : Env => g 18) (fun X t w => tD (fun _ _ _ c8 w => X c8 w) k0 (g 0) (g 1) (g 17) t w) h (fun X g1 w1 ha hL => ?_)
 rw [<- kA 0 ha, <- kA 1 ha, <- kA 17 ha] at hL
 exact (SY _ g1 w1 (fun _ _ _ c8 w => X c8 w) k0 (fun _ _ h => h) h0 hL)
def vU (kn : K0) (xR Hd c7 c8 : aNY) (w : aNX) : Prop :=
 wY kn xR Hd c7 c8 w
def vO (kn : K4) (R : K1) (xR Hd nU : aNY) (w : aNX) : Prop :=
 aD pg (aI .eql 186 (.tmp 7) (.const (.pointer none)) xR (.pointer none)) w fun b8 w =>
 Gd (gQ b8 false) (fun K => K nU w) w fun c0 w =>
 Gd (gQ b8 false) (fun K => aD pg (aI .lss 3 aM aM c0 (aNZ 1)) w K) w fun c1 w =>
 aD pg (iO b8 (.bool true) c1) w fun c2 w =>
 Gd (gQ c2 false) (fun K => K nU w) w fun c4 w =>
 Gd (gQ c2 false) (fun K => aD pg (aI .gtr 3 aM aM c4 (aNZ 56)) w K) w fun c5 w =>
 aD pg (iO c2 (.bool true) c5) w fun c6 w =>
 gU c6
  (R (.tuple #[]) w)
  (kn xR Hd nU (aNZ 0) w)
theorem QL (kn : K4) (R : K1) (hn : N4 Q kn 0 1 17 18) (hr : HR BN R Q) (h : vO kn R (g 0) (g 1) (g 2) w) : bD pg lA (aF 2 kL) Q g w :=
 eK (l := []) h hn hr trivial
def vS (kn : K0) (R : K1) (xR Hd nU : aNY) (w : aNX) : Prop :=
 vO (fun xR Hd c7 c8 w => vU kn xR Hd c7 c8 w) R xR Hd nU w
theorem QS (kn : K0) (R : K1) (hn : N0 Q kn) (hr : HR BN R Q) (h : vS kn R (g 0) (g 1) (g 2) w) : bD pg lA kL Q g w :=
 jA 2 (QL _ g w (vU kn) R (fun g w h => aJ (xC 0 (SF _ g w kn hn h))) hr h)
def Ga (a0 a1 a2 : aNY) (w : aNX) (R : K1) : Prop :=
 vS (fun  w => R (.tuple #[]) w) R a0 a1 a2 w
theorem Fo {a0 a1 a2 : aNY} {w : aNX} {R : K1} (h : Ga a0 a1 a2 w R) : aS pg rP #[a0, a1, a2] w R := by
 refine uP (ann := lA) Tryz.f98 kL [a0, a1, a2] BN 69 TryzM.mixed Tryz.func98 ?_
 exact (QS _ _ _ (fun  w => R (.tuple #[]) w) R (fun _ _ h => h) (fun _ _ h => h) h)
def GB : FA := ⟨wM, fun i => match Nat.beq i 3 with | true => .leaf ([4, 10], [(4, 6), (4, 7), (4, 8)]) [(false, []), (false, []), (false, []), (false, []), (true, []), (false, []), (false, [1]), (false, [2]), (false, [3]), (false, []), (true, []), (false, [])] | false => .leaf ([], []) []⟩
def Hv : List ResultVar := [.tmp 2]
noncomputable def ED : Code := dH Tryz.f99
def AO (R : K1) (xR : aNY) (w : aNX) : Prop :=
 aD pg (aI .eql 186 (.tmp 4) (.const (.pointer none)) xR (.pointer none)) w fun b5 w =>
 gU b5
  (R (.slice none 0 0) w)
  ((dr w) = (dr w) /\
  aD pg (wA xR) (dr w) fun b7 w_ => w_ = (dr w) /\
  aD pg (aK 198 b7 0) (dr w) fun b8 w_ => w_ = (dr w) /\
  aD pg (aL 22 b8) (dr w) fun b9 w_ => w_ = (dr w) /\
  aS pg jS #[b9] (dr w) fun c0 Wj =>
  Wj = Wj /\
  aD pg (wA xR) Wj fun c2 w_ => w_ = Wj /\
  (jH pg (wA xR) c2 (dr w) /\ True) /\
  aD pg (aK 198 c2 1) Wj fun c3 w_ => w_ = Wj /\
  (jH pg (aK 198 c2 1) c3 (dr w) /\ True) /\
  aD pg (aL 3 c3) Wj fun c4 w_ => w_ = Wj /\
  (jH pg (aL 3 c3) c4 (dr w) /\ True) /\
  aD pg (fX 198 [(0, c0), (1, c4)]) Wj fun c5 w_ => w_ = Wj /\
  aD pg (B4 198 c5) Wj fun c6 aHQ =>
  aHQ = aHQ /\
  aS pg rP #[c6, (.int .u64 1), (aNZ 1)] aHQ fun c8 w =>
  aD pg (wA c6) w fun d0 w =>
  aD pg (aK 198 d0 0) w fun d1 w =>
  aD pg (aL 22 d1) w fun d2 w =>
  R d2 w)
theorem QU (R : K1) (hr : HR Hv R Q) (h : AO R (g 0) w) : bD pg GB ED Q g w :=
 eK (kn := no) (l := []) h gR hr trivial
def Of (a0 : aNY) (w : aNX) (R : K1) : Prop :=
 AO R a0 w
theorem Tq {a0 : aNY} {w : aNX} {R : K1} (h : Of a0 w R) : aS pg wM #[a0] w R := by
 refine uP (ann := GB) Tryz.f99 ED [a0] Hv 23 TryzM.mixed Tryz.func99 ?_
 exact (QU _ _ _ R (fun _ _ h => h) h)
def uN : FA := ⟨Jh, fun i => .leaf ([], []) []⟩
def TE : List ResultVar := [.tmp 6]
noncomputable def tB : Code := dH Tryz.f100
def Mg (R : K1) (tR : aNY) (w : aNX) : Prop :=
 R tR w
theorem atW (R : K1) (hr : HR TE R Q) (h : Mg R (g 7) w) : bD pg uN (aB 1 (aB 2 tB)) Q g w :=
 eK (kn := no) (l := []) h gR hr trivial
def Mf (kn : K5) (k0 : K1) (eX Ml tR c0 c1 : aNY) (w : aNX) : Prop :=
 aD pg (aI .lss 3 aM aM c1 c0) w fun c2 w =>
 gU c2
  (aD pg (aI .add 3 aM aM Ml c1) w fun c6 w =>
  aD pg (aI .quo 3 aM aM c6 (aNZ 8)) w fun d0 w =>
  aD pg (cI 22 eX d0) w fun d1 w =>
  aD pg (aL 5 d1) w fun d2 w =>
  aD pg (aI .rem 3 aM aM c6 (aNZ 8)) w fun d4 w =>
  aD pg (aI .shr 5 aM aM d2 d4) w fun d5 w =>
  aD pg (aI .and 5 aM aM d5 (.int .u8 1)) w fun d6 w =>
  aD pg (jP 5 24 d6) w fun d7 w =>
  aD pg (jP 3 67 c1) w fun d9 w =>
  aD pg (aI .shl 24 aM aM d7 d9) w fun e0 w =>
  aD pg (aI .or 24 aM aM tR e0) w fun e1 w =>
  aD pg (aI .add 3 aM aM c1 (aNZ 1)) w fun e2 w =>
  kn eX Ml e1 c0 e2 w)
  (k0 tR w)
theorem auP (kn : K5) (k0 : K1) (hn : N5 Q kn 0 1 7 10 11) (h0 : E1 Q k0 0 7) (h : Mf kn k0 (g 0) (g 1) (g 7) (g 10) (g 11) w) : bD pg uN (bI (bI (aB 1 (aF 1 (aB 2 tB))))) Q g w :=
 eK (kr := no) (l := [(0, fun g w => k0 (g 7) w)]) h hn gR ⟨h0, trivial⟩
def TY (k0 : K1) (eX Ml tR c0 c1 : aNY) (w : aNX) : Prop :=
 cR (fun (X : (aNY × aNY) -> K0) (t : aNY × aNY) (w : aNX) => Mf (fun _ _ tR _ c1 w => X (tR, c1) w) k0 eX Ml t.1 c0 t.2 w) (tR, c1) w
theorem auZ (k0 : K1) (h0 : E1 Q k0 0 7) (h : TY k0 (g 0) (g 1) (g 7) (g 10) (g 11) w) : bD pg uN (bI (aB 1 (aF 1 (aB 2 tB)))) Q g w := by
 refine CX (fun g : Env => (g 7, g 11)) (fun X t w => Mf (fun _ _ tR _ c1 w => X (tR, c1) w) k0 (g 0) (g 1) t.1 (g 10) t.2 w) h (fun X g1 w1 ha hL => ?_)
 rw [<- kA 0 ha, <- kA 1 ha, <- kA 10 ha] at hL
 exact (auP _ g1 w1 (fun _ _ tR _ c1 w => X (tR, c1) w) k0 (fun _ _ h => h) h0 hL)
def TP (kn : K1) (eX Ml tR c0 c1 : aNY) (w : aNX) : Prop :=
 TY kn eX Ml tR c0 c1 w
def TO (kn : K5) (eX Ml nU tR : aNY) (w : aNX) : Prop :=
 kn eX Ml tR nU (aNZ 0) w
theorem avH (kn : K5) (hn : N5 Q kn 0 1 7 10 11) (h : TO kn (g 0) (g 1) (g 2) (g 7) w) : bD pg uN (aF 1 (aF 1 (aB 2 tB))) Q g w :=
 eK (kr := no) (l := []) h hn gR trivial
def TX (kn : K1) (eX Ml nU tR : aNY) (w : aNX) : Prop :=
 TO (fun eX Ml tR c0 c1 w => TP kn eX Ml tR c0 c1 w) eX Ml nU tR w
def TL (R : K1) (eX Ml nU tR : aNY) (w : aNX) : Prop :=
 TX (fun tR w => Mg R tR w) eX Ml nU tR w
theorem auA (kn : K1) (hn : N1 Q kn 7) (h : TX kn (g 0) (g 1) (g 2) (g 7) w) : bD pg uN (aF 1 (aB 2 tB)) Q g w :=
 jA 1 (avH _ g w (TP kn) (fun g w h => aJ (xC 0 (auZ _ g w kn hn h))) h)
def Uq (kn : K4) (eX Ml nU : aNY) (w : aNX) : Prop :=
 kn eX Ml nU (.int .u64 0) w
theorem avL (kn : K4) (hn : N4 Q kn 0 1 2 7) (h : Uq kn (g 0) (g 1) (g 2) w) : bD pg uN (aF 2 tB) Q g w :=
 eK (kr := no) (l := []) h hn gR trivial
def TQ (R : K1) (eX Ml nU : aNY) (w : aNX) : Prop :=
 Uq (fun eX Ml nU tR w => TL R eX Ml nU tR w) eX Ml nU w
theorem auD (R : K1) (hr : HR TE R Q) (h : TQ R (g 0) (g 1) (g 2) w) : bD pg uN tB Q g w :=
 jA 2 (avL _ g w (TL R) (fun g w h => aJ (jA 1 (auA _ g w (Mg R) (fun g w h => aJ (atW _ g w R hr h)) h))) h)
def aAK (a0 a1 a2 : aNY) (w : aNX) (R : K1) : Prop :=
 TQ R a0 a1 a2 w
theorem azE {a0 a1 a2 : aNY} {w : aNX} {R : K1} (h : aAK a0 a1 a2 w R) : aS pg Jh #[a0, a1, a2] w R := by
 refine uP (ann := uN) Tryz.f100 tB [a0, a1, a2] TE 34 TryzM.mixed Tryz.func100 ?_
 exact (auD _ _ _ R (fun _ _ h => h) h)
def tF : FA := ⟨Mn, fun i => .leaf ([], []) []⟩
def xJ : List ResultVar := [.tmp 2]
noncomputable def rZ : Code := dH Tryz.f101
def IE (R : K1) (pU : aNY) (w : aNX) : Prop :=
 aD pg (aI .eql 3 (.tmp 60) (.const (aNZ 0)) pU (aNZ 0)) w fun j1 w =>
 R j1 w
theorem amS (R : K1) (hr : HR xJ R Q) (h : IE R (g 3) w) : bD pg tF (aB 1 (aB 3 rZ)) Q g w :=
 eK (kn := no) (l := []) h gR hr trivial
def Au (kn : K4) (k0 : K1) (R : K1) (pU f1 f2 f3 : aNY) (w : aNX) : Prop :=
 aD pg (aI .lss 3 aM aM f3 f2) w fun f4 w =>
 gU f4
  (aD pg (cI 42 f1 f3) w fun f5 w =>
  aD pg (aL 3 f5) w fun f6 w =>
  aD pg (aI .lss 3 aM aM f6 (aNZ (-1))) w fun f8 w =>
  Gd (gQ f8 false) (fun K => K f6 w) w fun i0 w =>
  Gd (gQ f8 false) (fun K => aS pg yF #[i0] w K) w fun i1 w =>
  Gd (gQ f8 false) (fun K => K pU w) w fun i2 w =>
  Gd (gQ f8 false) (fun K => aD pg (aI .gtr 3 aM aM i1 i2) w K) w fun i3 w =>
  aD pg (iO f8 (.bool true) i3) w fun i4 w =>
  gU i4
   (R (.bool false) w)
   (aS pg yF #[f6] w fun i7 w =>
   aD pg (aI .sub 3 aM aM pU i7) w fun i8 w =>
   aD pg (aI .add 3 aM aM f3 (aNZ 1)) w fun i9 w =>
   kn i8 f1 f2 i9 w))
  (k0 pU w)
theorem anP (kn : K4) (k0 : K1) (R : K1) (hn : N4 Q kn 3 41 42 43) (h0 : E1 Q k0 0 3) (hr : HR xJ R Q) (h : Au kn k0 R (g 3) (g 41) (g 42) (g 43) w) : bD pg tF (bI (bI (aB 1 (aF 1 (aB 3 rZ))))) Q g w :=
 eK (l := [(0, fun g w => k0 (g 3) w)]) h hn hr ⟨h0, trivial⟩
def QQ (k0 : K1) (R : K1) (pU f1 f2 f3 : aNY) (w : aNX) : Prop :=
 cR (fun (X : (aNY × aNY) -> K0) (t : aNY × aNY) (w : aNX) => Au (fun pU _ _ f3 w => X (pU, f3) w) k0 R t.1 f1 f2 t.2 w) (pU, f3) w
theorem apE (k0 : K1) (R : K1) (h0 : E1 Q k0 0 3) (hr : HR xJ R Q) (h : QQ k0 R (g 3) (g 41) (g 42) (g 43) w) : bD pg tF (bI (aB 1 (aF 1 (aB 3 rZ)))) Q g w := by
 refine CX (fun g : Env => (g 3, g 43)) (fun X t w => Au (fun pU _ _ f3 w => X (pU, f3) w) k0 R t.1 (g 41) (g 42) t.2 w) h (fun X g1 w1 ha hL => ?_)
 rw [<- kA 41 ha, <- kA 42 ha] at hL
 exact (anP _ g1 w1 (fun pU _ _ f3 w => X (pU, f3) w) k0 R (fun _ _ h => h) h0 hr hL)
def RP (kn : K1) (R : K1) (pU f1 f2 f3 : aNY) (w : aNX) : Prop :=
 QQ kn R pU f1 f2 f3 w
def R3 (kn : K4) (cB pU : aNY) (w : aNX) : Prop :=
 aD pg (aK 100 cB 1) w fun f0 w =>
 aD pg (aL 42 f0) w fun f1 w =>
 aD pg (lI .len #[42] 3 [f1]) w fun f2 w =>
 kn pU f1 f2 (aNZ 0) w
theorem apW (kn : K4) (hn : N4 Q kn 3 41 42 43) (h : R3 kn (g 1) (g 3) w) : bD pg tF (aF 1 (aF 1 (aB 3 rZ))) Q g w :=
 eK (kr := no) (l := []) h hn gR trivial
def R8 (kn : K1) (R : K1) (cB pU : aNY) (w : aNX) : Prop :=
 R3 (fun pU f1 f2 f3 w => RP kn R pU f1 f2 f3 w) cB pU w
def Ru (R : K1) (cB pU : aNY) (w : aNX) : Prop :=
 R8 (fun pU w => IE R pU w) R cB pU w
theorem anK (kn : K1) (R : K1) (hn : N1 Q kn 3) (hr : HR xJ R Q) (h : R8 kn R (g 1) (g 3) w) : bD pg tF (aF 1 (aB 3 rZ)) Q g w :=
 jA 1 (apW _ g w (RP kn R) (fun g w h => aJ (xC 0 (apE _ g w kn R hn hr h))) h)
def Rr (kn : K2) (R : K1) (Ma : aNY) (w : aNX) : Prop :=
 aD pg (B4 100 Ma) w fun cB w =>
 aD pg (aK 100 cB 0) w fun b6 w =>
 aD pg (aL 3 b6) w fun b7 w =>
 aD pg (aI .lss 3 aM aM b7 (aNZ 5)) w fun b8 w =>
 Gd (gQ b8 false) (fun K => aD pg (aK 100 cB 0) w K) w fun c0 w =>
 Gd (gQ b8 false) (fun K => aD pg (aL 3 c0) w K) w fun c1 w =>
 Gd (gQ b8 false) (fun K => aD pg (aI .gtr 3 aM aM c1 (aNZ 15)) w K) w fun c2 w =>
 aD pg (iO b8 (.bool true) c2) w fun c3 w =>
 Gd (gQ c3 false) (fun K => aD pg (aK 100 cB 1) w K) w fun c5 w =>
 Gd (gQ c3 false) (fun K => aD pg (aL 42 c5) w K) w fun c6 w =>
 Gd (gQ c3 false) (fun K => aD pg (lI .len #[42] 3 [c6]) w K) w fun c7 w =>
 Gd (gQ c3 false) (fun K => aD pg (aI .lss 3 aM aM c7 (aNZ 1)) w K) w fun c8 w =>
 aD pg (iO c3 (.bool true) c8) w fun c9 w =>
 Gd (gQ c9 false) (fun K => aD pg (aK 100 cB 1) w K) w fun d1 w =>
 Gd (gQ c9 false) (fun K => aD pg (aL 42 d1) w K) w fun d2 w =>
 Gd (gQ c9 false) (fun K => aD pg (lI .len #[42] 3 [d2]) w K) w fun d3 w =>
 Gd (gQ c9 false) (fun K => aD pg (aI .gtr 3 aM aM d3 (aNZ 256)) w K) w fun d4 w =>
 aD pg (iO c9 (.bool true) d4) w fun d5 w =>
 Gd (gQ d5 false) (fun K => aD pg (aK 100 cB 1) w K) w fun d7 w =>
 Gd (gQ d5 false) (fun K => aD pg (aL 42 d7) w K) w fun d8 w =>
 Gd (gQ d5 false) (fun K => aD pg (aK 100 cB 1) w K) w fun d9 w =>
 Gd (gQ d5 false) (fun K => aD pg (aL 42 d9) w K) w fun e0 w =>
 Gd (gQ d5 false) (fun K => aD pg (lI .len #[42] 3 [e0]) w K) w fun e1 w =>
 Gd (gQ d5 false) (fun K => aD pg (aI .sub 3 aM aM e1 (aNZ 1)) w K) w fun e2 w =>
 Gd (gQ d5 false) (fun K => aD pg (cI 42 d8 e2) w K) w fun e3 w =>
 Gd (gQ d5 false) (fun K => aD pg (aL 3 e3) w K) w fun e4 w =>
 Gd (gQ d5 false) (fun K => aD pg (aI .eql 3 (.tmp 34) (.const (aNZ 0)) e4 (aNZ 0)) w K) w fun e5 w =>
 aD pg (iO d5 (.bool true) e5) w fun e6 w =>
 gU e6
  (R (.bool false) w)
  (aD pg (aK 100 cB 0) w fun e7 w =>
  aD pg (aL 3 e7) w fun e8 w =>
  aD pg (aI .shl 3 aM aM (aNZ 1) e8) w fun e9 w =>
  kn cB e9 w)
theorem amT (kn : K2) (R : K1) (hn : N2 Q kn 1 3) (hr : HR xJ R Q) (h : Rr kn R (g 0) w) : bD pg tF (aF 3 rZ) Q g w :=
 eK (l := []) h hn hr trivial
def Rh (R : K1) (Ma : aNY) (w : aNX) : Prop :=
 Rr (fun cB pU w => Ru R cB pU w) R Ma w
theorem aqL (R : K1) (hr : HR xJ R Q) (h : Rh R (g 0) w) : bD pg tF rZ Q g w :=
 jA 3 (amT _ g w (Ru R) R (fun g w h => aJ (jA 1 (anK _ g w (IE R) R (fun g w h => aJ (amS _ g w R hr h)) hr h))) hr h)
def ayG (a0 : aNY) (w : aNX) (R : K1) : Prop :=
 Rh R a0 w
theorem avO {a0 : aNY} {w : aNX} {R : K1} (h : ayG a0 w R) : aS pg Mn #[a0] w R := by
 refine uP (ann := tF) Tryz.f101 rZ [a0] xJ 62 TryzM.mixed Tryz.func101 ?_
 exact (aqL _ _ _ R (fun _ _ h => h) h)
def oA : FA := ⟨BA, fun i => .leaf ([], []) []⟩
def Lq : List ResultVar := [.tmp 2]
noncomputable def nK : Code := dH Tryz.f102
def Da (R : K1) (Bj : aNY) (w : aNX) : Prop :=
 R Bj w
theorem adA (R : K1) (hr : HR Lq R Q) (h : Da R (g 3) w) : bD pg oA (aB 1 (aB 2 nK)) Q g w :=
 eK (kn := no) (l := []) h gR hr trivial
def Am (kn : K3) (cS Bj lG : aNY) (w : aNX) : Prop :=
 aD pg (aI .sub 3 aM aM lG (aNZ 1)) w fun c1 w =>
 kn cS Bj c1 w
theorem adR (kn : K3) (hn : N3 Q kn 0 3 4) (h : Am kn (g 0) (g 3) (g 4) w) : bD pg oA (aB 2 (bI (bI (aB 1 (aF 1 (aB 2 nK)))))) Q g w :=
 eK (kr := no) (l := []) h hn gR trivial
def Kl (kn : K3) (k0 : K1) (cS Bj lG : aNY) (w : aNX) : Prop :=
 aD pg (aI .geq 3 aM aM lG (aNZ 0)) w fun b9 w =>
 gU b9
  (aD pg (aI .mul 24 aM aM Bj (.int .u64 2)) w fun c3 w =>
  aD pg (cI 131 cS lG) w fun c6 w =>
  aD pg (aL 4 c6) w fun c7 w =>
  gU c7
   (aD pg (aI .add 24 aM aM c3 (.int .u64 1)) w fun c9 w =>
   kn cS c9 lG w)
   (kn cS c3 lG w))
  (k0 Bj w)
theorem aaV (kn : K3) (k0 : K1) (hn : N3 Q kn 0 3 4) (h0 : E1 Q k0 0 3) (h : Kl kn k0 (g 0) (g 3) (g 4) w) : bD pg oA (aF 2 (bI (bI (aB 1 (aF 1 (aB 2 nK)))))) Q g w :=
 eK (kr := no) (l := [(0, fun g w => k0 (g 3) w)]) h hn gR ⟨h0, trivial⟩
def Dl (kn : K3) (k0 : K1) (cS Bj lG : aNY) (w : aNX) : Prop :=
 Kl (fun cS Bj lG w => Am kn cS Bj lG w) k0 cS Bj lG w
def Lk (k0 : K1) (cS Bj lG : aNY) (w : aNX) : Prop :=
 cR (fun (X : (aNY × aNY) -> K0) (t : aNY × aNY) (w : aNX) => Dl (fun _ Bj lG w => X (Bj, lG) w) k0 cS t.1 t.2 w) (Bj, lG) w
theorem abB (kn : K3) (k0 : K1) (hn : N3 Q kn 0 3 4) (h0 : E1 Q k0 0 3) (h : Dl kn k0 (g 0) (g 3) (g 4) w) : bD pg oA (bI (bI (aB 1 (aF 1 (aB 2 nK))))) Q g w :=
 jA 2 (aaV _ g w (Am kn) k0 (fun g w h => aJ (adR _ g w kn hn h)) h0 h)
theorem aaG (k0 : K1) (h0 : E1 Q k0 0 3) (h : Lk k0 (g 0) (g 3) (g 4) w) : bD pg oA (bI (aB 1 (aF 1 (aB 2 nK)))) Q g w := by
 refine CX (fun g : Env => (g 3, g 4)) (fun X t w => Dl (fun _ Bj lG w => X (Bj, lG) w) k0 (g 0) t.1 t.2 w) h (fun X g1 w1 ha hL => ?_)
 rw [<- kA 0 ha] at hL
 exact (abB _ g1 w1 (fun _ Bj lG w => X (Bj, lG) w) k0 (fun _ _ h => h) h0 hL)
def JL (kn : K1) (cS Bj lG : aNY) (w : aNX) : Prop :=
 Lk kn cS Bj lG w
def KI (kn : K3) (cS Bj : aNY) (w : aNX) : Prop :=
 aD pg (lI .len #[131] 3 [cS]) w fun b6 w =>
 aD pg (aI .sub 3 aM aM b6 (aNZ 1)) w fun b7 w =>
 kn cS Bj b7 w
theorem aaH (kn : K3) (hn : N3 Q kn 0 3 4) (h : KI kn (g 0) (g 3) w) : bD pg oA (aF 1 (aF 1 (aB 2 nK))) Q g w :=
 eK (kr := no) (l := []) h hn gR trivial
def KE (kn : K1) (cS Bj : aNY) (w : aNX) : Prop :=
 KI (fun cS Bj lG w => JL kn cS Bj lG w) cS Bj w
def Lo (R : K1) (cS Bj : aNY) (w : aNX) : Prop :=
 KE (fun Bj w => Da R Bj w) cS Bj w
theorem acX (kn : K1) (hn : N1 Q kn 3) (h : KE kn (g 0) (g 3) w) : bD pg oA (aF 1 (aB 2 nK)) Q g w :=
 jA 1 (aaH _ g w (JL kn) (fun g w h => aJ (xC 0 (aaG _ g w kn hn h))) h)
def HI (kn : K2) (cS : aNY) (w : aNX) : Prop :=
 kn cS (.int .u64 0) w
theorem YA (kn : K2) (hn : N2 Q kn 0 3) (h : HI kn (g 0) w) : bD pg oA (aF 2 nK) Q g w :=
 eK (kr := no) (l := []) h hn gR trivial
def H8 (R : K1) (cS : aNY) (w : aNX) : Prop :=
 HI (fun cS Bj w => Lo R cS Bj w) cS w
theorem Y2 (R : K1) (hr : HR Lq R Q) (h : H8 R (g 0) w) : bD pg oA nK Q g w :=
 jA 2 (YA _ g w (Lo R) (fun g w h => aJ (jA 1 (acX _ g w (Da R) (fun g w h => aJ (adA _ g w R hr h)) h))) h)
def alQ (a0 : aNY) (w : aNX) (R : K1) : Prop :=
 H8 R a0 w
theorem afG {a0 : aNY} {w : aNX} {R : K1} (h : alQ a0 w R) : aS pg BA #[a0] w R := by
 refine uP (ann := oA) Tryz.f102 nK [a0] Lq 21 TryzM.mixed Tryz.func102 ?_
 exact (Y2 _ _ _ R (fun _ _ h => h) h)
def tT : FA := ⟨I9, fun i => .leaf ([], []) []⟩
def Nc : List ResultVar := [.tmp 2]
noncomputable def sL : Code := dH Tryz.f103
def F4 (R : K1) (nV : aNY) (w : aNX) : Prop :=
 R nV w
theorem agH (R : K1) (hr : HR Nc R Q) (h : F4 R (g 3) w) : bD pg tT (aB 1 (aB 2 sL)) Q g w :=
 eK (kn := no) (l := []) h gR hr trivial
def FF (kn : K2) (k0 : K1) (oL nV : aNY) (w : aNX) : Prop :=
 aD pg (aI .gtr 3 aM aM oL (aNZ 0)) w fun b5 w =>
 gU b5
  (aD pg (aI .quo 3 aM aM oL (aNZ 2)) w fun b7 w =>
  aD pg (aI .add 3 aM aM nV (aNZ 1)) w fun b9 w =>
  kn b7 b9 w)
  (k0 nV w)
theorem alB (kn : K2) (k0 : K1) (hn : N2 Q kn 0 3) (h0 : E1 Q k0 0 3) (h : FF kn k0 (g 0) (g 3) w) : bD pg tT (bI (bI (aF 1 (aB 2 sL)))) Q g w :=
 eK (kr := no) (l := [(0, fun g w => k0 (g 3) w)]) h hn gR ⟨h0, trivial⟩
def Nd (k0 : K1) (oL nV : aNY) (w : aNX) : Prop :=
 cR (fun (X : (aNY × aNY) -> K0) (t : aNY × aNY) (w : aNX) => FF (fun oL nV w => X (oL, nV) w) k0 t.1 t.2 w) (oL, nV) w
theorem agI (k0 : K1) (h0 : E1 Q k0 0 3) (h : Nd k0 (g 0) (g 3) w) : bD pg tT (bI (aF 1 (aB 2 sL))) Q g w := by
 refine CX (fun g : Env => (g 0, g 3)) (fun X t w => FF (fun oL nV w => X (oL, nV) w) k0 t.1 t.2 w) h (fun X g1 w1 ha hL => ?_)
 exact (alB _ g1 w1 (fun oL nV w => X (oL, nV) w) k0 (fun _ _ h => h) h0 hL)
def No (kn : K1) (oL nV : aNY) (w : aNX) : Prop :=
 Nd kn oL nV w
def Oo (R : K1) (oL nV : aNY) (w : aNX) : Prop :=
 No (fun nV w => F4 R nV w) oL nV w
theorem akZ (kn : K1) (hn : N1 Q kn 3) (h : No kn (g 0) (g 3) w) : bD pg tT (aF 1 (aB 2 sL)) Q g w :=
 xC 0 (agI _ g w kn hn h)
def PF (kn : K2) (oL : aNY) (w : aNX) : Prop :=
 kn oL (aNZ 0) w
theorem agQ (kn : K2) (hn : N2 Q kn 0 3) (h : PF kn (g 0) w) : bD pg tT (aF 2 sL) Q g w :=
 eK (kr := no) (l := []) h hn gR trivial
def OM (R : K1) (oL : aNY) (w : aNX) : Prop :=
 PF (fun oL nV w => Oo R oL nV w) oL w
theorem ajQ (R : K1) (hr : HR Nc R Q) (h : OM R (g 0) w) : bD pg tT sL Q g w :=
 jA 2 (agQ _ g w (Oo R) (fun g w h => aJ (jA 1 (akZ _ g w (F4 R) (fun g w h => aJ (agH _ g w R hr h)) h))) h)
def atK (a0 : aNY) (w : aNX) (R : K1) : Prop :=
 OM R a0 w
theorem aoN {a0 : aNY} {w : aNX} {R : K1} (h : atK a0 w R) : aS pg I9 #[a0] w R := by
 refine uP (ann := tT) Tryz.f103 sL [a0] Nc 11 TryzM.mixed Tryz.func103 ?_
 exact (ajQ _ _ _ R (fun _ _ h => h) h)
def oE : FA := ⟨Qv, fun i => .leaf ([], []) []⟩
def uB : List ResultVar := [.tmp 2]
noncomputable def nD : Code := dH Tryz.f104
def ML (R : K1) (cB gJ : aNY) (w : aNX) : Prop :=
 aD pg (aK 128 cB 0) w fun j1 w =>
 aD pg (aL 3 j1) w fun j2 w =>
 aS pg oD #[j2] w fun j3 w =>
 aD pg (aI .eql 3 (.tmp 60) (.tmp 63) gJ j3) w fun j4 w =>
 R j4 w
theorem auK (R : K1) (hr : HR uB R Q) (h : ML R (g 1) (g 3) w) : bD pg oE (aB 1 (aB 3 nD)) Q g w :=
 eK (kn := no) (l := []) h gR hr trivial
def EO (kn : K3) (cB gJ lG : aNY) (w : aNX) : Prop :=
 aD pg (aI .add 3 aM aM lG (aNZ 1)) w fun f3 w =>
 kn cB gJ f3 w
theorem atU (kn : K3) (hn : N3 Q kn 1 3 4) (h : EO kn (g 1) (g 3) (g 4) w) : bD pg oE (aB 1 (aB 1 (bI (bI (aB 1 (aF 1 (aB 3 nD))))))) Q g w :=
 eK (kr := no) (l := []) h hn gR trivial
def EU (kn : K3) (cB gJ lG p_5 : aNY) (w : aNX) : Prop :=
 aD pg (aI .add 3 aM aM gJ p_5) w fun i9 w =>
 kn cB i9 lG w
theorem avQ (kn : K3) (hn : N3 Q kn 1 3 4) (h : EU kn (g 1) (g 3) (g 4) (g 5) w) : bD pg oE (aB 3 (bI (aF 1 (aB 1 (bI (bI (aB 1 (aF 1 (aB 3 nD))))))))) Q g w :=
 eK (kr := no) (l := []) h hn gR trivial
def Fj (kn : K4) (R : K1) (cB gJ lG : aNY) (w : aNX) : Prop :=
 aD pg (aK 128 cB 1) w fun f4 w =>
 aD pg (aL 42 f4) w fun f5 w =>
 aD pg (cI 42 f5 lG) w fun f7 w =>
 aD pg (aL 3 f7) w fun f8 w =>
 aD pg (aI .lss 3 aM aM f8 (aNZ (-1))) w fun i0 w =>
 Gd (gQ i0 false) (fun K => K f8 w) w fun i2 w =>
 Gd (gQ i0 false) (fun K => aD pg (aI .gtr 3 aM aM i2 (aNZ 32768)) w K) w fun i3 w =>
 aD pg (iO i0 (.bool true) i3) w fun i4 w =>
 gU i4
  (R (.bool false) w)
  (aD pg (aI .lss 3 aM aM f8 (aNZ 0)) w fun i6 w =>
  gU i6
   (kn cB gJ lG (aNZ 1) w)
   (kn cB gJ lG f8 w))
theorem auS (kn : K4) (R : K1) (hn : N4 Q kn 1 3 4 5) (hr : HR uB R Q) (h : Fj kn R (g 1) (g 3) (g 4) w) : bD pg oE (aF 3 (bI (aF 1 (aB 1 (bI (bI (aB 1 (aF 1 (aB 3 nD))))))))) Q g w :=
 eK (l := []) h hn hr trivial
def Mk (kn : K3) (R : K1) (cB gJ lG : aNY) (w : aNX) : Prop :=
 Fj (fun cB gJ lG p_5 w => EU kn cB gJ lG p_5 w) R cB gJ lG w
def GN (kn : K3) (R : K1) (cB gJ lG : aNY) (w : aNX) : Prop :=
 Mk kn R cB gJ lG w
def GQ (kn : K3) (R : K1) (cB gJ lG : aNY) (w : aNX) : Prop :=
 GN (fun cB gJ lG w => EO kn cB gJ lG w) R cB gJ lG w
theorem atO (kn : K3) (R : K1) (hn : N3 Q kn 1 3 4) (hr : HR uB R Q) (h : GN kn R (g 1) (g 3) (g 4) w) : bD pg oE (aF 1 (aB 1 (bI (bI (aB 1 (aF 1 (aB 3 nD))))))) Q g w :=
 xC 1 (jA 3 (auS _ g w (EU kn) R (fun g w h => aJ (avQ _ g w kn hn h)) hr h))
def Cb (kn : K3) (k0 : K2) (cB gJ lG : aNY) (w : aNX) : Prop :=
 aD pg (aK 128 cB 1) w fun e8 w =>
 aD pg (aL 42 e8) w fun e9 w =>
 aD pg (lI .len #[42] 3 [e9]) w fun f0 w =>
 aD pg (aI .lss 3 aM aM lG f0) w fun f1 w =>
 gU f1
  (kn cB gJ lG w)
  (k0 cB gJ w)
theorem avG (kn : K3) (k0 : K2) (hn : N3 Q kn 1 3 4) (h0 : E2 Q k0 0 1 3) (h : Cb kn k0 (g 1) (g 3) (g 4) w) : bD pg oE (aF 1 (bI (bI (aB 1 (aF 1 (aB 3 nD)))))) Q g w :=
 eK (kr := no) (l := [(0, fun g w => k0 (g 1) (g 3) w)]) h hn gR ⟨h0, trivial⟩
def zN (kn : K3) (k0 : K2) (R : K1) (cB gJ lG : aNY) (w : aNX) : Prop :=
 Cb (fun cB gJ lG w => GQ kn R cB gJ lG w) k0 cB gJ lG w
def Rl (k0 : K2) (R : K1) (cB gJ lG : aNY) (w : aNX) : Prop :=
 cR (fun (X : (aNY × aNY) -> K0) (t : aNY × aNY) (w : aNX) => zN (fun _ gJ lG w => X (gJ, lG) w) k0 R cB t.1 t.2 w) (gJ, lG) w
theorem atV (kn : K3) (k0 : K2) (R : K1) (hn : N3 Q kn 1 3 4) (h0 : E2 Q k0 0 1 3) (hr : HR uB R Q) (h : zN kn k0 R (g 1) (g 3) (g 4) w) : bD pg oE (bI (bI (aB 1 (aF 1 (aB 3 nD))))) Q g w :=
 jA 1 (avG _ g w (GQ kn R) k0 (fun g w h => aJ (jA 1 (atO _ g w (EO kn) R (fun g w h => aJ (atU _ g w kn hn h)) hr h))) h0 h)
theorem aoQ (k0 : K2) (R : K1) (h0 : E2 Q k0 0 1 3) (hr : HR uB R Q) (h : Rl k0 R (g 1) (g 3) (g 4) w) : bD pg oE (bI (aB 1 (aF 1 (aB 3 nD)))) Q g w := by
 refine CX (fun g : Env => (g 3, g 4)) (fun X t w => zN (fun _ gJ lG w => X (gJ, lG) w) k0 R (g 1) t.1 t.2 w) h (fun X g1 w1 ha hL => ?_)
 rw [<- kA 1 ha] at hL
 exact (atV _ g1 w1 (fun _ gJ lG w => X (gJ, lG) w) k0 R (fun _ _ h => h) h0 hr hL)
def Sg (kn : K2) (R : K1) (cB gJ lG : aNY) (w : aNX) : Prop :=
 Rl kn R cB gJ lG w
def Si (kn : K3) (cB gJ : aNY) (w : aNX) : Prop :=
 kn cB gJ (aNZ 0) w
theorem aqK (kn : K3) (hn : N3 Q kn 1 3 4) (h : Si kn (g 1) (g 3) w) : bD pg oE (aF 1 (aF 1 (aB 3 nD))) Q g w :=
 eK (kr := no) (l := []) h hn gR trivial
def R4 (kn : K2) (R : K1) (cB gJ : aNY) (w : aNX) : Prop :=
 Si (fun cB gJ lG w => Sg kn R cB gJ lG w) cB gJ w
def Q6 (R : K1) (cB gJ : aNY) (w : aNX) : Prop :=
 R4 (fun cB gJ w => ML R cB gJ w) R cB gJ w
theorem aoW (kn : K2) (R : K1) (hn : N2 Q kn 1 3) (hr : HR uB R Q) (h : R4 kn R (g 1) (g 3) w) : bD pg oE (aF 1 (aB 3 nD)) Q g w :=
 jA 1 (aqK _ g w (Sg kn R) (fun g w h => aJ (xC 0 (aoQ _ g w kn R hn hr h))) h)
def R5 (kn : K2) (R : K1) (Ma : aNY) (w : aNX) : Prop :=
 aD pg (B4 128 Ma) w fun cB w =>
 aD pg (aK 128 cB 0) w fun b6 w =>
 aD pg (aL 3 b6) w fun b7 w =>
 aD pg (aI .lss 3 aM aM b7 (aNZ 5)) w fun b8 w =>
 Gd (gQ b8 false) (fun K => aD pg (aK 128 cB 0) w K) w fun c0 w =>
 Gd (gQ b8 false) (fun K => aD pg (aL 3 c0) w K) w fun c1 w =>
 Gd (gQ b8 false) (fun K => aD pg (aI .gtr 3 aM aM c1 (aNZ 15)) w K) w fun c2 w =>
 aD pg (iO b8 (.bool true) c2) w fun c3 w =>
 Gd (gQ c3 false) (fun K => aD pg (aK 128 cB 1) w K) w fun c5 w =>
 Gd (gQ c3 false) (fun K => aD pg (aL 42 c5) w K) w fun c6 w =>
 Gd (gQ c3 false) (fun K => aD pg (lI .len #[42] 3 [c6]) w K) w fun c7 w =>
 Gd (gQ c3 false) (fun K => aD pg (aI .eql 3 (.tmp 17) (.const (aNZ 0)) c7 (aNZ 0)) w K) w fun c8 w =>
 aD pg (iO c3 (.bool true) c8) w fun c9 w =>
 Gd (gQ c9 false) (fun K => aD pg (aK 128 cB 1) w K) w fun d1 w =>
 Gd (gQ c9 false) (fun K => aD pg (aL 42 d1) w K) w fun d2 w =>
 Gd (gQ c9 false) (fun K => aD pg (lI .len #[42] 3 [d2]) w K) w fun d3 w =>
 Gd (gQ c9 false) (fun K => aD pg (aI .gtr 3 aM aM d3 (aNZ 256)) w K) w fun d4 w =>
 aD pg (iO c9 (.bool true) d4) w fun d5 w =>
 Gd (gQ d5 false) (fun K => aD pg (aK 128 cB 1) w K) w fun d7 w =>
 Gd (gQ d5 false) (fun K => aD pg (aL 42 d7) w K) w fun d8 w =>
 Gd (gQ d5 false) (fun K => aD pg (aK 128 cB 1) w K) w fun d9 w =>
 Gd (gQ d5 false) (fun K => aD pg (aL 42 d9) w K) w fun e0 w =>
 Gd (gQ d5 false) (fun K => aD pg (lI .len #[42] 3 [e0]) w K) w fun e1 w =>
 Gd (gQ d5 false) (fun K => aD pg (aI .sub 3 aM aM e1 (aNZ 1)) w K) w fun e2 w =>
 Gd (gQ d5 false) (fun K => aD pg (cI 42 d8 e2) w K) w fun e3 w =>
 Gd (gQ d5 false) (fun K => aD pg (aL 3 e3) w K) w fun e4 w =>
 Gd (gQ d5 false) (fun K => aD pg (aI .eql 3 (.tmp 34) (.const (aNZ 0)) e4 (aNZ 0)) w K) w fun e5 w =>
 aD pg (iO d5 (.bool true) e5) w fun e6 w =>
 gU e6
  (R (.bool false) w)
  (kn cB (aNZ 0) w)
theorem arG (kn : K2) (R : K1) (hn : N2 Q kn 1 3) (hr : HR uB R Q) (h : R5 kn R (g 0) w) : bD pg oE (aF 3 nD) Q g w :=
 eK (l := []) h hn hr trivial
def QT (R : K1) (Ma : aNY) (w : aNX) : Prop :=
 R5 (fun cB gJ w => Q6 R cB gJ w) R Ma w
theorem amW (R : K1) (hr : HR uB R Q) (h : QT R (g 0) w) : bD pg oE nD Q g w :=
 jA 3 (arG _ g w (Q6 R) R (fun g w h => aJ (jA 1 (aoW _ g w (ML R) R (fun g w h => aJ (auK _ g w R hr h)) hr h))) hr h)
def aBh (a0 : aNY) (w : aNX) (R : K1) : Prop :=
 QT R a0 w
theorem awT {a0 : aNY} {w : aNX} {R : K1} (h : aBh a0 w R) : aS pg Qv #[a0] w R := by
 refine uP (ann := oE) Tryz.f104 nD [a0] uB 65 TryzM.mixed Tryz.func104 ?_
 exact (amW _ _ _ R (fun _ _ h => h) h)
def nZ : FA := ⟨pE, fun i => .leaf ([], []) []⟩
def rA : List ResultVar := []
noncomputable def nO : Code := dH Tryz.f105
def rB (kn : K3) (k0 : K0) (R : K1) (A7 b1 i_3 : aNY) (w : aNX) : Prop :=
 aD pg (aI .geq 3 aM aM i_3 (aNZ 0)) w fun b8 w =>
 gU b8
  (aD pg (aL 22 b1) w fun c3 w =>
  aD pg (cI 22 c3 i_3) w fun c5 w =>
  aD pg (aL 5 c5) w fun c6 w =>
  aD pg (Oy A7 [i_3, c6]) w fun c7 w =>
  aD pg (sUn .not c7) w fun c8 w =>
  gU c8
   (R (.tuple #[]) w)
   (aD pg (aI .sub 3 aM aM i_3 (aNZ 1)) w fun c0 w =>
   kn A7 b1 c0 w))
  (k0 w)
theorem Hz (kn : K3) (k0 : K0) (R : K1) (hn : N3 Q kn 0 1 3) (h0 : E0 Q k0 0) (hr : HR rA R Q) (h : rB kn k0 R (g 0) (g 1) (g 3) w) : bD pg nZ (bI (bI (aB 1 nO))) Q g w :=
 eK (l := [(0, fun g w => k0 w)]) h hn hr ⟨h0, trivial⟩
def uL (k0 : K0) (R : K1) (A7 b1 i_3 : aNY) (w : aNX) : Prop :=
 cR (fun (X : aNY -> K0) (t : aNY) (w : aNX) => rB (fun _ _ i_3 w => X i_3 w) k0 R A7 b1 t w) i_3 w
theorem Im (k0 : K0) (R : K1) (h0 : E0 Q k0 0) (hr : HR rA R Q) (h : uL k0 R (g 0) (g 1) (g 3) w) : bD pg nZ (bI (aB 1 nO)) Q g w := by
 refine CX (fun g : Env => g 3) (fun X t w => rB (fun _ _ i_3 w => X i_3 w) k0 R (g 0) (g 1) t w) h (fun X g1 w1 ha hL => ?_)
 rw [<- kA 0 ha, <- kA 1 ha] at hL
 exact (Hz _ g1 w1 (fun _ _ i_3 w => X i_3 w) k0 R (fun _ _ h => h) h0 hr hL)
def uH (kn : K0) (R : K1) (A7 b1 i_3 : aNY) (w : aNX) : Prop :=
 uL kn R A7 b1 i_3 w
def uC (kn : K3) (A7 b1 : aNY) (w : aNX) : Prop :=
 aD pg (aL 22 b1) w fun b4 w =>
 aD pg (lI .len #[22] 3 [b4]) w fun b5 w =>
 aD pg (aI .sub 3 aM aM b5 (aNZ 1)) w fun b6 w =>
 kn A7 b1 b6 w
theorem HM (kn : K3) (hn : N3 Q kn 0 1 3) (h : uC kn (g 0) (g 1) w) : bD pg nZ (aF 1 nO) Q g w :=
 eK (kr := no) (l := []) h hn gR trivial
def uG (kn : K0) (R : K1) (A7 b1 : aNY) (w : aNX) : Prop :=
 uC (fun A7 b1 i_3 w => uH kn R A7 b1 i_3 w) A7 b1 w
theorem H7 (kn : K0) (R : K1) (hn : N0 Q kn) (hr : HR rA R Q) (h : uG kn R (g 0) (g 1) w) : bD pg nZ nO Q g w :=
 jA 1 (HM _ g w (uH kn R) (fun g w h => aJ (xC 0 (Im _ g w kn R hn hr h))) h)
def CO (a0 a1 : aNY) (w : aNX) (R : K1) : Prop :=
 uG (fun  w => R (.tuple #[]) w) R a0 a1 w
theorem Jv {a0 a1 : aNY} {w : aNX} {R : K1} (h : CO a0 a1 w R) : aS pg pE #[a0, a1] w R := by
 refine uP (ann := nZ) Tryz.f105 nO [a0, a1] rA 19 TryzM.mixed Tryz.func105 ?_
 exact (H7 _ _ _ (fun  w => R (.tuple #[]) w) R (fun _ _ h => h) (fun _ _ h => h) h)
end Go.Proofs.YtgpimhlgaokobaaGreat
namespace Go.En
open Go
section
variable {P : Program} {w : aNX} {t : TypeId} {ox oy : Operand} {k : IntKind} {a b : Int}
theorem uS (s : Sem aNY) : (V s).run P w = (s.run P w).andThen fun v w => .ok (.value v) w := by
 unfold V; rw [Sem.run_bind] <;> rfl
theorem aLa (s : Sem Unit) : (U s).run P w = (s.run P w).andThen fun _ w => .ok .skip w := by
 unfold U; rw [Sem.run_bind] <;> rfl
theorem bJ : (aI .add t ox oy (.int k a) (.int k b)).run P w = .ok (.value (.int k (k.wrap (a + b)))) w := by
 simp [aI, MK, uS, binOp, Op.intArith]
theorem fF : (aI .sub t ox oy (.int k a) (.int k b)).run P w = .ok (.value (.int k (k.wrap (a - b)))) w := by
 simp [aI, MK, uS, binOp, Op.intArith]
theorem oS : (aI .mul t ox oy (.int k a) (.int k b)).run P w = .ok (.value (.int k (k.wrap (a * b)))) w := by
 simp [aI, MK, uS, binOp, Op.intArith]
theorem oY (h : b ≠ 0) : (aI .quo t ox oy (.int k a) (.int k b)).run P w = .ok (.value (.int k (k.wrap (a.tdiv b)))) w := by
 simp [aI, MK, uS, binOp, Op.intDiv, h]
theorem rL (h : b ≠ 0) : (aI .rem t ox oy (.int k a) (.int k b)).run P w = .ok (.value (.int k (a.tmod b))) w := by
 simp [aI, MK, uS, binOp, Op.intDiv, h]
def VE (k : IntKind) (a b : Int) : Int := k.wrap (BitVec.ofInt k.bits a &&& BitVec.ofInt k.bits b).toNat
def orI (k : IntKind) (a b : Int) : Int := k.wrap (BitVec.ofInt k.bits a ||| BitVec.ofInt k.bits b).toNat
def aIY (k : IntKind) (a b : Int) : Int := k.wrap (BitVec.ofInt k.bits a ^^^ BitVec.ofInt k.bits b).toNat
def aE7 (k : IntKind) (a b : Int) : Int := k.wrap (BitVec.ofInt k.bits a &&& ~~~BitVec.ofInt k.bits b).toNat
theorem xK : (aI .and t ox oy (.int k a) (.int k b)).run P w = .ok (.value (.int k (VE k a b))) w := by
 simp [aI, MK, uS, binOp, Op.intBits, VE]
theorem LC : (aI .or t ox oy (.int k a) (.int k b)).run P w = .ok (.value (.int k (orI k a b))) w := by
 simp [aI, MK, uS, binOp, Op.intBits, orI]
theorem MU : (aI .xor t ox oy (.int k a) (.int k b)).run P w = .ok (.value (.int k (aIY k a b))) w := by
 simp [aI, MK, uS, binOp, Op.intBits, aIY]
theorem vI : (aI .andNot t ox oy (.int k a) (.int k b)).run P w = .ok (.value (.int k (aE7 k a b))) w := by
 simp [aI, MK, uS, binOp, Op.intBits, aE7]
theorem pG {k' : IntKind} (h : 0 <= b) : (aI .shl t ox oy (.int k a) (.int k' b)).run P w = .ok (.value (.int k (k.wrap (a * 2 ^ (min b.toNat k.bits))))) w := by
 simp [aI, MK, uS, binOp, Op.shift, Int.not_lt.2 h]
theorem sT {k' : IntKind} (h : 0 <= b) : (aI .shr t ox oy (.int k a) (.int k' b)).run P w = .ok (.value (.int k (a.fdiv (2 ^ (min b.toNat k.bits))))) w := by
 simp [aI, MK, uS, binOp, Op.shift, Int.not_lt.2 h]
theorem dV : (aI .eql t ox oy (.int k a) (.int k b)).run P w = .ok (.value (.bool (a == b))) w := by
 simp [aI, MK, uS, binOp, Op.intCmp, eqGuard]
theorem cY : (aI .neq t ox oy (.int k a) (.int k b)).run P w = .ok (.value (.bool (a != b))) w := by
 simp [aI, MK, uS, binOp, Op.intCmp, eqGuard]
theorem aR : (aI .lss t ox oy (.int k a) (.int k b)).run P w = .ok (.value (.bool (decide (a < b)))) w := by
 simp [aI, MK, uS, binOp, Op.intCmp]
theorem Ah : (aI .leq t ox oy (.int k a) (.int k b)).run P w = .ok (.value (.bool (decide (a <= b)))) w := by
 simp [aI, MK, uS, binOp, Op.intCmp]
theorem cX : (aI .gtr t ox oy (.int k a) (.int k b)).run P w = .ok (.value (.bool (decide (b < a)))) w := by
 simp [aI, MK, uS, binOp, Op.intCmp]
theorem nJ : (aI .geq t ox oy (.int k a) (.int k b)).run P w = .ok (.value (.bool (decide (b <= a)))) w := by
 simp [aI, MK, uS, binOp, Op.intCmp]
theorem LY : (sUn .neg (.int k a)).run P w = .ok (.value (.int k (k.wrap (0 - a)))) w := by
 simp [sUn, uS, Op.unary, Op.intArith]
theorem Pw : (sUn .xor (.int k a)).run P w = .ok (.value (.int k (aIY k (if k.signed then -1 else k.max) a))) w := by
 simp [sUn, uS, Op.unary, Op.intBits, aIY]
theorem pL (c : Bool) : (sUn .not (.bool c)).run P w = .ok (.value (.bool !c)) w := by
 simp [sUn, uS, Op.unary]
theorem bF (c : Bool) (x y : aNY) : (iO (.bool c) x y).run P w = .ok (.value (if c then x else y)) w := by
 simp [iO, asBool]
theorem aAi {x y : aNY} {r : Bool} (hg : eqGuard .eql t ox oy x y = pure ()) (hb : binOp .eql t x y = (do pure (.bool (<- Op.equal t x y)))) (he : (Op.equal t x y).run P w = .ok r w) :
 (aI .eql t ox oy x y).run P w = .ok (.value (.bool r)) w := by
 unfold aI
 simp only [MK, uS, hg, hb, pure_bind]
 rw [Sem.run_bind, he] <;> rfl
theorem aHH {x y : aNY} {r : Bool} (hg : eqGuard .neq t ox oy x y = pure ()) (hb : binOp .neq t x y = (do pure (.bool (!(<- Op.equal t x y))))) (he : (Op.equal t x y).run P w = .ok r w) :
 (aI .neq t ox oy x y).run P w = .ok (.value (.bool (!r))) w := by
 unfold aI
 simp only [MK, uS, hg, hb, pure_bind]
 rw [Sem.run_bind, he] <;> rfl
theorem aF5 (n : Nat) (c d : Bool) (hu : P.underlying t = some .bool) : (Op.equalIn (n + 1) t (.bool c) (.bool d)).run P w = .ok (c == d) w := by
 simp only [Op.equalIn, underlying]
 simp [hu]
theorem aJf (c d : Bool) (hu : P.underlying t = some .bool) : (Op.equal t (.bool c) (.bool d)).run P w = .ok (c == d) w := aF5 9999 c d hu
theorem aJI (c d : Bool) (hu : P.underlying t = some .bool) : (aI .eql t ox oy (.bool c) (.bool d)).run P w = .ok (.value (.bool (c == d))) w :=
 aAi rfl rfl (aJf c d hu)
theorem aQ {n : Int} (h0 : -9223372036854775808 <= n) (h1 : n <= 9223372036854775807) : IntKind.i64.wrap n = n := by
 unfold IntKind.wrap; simp [IntKind.bits, IntKind.signed]; split <;> omega
theorem kV {n : Int} (h0 : 0 <= n) (h1 : n <= 18446744073709551615) : IntKind.u64.wrap n = n := by
 unfold IntKind.wrap; simp [IntKind.bits, IntKind.signed]; omega
theorem M1 {n : Int} (h0 : -2147483648 <= n) (h1 : n <= 2147483647) : IntKind.i32.wrap n = n := by
 unfold IntKind.wrap; simp [IntKind.bits, IntKind.signed]; split <;> omega
theorem L3 {n : Int} (h0 : 0 <= n) (h1 : n <= 4294967295) : IntKind.u32.wrap n = n := by
 unfold IntKind.wrap; simp [IntKind.bits, IntKind.signed]; omega
theorem PO {n : Int} (h0 : 0 <= n) (h1 : n <= 65535) : IntKind.u16.wrap n = n := by
 unfold IntKind.wrap; simp [IntKind.bits, IntKind.signed]; omega
theorem xL {n : Int} (h0 : 0 <= n) (h1 : n <= 255) : IntKind.u8.wrap n = n := by
 unfold IntKind.wrap; simp [IntKind.bits, IntKind.signed]; omega
theorem aEs (x y : ByteArray) (h : ((x.size + y.size : Nat) : Int) <= 9223372036854775807) : (aI .add t ox oy (.string x) (.string y)).run P w = .ok (.value (.string (x ++ y))) w := by
 have : ¬ (((x.size + y.size : Nat) : Int) > IntKind.i64.max) := by
  have e : IntKind.i64.max = 9223372036854775807 := by decide
  rw [e]; omega
 simp only [aI, MK, uS, binOp, Op.stringOp, this, if_false]
 rfl
theorem AJ (x y : ByteArray) : (aI .eql t ox oy (.string x) (.string y)).run P w = .ok (.value (.bool (x.toList == y.toList))) w := by
 simp [aI, MK, uS, binOp, Op.stringOp, eqGuard]
theorem aDU (x y : ByteArray) : (aI .neq t ox oy (.string x) (.string y)).run P w = .ok (.value (.bool !(x.toList == y.toList))) w := by
 simp [aI, MK, uS, binOp, Op.stringOp, eqGuard]
theorem aHM (n : Nat) {e : TypeId} (hu : P.underlying t = some (.pointer e)) (x : Option Addr) : (Op.equalIn (n + 1) t (.pointer x) (.pointer none)).run P w = .ok x.isNone w := by
 simp only [Op.equalIn, underlying]
 cases x <;> simp [hu]
theorem aHm {e : TypeId} (hu : P.underlying t = some (.pointer e)) (x : Option Addr) : (Op.equal t (.pointer x) (.pointer none)).run P w = .ok x.isNone w := aHM 9999 hu x
theorem aIJ (m : Nat) {e : TypeId} (hu : P.underlying t = some (.slice e)) (x : Option Addr) (n c : Nat) : (Op.equalIn (m + 1) t (.slice x n c) (.slice none 0 0)).run P w = .ok x.isNone w := by
 simp only [Op.equalIn, underlying]
 cases x <;> simp [hu]
theorem aKP {e : TypeId} (hu : P.underlying t = some (.slice e)) (x : Option Addr) (n c : Nat) : (Op.equal t (.slice x n c) (.slice none 0 0)).run P w = .ok x.isNone w := aIJ 9999 hu x n c
theorem azM {e : TypeId} (hu : P.underlying t = some (.pointer e)) (x : Option Addr) : (aI .eql t ox oy (.pointer x) (.pointer none)).run P w = .ok (.value (.bool x.isNone)) w :=
 aAi rfl rfl (aHm hu x)
theorem aJE {e : TypeId} (hu : P.underlying t = some (.pointer e)) (x : Option Addr) : (aI .neq t ox oy (.pointer x) (.pointer none)).run P w = .ok (.value (.bool (!x.isNone))) w :=
 aHH rfl rfl (aHm hu x)
theorem aI4 {e : TypeId} (hu : P.underlying t = some (.slice e)) (x : Option Addr) (n c : Nat) : (aI .eql t ox oy (.slice x n c) (.slice none 0 0)).run P w = .ok (.value (.bool x.isNone)) w :=
 aAi rfl rfl (aKP hu x n c)
theorem Iy {s : TypeId} {d : TypeDesc} {kd : IntKind} (hs : P.underlying s = some d) (hu : P.underlying t = some (.int kd)) : (jP s t (.int k a)).run P w = .ok (.value (.int kd (kd.wrap a))) w := by
 cases d <;> simp [jP, uS, convert, underlying, hs, hu, Conv.intToInt]
theorem aeT {ty : TypeId} {e : TypeId} (hu : P.underlying t = some (.slice e)) (x : Option Addr) (n c : Nat) : (lI .len #[t] ty [.slice x n c]).run P w = .ok (.value (.int .i64 n)) w := by
 simp [lI, builtin, Builtin.len_, underlying, hu, goInt]
theorem aJS {ty : TypeId} (hu : P.underlying t = some .string) (x : ByteArray) : (lI .len #[t] ty [.string x]).run P w = .ok (.value (.int .i64 x.size)) w := by
 simp [lI, builtin, Builtin.len_, underlying, hu, goInt]
theorem LX {ats : Array TypeId} {ty : TypeId} : (lI .min ats ty [.int k a, .int k b]).run P w = .ok (.value (.int k (if b < a then b else a))) w := by
 simp [lI, builtin, Builtin.min_, Builtin.min2]
theorem A2 {ats : Array TypeId} {ty : TypeId} : (lI .max ats ty [.int k a, .int k b]).run P w = .ok (.value (.int k (if b > a then b else a))) w := by
 simp [lI, builtin, Builtin.max_, Builtin.max2]
theorem pT (a b : aNY) : (bP (.tuple #[a, b]) 0).run P w = .ok (.value a) w := Eq.trans rfl rfl
theorem pS (a b : aNY) : (bP (.tuple #[a, b]) 1).run P w = .ok (.value b) w := Eq.trans rfl rfl
theorem Yc (a b c : aNY) : (bP (.tuple #[a, b, c]) 0).run P w = .ok (.value a) w := Eq.trans rfl rfl
theorem Yy (a b c : aNY) : (bP (.tuple #[a, b, c]) 1).run P w = .ok (.value b) w := Eq.trans rfl rfl
theorem Yk (a b c : aNY) : (bP (.tuple #[a, b, c]) 2).run P w = .ok (.value c) w := Eq.trans rfl rfl
theorem x40 (a b c d : aNY) : (bP (.tuple #[a, b, c, d]) 0).run P w = .ok (.value a) w := Eq.trans rfl rfl
theorem x41 (a b c d : aNY) : (bP (.tuple #[a, b, c, d]) 1).run P w = .ok (.value b) w := Eq.trans rfl rfl
theorem x42 (a b c d : aNY) : (bP (.tuple #[a, b, c, d]) 2).run P w = .ok (.value c) w := Eq.trans rfl rfl
theorem x43 (a b c d : aNY) : (bP (.tuple #[a, b, c, d]) 3).run P w = .ok (.value d) w := Eq.trans rfl rfl
theorem qW (x : Addr) : (wA (.pointer (some x))).run P w = .ok (.value (.pointer (some x))) w := Eq.trans rfl rfl
theorem jQ {fs : Array Field} {f : Field} {i : Nat} {inf : TypeInfo} (hu : P.underlying t = some (.struct fs)) (hf : fs[i]? = some f)
 (hi : P.info? f.type = some inf) (hz : inf.size ≠ 0) (x : Addr) : (aK t (.pointer (some x)) i).run P w = .ok (.value (.pointer (some (x.add f.offset)))) w := by
 simp [aK, uS, Instr.fieldAt, underlying, hu, hf, Instr.sureAddr, fieldPlace, sizeOf, typeInfo, hi, hz]
theorem aCv {e : TypeId} {inf : TypeInfo} (hu : P.underlying t = some (.slice e)) (hi : P.info? e = some inf) (x : Addr) (n c : Nat) (h0 : 0 <= a) (h1 : a < n) :
 (cI t (.slice (some x) n c) (.int k a)).run P w = .ok (.value (.pointer (some (x.add (a.toNat * inf.size))))) w := by
 simp [cI, uS, Instr.indexAt, asIntOf, underlying, hu, h0, h1, sizeOf, typeInfo, hi]
theorem aIl {e : TypeId} {len : Nat} {inf : TypeInfo} (hu : P.underlying t = some (.array len e)) (hi : P.info? e = some inf) (x : Addr) (h0 : 0 <= a) (h1 : a < len) :
 (cI t (.pointer (some x)) (.int k a)).run P w = .ok (.value (.pointer (some (x.add (a.toNat * inf.size))))) w := by
 simp [cI, uS, Instr.indexAt, asIntOf, underlying, hu, h0, h1, sizeOf, typeInfo, hi, Instr.sureAddr]
theorem aJH (hu : P.underlying t = some .string) (x : ByteArray) (h0 : 0 <= a) (h1 : a.toNat < x.size) :
 (CN t (.string x) (.int k a)).run P w = .ok (.value (.int .u8 (x[a.toNat]'h1).toNat)) w := by
 simp [CN, uS, Instr.index, asIntOf, underlying, hu, h0, h1]
end
def eM (w : aNX) (b : Nat) (cs : List aNY) : Prop :=
 ∃ T lo hi, w.heap[b]? = some (.cells cs.toArray T (lo, hi)) /\ (cs.length <= lo ∨ hi = lo)
structure aW (w w' : aNX) (M : Nat -> Prop) : Prop where
 os : w'.os = w.os
 tape : w'.tape = w.tape
 output : w'.output = w.output
 size : w.heap.size <= w'.heap.size
 keep : ∀ b, b < w.heap.size -> ¬ M b -> w'.heap[b]? = w.heap[b]?
def eS : Nat -> Prop := fun _ => False
theorem aW.refl (w : aNX) (M : Nat -> Prop) : aW w w M := ⟨rfl, rfl, rfl, aLF _, fun _ _ _ => rfl⟩
theorem aW.mono {w w' : aNX} {M N : Nat -> Prop} (h : aW w w' M) (hm : ∀ b, b < w.heap.size -> M b -> N b) : aW w w' N :=
 ⟨h.os, h.tape, h.output, h.size, fun b hb hn => h.keep b hb fun hM => hn (hm b hb hM)⟩
theorem aW.trans {a b c : aNX} {M N : Nat -> Prop} (h : aW a b M) (k : aW b c N) (hn : ∀ x, x < a.heap.size -> N x -> M x) : aW a c M :=
 ⟨k.os.trans h.os, k.tape.trans h.tape, k.output.trans h.output, aMy h.size k.size,
   fun x hx hM => (k.keep x (aM4 hx h.size) fun h => hM (hn x hx h)).trans (h.keep x hx hM)⟩
theorem aW.seq {a b c : aNX} {M : Nat -> Prop} (h : aW a b M) (k : aW b c M) : aW a c M := h.trans k fun _ _ h => h
theorem aW.new {a b c : aNX} {M : Nat -> Prop} {x : Nat} (h : aW a b M) (k : aW b c (fun y => y = x)) (hx : a.heap.size <= x) : aW a c M :=
 h.trans k fun y hy e => absurd hy (by subst e; omega)
theorem aW.more {a b c : aNX} {M : Nat -> Prop} (h : aW a b M) (k : aW b c (fun _ => False)) : aW a c M := h.trans k fun _ _ h => h.elim
theorem aW.below {w w' : aNX} (h : aW w w' eS) : Go.RowKit.Below w.heap.size w w' :=
 ⟨h.os, h.tape, h.output, h.size, fun k hk => h.keep k hk fun h => h⟩
theorem aW.dr (w : aNX) (M : Nat -> Prop) : aW w (dr w) M := ⟨rfl, rfl, rfl, aLF _, fun _ _ _ => rfl⟩
theorem aW.alloc (w : aNX) (o : Obj) (M : Nat -> Prop) : aW w (w.alloc o) M :=
 ⟨rfl, rfl, rfl, by simp, fun b hb _ => by show (w.heap.push o)[b]? = _; rw [Array.getElem?_push, if_neg (by omega)]⟩
theorem auC (w : aNX) (a : Addr) (v : aNY) (b : Nat) (h : b ≠ a.block) : (w.setCell a v).heap[b]? = w.heap[b]? := Go.RowKit.Below.heap_setCell w a v b h
theorem aW.setCell (w : aNX) (a : Addr) (v : aNY) {M : Nat -> Prop} (h : a.block < w.heap.size -> M a.block) : aW w (w.setCell a v) M :=
 ⟨rfl, rfl, rfl, by simp, fun b hb hM => auC w a v b fun e => hM (e ▸ h (e ▸ hb))⟩
theorem eM.lt {w : aNX} {b : Nat} {cs : List aNY} (h : eM w b cs) : b < w.heap.size := by
 obtain ⟨T, lo, hi, h, _⟩ := h
 rcases aLO b w.heap.size with h' | h'
 .exact h'
 .rw [aMY h'] at h; cases h
theorem eM.ext {w w' : aNX} {b : Nat} {cs : List aNY} {M : Nat -> Prop} (h : eM w b cs) (hx : aW w w' M) (hM : ¬ M b) : eM w' b cs := by
 have := h.lt
 obtain ⟨T, lo, hi, h, k⟩ := h
 exact ⟨T, lo, hi, by rw [hx.keep b this hM]; exact h, k⟩
theorem eM.cell {w : aNX} {b off : Nat} {cs : List aNY} (h : eM w b cs) : w.cell? ⟨b, off, none⟩ = cs[off]? := by
 obtain ⟨T, lo, hi, h, _⟩ := h
 simp [World.cell?, h]
theorem eM.free {w : aNX} {b off : Nat} {cs : List aNY} {s : Option Nat} (h : eM w b cs) (ho : off < cs.length) : w.frozen? ⟨b, off, s⟩ = false := by
 obtain ⟨T, lo, hi, h, k⟩ := h
 simp only [World.frozen?, h]
 rcases k with k | k <;> (simp; omega)
theorem eM.setCell {w : aNX} {b off : Nat} {cs : List aNY} (h : eM w b cs) (v : aNY) : eM (w.setCell ⟨b, off, none⟩ v) b (cs.set off v) := by
 have hb := h.lt
 obtain ⟨T, lo, hi, h, k⟩ := h
 refine ⟨T, lo, hi, ?_, by simpa using k⟩
 simp only [World.setCell, aNx, h]
 simp
theorem eM.alloc (w : aNX) (cs : List aNY) (T : TypeId) : eM (w.alloc (.cells cs.toArray T)) w.heap.size cs :=
 ⟨T, 0, 0, by show (w.heap.push _)[w.heap.size]? = _; simp, .inr rfl⟩
theorem akL {w w' : aNX} {M : Nat -> Prop} {a : Addr} {v : aNY} (h : w.cell? a = some v) (hx : aW w w' M) (hM : ¬ M a.block) : w'.cell? a = some v := by
 have hb := World.block_lt_of_cell? w a h
 have e := hx.keep _ hb hM
 unfold World.cell? at h ⊢
 rw [e]; exact h
section
variable {P : Program} {w : aNX} {t : TypeId}
def aDd (d : TypeDesc) : Bool := match d with | .struct _ | .array _ _ => true | _ => false
theorem Sx {d : TypeDesc} (hu : P.underlying t = some d) : (isAgg t).run P w = .ok (aDd d) w := by
 cases d <;> simp [isAgg, underlying, hu, aDd]
theorem lC {i : TypeInfo} (hi : P.info? t = some i) : (sizeOf t).run P w = .ok i.size w := by simp [sizeOf, typeInfo, hi]
theorem agW {b off : Nat} {cs : List aNY} (ho : eM w b cs) : ∀ (n i : Nat) (acc : Array aNY), off + i + n <= cs.length →
 (loadCellsFrom ⟨b, off, none⟩ i n acc).run P w = .ok (acc ++ ((cs.drop (off + i)).take n).toArray) w := by
 intro n
 induction n with
 | zero => intro i acc _; simp [loadCellsFrom]
 | succ n ih =>
   intro i acc h
   have hc : w.cell? ((⟨b, off, none⟩ : Addr).add i) = some cs[off + i] := by
    unfold Addr.add
    split
    .rename_i hi; subst hi; rw [ho.cell]; simp
    .show w.cell? ⟨b, off + i, none⟩ = _; rw [ho.cell]; simp
   simp only [loadCellsFrom, Sem.run_bind, run_load, hc, Result.andThen_ok]
   rw [ih (i + 1) _ (by omega)]
   congr 1
   rw [aL2 (by omega : off + i < cs.length)]
   simp [aM1]
theorem Zw {b off n : Nat} {cs : List aNY} (ho : eM w b cs) (h : off + n <= cs.length) :
 (loadCells ⟨b, off, none⟩ n).run P w = .ok ((cs.drop off).take n).toArray w := by
 unfold loadCells
 rw [agW ho n 0 #[] (by omega)]
 simp
theorem zQ {d : TypeDesc} {i : TypeInfo} (hu : P.underlying t = some d) (hd : aDd d = true) (hi : P.info? t = some i) {b off : Nat} {cs : List aNY} (ho : eM w b cs) (h : off + i.size <= cs.length) :
 (aL t (.pointer (some ⟨b, off, none⟩))).run P w = .ok (.value (.agg ((cs.drop off).take i.size).toArray)) w := by
 unfold aL
 rw [uS]
 simp only [Instr.loadAt, Instr.sureAddr, loadVar, pure_bind, Sem.run_bind, Sx hu, hd, Result.andThen_ok, if_true, lC hi, Zw ho h, Sem.run_pure]
def one (v : aNY) : Bool := match v with | .agg _ | .tuple _ => false | _ => true
theorem aEU {a : Addr} {v x : aNY} (hv : one v = true) (hc : w.cell? a = some x) (hf : w.frozen? a = false) : (store a v).run P w = .ok () (w.setCell a v) := by
 unfold store
 cases v <;> simp [one] at hv <;> simp [Sem.run, hc, hf]
def bM (cs : List aNY) (off : Nat) : List aNY -> List aNY
 | [] => cs
 | v :: vs => bM (cs.set off v) (off + 1) vs
theorem Fs {b : Nat} {M : Nat -> Prop} (hM : M b) : ∀ (vs : List aNY) (w : aNX) (off i : Nat) (cs : List aNY), eM w b cs -> off + i + vs.length <= cs.length -> (∀ v ∈ vs, one v = true) →
 ∃ w', (storeCells ⟨b, off, none⟩ vs i).run P w = .ok () w' /\ eM w' b (bM cs (off + i) vs) /\ aW w w' M /\ w'.heap.size = w.heap.size /\ w'.drawn = w.drawn := by
 intro vs
 induction vs with
 | nil => intro w off i cs ho _ _; exact ⟨w, by simp [storeCells], ho, aW.refl _ _, rfl, rfl⟩
 | cons v vs ih =>
   intro w off i cs ho h hv
   simp only [aLP] at h
   have ha : (⟨b, off, none⟩ : Addr).add i = ⟨b, off + i, none⟩ := by
    unfold Addr.add; split
    .rename_i hi; subst hi; rfl
    .rfl
   have hlt : off + i < cs.length := by omega
   have hc : w.cell? ⟨b, off + i, none⟩ = some cs[off + i] := by rw [ho.cell]; simp
   have hs := aEU (P := P) (hv v (by simp)) hc (ho.free hlt)
   obtain ⟨w', h1, h2, h3, h4, h5⟩ := ih (w.setCell ⟨b, off + i, none⟩ v) off (i + 1) (cs.set (off + i) v) (ho.setCell v) (by simp; omega) (fun x hx => hv x (aLQ _ hx))
   refine ⟨w', ?_, h2, (aW.setCell w _ v fun _ => hM).trans h3 (fun _ _ h => h), by rw [h4]; simp, by rw [h5] <;> rfl⟩
   simp only [storeCells, Sem.run_bind, ha, hs, Result.andThen_ok]
   exact h1
theorem pZ {i : TypeInfo} (hi : P.info? t = some i) {b off : Nat} {cs : List aNY} (ho : eM w b cs) {v : aNY} (hs : v.cells.size = i.size)
 (hv : ∀ x ∈ v.cells.toList, one x = true) (h : off + i.size <= cs.length) {K : aNY -> aNX -> Prop}
 (hk : ∀ w', eM w' b (bM cs off v.cells.toList) -> aW w w' (fun x => x = b) -> w'.heap.size = w.heap.size -> K undef w') : aD P (aT t (.pointer (some ⟨b, off, none⟩)) v) w K := by
 obtain ⟨w', h1, h2, h3, h4, _⟩ := Fs (P := P) (M := fun x => x = b) rfl v.cells.toList w off 0 cs ho (by simp [hs]; omega) hv
 have : (aT t (.pointer (some ⟨b, off, none⟩)) v).run P w = .ok .skip w' := by
  unfold aT
  rw [aLa]
  simp only [Instr.storeAt, Instr.sureAddr, storeVar, pure_bind, Sem.run_bind, lC hi, Result.andThen_ok, hs]
  simp [h1]
 unfold aD
 rw [this]
 exact hk w' h2 h3 h4
theorem anQ {v : aNY} (hv : one v = true) : v.cells = #[v] := by cases v <;> simp [one] at hv <;> rfl
theorem uV {i : TypeInfo} (hi : P.info? t = some i) (h1 : i.size = 1) {b off : Nat} {cs : List aNY} (ho : eM w b cs) {v : aNY} (hv : one v = true) (h : off < cs.length) {K : aNY -> aNX -> Prop}
 (hk : ∀ w', eM w' b (cs.set off v) -> aW w w' (fun x => x = b) -> w'.heap.size = w.heap.size -> K undef w') : aD P (aT t (.pointer (some ⟨b, off, none⟩)) v) w K := by
 have e := anQ hv
 refine pZ hi ho (by rw [e, h1] <;> rfl) (by rw [e]; simpa using hv) (by omega) fun w' a b c => hk w' ?_ b c
 rw [e] at a; exact a
def ldC (c : Option aNY) (w : aNX) (far : Result Next) : Result Next := match c with | some v => .ok (.value v) w | none => far
def far (P : Program) (t : TypeId) (x : Addr) (w : aNX) : Result Next := (aL t (.pointer (some x))).run P w
theorem aH (v : aNY) (w : aNX) (f : Result Next) : ldC (some v) w f = .ok (.value v) w := rfl
theorem akC {d : TypeDesc} (hu : P.underlying t = some d) (hd : aDd d = false) (x : Addr) (w : aNX) :
 (aL t (.pointer (some x))).run P w = ldC (w.cell? x) w (far P t x w) := by
 cases h : w.cell? x with
 | none => rfl
 | some v =>
   unfold aL
   rw [uS]
   simp only [Instr.loadAt, Instr.sureAddr, loadVar, pure_bind, Sem.run_bind, Sx hu, hd, Result.andThen_ok, aLu, if_false, run_load, h, ldC]
theorem Gg {d : TypeDesc} {i : TypeInfo} (hu : P.underlying t = some d) (hd : aDd d = true) (hi : P.info? t = some i) {b off : Nat} {cs : List aNY} (ho : eM w b cs) (h : off + i.size <= cs.length) {K : aNY -> Prop}
 (hk : K (.agg ((cs.drop off).take i.size).toArray)) : Ac P t (.pointer (some ⟨b, off, none⟩)) w K := by
 refine ⟨_, ?_, hk⟩
 simp only [asAddr, loadVar, pure_bind, Sem.run_bind, Sx hu, hd, Result.andThen_ok, if_true, lC hi, Zw ho h, Sem.run_pure]
theorem aFv {d : TypeDesc} (hu : P.underlying t = some d) (hd : aDd d = false) {b off : Nat} {cs : List aNY} (ho : eM w b cs) {v : aNY} (h : cs[off]? = some v) {K : aNY -> Prop}
 (hk : K v) : Ac P t (.pointer (some ⟨b, off, none⟩)) w K := by
 refine ⟨_, ?_, hk⟩
 simp only [asAddr, loadVar, pure_bind, Sem.run_bind, Sx hu, hd, Result.andThen_ok, aLu, if_false, run_load, ho.cell, h]
theorem nR {v : aNY} {K : aNY -> aNX -> Prop} (hk : ∀ w', eM w' w.heap.size v.cells.toList -> aW w w' eS -> w'.heap.size = w.heap.size + 1 -> K (.pointer (some ⟨w.heap.size, 0, none⟩)) w') :
 aD P (B4 t v) w K := by
 have : (B4 t v).run P w = .ok (.value (.pointer (some ⟨w.heap.size, 0, none⟩))) (w.alloc (.cells v.cells.toList.toArray t)) := by
  unfold B4; rw [uS]
  simp [Instr.box, newVar, newRow]
 unfold aD
 rw [this]
 exact hk _ (eM.alloc _ _ _) (aW.alloc _ _ _) (by simp)
theorem oU {i : TypeInfo} {z : aNY} (hi : P.info? t = some i) (hz : i.zero = some z) {K : aNY -> aNX -> Prop}
 (hk : ∀ w', eM w' w.heap.size z.cells.toList -> aW w w' eS -> w'.heap.size = w.heap.size + 1 -> K (.pointer (some ⟨w.heap.size, 0, none⟩)) w') :
 aD P (fW t) w K := by
 have : (fW t).run P w = .ok (.value (.pointer (some ⟨w.heap.size, 0, none⟩))) (w.alloc (.cells z.cells.toList.toArray t)) := by
  unfold fW; rw [uS]
  simp [Instr.alloc, zeroValue, typeInfo, hi, hz, newVar, newRow]
 unfold aD
 rw [this]
 exact hk _ (eM.alloc _ _ _) (aW.alloc _ _ _) (by simp)
end
theorem Ar {P : Program} {w : aNX} {k : IntKind} {a : Int} {y : Nat} {code : BoundsCode} (h0 : 0 <= a) (h1 : a <= y) : (Instr.sliceBound (.int k a) y code).run P w = .ok a.toNat w := by
 simp [Instr.sliceBound, asIntOf, h0, h1]
section
variable {P : Program} {w : aNX} {t e : TypeId} {k k' : IntKind} {lo hi : Int} {i : TypeInfo}
def mZ (x : Option Addr) (m l sz : Nat) : Option Addr := if m = l then x else x.map (·.add (l * sz))
theorem aAe (hu : P.underlying t = some (.slice e)) (hi' : P.info? e = some i) (x : Option Addr) (n c : Nat) (h0 : 0 <= lo) (h1 : lo <= n) :
 (mD t (.slice x n c) (some (.int k lo)) none none).run P w = .ok (.value (.slice (mZ x c lo.toNat i.size) (n - lo.toNat) (c - lo.toNat))) w := by
 simp only [mD, uS, Instr.sliceAt, underlying, hu, Sem.run_bind, run_program, Result.andThen_ok, Sem.run_pure, Instr.slice, Instr.sliceBounds, pure_bind, Ar h0 h1, lC hi', mZ]
theorem aAc (hu : P.underlying t = some (.slice e)) (hi' : P.info? e = some i) (x : Option Addr) (n c : Nat) (h0 : 0 <= hi) (h1 : hi <= c) :
 (mD t (.slice x n c) none (some (.int k hi)) none).run P w = .ok (.value (.slice (mZ x c 0 i.size) (hi.toNat - 0) (c - 0))) w := by
 simp only [mD, uS, Instr.sliceAt, underlying, hu, Sem.run_bind, run_program, Result.andThen_ok, Sem.run_pure, Instr.slice, Instr.sliceBounds, pure_bind, Ar h0 h1, lC hi', mZ]
theorem aB3 (hu : P.underlying t = some (.slice e)) (hi' : P.info? e = some i) (x : Option Addr) (n c : Nat) (h0 : 0 <= lo) (h1 : lo <= hi) (h2 : hi <= c) :
 (mD t (.slice x n c) (some (.int k lo)) (some (.int k' hi)) none).run P w = .ok (.value (.slice (mZ x c lo.toNat i.size) (hi.toNat - lo.toNat) (c - lo.toNat))) w := by
 have h3 : (0 : Int) <= hi := by omega
 have h4 : lo <= (hi.toNat : Int) := by omega
 simp only [mD, uS, Instr.sliceAt, underlying, hu, Sem.run_bind, run_program, Result.andThen_ok, Sem.run_pure, Instr.slice, Instr.sliceBounds, pure_bind, Ar h3 h2, Ar h0 h4, lC hi', mZ]
theorem aCq (hu : P.underlying t = some .string) (x : ByteArray) (h0 : 0 <= lo) (h1 : lo <= x.size) :
 (mD t (.string x) (some (.int k lo)) none none).run P w = .ok (.value (.string (x.extract lo.toNat x.size))) w := by
 simp only [mD, uS, Instr.sliceAt, underlying, hu, Sem.run_bind, run_program, Result.andThen_ok, Sem.run_pure, Instr.slice, Instr.sliceBounds, pure_bind, Option.isSome_none, aLu, if_false, Ar h0 h1]
theorem aCR (hu : P.underlying t = some .string) (x : ByteArray) (h0 : 0 <= hi) (h1 : hi <= x.size) :
 (mD t (.string x) none (some (.int k hi)) none).run P w = .ok (.value (.string (x.extract 0 hi.toNat))) w := by
 simp only [mD, uS, Instr.sliceAt, underlying, hu, Sem.run_bind, run_program, Result.andThen_ok, Sem.run_pure, Instr.slice, Instr.sliceBounds, pure_bind, Option.isSome_none, aLu, if_false, Ar h0 h1]
theorem aAy (hu : P.underlying t = some .string) (x : ByteArray) (h0 : 0 <= lo) (h1 : lo <= hi) (h2 : hi <= x.size) :
 (mD t (.string x) (some (.int k lo)) (some (.int k' hi)) none).run P w = .ok (.value (.string (x.extract lo.toNat hi.toNat))) w := by
 have h3 : (0 : Int) <= hi := by omega
 have h4 : lo <= (hi.toNat : Int) := by omega
 simp only [mD, uS, Instr.sliceAt, underlying, hu, Sem.run_bind, run_program, Result.andThen_ok, Sem.run_pure, Instr.slice, Instr.sliceBounds, pure_bind, Option.isSome_none, aLu, if_false, Ar h3 h2, Ar h0 h4]
end
def Sl (w : aNX) (v : aNY) (l : List aNY) : Prop :=
 ∃ a n c, v = .slice a n c /\ n = l.length /\ n <= c /\ (0 < n -> ∃ b off, a = some ⟨b, off, none⟩ /\ ∀ i, i < n -> w.cell? ⟨b, off + i, none⟩ = l[i]?)
def inB (v : aNY) (M : Nat -> Prop) : Prop := match v with | .slice (some a) (_ + 1) _ => M a.block | _ => False
theorem Sl.ext {w w' : aNX} {v : aNY} {l : List aNY} {M : Nat -> Prop} (h : Sl w v l) (hx : aW w w' M) (hM : ¬ inB v M) : Sl w' v l := by
 obtain ⟨a, n, c, rfl, hn, hc, h⟩ := h
 refine ⟨a, n, c, rfl, hn, hc, fun h0 => ?_⟩
 obtain ⟨b, off, rfl, h2⟩ := h h0
 refine ⟨b, off, rfl, fun i hi => ?_⟩
 have h1 := h2 i hi
 obtain ⟨v, hv⟩ : ∃ v, l[i]? = some v := ⟨l[i], by simp⟩
 rw [hv] at h1 ⊢
 refine akL h1 hx ?_
 obtain ⟨m, rfl⟩ : ∃ m, n = m + 1 := ⟨n - 1, by omega⟩
 exact hM
theorem Sl.old {w : aNX} {v : aNY} {l : List aNY} (h : Sl w v l) : ¬ inB v (fun b => w.heap.size <= b) := by
 obtain ⟨a, n, c, rfl, hn, hc, h⟩ := h
 unfold inB
 split
 .rename_i x m _ e
  obtain ⟨rfl, rfl, rfl⟩ : a = some x /\ n = m + 1 /\ c = _ := by simpa using e
  obtain ⟨b, off, e, h2⟩ := h (by omega)
  have e := aLT e; subst e
  have h1 := h2 0 (by omega)
  obtain ⟨v, hv⟩ : ∃ v, l[0]? = some v := ⟨l[0], by simp⟩
  rw [hv] at h1
  have := World.block_lt_of_cell? _ _ h1
  simp at this ⊢; omega
 .simp
def tJ (x : UInt8) : aNY := .int .u8 x.toNat
abbrev Bs (w : aNX) (v : aNY) (l : List UInt8) : Prop := Sl w v (l.map tJ)
theorem MR (b o n : Nat) : (⟨b, o, none⟩ : Addr).add n = ⟨b, o + n, none⟩ := by
 unfold Addr.add; split
 .rename_i h; subst h; rfl
 .rfl
section
variable {P : Program} {w : aNX} {t e : TypeId} {k : IntKind} {a : Int}
theorem SC {inf : TypeInfo} {sz : Nat} (hz : inf.size = sz) (hu : P.underlying t = some (.slice e)) (hi : P.info? e = some inf) (b o n c : Nat) (h0 : 0 <= a) (h1 : a < n) :
 (cI t (.slice (some ⟨b, o, none⟩) n c) (.int k a)).run P w = .ok (.value (.pointer (some ⟨b, o + a.toNat * sz, none⟩))) w := by
 rw [aCv hu hi _ n c h0 h1, MR, hz]
theorem X6 {inf : TypeInfo} (hz : inf.size = 1) (hu : P.underlying t = some (.slice e)) (hi : P.info? e = some inf) (b o n c : Nat) (h0 : 0 <= a) (h1 : a < n) :
 (cI t (.slice (some ⟨b, o, none⟩) n c) (.int k a)).run P w = .ok (.value (.pointer (some ⟨b, o + a.toNat, none⟩))) w := by
 rw [aCv hu hi _ n c h0 h1, MR, hz, aMR]
theorem anS {inf : TypeInfo} {len : Nat} (hz : inf.size = 1) (hu : P.underlying t = some (.array len e)) (hi : P.info? e = some inf) (b o : Nat) (h0 : 0 <= a) (h1 : a < (len : Int)) :
 (cI t (.pointer (some ⟨b, o, none⟩)) (.int k a)).run P w = .ok (.value (.pointer (some ⟨b, o + a.toNat, none⟩))) w := by
 rw [aIl hu hi _ h0 h1, MR, hz, aMR]
end
def fU (x : ByteArray) : List UInt8 := x.data.toList
theorem eU (x : ByteArray) : (fU x).length = x.size := by unfold fU; rw [aMJ] <;> rfl
theorem MD (x : ByteArray) (i : Nat) (h : i < x.size) : x[i]'h = (fU x)[i]'(by rw [eU]; exact h) := rfl
theorem BO (x : ByteArray) (a b : Nat) : fU (x.extract a b) = ((fU x).drop a).take (b - a) := by
 unfold fU; rw [ByteArray.data_extract, Array.toList_extract, List.extract_eq_take_drop]
theorem ayX (x y : ByteArray) : fU (x ++ y) = fU x ++ fU y := by
 unfold fU; rw [ByteArray.data_append, Array.toList_append]
theorem Nm (l : List UInt8) : fU ⟨l.toArray⟩ = l := rfl
theorem X4 {x y : ByteArray} (h : fU x = fU y) : x = y := by
 cases x; cases y; unfold fU at h; congr; exact Array.toList_inj.1 h
section
variable {P : Program} {w : aNX} {s d e : TypeId}
theorem aHx (hs : P.underlying s = some (.slice e)) (hd : P.underlying d = some .string) (he : P.underlying e = some (.int .u8)) {l : List UInt8} {v : aNY} (h : Bs w v l) :
 (jP s d v).run P w = .ok (.value (.string ⟨l.toArray⟩)) w := by
 obtain ⟨a, n, c, rfl, hn, hc, h⟩ := h
 simp only [aLD] at hn
 unfold jP
 rw [uS]
 have key : (convert s d (.slice a n c)).run P w = .ok (.string ⟨l.toArray⟩) w := by
  cases a with
  | none =>
    have hl : l = [] := by
     cases l with
     | nil => rfl
     | cons x l => obtain ⟨b, off, e, _⟩ := h (by rw [hn]; simp); cases e
    subst hl
    rw [run_convert_bytes_string w s d e none n c hs he hd]
    rfl
  | some x =>
    subst hn
    refine run_convert_bytes_back w s d e x c l hs he hd fun j hj => ?_
    obtain ⟨b, off, hx, h2⟩ := h (by omega)
    have hx := aLT hx
    subst hx
    rw [MR, h2 j hj]
    simp [tJ, hj]
 rw [key] <;> rfl
end
theorem azG (l : List UInt8) : ∀ x ∈ l.map tJ, one x = true := by
 intro x hx
 obtain ⟨c, _, rfl⟩ := aMD.1 hx
 rfl
theorem Sl.drop {w : aNX} {b o n c : Nat} {l : List aNY} (h : Sl w (.slice (some ⟨b, o, none⟩) n c) l) {k : Nat} (hk : k <= n) :
 Sl w (.slice (mZ (some ⟨b, o, none⟩) c k 1) (n - k) (c - k)) (l.drop k) := by
 obtain ⟨x, m, c', e, hm, hc, hh⟩ := h
 cases e
 refine ⟨_, _, _, rfl, by rw [aLM]; omega, by omega, fun h0 => ?_⟩
 obtain ⟨b', o', e, h2⟩ := hh (by omega)
 cases e
 have hne : ¬ c = k := by omega
 refine ⟨b, o + k, by unfold mZ; rw [if_neg hne, aMh, MR, aMR], fun i hi => ?_⟩
 rw [aM1, h2 (k + i) (by omega), aM7]
theorem Sl.take {w : aNX} {b o n c : Nat} {l : List aNY} (h : Sl w (.slice (some ⟨b, o, none⟩) n c) l) {k : Nat} (hk : k <= n) :
 Sl w (.slice (mZ (some ⟨b, o, none⟩) c 0 1) (k - 0) (c - 0)) (l.take k) := by
 obtain ⟨x, m, c', e, hm, hc, hh⟩ := h
 cases e
 refine ⟨_, _, _, rfl, by rw [aLG]; omega, by omega, fun h0 => ?_⟩
 obtain ⟨b', o', e, h2⟩ := hh (by omega)
 cases e
 have hne : ¬ c = 0 := by omega
 refine ⟨b, o, by unfold mZ; rw [if_neg hne, aMh, MR] <;> rfl, fun i hi => ?_⟩
 rw [h2 i (by omega), aMg (by omega)]
theorem eM.bs {w : aNX} {b off c : Nat} {cs : List aNY} {l : List UInt8} (h : eM w b cs) (hc : l.length <= c) (hl : ∀ i (hi : i < l.length), cs[off + i]? = some (tJ l[i])) : Bs w (.slice (some ⟨b, off, none⟩) l.length c) l :=
 ⟨_, _, _, rfl, by simp, hc, fun _ => ⟨b, off, rfl, fun i hi => by rw [h.cell, hl i hi]; simp [hi]⟩⟩
section
variable {P : Program} {w : aNX} {t e : TypeId} {k : IntKind} {a : Int}
theorem aJB {len : Nat} {d : TypeDesc} {i : TypeInfo} (hu : P.underlying t = some (.array len e)) (hd : P.underlying e = some d) (ha : aDd d = false) (hi : P.info? e = some i) (h1 : i.size = 1)
 (cs : Array aNY) (h0 : 0 <= a) (hl : a < (len : Int)) {v : aNY} (hv : cs[a.toNat]? = some v) : (CN t (.agg cs) (.int k a)).run P w = .ok (.value v) w := by
 unfold CN
 rw [uS]
 simp only [Instr.index, asIntOf, pure_bind, underlying, hu, Sem.run_bind, run_program, Result.andThen_ok, Sem.run_pure, h0, hl, and_self, if_true, lC hi, h1, aMR, part, Sx hd, ha, aLu, if_false, hv]
def aKH (P : Program) (t : TypeId) (cs : Array aNY) (k : IntKind) (a : Int) (w : aNX) : Result Next := (CN t (.agg cs) (.int k a)).run P w
theorem aKa {len : Nat} {d : TypeDesc} {i : TypeInfo} (hu : P.underlying t = some (.array len e)) (hd : P.underlying e = some d) (ha : aDd d = false) (hi : P.info? e = some i) (h1 : i.size = 1)
 (cs : Array aNY) (h0 : 0 <= a) (hl : a < (len : Int)) : (CN t (.agg cs) (.int k a)).run P w = ldC cs[a.toNat]? w (aKH P t cs k a w) := by
 cases hv : cs[a.toNat]? with
 | none => rfl
 | some v => exact aJB hu hd ha hi h1 cs h0 hl hv
theorem alK {b off : Nat} {l : List aNY} (h : ∀ i, i < l.length -> w.cell? ⟨b, off + i, none⟩ = l[i]?) (n : Nat) (hn : n <= l.length) :
 (loadCells ⟨b, off, none⟩ n).run P w = .ok (l.take n).toArray w := by
 have key : ∀ (m i : Nat) (acc : Array aNY), i + m <= l.length -> (loadCellsFrom ⟨b, off, none⟩ i m acc).run P w = .ok (acc ++ ((l.drop i).take m).toArray) w := by
  intro m
  induction m with
  | zero => intro i acc _; simp [loadCellsFrom]
  | succ m ih =>
    intro i acc hm
    have hc := h i (by omega)
    rw [aLA (by omega)] at hc
    simp only [loadCellsFrom, Sem.run_bind, run_load, MR, hc, Result.andThen_ok]
    rw [ih (i + 1) _ (by omega), aL2 (by omega : i < l.length), aLx]
    simp
 unfold loadCells
 rw [key n 0 #[] (by omega)]
 simp
theorem aAs {sz n : Nat} {v : aNY} {l : List aNY} (h1 : sz = 1) (h : Sl w v l) (hn : n <= l.length) : (Builtin.firstCells sz n v).run P w = .ok (l.take n).toArray w := by
 subst h1
 obtain ⟨x, m, c, rfl, hm, hc, hh⟩ := h
 cases x with
 | none =>
   have : l = [] := by
    cases l with
    | nil => rfl
    | cons y l => obtain ⟨b, off, e, _⟩ := hh (by rw [hm]; simp); cases e
   subst this
   simp [Builtin.firstCells]
 | some x =>
   simp only [Builtin.firstCells, aMR]
   by_cases h0 : 0 < m
   .obtain ⟨b, off, e, h2⟩ := hh h0
    have e := aLT e; subst e
    exact alK (fun i hi => h2 i (by omega)) n hn
   .have h00 : n = 0 := by omega
    subst h00
    simp [loadCells, loadCellsFrom]
theorem aJO {v : aNY} {l : List aNY} (h : Sl w v l) : (Builtin.lenOf v).run P w = .ok l.length w := by
 obtain ⟨x, m, c, rfl, hm, hc, hh⟩ := h
 simp [Builtin.lenOf, hm]
theorem aHE {ty t2 : TypeId} {i : TypeInfo} (hu : P.underlying t = some (.slice e)) (hi : P.info? e = some i) (h1 : i.size = 1) {b off dl c : Nat} {cs : List aNY} (ho : eM w b cs) (hl : off + dl <= cs.length)
 {v : aNY} {l : List aNY} (h : Sl w v l) (hv : ∀ x ∈ l, one x = true) {K : aNY -> aNX -> Prop}
 (hk : ∀ w', eM w' b (bM cs off (l.take (min l.length dl))) -> aW w w' (fun x => x = b) -> w'.heap.size = w.heap.size -> K (.int .i64 (min l.length dl : Nat)) w') :
 aD P (lI .copy #[t, t2] ty [.slice (some ⟨b, off, none⟩) dl c, v]) w K := by
 have hlen : (l.take (min l.length dl)).length = min l.length dl := by rw [aLG]; omega
 obtain ⟨w', s1, s2, s3, s4, _⟩ := Fs (P := P) (M := fun x => x = b) rfl (l.take (min l.length dl)) w off 0 cs ho (by rw [hlen]; omega) (fun x hx => hv x (aMS hx))
 have : (lI .copy #[t, t2] ty [.slice (some ⟨b, off, none⟩) dl c, v]).run P w = .ok (.value (.int .i64 (min l.length dl : Nat))) w' := by
  unfold lI builtin
  simp only [Builtin.copy_, aMB, aLq, aLr]
  simp only [underlying, Sem.run_bind, run_program, Result.andThen_ok, hu, Sem.run_pure, aJO h, lC hi, h1]
  have := aAs (P := P) (n := min l.length dl) rfl h (Nat.min_le_left _ _)
  rw [show (Nat.min l.length dl) = min l.length dl from rfl, this]
  simp only [Result.andThen_ok, s1, goInt]
 unfold aD
 rw [this]
 exact hk w' (by simpa using s2) s3 s4
theorem aDp {i : TypeInfo} {z : aNY} (hu : P.underlying t = some (.slice e)) (hi : P.info? e = some i) (h1 : i.size = 1) (hz : i.zero = some z) (hz1 : one z = true) {n : Int} (h0 : 0 <= n) (hn : i.bytes * n <= 2 ^ 48) (hn2 : n <= 9223372036854775807)
 {K : aNY -> aNX -> Prop}
 (hk : ∀ w', eM w' w.heap.size (List.replicate n.toNat z) -> aW w w' eS -> w'.heap.size = w.heap.size + 1 -> K (.slice (some ⟨w.heap.size, 0, none⟩) n.toNat n.toNat) w') :
 aD P (qG t (.int k n) (.int k n)) w K := by
 have hw : IntKind.i64.wrap n = n := aQ (by omega) hn2
 have hcells : z.cells = #[z] := anQ hz1
 have harr : (Array.range n.toNat).map (fun j => (#[z] : Array aNY)[j % (#[z] : Array aNY).size]!) = (List.replicate n.toNat z).toArray := by
  apply Array.ext
  .simp
  .intro j h1 h2; simp [Nat.mod_one]
 have hz' : (zeroValue e).run P w = .ok z w := by simp [zeroValue, typeInfo, hi, hz]
 have : (qG t (.int k n) (.int k n)).run P w = .ok (.value (.slice (some ⟨w.heap.size, 0, none⟩) n.toNat n.toNat)) (w.alloc (.cells (List.replicate n.toNat z).toArray e)) := by
  unfold qG
  rw [uS]
  have t1 : (decide (n < 0) || decide ((i.bytes : Int) * n > 2 ^ 48) || decide (n < 0) || decide (n > n)) = false := by
   simp only [aNk, decide_eq_false_iff_not]; omega
  by_cases hn0 : n.toNat = 0
  .simp only [Instr.makeSlice, underlying, typeInfo, asInt, asIntOf, pure_bind, Sem.run_bind, run_program, Result.andThen_ok, hu, hi, Sem.run_pure, hw, t1, aLu, if_false, run_askRoom, lC hi, h1, aMR, hn0, if_true, newRow, run_newObj]
   have : (Array.range 0).map (fun x => (#[] : Array aNY)[x % (#[] : Array aNY).size]!) = (List.replicate 0 z).toArray := by simp
   rw [this]
   rfl
  .simp only [Instr.makeSlice, underlying, typeInfo, asInt, asIntOf, pure_bind, Sem.run_bind, run_program, Result.andThen_ok, hu, hi, Sem.run_pure, hw, t1, aLu, if_false, run_askRoom, lC hi, h1, aMR, hn0, hz', hcells, newRow, run_newObj, harr]
   rfl
 unfold aD
 rw [this]
 exact hk _ (eM.alloc _ _ _) (aW.alloc _ _ _) (by simp)
end
def Cl (w : aNX) (sz : Nat) (v : aNY) (n : Nat) (l : List aNY) : Prop :=
 ∃ a c, v = .slice a n c /\ l.length = n * sz /\ (0 < n -> ∃ b off, a = some ⟨b, off, none⟩ /\ ∀ i, i < l.length -> w.cell? ⟨b, off + i, none⟩ = l[i]?)
def tE (w : aNX) (base sz : Nat) (v : aNY) (n : Nat) (l : List aNY) : Prop :=
 l.length = n * sz /\ ((v = .slice none 0 0 /\ n = 0) ∨
   ∃ b c rest, v = .slice (some ⟨b, 0, none⟩) n c /\ base <= b /\ eM w b (l ++ rest) /\ (l ++ rest).length = c * sz /\ n <= c)
def OSS (w : aNX) (S : Nat -> Prop) (sz : Nat) (v : aNY) (n : Nat) (l : List aNY) : Prop :=
 l.length = n * sz /\ ((v = .slice none 0 0 /\ n = 0) ∨
   ∃ b c rest, v = .slice (some ⟨b, 0, none⟩) n c /\ S b /\ eM w b (l ++ rest) /\ (l ++ rest).length = c * sz /\ n <= c)
theorem Sl.cl {w : aNX} {v : aNY} {l : List aNY} (h : Sl w v l) : Cl w 1 v l.length l := by
 obtain ⟨a, n, c, rfl, rfl, hc, h⟩ := h
 exact ⟨a, c, rfl, by omega, fun h0 => h h0⟩
theorem eM.cl {w : aNX} {b sz n c off : Nat} {cs l : List aNY} (h : eM w b cs) (hl : l.length = n * sz) (hcs : ∀ i, i < l.length -> cs[off + i]? = l[i]?) : Cl w sz (.slice (some ⟨b, off, none⟩) n c) n l :=
 ⟨_, _, rfl, hl, fun _ => ⟨b, off, rfl, fun i hi => by rw [h.cell, hcs i hi]⟩⟩
theorem tE.nil (w : aNX) (base sz : Nat) : tE w base sz (.slice none 0 0) 0 [] := ⟨by simp, .inl ⟨rfl, rfl⟩⟩
theorem tE.ext {w w' : aNX} {base sz n : Nat} {v : aNY} {l : List aNY} {M : Nat -> Prop} (h : tE w base sz v n l) (hx : aW w w' M) (hM : ∀ b, base <= b -> ¬ M b) : tE w' base sz v n l := by
 refine ⟨h.1, ?_⟩
 rcases h.2 with h2 | ⟨b, c, rest, h1, h2, h3, h4, h5⟩
 .exact .inl h2
 .exact .inr ⟨b, c, rest, h1, h2, h3.ext hx (hM b h2), h4, h5⟩
theorem tE.cl {w : aNX} {base sz n : Nat} {v : aNY} {l : List aNY} (h : tE w base sz v n l) : Cl w sz v n l := by
 rcases h.2 with ⟨rfl, rfl⟩ | ⟨b, c, rest, rfl, h2, h3, h4, h5⟩
 .exact ⟨_, _, rfl, h.1, fun h => by omega⟩
 .refine ⟨_, _, rfl, h.1, fun _ => ⟨b, 0, rfl, fun i hi => ?_⟩⟩
  rw [h3.cell, aLt, aLR hi]
theorem tE.sl {w : aNX} {base n : Nat} {v : aNY} {l : List aNY} (h : tE w base 1 v n l) : Sl w v l := by
 have hl := h.1
 rcases h.2 with ⟨rfl, rfl⟩ | ⟨b, c, rest, rfl, h2, h3, h4, h5⟩
 .exact ⟨_, _, _, rfl, by omega, by omega, fun h => by omega⟩
 .refine ⟨_, _, _, rfl, by omega, h5, fun _ => ⟨b, 0, rfl, fun i hi => ?_⟩⟩
  rw [h3.cell, aLt, aLR (by omega)]
section
variable {P : Program} {w : aNX} {t e : TypeId}
theorem aCa {b off : Nat} {l : List aNY} (h : ∀ i, i < l.length -> w.cell? ⟨b, off + i, none⟩ = l[i]?) : (loadCells ⟨b, off, none⟩ l.length).run P w = .ok l.toArray w := by
 have := alK (P := P) h l.length (aLF _)
 rwa [aNd] at this
theorem CK {sz n : Nat} {v : aNY} {l : List aNY} (h : Cl w sz v n l) : (Builtin.firstCells sz n v).run P w = .ok l.toArray w := by
 obtain ⟨x, c, rfl, hl, hh⟩ := h
 cases x with
 | none =>
   have : n = 0 := by
    rcases aMO n with h | h
    .exact h
    .obtain ⟨b, off, e, _⟩ := hh h; cases e
   subst this
   have : l = [] := aL4.1 (by omega)
   subst this
   simp [Builtin.firstCells]
 | some x =>
   simp only [Builtin.firstCells]
   rw [<- hl]
   by_cases h0 : 0 < n
   .obtain ⟨b, off, e, h2⟩ := hh h0
    have e := aLT e; subst e
    exact aCa h2
   .have : n = 0 := by omega
    subst this
    have : l = [] := aL4.1 (by omega)
    subst this
    simp [loadCells, loadCellsFrom]
theorem uU (zs : Array aNY) (n : Nat) : (Builtin.zeroCells zs n).size = n * zs.size := by simp [Builtin.zeroCells]
theorem ZC (vs : List aNY) : ∀ (aLp rest : List aNY), vs.length <= rest.length -> bM (aLp ++ rest) aLp.length vs = aLp ++ vs ++ rest.drop vs.length := by
 induction vs with
 | nil => intro aLp rest _; simp [bM]
 | cons v vs ih =>
   intro aLp rest h
   cases rest with
   | nil => simp at h
   | cons r rest =>
     have := ih (aLp ++ [v]) rest (by simpa using h)
     simp only [bM, aLz, aLP, List.length_nil, aLV, aMp, aMM] at this ⊢
     rw [aMK, <- this, aM8 _ _ (aLF _), aNb, aLw, aLt]
theorem yY {S : Nat -> Prop} {sz n m : Nat} {i : TypeInfo} {z : aNY} {ty t2 e2 : TypeId} (hu : P.underlying t = some (.slice e)) (hu2 : P.underlying t2 = some (.slice e2)) (hi : P.info? e = some i) (hsz : i.size = sz) (hz : i.zero = some z) (hzs : z.cells.size = sz)
 {v x : aNY} {l news : List aNY} (h : OSS w S sz v n l) (hx : Cl w sz x m news) (hone : ∀ y ∈ news, one y = true) (hb : ∀ b, w.heap.size <= b -> S b)
 (hn : n + m <= 9223372036854775807) (hbytes : (n + m) * i.bytes <= 140737488355328) (_hpos : i.bytes ≠ 0)
 {K : aNY -> aNX -> Prop} (hk : ∀ v' w', OSS w' S sz v' (n + m) (l ++ news) -> aW w w' S -> K v' w') : aD P (lI .append #[t, t2] ty [v, x]) w K := by
 have hlx : (Builtin.lenOf x).run P w = .ok m w := by
  obtain ⟨a, c, rfl, _⟩ := hx; simp [Builtin.lenOf]
 have hnl := hx.choose_spec.choose_spec.2.1
 have hfx := CK (P := P) hx
 have hmax : IntKind.i64.max = 9223372036854775807 := by decide
 have hnot : ¬ (((n + m : Nat) : Int) > IntKind.i64.max /\ (False ∨ i.bytes = 0)) := by rw [hmax]; omega
 have hz' : ∀ w, (zeroValue e).run P w = .ok z w := fun w => by simp [zeroValue, typeInfo, hi, hz]
 have hlen := h.1
 rcases h.2 with ⟨rfl, rfl⟩ | ⟨b, c, rest, rfl, h2, h3, h4, h5⟩
 .
  have hl0 : l = [] := aL4.1 (by omega)
  subst hl0
  by_cases hm : m = 0
  .subst hm
   have hn0 : news = [] := aL4.1 (by omega)
   subst hn0
   have : (lI .append #[t, t2] ty [.slice none 0 0, x]).run P w = .ok (.value (.slice none 0 0)) w := by
    unfold lI builtin
    simp only [Builtin.append_, aMB, aLq, aLr]
    simp only [underlying, Sem.run_bind, run_program, Result.andThen_ok, hu, hu2, Sem.run_pure, lC hi, hsz, aLu, if_false, hlx, aLF, aMA, if_true, aLX, hfx]
   unfold aD
   rw [this]
   exact hk _ _ ⟨by simp, .inl ⟨rfl, by omega⟩⟩ (aW.refl _ _)
  .have hfit := growslice_fits (need := 0 + m) (old := 0) (bytes := i.bytes) (by omega) (by omega)
   have hfit' : ¬ (Builtin.nextslicecap (0 + m) 0 * i.bytes > 2 ^ 48) := by omega
   have hle : ¬ (0 + m <= 0) := by omega
   have hq : (Question.appendCap (0 + m) 0 e).forced = false := rfl
   obtain ⟨r, hr⟩ : ∃ r, (Question.appendCap (0 + m) 0 e).cut (w.tape w.drawn (.appendCap (0 + m) 0 e)) = m + r :=
    ⟨(w.tape w.drawn (.appendCap (0 + m) 0 e)) % (2 ^ 63 - (0 + m)), by simp only [Question.cut]; omega⟩
   have : (lI .append #[t, t2] ty [.slice none 0 0, x]).run P w = .ok (.value (.slice (some ⟨w.heap.size, 0, none⟩) (0 + m) (m + r))) ((dr w).alloc (.cells (news ++ (Builtin.zeroCells z.cells (m + r - (0 + m))).toList).toArray e)) := by
    have hfx' := CK (P := P) (w := dr w) hx
    unfold lI builtin
    simp only [Builtin.append_, aMB, aLq, aLr]
    simp only [underlying, typeInfo, Sem.run_bind, run_program, Result.andThen_ok, hu, hu2, hi, Sem.run_pure, lC hi, hsz, aLu, if_false, hlx, hle, aLX, if_true, hnot, hfit', run_choose, hq, hr, run_askRoom]
    change ((Sem.run P _ (dr w)).andThen _).andThen _ = _
    simp only [Sem.run_bind, hfx', run_firstCells_none, Result.andThen_ok, hz', Sem.run_pure, newRow, run_newObj]
    have e1 : (#[] ++ news.toArray ++ Builtin.zeroCells z.cells (m + r - (0 + m)) : Array aNY) = (news ++ (Builtin.zeroCells z.cells (m + r - (0 + m))).toList).toArray := by
     apply Array.ext'; simp
    rw [e1]
    rfl
   unfold aD
   rw [this]
   refine hk _ _ ⟨by simp only [aMM]; rw [hnl, aLt], .inr ⟨w.heap.size, m + r, (Builtin.zeroCells z.cells (m + r - (0 + m))).toList, by rw [aLt], hb _ (aLF _), eM.alloc (dr w) _ _, ?_, by omega⟩⟩ ((aW.dr w _).seq (aW.alloc _ _ _))
   simp only [aMM, aLz, aMJ, uU, hzs, hnl]
   rw [show m + r - (0 + m) = r from by omega, aMi]
 .by_cases hc : n + m <= c
  .
   have hroom : news.length <= rest.length := by
    rw [aLz, hlen] at h4
    have : (n + m) * sz <= c * sz := aLY _ hc
    rw [aMi] at this; omega
   obtain ⟨w', s1, s2, s3, s4, _⟩ := Fs (P := P) (M := S) h2 news w (n * sz) 0 (l ++ rest) h3 (by rw [aLz, hlen]; omega) hone
   have : (lI .append #[t, t2] ty [.slice (some ⟨b, 0, none⟩) n c, x]).run P w = .ok (.value (.slice (some ⟨b, 0, none⟩) (n + m) c)) w' := by
    unfold lI builtin
    simp only [Builtin.append_, aMB, aLq, aLr]
    simp only [underlying, Sem.run_bind, run_program, Result.andThen_ok, hu, hu2, Sem.run_pure, lC hi, hsz, aLu, if_false, hlx, hc, if_true, aLX, hfx, MR, aLt, s1]
   unfold aD
   rw [this]
   rw [aMA, <- hlen, ZC _ _ _ hroom] at s2
   refine hk _ _ ⟨by rw [aLz, hlen, hnl, aMi], .inr ⟨b, c, rest.drop news.length, rfl, h2, s2, ?_, hc⟩⟩ s3
   rw [<- h4]; simp; omega
  .
   have hfit := growslice_fits (need := n + m) (old := c) (bytes := i.bytes) (by omega) hbytes
   have hfit' : ¬ (Builtin.nextslicecap (n + m) c * i.bytes > 2 ^ 48) := by omega
   have hq : (Question.appendCap (n + m) c e).forced = false := rfl
   obtain ⟨r, hr⟩ : ∃ r, (Question.appendCap (n + m) c e).cut (w.tape w.drawn (.appendCap (n + m) c e)) = n + m + r :=
    ⟨(w.tape w.drawn (.appendCap (n + m) c e)) % (2 ^ 63 - (n + m)), by simp only [Question.cut]⟩
   have hold : Cl (dr w) sz (.slice (some ⟨b, 0, none⟩) n c) n l := ⟨_, _, rfl, hlen, fun _ => ⟨b, 0, rfl, fun i hi => by
    show w.cell? _ = _
    rw [h3.cell, aLt, aLR hi]⟩⟩
   have : (lI .append #[t, t2] ty [.slice (some ⟨b, 0, none⟩) n c, x]).run P w = .ok (.value (.slice (some ⟨w.heap.size, 0, none⟩) (n + m) (n + m + r))) ((dr w).alloc (.cells (l ++ news ++ (Builtin.zeroCells z.cells (n + m + r - (n + m))).toList).toArray e)) := by
    have hfx' := CK (P := P) (w := dr w) hx
    have hfo := CK (P := P) hold
    unfold lI builtin
    simp only [Builtin.append_, aMB, aLq, aLr]
    simp only [underlying, typeInfo, Sem.run_bind, run_program, Result.andThen_ok, hu, hu2, hi, Sem.run_pure, lC hi, hsz, aLu, if_false, hlx, hc, aLX, if_true, hnot, hfit', run_choose, hq, hr, run_askRoom]
    change ((Sem.run P _ (dr w)).andThen _).andThen _ = _
    simp only [Sem.run_bind, hfx', hfo, Result.andThen_ok, hz', Sem.run_pure, newRow, run_newObj]
    have e1 : (l.toArray ++ news.toArray ++ Builtin.zeroCells z.cells (n + m + r - (n + m)) : Array aNY) = (l ++ news ++ (Builtin.zeroCells z.cells (n + m + r - (n + m))).toList).toArray := by
     apply Array.ext'; simp
    rw [e1]
    rfl
   unfold aD
   rw [this]
   refine hk _ _ ⟨by rw [aLz, hlen, hnl, aMi], .inr ⟨w.heap.size, n + m + r, _, rfl, hb _ (aLF _), eM.alloc (dr w) _ _, ?_, by omega⟩⟩ ((aW.dr w _).seq (aW.alloc _ _ _))
   simp only [aLz, aMJ, uU, hzs, hnl, hlen]
   rw [show n + m + r - (n + m) = r from by omega, aMi, aMi]
theorem Oc {base sz n m : Nat} {i : TypeInfo} {z : aNY} {ty t2 e2 : TypeId} (hu : P.underlying t = some (.slice e)) (hu2 : P.underlying t2 = some (.slice e2)) (hi : P.info? e = some i) (hsz : i.size = sz) (hz : i.zero = some z) (hzs : z.cells.size = sz)
 {v x : aNY} {l news : List aNY} (h : tE w base sz v n l) (hx : Cl w sz x m news) (hone : ∀ y ∈ news, one y = true) (hb : base <= w.heap.size)
 (hn : n + m <= 9223372036854775807) (hbytes : (n + m) * i.bytes <= 140737488355328) (_hpos : i.bytes ≠ 0)
 {K : aNY -> aNX -> Prop} (hk : ∀ v' w', tE w' base sz v' (n + m) (l ++ news) -> aW w w' (fun y => base <= y) -> K v' w') : aD P (lI .append #[t, t2] ty [v, x]) w K :=
 yY (S := fun y => base <= y) hu hu2 hi hsz hz hzs h hx hone (fun _ h => aMy hb h) hn hbytes _hpos hk
end
section
variable {P : Program} {w : aNX} {t e : TypeId}
theorem Iq {i : TypeInfo} {z : aNY} {n : Nat} {ps : List (Nat × aNY)} {cells : Array aNY} (hu : P.underlying t = some (.slice e)) (hi : P.info? e = some i) (hz : i.zero = some z)
 (h1 : ¬ n * i.size > 2 ^ 24) (h0 : ¬ n * i.size = 0) (hf : Instr.fill (fun j => some (j * i.size, i.size)) ((Array.range (n * i.size)).map (z.cells[· % z.cells.size]!)) ps = some cells)
 {K : aNY -> aNX -> Prop} (hk : ∀ w', eM w' w.heap.size cells.toList -> aW w w' eS -> w'.heap.size = w.heap.size + 1 -> K (.slice (some ⟨w.heap.size, 0, none⟩) n n) w') :
 aD P (cU t n ps) w K := by
 have hz' : (zeroValue e).run P w = .ok z w := by simp [zeroValue, typeInfo, hi, hz]
 have : (cU t n ps).run P w = .ok (.value (.slice (some ⟨w.heap.size, 0, none⟩) n n)) (w.alloc (.cells cells.toList.toArray e)) := by
  unfold cU; rw [uS]
  simp only [Instr.buildSlice, underlying, pure_bind, Sem.run_bind, run_program, Result.andThen_ok, hu, Sem.run_pure, lC hi, h1, h0, if_false, hz', hf, newRow, run_newObj]
  rfl
 unfold aD
 rw [this]
 exact hk _ (eM.alloc _ _ _) (aW.alloc _ _ _) (by simp)
theorem eM.mark {b : Nat} {cs : List aNY} (h : eM w b cs) : eM (w.freeze ⟨b, cs.length, none⟩ 1) b cs := by
 have hb := h.lt
 obtain ⟨T, lo, hi, h, k⟩ := h
 by_cases hlh : (lo == hi) = true
 .refine ⟨T, cs.length, cs.length + 1, ?_, .inl (aLF _)⟩
  show (w.heap.modify b _)[b]? = _
  rw [aNx, if_pos rfl, h]
  have hlh : lo = hi := by simpa using hlh
  simp [hlh]
 .refine ⟨T, min lo cs.length, max hi (cs.length + 1), ?_, .inl ?_⟩
  .show (w.heap.modify b _)[b]? = _
   rw [aNx, if_pos rfl, h]
   have hlh : ¬ lo = hi := by simpa using hlh
   simp [hlh]
  .rcases k with k | k
   .omega
   .exfalso; apply hlh; rw [k]; simp
theorem aW.mark (w : aNX) (a : Addr) : aW w (w.freeze a 1) (fun y => y = a.block) :=
 ⟨rfl, rfl, rfl, by show _ <= (w.heap.modify _ _).size; simp, fun b hb hn => by
  show (w.heap.modify a.block _)[b]? = _
  rw [aNx]
  rw [if_neg (fun h => hn h.symm)]⟩
end
section
variable {P : Program} {w : aNX} {t e : TypeId}
def Grown (es : Array MapEntry) (clock : Nat) : Prop := (es.toList.map (·.born)).Pairwise (· < ·) /\ ∀ e ∈ es.toList, e.born < clock
def Mp {κ : Type} (w : aNX) (m : Nat) (enc : κ -> aNY) (l : List (κ × aNY)) : Prop :=
 ∃ es clock, w.heap[m]? = some (.map es clock) /\ es.toList.map (fun e => (e.key, e.val)) = l.map (fun p => (enc p.1, p.2)) /\ Grown es clock /\ (l.map (·.1)).Nodup
theorem Mp.lt {κ : Type} {m : Nat} {enc : κ -> aNY} {l : List (κ × aNY)} (h : Mp w m enc l) : m < w.heap.size := by
 obtain ⟨es, c, h, _⟩ := h
 rcases aLO m w.heap.size with h' | h'
 .exact h'
 .rw [aMY h'] at h; cases h
theorem Mp.ext {κ : Type} {w w' : aNX} {m : Nat} {enc : κ -> aNY} {l : List (κ × aNY)} {M : Nat -> Prop} (h : Mp w m enc l) (hx : aW w w' M) (hM : ¬ M m) : Mp w' m enc l := by
 have := h.lt
 obtain ⟨es, c, h, k⟩ := h
 exact ⟨es, c, by rw [hx.keep m this hM]; exact h, k⟩
theorem Mp.dr {κ : Type} {w : aNX} {m : Nat} {enc : κ -> aNY} {l : List (κ × aNY)} (h : Mp w m enc l) : Mp (dr w) m enc l := h
variable {κ : Type} [DecidableEq κ] {enc : κ -> aNY}
end
theorem kB {w : aNX} {b : Nat} {cs : List aNY} (h : eM w b cs) : eM (dr w) b cs := h.ext (aW.dr w eS) (fun h => h)
theorem Sl.dr {w : aNX} {v : aNY} {l : List aNY} (h : Sl w v l) : Sl (dr w) v l := h
theorem Sl.open {w : aNX} {v : aNY} {l : List UInt8} (h : Bs w v l) (h0 : 0 < l.length) : ∃ b off c, v = .slice (some ⟨b, off, none⟩) l.length c /\ l.length <= c /\ ∀ i, (h : i < l.length) -> w.cell? ⟨b, off + i, none⟩ = some (tJ l[i]) := by
 obtain ⟨a, n, c, rfl, hn, hc, h⟩ := h
 simp only [aLD] at hn
 subst hn
 obtain ⟨b, off, rfl, hh⟩ := h h0
 exact ⟨b, off, c, rfl, hc, fun i hi => by rw [hh i hi]; simp [hi]⟩
theorem Sl.len {w : aNX} {v : aNY} {l : List aNY} (h : Sl w v l) : ∃ a c, v = .slice a l.length c /\ l.length <= c := by
 obtain ⟨a, n, c, rfl, rfl, hc, _⟩ := h
 exact ⟨a, c, rfl, hc⟩
theorem bY (v : aNY) : ¬ inB v eS := by unfold inB eS; split <;> simp
theorem azF {b o m l : Nat} (h : l ≠ m) : mZ (some ⟨b, o, none⟩) m l 1 = some ⟨b, o + l, none⟩ := by
 unfold mZ; rw [if_neg (fun e => h e.symm)]; simp [MR]
theorem amC {v : aNY} {M N : Nat -> Prop} (h : inB v M) (hm : ∀ b, M b -> N b) : inB v N := by
 unfold inB at *
 split at h
 .exact hm _ h
 .exact h
theorem tE.len {w : aNX} {b sz n : Nat} {v : aNY} {l : List aNY} (h : tE w b sz v n l) : ∃ a c, v = .slice a n c := by
 rcases h.2 with ⟨rfl, rfl⟩ | ⟨x, c, r, rfl, _⟩
 .exact ⟨_, _, rfl⟩
 .exact ⟨_, _, rfl⟩
theorem tE.lower {w : aNX} {a b sz n : Nat} {v : aNY} {l : List aNY} (h : tE w b sz v n l) (hab : a <= b) : tE w a sz v n l := by
 refine ⟨h.1, ?_⟩
 rcases h.2 with h | ⟨x, c, r, h1, h2, h3⟩
 .exact .inl h
 .exact .inr ⟨x, c, r, h1, by omega, h3⟩
theorem Sl.nil (w : aNX) : Sl w (.slice none 0 0) [] := ⟨none, 0, 0, rfl, rfl, aLF _, fun h => absurd h (by simp)⟩
theorem Sl.take' {w : aNX} {a : Option Addr} {n c : Nat} {l : List aNY} (h : Sl w (.slice a n c) l) {k : Nat} (hk : k <= n) : Sl w (.slice (mZ a c 0 1) (k - 0) (c - 0)) (l.take k) := by
 have h' := h
 obtain ⟨a', n', c', e, hn, hc, hh⟩ := h'
 cases e
 by_cases h0 : k = 0
 .subst h0
  exact ⟨_, _, _, rfl, by simp, by omega, fun h => by simp at h⟩
 .obtain ⟨b, off, rfl, _⟩ := hh (by omega)
  exact h.take hk
theorem Sl.drop' {w : aNX} {a : Option Addr} {n c : Nat} {l : List aNY} (h : Sl w (.slice a n c) l) {k : Nat} (hk : k <= n) : Sl w (.slice (mZ a c k 1) (n - k) (c - k)) (l.drop k) := by
 have h' := h
 obtain ⟨a', n', c', e, hn, hc, hh⟩ := h'
 cases e
 by_cases h0 : n = 0
 .exact ⟨_, _, _, rfl, by rw [aLM]; omega, by omega, fun h => by omega⟩
 .obtain ⟨b, off, rfl, _⟩ := hh (by omega)
  exact h.drop hk
theorem Sl.mid {w : aNX} {a : Option Addr} {n c : Nat} {l : List aNY} (h : Sl w (.slice a n c) l) {i j : Nat} (hij : i <= j) (hj : j <= n) : Sl w (.slice (mZ a c i 1) (j - i) (c - i)) ((l.drop i).take (j - i)) := by
 have h' := h
 obtain ⟨a', n', c', e, hn, hc, hh⟩ := h'
 cases e
 by_cases h0 : j - i = 0
 .rw [h0]
  exact ⟨_, _, _, rfl, by simp, by omega, fun h => by omega⟩
 .obtain ⟨b, off, rfl, _⟩ := hh (by omega)
  have hd := h.drop (k := i) (by omega)
  obtain ⟨a', n', c', e, hn', hc', hh'⟩ := hd
  obtain ⟨b', off', e', h2⟩ := hh' (by have := (Value.slice.inj e).2.1; omega)
  injection e with e1 e2 e3
  subst e3
  refine ⟨_, _, _, rfl, by rw [aLG, aLM]; omega, by omega, fun _ => ⟨b', off', by rw [e1]; exact e', fun x hx => ?_⟩⟩
  rw [h2 x (by omega), aMg hx]
theorem Sl.openV {w : aNX} {v : aNY} {l : List aNY} (h : Sl w v l) (h0 : 0 < l.length) : ∃ b off c, v = .slice (some ⟨b, off, none⟩) l.length c /\ l.length <= c /\ ∀ i, (h : i < l.length) -> w.cell? ⟨b, off + i, none⟩ = some l[i] := by
 obtain ⟨a, n, c, rfl, hn, hc, h⟩ := h
 subst hn
 obtain ⟨b, off, rfl, hh⟩ := h h0
 exact ⟨b, off, c, rfl, hc, fun i hi => by rw [hh i hi]; simp [hi]⟩
theorem Sl.openI {w : aNX} {v : aNY} {k : IntKind} {l : List Int} (h : Sl w v (l.map (Value.int k))) (h0 : 0 < l.length) : ∃ b off c, v = .slice (some ⟨b, off, none⟩) l.length c /\ l.length <= c /\ ∀ i, (h : i < l.length) -> w.cell? ⟨b, off + i, none⟩ = some (.int k l[i]) := by
 obtain ⟨b, off, c, e, hc, hh⟩ := h.openV (by simpa using h0)
 simp only [aLD] at e hc hh
 exact ⟨b, off, c, e, hc, fun i hi => by rw [hh i hi]; simp⟩
theorem Sl.lenI {w : aNX} {v : aNY} {k : IntKind} {l : List Int} (h : Sl w v (l.map (Value.int k))) : ∃ a c, v = .slice a l.length c /\ l.length <= c := by
 obtain ⟨a, c, e, hc⟩ := h.len
 simp only [aLD] at e hc
 exact ⟨a, c, e, hc⟩
def Gn (n : Nat) (l : List aNY) : List aNY := (List.replicate n l).flatten
theorem alM (n : Nat) (l : List aNY) : (Gn n l).length = n * l.length := by
 unfold Gn; rw [List.length_flatten]; simp
theorem aFT : ∀ (n : Nat) (l : List aNY) (j : Nat) (_ : j < n * l.length) (h0 : 0 < l.length), (Gn n l)[j]? = some (l[j % l.length]'(aNt _ h0)) := by
 intro n
 induction n with
 | zero => intro l j h; simp at h
 | succ n ih =>
   intro l j h h0
   unfold Gn
   rw [aMc, aNj]
   by_cases hj : j < l.length
   .rw [aLR hj, aLA hj]
    simp only [aL5 hj]
   .rw [aMx (by omega)]
    have := ih l (j - l.length) (by rw [Nat.succ_mul] at h; omega) h0
    unfold Gn at this
    rw [this]
    simp only [<- Nat.mod_eq_sub_mod (show j ≥ l.length by omega)]
theorem aqY {P : Program} {w : aNX} {t e : TypeId} {k : IntKind} {i : TypeInfo} {z : aNY} {sz : Nat} (hu : P.underlying t = some (.slice e)) (hi : P.info? e = some i) (h1 : i.size = sz) (hsz : 0 < sz) (hz : i.zero = some z) (hz1 : z.cells.size = sz) {n : Int} (h0 : 0 <= n) (hn : i.bytes * n <= 2 ^ 48) (hn2 : n <= 9223372036854775807)
 {K : aNY -> aNX -> Prop}
 (hk : ∀ w', eM w' w.heap.size (Gn n.toNat z.cells.toList) -> aW w w' eS -> w'.heap.size = w.heap.size + 1 -> K (.slice (some ⟨w.heap.size, 0, none⟩) n.toNat n.toNat) w') :
 aD P (qG t (.int k n) (.int k n)) w K := by
 have hw : IntKind.i64.wrap n = n := aQ (by omega) hn2
 have hl : z.cells.toList.length = sz := by simpa using hz1
 have harr : (Array.range (n.toNat * sz)).map (fun j => z.cells[j % z.cells.size]!) = (Gn n.toNat z.cells.toList).toArray := by
  apply Array.ext
  .simp [alM, hz1]
  .intro j h1 h2
   have hj : j < n.toNat * sz := by simpa using h1
   have := aFT n.toNat z.cells.toList j (by rw [hl]; exact hj) (by rw [hl]; exact hsz)
   have hm : j % z.cells.size < z.cells.size := aNt _ (by omega)
   simp only [Array.getElem_map, Array.getElem_range, List.getElem_toArray]
   rw [getElem!_pos z.cells _ hm]
   rw [aLA (by rw [alM, hl]; exact hj)] at this
   have := aLT this
   rw [this]
   simp
 have hz' : (zeroValue e).run P w = .ok z w := by simp [zeroValue, typeInfo, hi, hz]
 have : (qG t (.int k n) (.int k n)).run P w = .ok (.value (.slice (some ⟨w.heap.size, 0, none⟩) n.toNat n.toNat)) (w.alloc (.cells (Gn n.toNat z.cells.toList).toArray e)) := by
  unfold qG
  rw [uS]
  have t1 : (decide (n < 0) || decide ((i.bytes : Int) * n > 2 ^ 48) || decide (n < 0) || decide (n > n)) = false := by
   simp only [aNk, decide_eq_false_iff_not]; omega
  by_cases hn0 : n.toNat * sz = 0
  .simp only [Instr.makeSlice, underlying, typeInfo, asInt, asIntOf, pure_bind, Sem.run_bind, run_program, Result.andThen_ok, hu, hi, Sem.run_pure, hw, t1, aLu, if_false, run_askRoom, lC hi, h1, hn0, if_true, newRow, run_newObj]
   have hn : n.toNat = 0 := by rcases Nat.mul_eq_zero.1 hn0 with h | h <;> omega
   have : (Array.range 0).map (fun x => (#[] : Array aNY)[x % (#[] : Array aNY).size]!) = (Gn n.toNat z.cells.toList).toArray := by rw [hn]; simp [Gn]
   rw [this]
   rfl
  .simp only [Instr.makeSlice, underlying, typeInfo, asInt, asIntOf, pure_bind, Sem.run_bind, run_program, Result.andThen_ok, hu, hi, Sem.run_pure, hw, t1, aLu, if_false, run_askRoom, lC hi, h1, hn0, hz', newRow, run_newObj, harr]
   rfl
 unfold aD
 rw [this]
 exact hk _ (eM.alloc _ _ _) (aW.alloc _ _ _) (by simp)
abbrev T3 := Int × Int × Int
def fe (k : IntKind) : List T3 -> List aNY
 | [] => []
 | e :: r => .int k e.1 :: .int .i64 e.2.1 :: .int .i64 e.2.2 :: fe k r
theorem qC (k : IntKind) : ∀ L : List T3, (fe k L).length = L.length * 3
 | [] => rfl
 | e :: r => by simp [fe, qC k r]; omega
theorem aAG (k : IntKind) : ∀ L M : List T3, fe k (L ++ M) = fe k L ++ fe k M
 | [], _ => rfl
 | e :: r, M => by simp [fe, aAG k r M]
theorem W6 (k : IntKind) : ∀ (L : List T3) (i : Nat) (h : i < L.length), (fe k L)[i * 3]? = some (.int k L[i].1) /\ (fe k L)[i * 3 + 1]? = some (.int .i64 L[i].2.1) /\ (fe k L)[i * 3 + 2]? = some (.int .i64 L[i].2.2)
 | [], i, h => by simp at h
 | e :: r, 0, _ => ⟨rfl, rfl, rfl⟩
 | e :: r, i + 1, h => by
   have := W6 k r i (by simpa using h)
   rw [aMi]
   exact this
theorem aoH (k : IntKind) : ∀ (L : List T3) (i : Nat) (h : i < L.length) (x : Int), (fe k L).set (i * 3) (.int k x) = fe k (L.set i (x, L[i].2)) /\ (fe k L).set (i * 3 + 1) (.int .i64 x) = fe k (L.set i (L[i].1, x, L[i].2.2)) /\ (fe k L).set (i * 3 + 2) (.int .i64 x) = fe k (L.set i (L[i].1, L[i].2.1, x))
 | [], i, h, _ => by simp at h
 | e :: r, 0, _, x => ⟨rfl, rfl, rfl⟩
 | e :: r, i + 1, h, x => by
   have := aoH k r i (by simpa using h) x
   rw [aMi]
   obtain ⟨h1, h2, h3⟩ := this
   refine ⟨?_, ?_, ?_⟩
   .show (_ :: _ :: _ :: (fe k r).set (i * 3) _) = _; rw [h1] <;> rfl
   .show (_ :: _ :: _ :: (fe k r).set (i * 3 + 1) _) = _; rw [h2] <;> rfl
   .show (_ :: _ :: _ :: (fe k r).set (i * 3 + 2) _) = _; rw [h3] <;> rfl
theorem aFx (k : IntKind) (x : Int) : ∀ n : Nat, Gn n [.int k x, .int .i64 0, .int .i64 0] = fe k (List.replicate n (x, 0, 0))
 | 0 => rfl
 | n + 1 => by
   have := aFx k x n
   unfold Gn at this ⊢
   rw [aMc, aNj, this, aMc] <;> rfl
theorem aDS {P : Program} {w : aNX} {t e : TypeId} {k k' : IntKind} {hi mx : Int} {i : TypeInfo} (hu : P.underlying t = some (.slice e)) (hi' : P.info? e = some i) (x : Option Addr) (n c : Nat) (h0 : 0 <= hi) (h1 : hi <= mx) (h2 : mx <= c) :
 (mD t (.slice x n c) none (some (.int k hi)) (some (.int k' mx))).run P w = .ok (.value (.slice (mZ x mx.toNat 0 i.size) (hi.toNat - 0) (mx.toNat - 0))) w := by
 have h3 : (0 : Int) <= mx := by omega
 have h4 : hi <= (mx.toNat : Int) := by omega
 simp only [mD, uS, Instr.sliceAt, underlying, hu, Sem.run_bind, run_program, Result.andThen_ok, Sem.run_pure, Instr.slice, Instr.sliceBounds, pure_bind, Ar h3 h2, Ar h0 h4, lC hi', mZ]
end Go.En
namespace Go.Proofs.YtgpimhlgaokobaaGreat
open Go Go.En
set_option maxRecDepth 4000
theorem aP {ty : TypeId} (x : Option Addr) (n c : Nat) (w : aNX) : (lI .len #[22] ty [.slice x n c]).run pg w = .ok (.value (.int .i64 n)) w := aeT Tryz.underlying22 x n c
theorem iD {l : List UInt8} {v : aNY} {w : aNX} (h : Bs w v l) : (jP 22 9 v).run pg w = .ok (.value (.string ⟨l.toArray⟩)) w := aHx Tryz.underlying22 Tryz.underlying9 Tryz.underlying5 h
theorem aFj : (pg).info? 26 = some Tryz.t26 := by kernel_rfl
theorem Br {w : aNX} {K : aNY -> aNX -> Prop} (hk : ∀ w', eM w' w.heap.size [(.int .u64 0), (.int .u64 0), (.int .i64 0), (.int .u64 0), (.int .u64 0)] -> aW w w' eS -> w'.heap.size = w.heap.size + 1 -> K (.pointer (some ⟨w.heap.size, 0, none⟩)) w') : aD pg (fW 26) w K := oU (i := Tryz.t26) aFj rfl hk
theorem sH {b off : Nat} {cs : List aNY} {w : aNX} {xs : Array aNY} {K : aNY -> aNX -> Prop} (ho : eM w b cs) (hs : xs.size = 5) (hv : ∀ x ∈ xs.toList, one x = true) (h : off + 5 <= cs.length) (hk : ∀ w', eM w' b (bM cs off xs.toList) -> aW w w' (fun x => x = b) -> w'.heap.size = w.heap.size -> K undef w') : aD pg (aT 26 (.pointer (some ⟨b, off, none⟩)) (.agg xs)) w K := pZ (v := .agg xs) aFj ho hs hv h hk
theorem axK : (pg).info? 24 = some Tryz.t24 := by kernel_rfl
theorem aV (b o : Nat) (w : aNX) : (aK 26 (.pointer (some ⟨b, o, none⟩)) 3).run pg w = .ok (.value (.pointer (some ⟨b, o + 3, none⟩))) w := jQ (i := 3) Tryz.underlying26 rfl axK (by decide) _
theorem gT (x : Addr) (w : aNX) : (aL 24 (.pointer (some x))).run pg w = ldC (w.cell? x) w (far pg 24 x w) := akC Tryz.underlying24 rfl x w
theorem dL {ty : TypeId} (x : ByteArray) (w : aNX) : (lI .len #[9] ty [.string x]).run pg w = .ok (.value (.int .i64 x.size)) w := aJS Tryz.underlying9 x
theorem iS {k : IntKind} {a : Int} (x : ByteArray) (w : aNX) (h0 : 0 <= a) (h1 : a.toNat < x.size) : (CN 9 (.string x) (.int k a)).run pg w = .ok (.value (.int .u8 (x[a.toNat]'h1).toNat)) w := aJH Tryz.underlying9 x h0 h1
theorem S0 : (pg).info? 5 = some Tryz.t5 := by kernel_rfl
theorem dO {k : IntKind} {a : Int} (b o n c : Nat) (w : aNX) (h0 : 0 <= a) (h1 : a < n) : (cI 22 (.slice (some ⟨b, o, none⟩) n c) (.int k a)).run pg w = .ok (.value (.pointer (some ⟨b, o + a.toNat, none⟩))) w := X6 rfl Tryz.underlying22 S0 b o n c h0 h1
theorem iJ (x : Addr) (w : aNX) : (aL 5 (.pointer (some x))).run pg w = ldC (w.cell? x) w (far pg 5 x w) := akC Tryz.underlying5 rfl x w
theorem dT {k : IntKind} (a : Int) (w : aNX) : (jP 5 3 (.int k a)).run pg w = .ok (.value (.int .i64 (IntKind.i64.wrap a))) w := Iy Tryz.underlying5 Tryz.underlying3
theorem sP {ox oy : Operand} (c d : Bool) (w : aNX) : (aI .eql 4 ox oy (.bool c) (.bool d)).run pg w = .ok (.value (.bool (c == d))) w := aJI c d Tryz.underlying4
theorem pD {n : Nat} {ps : List (Nat × aNY)} {cells : Array aNY} {w : aNX} (h1 : ¬ n * 1 > 2 ^ 24) (h0 : ¬ n * 1 = 0) (hf : Go.Instr.fill (fun j => some (j * 1, 1)) ((Array.range (n * 1)).map ((Tryz.t5.zero.get!).cells[· % (Tryz.t5.zero.get!).cells.size]!)) ps = some cells) {K : aNY -> aNX -> Prop} (hk : ∀ w', eM w' w.heap.size cells.toList -> aW w w' eS -> w'.heap.size = w.heap.size + 1 -> K (.slice (some ⟨w.heap.size, 0, none⟩) n n) w') : aD pg (cU 22 n ps) w K := Iq (i := Tryz.t5) Tryz.underlying22 S0 rfl h1 h0 hf hk
theorem vP {b off : Nat} {cs : List aNY} {w : aNX} (ho : eM w b cs) (h : off + 5 <= cs.length) {K : aNY -> Prop} (hk : K (.agg ((cs.drop off).take 5).toArray)) : Ac pg 26 (.pointer (some ⟨b, off, none⟩)) w K := Gg Tryz.underlying26 rfl aFj ho h hk
theorem AP {b off : Nat} {cs : List aNY} {w : aNX} (ho : eM w b cs) (h : off + 5 <= cs.length) : (aL 26 (.pointer (some ⟨b, off, none⟩))).run pg w = .ok (.value (.agg ((cs.drop off).take 5).toArray)) w := zQ Tryz.underlying26 rfl aFj ho h
theorem iR {k : IntKind} (a : Int) (w : aNX) : (jP 5 24 (.int k a)).run pg w = .ok (.value (.int .u64 (IntKind.u64.wrap a))) w := Iy Tryz.underlying5 Tryz.underlying24
theorem aY (b o : Nat) (w : aNX) : (aK 26 (.pointer (some ⟨b, o, none⟩)) 0).run pg w = .ok (.value (.pointer (some ⟨b, o, none⟩))) w := jQ (i := 0) Tryz.underlying26 rfl axK (by decide) _
theorem MM {b off : Nat} {cs : List aNY} {w : aNX} {v : aNY} {K : aNY -> aNX -> Prop} (ho : eM w b cs) (hv : one v = true) (h : off < cs.length) (hk : ∀ w', eM w' b (cs.set off v) -> aW w w' (fun x => x = b) -> w'.heap.size = w.heap.size -> K undef w') : aD pg (aT 24 (.pointer (some ⟨b, off, none⟩)) v) w K := uV axK rfl ho hv h hk
theorem cC (b o : Nat) (w : aNX) : (aK 26 (.pointer (some ⟨b, o, none⟩)) 1).run pg w = .ok (.value (.pointer (some ⟨b, o + 1, none⟩))) w := jQ (i := 1) Tryz.underlying26 rfl axK (by decide) _
theorem Bk : (pg).info? 3 = some Tryz.t3 := by kernel_rfl
theorem X3 {n : Nat} {ps : List (Nat × aNY)} {cells : Array aNY} {w : aNX} (h1 : ¬ n * 1 > 2 ^ 24) (h0 : ¬ n * 1 = 0) (hf : Go.Instr.fill (fun j => some (j * 1, 1)) ((Array.range (n * 1)).map ((Tryz.t3.zero.get!).cells[· % (Tryz.t3.zero.get!).cells.size]!)) ps = some cells) {K : aNY -> aNX -> Prop} (hk : ∀ w', eM w' w.heap.size cells.toList -> aW w w' eS -> w'.heap.size = w.heap.size + 1 -> K (.slice (some ⟨w.heap.size, 0, none⟩) n n) w') : aD pg (cU 42 n ps) w K := Iq (i := Tryz.t3) Tryz.underlying42 Bk rfl h1 h0 hf hk
theorem hZ {k : IntKind} {a : Int} (b o n c : Nat) (w : aNX) (h0 : 0 <= a) (h1 : a < n) : (cI 42 (.slice (some ⟨b, o, none⟩) n c) (.int k a)).run pg w = .ok (.value (.pointer (some ⟨b, o + a.toNat, none⟩))) w := X6 rfl Tryz.underlying42 Bk b o n c h0 h1
theorem bO (x : Addr) (w : aNX) : (aL 3 (.pointer (some x))).run pg w = ldC (w.cell? x) w (far pg 3 x w) := akC Tryz.underlying3 rfl x w
theorem bR (b o : Nat) (w : aNX) : (aK 26 (.pointer (some ⟨b, o, none⟩)) 2).run pg w = .ok (.value (.pointer (some ⟨b, o + 2, none⟩))) w := jQ (i := 2) Tryz.underlying26 rfl Bk (by decide) _
theorem pH {b off : Nat} {cs : List aNY} {w : aNX} {v : aNY} {K : aNY -> aNX -> Prop} (ho : eM w b cs) (hv : one v = true) (h : off < cs.length) (hk : ∀ w', eM w' b (cs.set off v) -> aW w w' (fun x => x = b) -> w'.heap.size = w.heap.size -> K undef w') : aD pg (aT 3 (.pointer (some ⟨b, off, none⟩)) v) w K := uV Bk rfl ho hv h hk
theorem akS {n : Nat} {ps : List (Nat × aNY)} {cells : Array aNY} {w : aNX} (h1 : ¬ n * 1 > 2 ^ 24) (h0 : ¬ n * 1 = 0) (hf : Go.Instr.fill (fun j => some (j * 1, 1)) ((Array.range (n * 1)).map ((Tryz.t24.zero.get!).cells[· % (Tryz.t24.zero.get!).cells.size]!)) ps = some cells) {K : aNY -> aNX -> Prop} (hk : ∀ w', eM w' w.heap.size cells.toList -> aW w w' eS -> w'.heap.size = w.heap.size + 1 -> K (.slice (some ⟨w.heap.size, 0, none⟩) n n) w') : aD pg (cU 43 n ps) w K := Iq (i := Tryz.t24) Tryz.underlying43 axK rfl h1 h0 hf hk
theorem kY {k : IntKind} {a : Int} (b o n c : Nat) (w : aNX) (h0 : 0 <= a) (h1 : a < n) : (cI 43 (.slice (some ⟨b, o, none⟩) n c) (.int k a)).run pg w = .ok (.value (.pointer (some ⟨b, o + a.toNat, none⟩))) w := X6 rfl Tryz.underlying43 axK b o n c h0 h1
theorem dF (s0 : ByteArray) (w : aNX) : (fX 45 [(0, (.string s0))]).run pg w = .ok (.value (.agg #[(.string s0), (.int .i64 0)])) w := by kernel_rfl
theorem aE8 : (pg).info? 45 = some Tryz.t45 := by kernel_rfl
theorem tC {w : aNX} {K : aNY -> aNX -> Prop} (hk : ∀ w', eM w' w.heap.size [(.string ⟨#[]⟩), (.int .i64 0)] -> aW w w' eS -> w'.heap.size = w.heap.size + 1 -> K (.pointer (some ⟨w.heap.size, 0, none⟩)) w') : aD pg (fW 45) w K := oU (i := Tryz.t45) aE8 rfl hk
theorem lY {b off : Nat} {cs : List aNY} {w : aNX} {xs : Array aNY} {K : aNY -> aNX -> Prop} (ho : eM w b cs) (hs : xs.size = 2) (hv : ∀ x ∈ xs.toList, one x = true) (h : off + 2 <= cs.length) (hk : ∀ w', eM w' b (bM cs off xs.toList) -> aW w w' (fun x => x = b) -> w'.heap.size = w.heap.size -> K undef w') : aD pg (aT 45 (.pointer (some ⟨b, off, none⟩)) (.agg xs)) w K := pZ (v := .agg xs) aE8 ho hs hv h hk
theorem aFu : (pg).info? 27 = some Tryz.t27 := by kernel_rfl
theorem bW (b o : Nat) (w : aNX) : (aK 45 (.pointer (some ⟨b, o, none⟩)) 1).run pg w = .ok (.value (.pointer (some ⟨b, o + 1, none⟩))) w := jQ (i := 1) Tryz.underlying45 rfl aFu (by decide) _
theorem gO (x : Addr) (w : aNX) : (aL 27 (.pointer (some x))).run pg w = ldC (w.cell? x) w (far pg 27 x w) := akC Tryz.underlying27 rfl x w
theorem bZ (b o : Nat) (w : aNX) : (aK 26 (.pointer (some ⟨b, o, none⟩)) 4).run pg w = .ok (.value (.pointer (some ⟨b, o + 4, none⟩))) w := jQ (i := 4) Tryz.underlying26 rfl axK (by decide) _
theorem aFt : (pg).info? 49 = some Tryz.t49 := by kernel_rfl
theorem B7 {w : aNX} {K : aNY -> aNX -> Prop} (hk : ∀ w', eM w' w.heap.size [(.int .i64 0), (.int .i64 0), (.int .i64 0), (.int .i64 0), (.int .i64 0)] -> aW w w' eS -> w'.heap.size = w.heap.size + 1 -> K (.pointer (some ⟨w.heap.size, 0, none⟩)) w') : aD pg (fW 49) w K := oU (i := Tryz.t49) aFt rfl hk
theorem rE {b off : Nat} {cs : List aNY} {w : aNX} {xs : Array aNY} {K : aNY -> aNX -> Prop} (ho : eM w b cs) (hs : xs.size = 5) (hv : ∀ x ∈ xs.toList, one x = true) (h : off + 5 <= cs.length) (hk : ∀ w', eM w' b (bM cs off xs.toList) -> aW w w' (fun x => x = b) -> w'.heap.size = w.heap.size -> K undef w') : aD pg (aT 49 (.pointer (some ⟨b, off, none⟩)) (.agg xs)) w K := pZ (v := .agg xs) aFt ho hs hv h hk
theorem bH (b o : Nat) (w : aNX) : (aK 49 (.pointer (some ⟨b, o, none⟩)) 2).run pg w = .ok (.value (.pointer (some ⟨b, o + 2, none⟩))) w := jQ (i := 2) Tryz.underlying49 rfl Bk (by decide) _
theorem eF {k : IntKind} {lo : Int} (a : Option Addr) (n c : Nat) (w : aNX) (h0 : 0 <= lo) (h1 : lo <= n) : (mD 22 (.slice a n c) (some (.int k lo)) none none).run pg w = .ok (.value (.slice (mZ a c (lo.toNat) 1) (n - lo.toNat) (c - lo.toNat))) w := aAe Tryz.underlying22 S0 _ n c h0 h1
theorem cO (b o : Nat) (w : aNX) : (aK 49 (.pointer (some ⟨b, o, none⟩)) 0).run pg w = .ok (.value (.pointer (some ⟨b, o, none⟩))) w := jQ (i := 0) Tryz.underlying49 rfl Bk (by decide) _
theorem bQ (b o : Nat) (w : aNX) : (aK 49 (.pointer (some ⟨b, o, none⟩)) 3).run pg w = .ok (.value (.pointer (some ⟨b, o + 3, none⟩))) w := jQ (i := 3) Tryz.underlying49 rfl Bk (by decide) _
theorem cD (b o : Nat) (w : aNX) : (aK 49 (.pointer (some ⟨b, o, none⟩)) 4).run pg w = .ok (.value (.pointer (some ⟨b, o + 4, none⟩))) w := jQ (i := 4) Tryz.underlying49 rfl Bk (by decide) _
theorem jD {k : IntKind} {hi : Int} (a : Option Addr) (n c : Nat) (w : aNX) (h0 : 0 <= hi) (h1 : hi <= c) : (mD 22 (.slice a n c) none (some (.int k hi)) none).run pg w = .ok (.value (.slice (mZ a c (0) 1) (hi.toNat - 0) (c - 0))) w := aAc Tryz.underlying22 S0 _ n c h0 h1
theorem Qs {b off : Nat} {cs : List aNY} {w : aNX} (ho : eM w b cs) (h : off + 5 <= cs.length) : (aL 49 (.pointer (some ⟨b, off, none⟩))).run pg w = .ok (.value (.agg ((cs.drop off).take 5).toArray)) w := zQ Tryz.underlying49 rfl aFt ho h
theorem fT {k : IntKind} (a : Int) (w : aNX) : (jP 3 24 (.int k a)).run pg w = .ok (.value (.int .u64 (IntKind.u64.wrap a))) w := Iy Tryz.underlying3 Tryz.underlying24
theorem bX {k : IntKind} (a : Int) (w : aNX) : (jP 24 3 (.int k a)).run pg w = .ok (.value (.int .i64 (IntKind.i64.wrap a))) w := Iy Tryz.underlying24 Tryz.underlying3
theorem jB {k k' : IntKind} {lo hi : Int} (x : ByteArray) (w : aNX) (h0 : 0 <= lo) (h1 : lo <= hi) (h2 : hi <= x.size) : (mD 9 (.string x) (some (.int k lo)) (some (.int k' hi)) none).run pg w = .ok (.value (.string (x.extract lo.toNat hi.toNat))) w := aAy Tryz.underlying9  x h0 h1 h2
theorem jZ {k : IntKind} {lo : Int} (x : ByteArray) (w : aNX) (h0 : 0 <= lo) (h1 : lo <= x.size) : (mD 9 (.string x) (some (.int k lo)) none none).run pg w = .ok (.value (.string (x.extract lo.toNat x.size))) w := aCq Tryz.underlying9  x h0 h1
theorem mJ {base n m : Nat} {ty : TypeId} {w : aNX} {v x : aNY} {l news : List aNY} (h : tE w base 1 v n l) (hx : Cl w 1 x m news) (hone : ∀ y ∈ news, one y = true) (hb : base <= w.heap.size) (hbytes : (n + m) * 1 <= 140737488355328) {K : aNY -> aNX -> Prop} (hk : ∀ v' w', tE w' base 1 v' (n + m) (l ++ news) -> aW w w' (fun y => base <= y) -> K v' w') : aD pg (lI .append #[22, 22] ty [v, x]) w K := Oc (i := Tryz.t5) Tryz.underlying22 Tryz.underlying22 S0 rfl rfl rfl h hx hone hb (by omega) hbytes (by decide) hk
theorem VM {b off : Nat} {cs : List aNY} {w : aNX} (ho : eM w b cs) (h : off + 2 <= cs.length) {K : aNY -> Prop} (hk : K (.agg ((cs.drop off).take 2).toArray)) : Ac pg 45 (.pointer (some ⟨b, off, none⟩)) w K := Gg Tryz.underlying45 rfl aE8 ho h hk
theorem Fv {b off : Nat} {cs : List aNY} {w : aNX} {v : aNY} {K : aNY -> aNX -> Prop} (ho : eM w b cs) (hv : one v = true) (h : off < cs.length) (hk : ∀ w', eM w' b (cs.set off v) -> aW w w' (fun x => x = b) -> w'.heap.size = w.heap.size -> K undef w') : aD pg (aT 27 (.pointer (some ⟨b, off, none⟩)) v) w K := uV aFu rfl ho hv h hk
theorem mT {b off : Nat} {cs : List aNY} {w : aNX} (ho : eM w b cs) (h : off + 2 <= cs.length) : (aL 45 (.pointer (some ⟨b, off, none⟩))).run pg w = .ok (.value (.agg ((cs.drop off).take 2).toArray)) w := zQ Tryz.underlying45 rfl aE8 ho h
theorem A5 {b off : Nat} {cs : List aNY} {w : aNX} (ho : eM w b cs) (h : off + 5 <= cs.length) {K : aNY -> Prop} (hk : K (.agg ((cs.drop off).take 5).toArray)) : Ac pg 49 (.pointer (some ⟨b, off, none⟩)) w K := Gg Tryz.underlying49 rfl aFt ho h hk
theorem gX  (w : aNX) : (fX 49 []).run pg w = .ok (.value (.agg #[(.int .i64 0), (.int .i64 0), (.int .i64 0), (.int .i64 0), (.int .i64 0)])) w := by kernel_rfl
theorem gG (n0 : Int) (n1 : Int) (w : aNX) : (fX 49 [(0, (.int .i64 n0)), (1, (.int .i64 n1))]).run pg w = .ok (.value (.agg #[(.int .i64 n0), (.int .i64 n1), (.int .i64 0), (.int .i64 0), (.int .i64 0)])) w := by kernel_rfl
theorem dG (n0 : Int) (n1 : Int) (n2 : Int) (n3 : Int) (w : aNX) : (fX 73 [(0, (.int .i64 n0)), (1, (.int .i64 n1)), (2, (.int .i64 n2)), (3, (.int .i64 n3))]).run pg w = .ok (.value (.agg #[(.int .i64 n0), (.int .i64 n1), (.int .i64 n2), (.int .i64 n3)])) w := by kernel_rfl
theorem cA (b o : Nat) (w : aNX) : (aK 49 (.pointer (some ⟨b, o, none⟩)) 1).run pg w = .ok (.value (.pointer (some ⟨b, o + 1, none⟩))) w := jQ (i := 1) Tryz.underlying49 rfl Bk (by decide) _
theorem jX {k : IntKind} {a : Int} (cs : Array aNY) (w : aNX) (h0 : 0 <= a) (h1 : a < 4) : (CN 73 (.agg cs) (.int k a)).run pg w = ldC cs[a.toNat]? w (aKH pg 73 cs k a w) := aKa Tryz.underlying73 Tryz.underlying3 rfl Bk rfl cs h0 (by simpa using h1)
theorem lO {ox oy : Operand} (x : Option Addr) (n c : Nat) (w : aNX) : (aI .eql 22 ox oy (.slice x n c) (.slice none 0 0)).run pg w = .ok (.value (.bool x.isNone)) w := aI4 Tryz.underlying22 x n c
theorem fY {k : IntKind} (a : Int) (w : aNX) : (jP 3 67 (.int k a)).run pg w = .ok (.value (.int .u64 (IntKind.u64.wrap a))) w := Iy Tryz.underlying3 Tryz.underlying67
theorem oK {k : IntKind} (a : Int) (w : aNX) : (jP 67 3 (.int k a)).run pg w = .ok (.value (.int .i64 (IntKind.i64.wrap a))) w := Iy Tryz.underlying67 Tryz.underlying3
theorem asZ {k : IntKind} {n : Int} {w : aNX} {K : aNY -> aNX -> Prop} (h0 : 0 <= n) (hn : 1 * n <= 2 ^ 48) (hk : ∀ w', eM w' w.heap.size (List.replicate n.toNat (.int .u8 0)) -> aW w w' eS -> w'.heap.size = w.heap.size + 1 -> K (.slice (some ⟨w.heap.size, 0, none⟩) n.toNat n.toNat) w') : aD pg (qG 22 (.int k n) (.int k n)) w K := aDp (i := Tryz.t5) Tryz.underlying22 S0 rfl rfl rfl h0 hn (by omega) hk
theorem asP {ty : TypeId} {w : aNX} {b off dl c : Nat} {cs : List aNY} (ho : eM w b cs) (hl : off + dl <= cs.length) {v : aNY} {l : List aNY} (h : Sl w v l) (hv : ∀ x ∈ l, one x = true) {K : aNY -> aNX -> Prop} (hk : ∀ w', eM w' b (bM cs off (l.take (min l.length dl))) -> aW w w' (fun x => x = b) -> w'.heap.size = w.heap.size -> K (.int .i64 (min l.length dl : Nat)) w') : aD pg (lI .copy #[22, 22] ty [.slice (some ⟨b, off, none⟩) dl c, v]) w K := aHE Tryz.underlying22 S0 rfl ho hl h hv hk
theorem Xq {b off : Nat} {cs : List aNY} {w : aNX} {v : aNY} {K : aNY -> aNX -> Prop} (ho : eM w b cs) (hv : one v = true) (h : off < cs.length) (hk : ∀ w', eM w' b (cs.set off v) -> aW w w' (fun x => x = b) -> w'.heap.size = w.heap.size -> K undef w') : aD pg (aT 5 (.pointer (some ⟨b, off, none⟩)) v) w K := uV S0 rfl ho hv h hk
theorem aKr : (pg).info? 9 = some Tryz.t9 := by kernel_rfl
theorem cE (b o : Nat) (w : aNX) : (aK 45 (.pointer (some ⟨b, o, none⟩)) 0).run pg w = .ok (.value (.pointer (some ⟨b, o, none⟩))) w := jQ (i := 0) Tryz.underlying45 rfl aKr (by decide) _
theorem mR (x : Addr) (w : aNX) : (aL 9 (.pointer (some x))).run pg w = ldC (w.cell? x) w (far pg 9 x w) := akC Tryz.underlying9 rfl x w
theorem eQ {k : IntKind} (a : Int) (w : aNX) : (jP 3 5 (.int k a)).run pg w = .ok (.value (.int .u8 (IntKind.u8.wrap a))) w := Iy Tryz.underlying3 Tryz.underlying5
theorem iW  (w : aNX) : (fX 90 []).run pg w = .ok (.value (.agg #[(.slice none 0 0)])) w := by kernel_rfl
theorem fK {ox oy : Operand} (x : Option Addr) (w : aNX) : (aI .eql 64 ox oy (.pointer x) (.pointer none)).run pg w = .ok (.value (.bool x.isNone)) w := azM Tryz.underlying64 x
theorem axZ : (pg).info? 22 = some Tryz.t22 := by kernel_rfl
theorem fS (b o : Nat) (w : aNX) : (aK 90 (.pointer (some ⟨b, o, none⟩)) 0).run pg w = .ok (.value (.pointer (some ⟨b, o, none⟩))) w := jQ (i := 0) Tryz.underlying90 rfl axZ (by decide) _
theorem eP (x : Addr) (w : aNX) : (aL 22 (.pointer (some x))).run pg w = ldC (w.cell? x) w (far pg 22 x w) := akC Tryz.underlying22 rfl x w
theorem iA {k : IntKind} (a : Int) (w : aNX) : (jP 24 5 (.int k a)).run pg w = .ok (.value (.int .u8 (IntKind.u8.wrap a))) w := Iy Tryz.underlying24 Tryz.underlying5
theorem yX {b off : Nat} {cs : List aNY} {w : aNX} {v : aNY} {K : aNY -> aNX -> Prop} (ho : eM w b cs) (hv : one v = true) (h : off < cs.length) (hk : ∀ w', eM w' b (cs.set off v) -> aW w w' (fun x => x = b) -> w'.heap.size = w.heap.size -> K undef w') : aD pg (aT 22 (.pointer (some ⟨b, off, none⟩)) v) w K := uV axZ rfl ho hv h hk
theorem gI {ox oy : Operand} (x : Option Addr) (w : aNX) : (aI .neq 64 ox oy (.pointer x) (.pointer none)).run pg w = .ok (.value (.bool (!x.isNone))) w := aJE Tryz.underlying64 x
theorem mU {k : IntKind} {hi : Int} (x : ByteArray) (w : aNX) (h0 : 0 <= hi) (h1 : hi <= x.size) : (mD 9 (.string x) none (some (.int k hi)) none).run pg w = .ok (.value (.string (x.extract 0 hi.toNat))) w := aCR Tryz.underlying9  x h0 h1
theorem aGE {b off : Nat} {cs : List aNY} {w : aNX} {v : aNY} {K : aNY -> aNX -> Prop} (ho : eM w b cs) (hv : one v = true) (h : off < cs.length) (hk : ∀ w', eM w' b (cs.set off v) -> aW w w' (fun x => x = b) -> w'.heap.size = w.heap.size -> K undef w') : aD pg (aT 9 (.pointer (some ⟨b, off, none⟩)) v) w K := uV aKr rfl ho hv h hk
theorem iH (a0 : Option Addr) (l0 c0 : Nat) (w : aNX) : (fX 92 [(0, (.slice a0 l0 c0))]).run pg w = .ok (.value (.agg #[(.slice a0 l0 c0), (.int .i64 0)])) w := by kernel_rfl
theorem eE {ox oy : Operand} (x : Option Addr) (w : aNX) : (aI .eql 74 ox oy (.pointer x) (.pointer none)).run pg w = .ok (.value (.bool x.isNone)) w := azM Tryz.underlying74 x
theorem fR (b o : Nat) (w : aNX) : (aK 92 (.pointer (some ⟨b, o, none⟩)) 1).run pg w = .ok (.value (.pointer (some ⟨b, o + 1, none⟩))) w := jQ (i := 1) Tryz.underlying92 rfl aFu (by decide) _
theorem kO {k : IntKind} (a : Int) (w : aNX) : (jP 67 94 (.int k a)).run pg w = .ok (.value (.int .u32 (IntKind.u32.wrap a))) w := Iy Tryz.underlying67 Tryz.underlying94
theorem lV {k : IntKind} (a : Int) (w : aNX) : (jP 94 67 (.int k a)).run pg w = .ok (.value (.int .u64 (IntKind.u64.wrap a))) w := Iy Tryz.underlying94 Tryz.underlying67
theorem aBu : (pg).info? 100 = some Tryz.t100 := by kernel_rfl
theorem B6 {w : aNX} {K : aNY -> aNX -> Prop} (hk : ∀ w', eM w' w.heap.size [(.int .i64 0), (.slice none 0 0)] -> aW w w' eS -> w'.heap.size = w.heap.size + 1 -> K (.pointer (some ⟨w.heap.size, 0, none⟩)) w') : aD pg (fW 100) w K := oU (i := Tryz.t100) aBu rfl hk
theorem wR {b off : Nat} {cs : List aNY} {w : aNX} {xs : Array aNY} {K : aNY -> aNX -> Prop} (ho : eM w b cs) (hs : xs.size = 2) (hv : ∀ x ∈ xs.toList, one x = true) (h : off + 2 <= cs.length) (hk : ∀ w', eM w' b (bM cs off xs.toList) -> aW w w' (fun x => x = b) -> w'.heap.size = w.heap.size -> K undef w') : aD pg (aT 100 (.pointer (some ⟨b, off, none⟩)) (.agg xs)) w K := pZ (v := .agg xs) aBu ho hs hv h hk
theorem rJ {b off : Nat} {cs : List aNY} {w : aNX} (ho : eM w b cs) (h : off + 2 <= cs.length) : (aL 100 (.pointer (some ⟨b, off, none⟩))).run pg w = .ok (.value (.agg ((cs.drop off).take 2).toArray)) w := zQ Tryz.underlying100 rfl aBu ho h
theorem aBE : (pg).info? 108 = some Tryz.t108 := by kernel_rfl
theorem MG {w : aNX} {K : aNY -> aNX -> Prop} (hk : ∀ w', eM w' w.heap.size [(.int .i64 0), (.slice none 0 0)] -> aW w w' eS -> w'.heap.size = w.heap.size + 1 -> K (.pointer (some ⟨w.heap.size, 0, none⟩)) w') : aD pg (fW 108) w K := oU (i := Tryz.t108) aBE rfl hk
theorem I0 {b off : Nat} {cs : List aNY} {w : aNX} {xs : Array aNY} {K : aNY -> aNX -> Prop} (ho : eM w b cs) (hs : xs.size = 2) (hv : ∀ x ∈ xs.toList, one x = true) (h : off + 2 <= cs.length) (hk : ∀ w', eM w' b (bM cs off xs.toList) -> aW w w' (fun x => x = b) -> w'.heap.size = w.heap.size -> K undef w') : aD pg (aT 108 (.pointer (some ⟨b, off, none⟩)) (.agg xs)) w K := pZ (v := .agg xs) aBE ho hs hv h hk
theorem nN  (w : aNX) : (fX 111 []).run pg w = .ok (.value (.agg #[(.int .i64 0), (.int .i64 0)])) w := by kernel_rfl
theorem aIm : (pg).info? 111 = some Tryz.t111 := by kernel_rfl
theorem aEc {w : aNX} {K : aNY -> aNX -> Prop} (hk : ∀ w', eM w' w.heap.size [(.int .i64 0), (.int .i64 0)] -> aW w w' eS -> w'.heap.size = w.heap.size + 1 -> K (.pointer (some ⟨w.heap.size, 0, none⟩)) w') : aD pg (fW 111) w K := oU (i := Tryz.t111) aIm rfl hk
theorem aDb {b off : Nat} {cs : List aNY} {w : aNX} {xs : Array aNY} {K : aNY -> aNX -> Prop} (ho : eM w b cs) (hs : xs.size = 2) (hv : ∀ x ∈ xs.toList, one x = true) (h : off + 2 <= cs.length) (hk : ∀ w', eM w' b (bM cs off xs.toList) -> aW w w' (fun x => x = b) -> w'.heap.size = w.heap.size -> K undef w') : aD pg (aT 111 (.pointer (some ⟨b, off, none⟩)) (.agg xs)) w K := pZ (v := .agg xs) aIm ho hs hv h hk
theorem Rp {b off : Nat} {cs : List aNY} {w : aNX} (ho : eM w b cs) (h : off + 2 <= cs.length) : (aL 108 (.pointer (some ⟨b, off, none⟩))).run pg w = .ok (.value (.agg ((cs.drop off).take 2).toArray)) w := zQ Tryz.underlying108 rfl aBE ho h
theorem oM {k : IntKind} {a : Int} (b o : Nat) (w : aNX) (h0 : 0 <= a) (h1 : a < 2) : (cI 111 (.pointer (some ⟨b, o, none⟩)) (.int k a)).run pg w = .ok (.value (.pointer (some ⟨b, o + a.toNat, none⟩))) w := anS rfl Tryz.underlying111 Bk b o h0 (by simpa using h1)
theorem aJ9 : (pg).info? 106 = some Tryz.t106 := by kernel_rfl
theorem cT (b o : Nat) (w : aNX) : (aK 108 (.pointer (some ⟨b, o, none⟩)) 1).run pg w = .ok (.value (.pointer (some ⟨b, o + 1, none⟩))) w := jQ (i := 1) Tryz.underlying108 rfl aJ9 (by decide) _
theorem gB (x : Addr) (w : aNX) : (aL 106 (.pointer (some x))).run pg w = ldC (w.cell? x) w (far pg 106 x w) := akC Tryz.underlying106 rfl x w
theorem ayO : (pg).info? 115 = some Tryz.t115 := by kernel_rfl
theorem gV {k : IntKind} {a : Int} (b o n c : Nat) (w : aNX) (h0 : 0 <= a) (h1 : a < n) : (cI 106 (.slice (some ⟨b, o, none⟩) n c) (.int k a)).run pg w = .ok (.value (.pointer (some ⟨b, o + a.toNat * 3, none⟩))) w := SC rfl Tryz.underlying106 ayO b o n c h0 h1
theorem Zv {b off : Nat} {cs : List aNY} {w : aNX} (ho : eM w b cs) (h : off + 3 <= cs.length) : (aL 115 (.pointer (some ⟨b, off, none⟩))).run pg w = .ok (.value (.agg ((cs.drop off).take 3).toArray)) w := zQ Tryz.underlying115 rfl ayO ho h
theorem amB {w : aNX} {K : aNY -> aNX -> Prop} (hk : ∀ w', eM w' w.heap.size [(.int .u8 0), (.int .i64 0), (.int .i64 0)] -> aW w w' eS -> w'.heap.size = w.heap.size + 1 -> K (.pointer (some ⟨w.heap.size, 0, none⟩)) w') : aD pg (fW 115) w K := oU (i := Tryz.t115) ayO rfl hk
theorem ZA {b off : Nat} {cs : List aNY} {w : aNX} {xs : Array aNY} {K : aNY -> aNX -> Prop} (ho : eM w b cs) (hs : xs.size = 3) (hv : ∀ x ∈ xs.toList, one x = true) (h : off + 3 <= cs.length) (hk : ∀ w', eM w' b (bM cs off xs.toList) -> aW w w' (fun x => x = b) -> w'.heap.size = w.heap.size -> K undef w') : aD pg (aT 115 (.pointer (some ⟨b, off, none⟩)) (.agg xs)) w K := pZ (v := .agg xs) ayO ho hs hv h hk
theorem eJ (b o : Nat) (w : aNX) : (aK 115 (.pointer (some ⟨b, o, none⟩)) 0).run pg w = .ok (.value (.pointer (some ⟨b, o, none⟩))) w := jQ (i := 0) Tryz.underlying115 rfl S0 (by decide) _
theorem gP (b o : Nat) (w : aNX) : (aK 115 (.pointer (some ⟨b, o, none⟩)) 1).run pg w = .ok (.value (.pointer (some ⟨b, o + 1, none⟩))) w := jQ (i := 1) Tryz.underlying115 rfl Bk (by decide) _
theorem aB9 : (pg).info? 122 = some Tryz.t122 := by kernel_rfl
theorem xH {w : aNX} {K : aNY -> aNX -> Prop} (hk : ∀ w', eM w' w.heap.size [(.int .i64 0), (.slice none 0 0)] -> aW w w' eS -> w'.heap.size = w.heap.size + 1 -> K (.pointer (some ⟨w.heap.size, 0, none⟩)) w') : aD pg (fW 122) w K := oU (i := Tryz.t122) aB9 rfl hk
theorem uZ {b off : Nat} {cs : List aNY} {w : aNX} {xs : Array aNY} {K : aNY -> aNX -> Prop} (ho : eM w b cs) (hs : xs.size = 2) (hv : ∀ x ∈ xs.toList, one x = true) (h : off + 2 <= cs.length) (hk : ∀ w', eM w' b (bM cs off xs.toList) -> aW w w' (fun x => x = b) -> w'.heap.size = w.heap.size -> K undef w') : aD pg (aT 122 (.pointer (some ⟨b, off, none⟩)) (.agg xs)) w K := pZ (v := .agg xs) aB9 ho hs hv h hk
theorem PK {b off : Nat} {cs : List aNY} {w : aNX} (ho : eM w b cs) (h : off + 2 <= cs.length) : (aL 122 (.pointer (some ⟨b, off, none⟩))).run pg w = .ok (.value (.agg ((cs.drop off).take 2).toArray)) w := zQ Tryz.underlying122 rfl aB9 ho h
theorem aFm : (pg).info? 73 = some Tryz.t73 := by kernel_rfl
theorem Ul {w : aNX} {K : aNY -> aNX -> Prop} (hk : ∀ w', eM w' w.heap.size [(.int .i64 0), (.int .i64 0), (.int .i64 0), (.int .i64 0)] -> aW w w' eS -> w'.heap.size = w.heap.size + 1 -> K (.pointer (some ⟨w.heap.size, 0, none⟩)) w') : aD pg (fW 73) w K := oU (i := Tryz.t73) aFm rfl hk
theorem XK {b off : Nat} {cs : List aNY} {w : aNX} {xs : Array aNY} {K : aNY -> aNX -> Prop} (ho : eM w b cs) (hs : xs.size = 4) (hv : ∀ x ∈ xs.toList, one x = true) (h : off + 4 <= cs.length) (hk : ∀ w', eM w' b (bM cs off xs.toList) -> aW w w' (fun x => x = b) -> w'.heap.size = w.heap.size -> K undef w') : aD pg (aT 73 (.pointer (some ⟨b, off, none⟩)) (.agg xs)) w K := pZ (v := .agg xs) aFm ho hs hv h hk
theorem nT {k : IntKind} {a : Int} (b o : Nat) (w : aNX) (h0 : 0 <= a) (h1 : a < 4) : (cI 73 (.pointer (some ⟨b, o, none⟩)) (.int k a)).run pg w = .ok (.value (.pointer (some ⟨b, o + a.toNat, none⟩))) w := anS rfl Tryz.underlying73 Bk b o h0 (by simpa using h1)
theorem aB4 : (pg).info? 128 = some Tryz.t128 := by kernel_rfl
theorem wO {w : aNX} {K : aNY -> aNX -> Prop} (hk : ∀ w', eM w' w.heap.size [(.int .i64 0), (.slice none 0 0)] -> aW w w' eS -> w'.heap.size = w.heap.size + 1 -> K (.pointer (some ⟨w.heap.size, 0, none⟩)) w') : aD pg (fW 128) w K := oU (i := Tryz.t128) aB4 rfl hk
theorem sG {b off : Nat} {cs : List aNY} {w : aNX} {xs : Array aNY} {K : aNY -> aNX -> Prop} (ho : eM w b cs) (hs : xs.size = 2) (hv : ∀ x ∈ xs.toList, one x = true) (h : off + 2 <= cs.length) (hk : ∀ w', eM w' b (bM cs off xs.toList) -> aW w w' (fun x => x = b) -> w'.heap.size = w.heap.size -> K undef w') : aD pg (aT 128 (.pointer (some ⟨b, off, none⟩)) (.agg xs)) w K := pZ (v := .agg xs) aB4 ho hs hv h hk
theorem aBP : (pg).info? 133 = some Tryz.t133 := by kernel_rfl
theorem jV {w : aNX} {K : aNY -> aNX -> Prop} (hk : ∀ w', eM w' w.heap.size [(.slice none 0 0), (.int .i64 0)] -> aW w w' eS -> w'.heap.size = w.heap.size + 1 -> K (.pointer (some ⟨w.heap.size, 0, none⟩)) w') : aD pg (fW 133) w K := oU (i := Tryz.t133) aBP rfl hk
theorem cL {b off : Nat} {cs : List aNY} {w : aNX} {xs : Array aNY} {K : aNY -> aNX -> Prop} (ho : eM w b cs) (hs : xs.size = 2) (hv : ∀ x ∈ xs.toList, one x = true) (h : off + 2 <= cs.length) (hk : ∀ w', eM w' b (bM cs off xs.toList) -> aW w w' (fun x => x = b) -> w'.heap.size = w.heap.size -> K undef w') : aD pg (aT 133 (.pointer (some ⟨b, off, none⟩)) (.agg xs)) w K := pZ (v := .agg xs) aBP ho hs hv h hk
theorem qA {b off : Nat} {cs : List aNY} {w : aNX} (ho : eM w b cs) (h : off + 2 <= cs.length) : (aL 128 (.pointer (some ⟨b, off, none⟩))).run pg w = .ok (.value (.agg ((cs.drop off).take 2).toArray)) w := zQ Tryz.underlying128 rfl aB4 ho h
theorem aBs : (pg).info? 138 = some Tryz.t138 := by kernel_rfl
theorem BX {w : aNX} {K : aNY -> aNX -> Prop} (hk : ∀ w', eM w' w.heap.size [(.int .i64 0), (.slice none 0 0)] -> aW w w' eS -> w'.heap.size = w.heap.size + 1 -> K (.pointer (some ⟨w.heap.size, 0, none⟩)) w') : aD pg (fW 138) w K := oU (i := Tryz.t138) aBs rfl hk
theorem AA {b off : Nat} {cs : List aNY} {w : aNX} {xs : Array aNY} {K : aNY -> aNX -> Prop} (ho : eM w b cs) (hs : xs.size = 2) (hv : ∀ x ∈ xs.toList, one x = true) (h : off + 2 <= cs.length) (hk : ∀ w', eM w' b (bM cs off xs.toList) -> aW w w' (fun x => x = b) -> w'.heap.size = w.heap.size -> K undef w') : aD pg (aT 138 (.pointer (some ⟨b, off, none⟩)) (.agg xs)) w K := pZ (v := .agg xs) aBs ho hs hv h hk
theorem vQ {b off : Nat} {cs : List aNY} {w : aNX} (ho : eM w b cs) (h : off + 2 <= cs.length) : (aL 138 (.pointer (some ⟨b, off, none⟩))).run pg w = .ok (.value (.agg ((cs.drop off).take 2).toArray)) w := zQ Tryz.underlying138 rfl aBs ho h
theorem fM {b off : Nat} {cs : List aNY} {w : aNX} (ho : eM w b cs) (h : off + 2 <= cs.length) : (aL 133 (.pointer (some ⟨b, off, none⟩))).run pg w = .ok (.value (.agg ((cs.drop off).take 2).toArray)) w := zQ Tryz.underlying133 rfl aBP ho h
theorem aH6 : (pg).info? 136 = some Tryz.t136 := by kernel_rfl
theorem bN (b o : Nat) (w : aNX) : (aK 138 (.pointer (some ⟨b, o, none⟩)) 1).run pg w = .ok (.value (.pointer (some ⟨b, o + 1, none⟩))) w := jQ (i := 1) Tryz.underlying138 rfl aH6 (by decide) _
theorem bG (x : Addr) (w : aNX) : (aL 136 (.pointer (some x))).run pg w = ldC (w.cell? x) w (far pg 136 x w) := akC Tryz.underlying136 rfl x w
theorem aoJ : (pg).info? 145 = some Tryz.t145 := by kernel_rfl
theorem bT {k : IntKind} {a : Int} (b o n c : Nat) (w : aNX) (h0 : 0 <= a) (h1 : a < n) : (cI 136 (.slice (some ⟨b, o, none⟩) n c) (.int k a)).run pg w = .ok (.value (.pointer (some ⟨b, o + a.toNat * 3, none⟩))) w := SC rfl Tryz.underlying136 aoJ b o n c h0 h1
theorem Vb {b off : Nat} {cs : List aNY} {w : aNX} (ho : eM w b cs) (h : off + 3 <= cs.length) : (aL 145 (.pointer (some ⟨b, off, none⟩))).run pg w = .ok (.value (.agg ((cs.drop off).take 3).toArray)) w := zQ Tryz.underlying145 rfl aoJ ho h
theorem Xr {w : aNX} {K : aNY -> aNX -> Prop} (hk : ∀ w', eM w' w.heap.size [(.int .i64 0), (.int .i64 0), (.int .i64 0)] -> aW w w' eS -> w'.heap.size = w.heap.size + 1 -> K (.pointer (some ⟨w.heap.size, 0, none⟩)) w') : aD pg (fW 145) w K := oU (i := Tryz.t145) aoJ rfl hk
theorem Vj {b off : Nat} {cs : List aNY} {w : aNX} {xs : Array aNY} {K : aNY -> aNX -> Prop} (ho : eM w b cs) (hs : xs.size = 3) (hv : ∀ x ∈ xs.toList, one x = true) (h : off + 3 <= cs.length) (hk : ∀ w', eM w' b (bM cs off xs.toList) -> aW w w' (fun x => x = b) -> w'.heap.size = w.heap.size -> K undef w') : aD pg (aT 145 (.pointer (some ⟨b, off, none⟩)) (.agg xs)) w K := pZ (v := .agg xs) aoJ ho hs hv h hk
theorem bU (b o : Nat) (w : aNX) : (aK 145 (.pointer (some ⟨b, o, none⟩)) 0).run pg w = .ok (.value (.pointer (some ⟨b, o, none⟩))) w := jQ (i := 0) Tryz.underlying145 rfl Bk (by decide) _
theorem cM (b o : Nat) (w : aNX) : (aK 145 (.pointer (some ⟨b, o, none⟩)) 1).run pg w = .ok (.value (.pointer (some ⟨b, o + 1, none⟩))) w := jQ (i := 1) Tryz.underlying145 rfl Bk (by decide) _
theorem gL  (w : aNX) : (fX 148 []).run pg w = .ok (.value (.agg #[(.int .i64 0), (.int .i64 0)])) w := by kernel_rfl
theorem aCd : (pg).info? 148 = some Tryz.t148 := by kernel_rfl
theorem SU {n : Nat} {ps : List (Nat × aNY)} {cells : Array aNY} {w : aNX} (h1 : ¬ n * 2 > 2 ^ 24) (h0 : ¬ n * 2 = 0) (hf : Go.Instr.fill (fun j => some (j * 2, 2)) ((Array.range (n * 2)).map ((Tryz.t148.zero.get!).cells[· % (Tryz.t148.zero.get!).cells.size]!)) ps = some cells) {K : aNY -> aNX -> Prop} (hk : ∀ w', eM w' w.heap.size cells.toList -> aW w w' eS -> w'.heap.size = w.heap.size + 1 -> K (.slice (some ⟨w.heap.size, 0, none⟩) n n) w') : aD pg (cU 84 n ps) w K := Iq (i := Tryz.t148) Tryz.underlying84 aCd rfl h1 h0 hf hk
theorem xU {base n m : Nat} {ty : TypeId} {w : aNX} {v x : aNY} {l news : List aNY} (h : tE w base 2 v n l) (hx : Cl w 2 x m news) (hone : ∀ y ∈ news, one y = true) (hb : base <= w.heap.size) (hbytes : (n + m) * 16 <= 140737488355328) {K : aNY -> aNX -> Prop} (hk : ∀ v' w', tE w' base 2 v' (n + m) (l ++ news) -> aW w w' (fun y => base <= y) -> K v' w') : aD pg (lI .append #[84, 84] ty [v, x]) w K := Oc (i := Tryz.t148) Tryz.underlying84 Tryz.underlying84 aCd rfl rfl rfl h hx hone hb (by omega) hbytes (by decide) hk
theorem eL (n0 : Int) (n1 : Int) (w : aNX) : (fX 148 [(0, (.int .i64 n0)), (1, (.int .i64 n1))]).run pg w = .ok (.value (.agg #[(.int .i64 n0), (.int .i64 n1)])) w := by kernel_rfl
theorem dJ {k : IntKind} {a : Int} (b o n c : Nat) (w : aNX) (h0 : 0 <= a) (h1 : a < n) : (cI 84 (.slice (some ⟨b, o, none⟩) n c) (.int k a)).run pg w = .ok (.value (.pointer (some ⟨b, o + a.toNat * 2, none⟩))) w := SC rfl Tryz.underlying84 aCd b o n c h0 h1
theorem Vz {b off : Nat} {cs : List aNY} {w : aNX} {xs : Array aNY} {K : aNY -> aNX -> Prop} (ho : eM w b cs) (hs : xs.size = 2) (hv : ∀ x ∈ xs.toList, one x = true) (h : off + 2 <= cs.length) (hk : ∀ w', eM w' b (bM cs off xs.toList) -> aW w w' (fun x => x = b) -> w'.heap.size = w.heap.size -> K undef w') : aD pg (aT 148 (.pointer (some ⟨b, off, none⟩)) (.agg xs)) w K := pZ (v := .agg xs) aCd ho hs hv h hk
theorem aDH {b off : Nat} {cs : List aNY} {w : aNX} (ho : eM w b cs) (h : off + 4 <= cs.length) : (aL 73 (.pointer (some ⟨b, off, none⟩))).run pg w = .ok (.value (.agg ((cs.drop off).take 4).toArray)) w := zQ Tryz.underlying73 rfl aFm ho h
theorem fQ (b o : Nat) (w : aNX) : (aK 92 (.pointer (some ⟨b, o, none⟩)) 0).run pg w = .ok (.value (.pointer (some ⟨b, o, none⟩))) w := jQ (i := 0) Tryz.underlying92 rfl axZ (by decide) _
theorem lH {k k' : IntKind} {hi mx : Int} (a : Option Addr) (n c : Nat) (w : aNX) (h0 : 0 <= hi) (h1 : hi <= mx) (h2 : mx <= c) : (mD 22 (.slice a n c) none (some (.int k hi)) (some (.int k' mx))).run pg w = .ok (.value (.slice (mZ a mx.toNat 0 1) (hi.toNat - 0) (mx.toNat - 0))) w := aDS Tryz.underlying22 S0 a n c h0 h1 h2
theorem kE {k : IntKind} (a : Int) (w : aNX) : (jP 94 24 (.int k a)).run pg w = .ok (.value (.int .u64 (IntKind.u64.wrap a))) w := Iy Tryz.underlying94 Tryz.underlying24
theorem kF {k : IntKind} (a : Int) (w : aNX) : (jP 24 94 (.int k a)).run pg w = .ok (.value (.int .u32 (IntKind.u32.wrap a))) w := Iy Tryz.underlying24 Tryz.underlying94
theorem QI {b off : Nat} {cs : List aNY} {w : aNX} (ho : eM w b cs) (h : off + 2 <= cs.length) {K : aNY -> Prop} (hk : K (.agg ((cs.drop off).take 2).toArray)) : Ac pg 100 (.pointer (some ⟨b, off, none⟩)) w K := Gg Tryz.underlying100 rfl aBu ho h hk
theorem fZ  (w : aNX) : (fX 100 []).run pg w = .ok (.value (.agg #[(.int .i64 0), (.slice none 0 0)])) w := by kernel_rfl
theorem iG (n0 : Int) (w : aNX) : (fX 100 [(0, (.int .i64 n0))]).run pg w = .ok (.value (.agg #[(.int .i64 n0), (.slice none 0 0)])) w := by kernel_rfl
theorem bV (b o : Nat) (w : aNX) : (aK 100 (.pointer (some ⟨b, o, none⟩)) 0).run pg w = .ok (.value (.pointer (some ⟨b, o, none⟩))) w := jQ (i := 0) Tryz.underlying100 rfl Bk (by decide) _
theorem aHo : (pg).info? 42 = some Tryz.t42 := by kernel_rfl
theorem bK (b o : Nat) (w : aNX) : (aK 100 (.pointer (some ⟨b, o, none⟩)) 1).run pg w = .ok (.value (.pointer (some ⟨b, o + 1, none⟩))) w := jQ (i := 1) Tryz.underlying100 rfl aHo (by decide) _
theorem dS (x : Addr) (w : aNX) : (aL 42 (.pointer (some x))).run pg w = ldC (w.cell? x) w (far pg 42 x w) := akC Tryz.underlying42 rfl x w
theorem Tu {base n m : Nat} {ty : TypeId} {w : aNX} {v x : aNY} {l news : List aNY} (h : tE w base 1 v n l) (hx : Cl w 1 x m news) (hone : ∀ y ∈ news, one y = true) (hb : base <= w.heap.size) (hbytes : (n + m) * 8 <= 140737488355328) {K : aNY -> aNX -> Prop} (hk : ∀ v' w', tE w' base 1 v' (n + m) (l ++ news) -> aW w w' (fun y => base <= y) -> K v' w') : aD pg (lI .append #[42, 42] ty [v, x]) w K := Oc (i := Tryz.t3) Tryz.underlying42 Tryz.underlying42 Bk rfl rfl rfl h hx hone hb (by omega) hbytes (by decide) hk
theorem anC {b off : Nat} {cs : List aNY} {w : aNX} {v : aNY} {K : aNY -> aNX -> Prop} (ho : eM w b cs) (hv : one v = true) (h : off < cs.length) (hk : ∀ w', eM w' b (cs.set off v) -> aW w w' (fun x => x = b) -> w'.heap.size = w.heap.size -> K undef w') : aD pg (aT 42 (.pointer (some ⟨b, off, none⟩)) v) w K := uV aHo rfl ho hv h hk
theorem gC {ty : TypeId} (x : Option Addr) (n c : Nat) (w : aNX) : (lI .len #[42] ty [.slice x n c]).run pg w = .ok (.value (.int .i64 n)) w := aeT Tryz.underlying42 x n c
theorem gF (a0 : Option Addr) (l0 c0 : Nat) (n1 : Int) (w : aNX) : (fX 165 [(0, (.slice a0 l0 c0)), (1, (.int .i64 n1))]).run pg w = .ok (.value (.agg #[(.slice a0 l0 c0), (.int .i64 n1)])) w := by kernel_rfl
theorem aAr {b off : Nat} {cs : List aNY} {w : aNX} (ho : eM w b cs) (h : off + 2 <= cs.length) {K : aNY -> Prop} (hk : K (.agg ((cs.drop off).take 2).toArray)) : Ac pg 108 (.pointer (some ⟨b, off, none⟩)) w K := Gg Tryz.underlying108 rfl aBE ho h hk
theorem mE  (w : aNX) : (fX 108 []).run pg w = .ok (.value (.agg #[(.int .i64 0), (.slice none 0 0)])) w := by kernel_rfl
theorem jG (n0 : Int) (a1 : Option Addr) (l1 c1 : Nat) (w : aNX) : (fX 108 [(0, (.int .i64 n0)), (1, (.slice a1 l1 c1))]).run pg w = .ok (.value (.agg #[(.int .i64 n0), (.slice a1 l1 c1)])) w := by kernel_rfl
theorem aGc {k : IntKind} {n : Int} {w : aNX} {K : aNY -> aNX -> Prop} (h0 : 0 <= n) (hn : 8 * n <= 2 ^ 48) (hk : ∀ w', eM w' w.heap.size (List.replicate n.toNat (.int .i64 0)) -> aW w w' eS -> w'.heap.size = w.heap.size + 1 -> K (.slice (some ⟨w.heap.size, 0, none⟩) n.toNat n.toNat) w') : aD pg (qG 42 (.int k n) (.int k n)) w K := aDp (i := Tryz.t3) Tryz.underlying42 Bk rfl rfl rfl h0 hn (by omega) hk
theorem iP {ty : TypeId} (x : Option Addr) (n c : Nat) (w : aNX) : (lI .len #[106] ty [.slice x n c]).run pg w = .ok (.value (.int .i64 n)) w := aeT Tryz.underlying106 x n c
theorem iK (b o : Nat) (w : aNX) : (aK 115 (.pointer (some ⟨b, o, none⟩)) 2).run pg w = .ok (.value (.pointer (some ⟨b, o + 2, none⟩))) w := jQ (i := 2) Tryz.underlying115 rfl Bk (by decide) _
theorem jR (b o : Nat) (w : aNX) : (aK 108 (.pointer (some ⟨b, o, none⟩)) 0).run pg w = .ok (.value (.pointer (some ⟨b, o, none⟩))) w := jQ (i := 0) Tryz.underlying108 rfl Bk (by decide) _
theorem eY {ox oy : Operand} (x : Option Addr) (w : aNX) : (aI .eql 103 ox oy (.pointer x) (.pointer none)).run pg w = .ok (.value (.bool x.isNone)) w := azM Tryz.underlying103 x
theorem dZ (b o : Nat) (w : aNX) : (aK 165 (.pointer (some ⟨b, o, none⟩)) 1).run pg w = .ok (.value (.pointer (some ⟨b, o + 1, none⟩))) w := jQ (i := 1) Tryz.underlying165 rfl Bk (by decide) _
theorem XJ {b off : Nat} {cs : List aNY} {w : aNX} (ho : eM w b cs) (h : off + 2 <= cs.length) {K : aNY -> Prop} (hk : K (.agg ((cs.drop off).take 2).toArray)) : Ac pg 122 (.pointer (some ⟨b, off, none⟩)) w K := Gg Tryz.underlying122 rfl aB9 ho h hk
theorem kP  (w : aNX) : (fX 122 []).run pg w = .ok (.value (.agg #[(.int .i64 0), (.slice none 0 0)])) w := by kernel_rfl
theorem fJ {ty : TypeId} (x : Option Addr) (n c : Nat) (w : aNX) : (lI .len #[152] ty [.slice x n c]).run pg w = .ok (.value (.int .i64 n)) w := aeT Tryz.underlying152 x n c
theorem awG : (pg).info? 171 = some Tryz.t171 := by kernel_rfl
theorem eN {k : IntKind} {a : Int} (b o n c : Nat) (w : aNX) (h0 : 0 <= a) (h1 : a < n) : (cI 152 (.slice (some ⟨b, o, none⟩) n c) (.int k a)).run pg w = .ok (.value (.pointer (some ⟨b, o + a.toNat * 2, none⟩))) w := SC rfl Tryz.underlying152 awG b o n c h0 h1
theorem Tb {b off : Nat} {cs : List aNY} {w : aNX} (ho : eM w b cs) (h : off + 2 <= cs.length) : (aL 171 (.pointer (some ⟨b, off, none⟩))).run pg w = .ok (.value (.agg ((cs.drop off).take 2).toArray)) w := zQ Tryz.underlying171 rfl awG ho h
theorem UP {w : aNX} {K : aNY -> aNX -> Prop} (hk : ∀ w', eM w' w.heap.size [(.int .i64 0), (.int .i64 0)] -> aW w w' eS -> w'.heap.size = w.heap.size + 1 -> K (.pointer (some ⟨w.heap.size, 0, none⟩)) w') : aD pg (fW 171) w K := oU (i := Tryz.t171) awG rfl hk
theorem Iw {b off : Nat} {cs : List aNY} {w : aNX} {xs : Array aNY} {K : aNY -> aNX -> Prop} (ho : eM w b cs) (hs : xs.size = 2) (hv : ∀ x ∈ xs.toList, one x = true) (h : off + 2 <= cs.length) (hk : ∀ w', eM w' b (bM cs off xs.toList) -> aW w w' (fun x => x = b) -> w'.heap.size = w.heap.size -> K undef w') : aD pg (aT 171 (.pointer (some ⟨b, off, none⟩)) (.agg xs)) w K := pZ (v := .agg xs) awG ho hs hv h hk
theorem gA (b o : Nat) (w : aNX) : (aK 122 (.pointer (some ⟨b, o, none⟩)) 0).run pg w = .ok (.value (.pointer (some ⟨b, o, none⟩))) w := jQ (i := 0) Tryz.underlying122 rfl Bk (by decide) _
theorem dC (b o : Nat) (w : aNX) : (aK 171 (.pointer (some ⟨b, o, none⟩)) 0).run pg w = .ok (.value (.pointer (some ⟨b, o, none⟩))) w := jQ (i := 0) Tryz.underlying171 rfl Bk (by decide) _
theorem ayE : (pg).info? 173 = some Tryz.t173 := by kernel_rfl
theorem ajL {k : IntKind} {n : Int} {w : aNX} {K : aNY -> aNX -> Prop} (h0 : 0 <= n) (hn : 16 * n <= 2 ^ 48) (hk : ∀ w', eM w' w.heap.size (Gn n.toNat [(.int .u8 0), (.int .i64 0)]) -> aW w w' eS -> w'.heap.size = w.heap.size + 1 -> K (.slice (some ⟨w.heap.size, 0, none⟩) n.toNat n.toNat) w') : aD pg (qG 120 (.int k n) (.int k n)) w K := aqY (i := Tryz.t173) Tryz.underlying120 ayE rfl (by decide) rfl rfl h0 hn (by omega) hk
theorem aGP : (pg).info? 120 = some Tryz.t120 := by kernel_rfl
theorem fI (b o : Nat) (w : aNX) : (aK 122 (.pointer (some ⟨b, o, none⟩)) 1).run pg w = .ok (.value (.pointer (some ⟨b, o + 1, none⟩))) w := jQ (i := 1) Tryz.underlying122 rfl aGP (by decide) _
theorem aoE {b off : Nat} {cs : List aNY} {w : aNX} {v : aNY} {K : aNY -> aNX -> Prop} (ho : eM w b cs) (hv : one v = true) (h : off < cs.length) (hk : ∀ w', eM w' b (cs.set off v) -> aW w w' (fun x => x = b) -> w'.heap.size = w.heap.size -> K undef w') : aD pg (aT 120 (.pointer (some ⟨b, off, none⟩)) v) w K := uV aGP rfl ho hv h hk
theorem fA (b o : Nat) (w : aNX) : (aK 171 (.pointer (some ⟨b, o, none⟩)) 1).run pg w = .ok (.value (.pointer (some ⟨b, o + 1, none⟩))) w := jQ (i := 1) Tryz.underlying171 rfl Bk (by decide) _
theorem hJ (x : Addr) (w : aNX) : (aL 120 (.pointer (some x))).run pg w = ldC (w.cell? x) w (far pg 120 x w) := akC Tryz.underlying120 rfl x w
theorem iZ (n0 : Int) (n1 : Int) (w : aNX) : (fX 173 [(0, (.int .u8 n0)), (1, (.int .i64 n1))]).run pg w = .ok (.value (.agg #[(.int .u8 n0), (.int .i64 n1)])) w := by kernel_rfl
theorem jC {k : IntKind} {a : Int} (b o n c : Nat) (w : aNX) (h0 : 0 <= a) (h1 : a < n) : (cI 120 (.slice (some ⟨b, o, none⟩) n c) (.int k a)).run pg w = .ok (.value (.pointer (some ⟨b, o + a.toNat * 2, none⟩))) w := SC rfl Tryz.underlying120 ayE b o n c h0 h1
theorem Wa {b off : Nat} {cs : List aNY} {w : aNX} {xs : Array aNY} {K : aNY -> aNX -> Prop} (ho : eM w b cs) (hs : xs.size = 2) (hv : ∀ x ∈ xs.toList, one x = true) (h : off + 2 <= cs.length) (hk : ∀ w', eM w' b (bM cs off xs.toList) -> aW w w' (fun x => x = b) -> w'.heap.size = w.heap.size -> K undef w') : aD pg (aT 173 (.pointer (some ⟨b, off, none⟩)) (.agg xs)) w K := pZ (v := .agg xs) ayE ho hs hv h hk
theorem azS {b off : Nat} {cs : List aNY} {w : aNX} (ho : eM w b cs) (h : off + 2 <= cs.length) : (aL 173 (.pointer (some ⟨b, off, none⟩))).run pg w = .ok (.value (.agg ((cs.drop off).take 2).toArray)) w := zQ Tryz.underlying173 rfl ayE ho h
theorem aAp {w : aNX} {K : aNY -> aNX -> Prop} (hk : ∀ w', eM w' w.heap.size [(.int .u8 0), (.int .i64 0)] -> aW w w' eS -> w'.heap.size = w.heap.size + 1 -> K (.pointer (some ⟨w.heap.size, 0, none⟩)) w') : aD pg (fW 173) w K := oU (i := Tryz.t173) ayE rfl hk
theorem gH (b o : Nat) (w : aNX) : (aK 173 (.pointer (some ⟨b, o, none⟩)) 0).run pg w = .ok (.value (.pointer (some ⟨b, o, none⟩))) w := jQ (i := 0) Tryz.underlying173 rfl S0 (by decide) _
theorem iE (b o : Nat) (w : aNX) : (aK 173 (.pointer (some ⟨b, o, none⟩)) 1).run pg w = .ok (.value (.pointer (some ⟨b, o + 1, none⟩))) w := jQ (i := 1) Tryz.underlying173 rfl Bk (by decide) _
theorem aDy {b off : Nat} {cs : List aNY} {w : aNX} (ho : eM w b cs) (h : off + 4 <= cs.length) {K : aNY -> Prop} (hk : K (.agg ((cs.drop off).take 4).toArray)) : Ac pg 73 (.pointer (some ⟨b, off, none⟩)) w K := Gg Tryz.underlying73 rfl aFm ho h hk
theorem Hq {b off : Nat} {cs : List aNY} {w : aNX} (ho : eM w b cs) (h : off + 2 <= cs.length) {K : aNY -> Prop} (hk : K (.agg ((cs.drop off).take 2).toArray)) : Ac pg 128 (.pointer (some ⟨b, off, none⟩)) w K := Gg Tryz.underlying128 rfl aB4 ho h hk
theorem fC (a0 : Option Addr) (l0 c0 : Nat) (w : aNX) : (fX 176 [(0, (.slice a0 l0 c0))]).run pg w = .ok (.value (.agg #[(.slice a0 l0 c0), (.int .i64 0)])) w := by kernel_rfl
theorem aBN : (pg).info? 176 = some Tryz.t176 := by kernel_rfl
theorem BH {w : aNX} {K : aNY -> aNX -> Prop} (hk : ∀ w', eM w' w.heap.size [(.slice none 0 0), (.int .i64 0)] -> aW w w' eS -> w'.heap.size = w.heap.size + 1 -> K (.pointer (some ⟨w.heap.size, 0, none⟩)) w') : aD pg (fW 176) w K := oU (i := Tryz.t176) aBN rfl hk
theorem eZ {b off : Nat} {cs : List aNY} {w : aNX} {xs : Array aNY} {K : aNY -> aNX -> Prop} (ho : eM w b cs) (hs : xs.size = 2) (hv : ∀ x ∈ xs.toList, one x = true) (h : off + 2 <= cs.length) (hk : ∀ w', eM w' b (bM cs off xs.toList) -> aW w w' (fun x => x = b) -> w'.heap.size = w.heap.size -> K undef w') : aD pg (aT 176 (.pointer (some ⟨b, off, none⟩)) (.agg xs)) w K := pZ (v := .agg xs) aBN ho hs hv h hk
theorem jJ {b off : Nat} {cs : List aNY} {w : aNX} (ho : eM w b cs) (h : off + 2 <= cs.length) : (aL 176 (.pointer (some ⟨b, off, none⟩))).run pg w = .ok (.value (.agg ((cs.drop off).take 2).toArray)) w := zQ Tryz.underlying176 rfl aBN ho h
theorem dI  (w : aNX) : (fX 128 []).run pg w = .ok (.value (.agg #[(.int .i64 0), (.slice none 0 0)])) w := by kernel_rfl
theorem eH (n0 : Int) (w : aNX) : (fX 128 [(0, (.int .i64 n0))]).run pg w = .ok (.value (.agg #[(.int .i64 n0), (.slice none 0 0)])) w := by kernel_rfl
theorem bB (b o : Nat) (w : aNX) : (aK 128 (.pointer (some ⟨b, o, none⟩)) 0).run pg w = .ok (.value (.pointer (some ⟨b, o, none⟩))) w := jQ (i := 0) Tryz.underlying128 rfl Bk (by decide) _
theorem aN (b o : Nat) (w : aNX) : (aK 128 (.pointer (some ⟨b, o, none⟩)) 1).run pg w = .ok (.value (.pointer (some ⟨b, o + 1, none⟩))) w := jQ (i := 1) Tryz.underlying128 rfl aHo (by decide) _
theorem mA {b off : Nat} {cs : List aNY} {w : aNX} (ho : eM w b cs) (h : off + 2 <= cs.length) {K : aNY -> Prop} (hk : K (.agg ((cs.drop off).take 2).toArray)) : Ac pg 133 (.pointer (some ⟨b, off, none⟩)) w K := Gg Tryz.underlying133 rfl aBP ho h hk
theorem dY  (w : aNX) : (fX 133 []).run pg w = .ok (.value (.agg #[(.slice none 0 0), (.int .i64 0)])) w := by kernel_rfl
theorem lL {ty : TypeId} (x : Option Addr) (n c : Nat) (w : aNX) : (lI .len #[131] ty [.slice x n c]).run pg w = .ok (.value (.int .i64 n)) w := aeT Tryz.underlying131 x n c
theorem aFI : (pg).info? 4 = some Tryz.t4 := by kernel_rfl
theorem nQ {k : IntKind} {a : Int} (b o n c : Nat) (w : aNX) (h0 : 0 <= a) (h1 : a < n) : (cI 131 (.slice (some ⟨b, o, none⟩) n c) (.int k a)).run pg w = .ok (.value (.pointer (some ⟨b, o + a.toNat, none⟩))) w := X6 rfl Tryz.underlying131 aFI b o n c h0 h1
theorem uK (x : Addr) (w : aNX) : (aL 4 (.pointer (some x))).run pg w = ldC (w.cell? x) w (far pg 4 x w) := akC Tryz.underlying4 rfl x w
theorem lM {k : IntKind} {hi : Int} (a : Option Addr) (n c : Nat) (w : aNX) (h0 : 0 <= hi) (h1 : hi <= c) : (mD 131 (.slice a n c) none (some (.int k hi)) none).run pg w = .ok (.value (.slice (mZ a c (0) 1) (hi.toNat - 0) (c - 0))) w := aAc Tryz.underlying131 aFI _ n c h0 h1
theorem fE (a0 : Option Addr) (l0 c0 : Nat) (w : aNX) : (fX 133 [(0, (.slice a0 l0 c0))]).run pg w = .ok (.value (.agg #[(.slice a0 l0 c0), (.int .i64 0)])) w := by kernel_rfl
theorem Vo {b off : Nat} {cs : List aNY} {w : aNX} (ho : eM w b cs) (h : off + 2 <= cs.length) {K : aNY -> Prop} (hk : K (.agg ((cs.drop off).take 2).toArray)) : Ac pg 138 (.pointer (some ⟨b, off, none⟩)) w K := Gg Tryz.underlying138 rfl aBs ho h hk
theorem fB  (w : aNX) : (fX 138 []).run pg w = .ok (.value (.agg #[(.int .i64 0), (.slice none 0 0)])) w := by kernel_rfl
theorem fD (n0 : Int) (w : aNX) : (fX 138 [(0, (.int .i64 n0))]).run pg w = .ok (.value (.agg #[(.int .i64 n0), (.slice none 0 0)])) w := by kernel_rfl
theorem eI (n0 : Int) (w : aNX) : (fX 145 [(0, (.int .i64 n0))]).run pg w = .ok (.value (.agg #[(.int .i64 n0), (.int .i64 0), (.int .i64 0)])) w := by kernel_rfl
theorem S1 {n : Nat} {ps : List (Nat × aNY)} {cells : Array aNY} {w : aNX} (h1 : ¬ n * 3 > 2 ^ 24) (h0 : ¬ n * 3 = 0) (hf : Go.Instr.fill (fun j => some (j * 3, 3)) ((Array.range (n * 3)).map ((Tryz.t145.zero.get!).cells[· % (Tryz.t145.zero.get!).cells.size]!)) ps = some cells) {K : aNY -> aNX -> Prop} (hk : ∀ w', eM w' w.heap.size cells.toList -> aW w w' eS -> w'.heap.size = w.heap.size + 1 -> K (.slice (some ⟨w.heap.size, 0, none⟩) n n) w') : aD pg (cU 136 n ps) w K := Iq (i := Tryz.t145) Tryz.underlying136 aoJ rfl h1 h0 hf hk
theorem yL {base n m : Nat} {ty : TypeId} {w : aNX} {v x : aNY} {l news : List aNY} (h : tE w base 3 v n l) (hx : Cl w 3 x m news) (hone : ∀ y ∈ news, one y = true) (hb : base <= w.heap.size) (hbytes : (n + m) * 24 <= 140737488355328) {K : aNY -> aNX -> Prop} (hk : ∀ v' w', tE w' base 3 v' (n + m) (l ++ news) -> aW w w' (fun y => base <= y) -> K v' w') : aD pg (lI .append #[136, 136] ty [v, x]) w K := Oc (i := Tryz.t145) Tryz.underlying136 Tryz.underlying136 aoJ rfl rfl rfl h hx hone hb (by omega) hbytes (by decide) hk
theorem SS {b off : Nat} {cs : List aNY} {w : aNX} {v : aNY} {K : aNY -> aNX -> Prop} (ho : eM w b cs) (hv : one v = true) (h : off < cs.length) (hk : ∀ w', eM w' b (cs.set off v) -> aW w w' (fun x => x = b) -> w'.heap.size = w.heap.size -> K undef w') : aD pg (aT 136 (.pointer (some ⟨b, off, none⟩)) v) w K := uV aH6 rfl ho hv h hk
theorem aJM : (pg).info? 183 = some Tryz.t183 := by kernel_rfl
theorem aBC {w : aNX} {K : aNY -> aNX -> Prop} (hk : ∀ w', eM w' w.heap.size [(.int .i64 0), (.int .i64 0), (.int .i64 0), (.int .i64 0), (.int .i64 0), (.int .i64 0), (.int .i64 0), (.int .i64 0), (.int .i64 0), (.int .i64 0), (.int .i64 0), (.int .i64 0), (.int .i64 0), (.int .i64 0), (.int .i64 0), (.int .i64 0), (.int .i64 0), (.int .i64 0), (.int .i64 0), (.int .i64 0), (.int .i64 0), (.int .i64 0), (.int .i64 0), (.int .i64 0), (.int .i64 0), (.int .i64 0), (.int .i64 0), (.int .i64 0), (.int .i64 0), (.int .i64 0), (.int .i64 0), (.int .i64 0), (.int .i64 0), (.int .i64 0), (.int .i64 0), (.int .i64 0), (.int .i64 0), (.int .i64 0), (.int .i64 0), (.int .i64 0), (.int .i64 0), (.int .i64 0), (.int .i64 0), (.int .i64 0), (.int .i64 0), (.int .i64 0), (.int .i64 0), (.int .i64 0), (.int .i64 0), (.int .i64 0), (.int .i64 0), (.int .i64 0), (.int .i64 0), (.int .i64 0), (.int .i64 0), (.int .i64 0), (.int .i64 0), (.int .i64 0), (.int .i64 0), (.int .i64 0), (.int .i64 0), (.int .i64 0), (.int .i64 0), (.int .i64 0), (.int .i64 0), (.int .i64 0), (.int .i64 0), (.int .i64 0), (.int .i64 0), (.int .i64 0), (.int .i64 0), (.int .i64 0), (.int .i64 0), (.int .i64 0), (.int .i64 0), (.int .i64 0), (.int .i64 0), (.int .i64 0), (.int .i64 0), (.int .i64 0), (.int .i64 0), (.int .i64 0), (.int .i64 0), (.int .i64 0), (.int .i64 0), (.int .i64 0), (.int .i64 0), (.int .i64 0), (.int .i64 0), (.int .i64 0), (.int .i64 0), (.int .i64 0), (.int .i64 0), (.int .i64 0), (.int .i64 0), (.int .i64 0), (.int .i64 0), (.int .i64 0), (.int .i64 0), (.int .i64 0), (.int .i64 0), (.int .i64 0), (.int .i64 0), (.int .i64 0), (.int .i64 0), (.int .i64 0), (.int .i64 0), (.int .i64 0), (.int .i64 0), (.int .i64 0), (.int .i64 0), (.int .i64 0), (.int .i64 0), (.int .i64 0), (.int .i64 0), (.int .i64 0), (.int .i64 0), (.int .i64 0), (.int .i64 0), (.int .i64 0), (.int .i64 0), (.int .i64 0), (.int .i64 0), (.int .i64 0), (.int .i64 0), (.int .i64 0), (.int .i64 0), (.int .i64 0), (.int .i64 0), (.int .i64 0), (.int .i64 0), (.int .i64 0), (.int .i64 0), (.int .i64 0), (.int .i64 0), (.int .i64 0), (.int .i64 0), (.int .i64 0), (.int .i64 0), (.int .i64 0), (.int .i64 0), (.int .i64 0), (.int .i64 0), (.int .i64 0), (.int .i64 0), (.int .i64 0), (.int .i64 0), (.int .i64 0), (.int .i64 0), (.int .i64 0), (.int .i64 0), (.int .i64 0), (.int .i64 0), (.int .i64 0), (.int .i64 0), (.int .i64 0), (.int .i64 0), (.int .i64 0), (.int .i64 0), (.int .i64 0), (.int .i64 0), (.int .i64 0), (.int .i64 0), (.int .i64 0), (.int .i64 0), (.int .i64 0), (.int .i64 0), (.int .i64 0), (.int .i64 0), (.int .i64 0), (.int .i64 0), (.int .i64 0), (.int .i64 0), (.int .i64 0), (.int .i64 0), (.int .i64 0), (.int .i64 0), (.int .i64 0), (.int .i64 0), (.int .i64 0), (.int .i64 0), (.int .i64 0), (.int .i64 0), (.int .i64 0), (.int .i64 0), (.int .i64 0), (.int .i64 0), (.int .i64 0), (.int .i64 0), (.int .i64 0), (.int .i64 0), (.int .i64 0), (.int .i64 0), (.int .i64 0), (.int .i64 0), (.int .i64 0), (.int .i64 0), (.int .i64 0), (.int .i64 0), (.int .i64 0), (.int .i64 0), (.int .i64 0), (.int .i64 0), (.int .i64 0), (.int .i64 0), (.int .i64 0), (.int .i64 0), (.int .i64 0), (.int .i64 0), (.int .i64 0), (.int .i64 0), (.int .i64 0), (.int .i64 0), (.int .i64 0), (.int .i64 0), (.int .i64 0), (.int .i64 0), (.int .i64 0), (.int .i64 0), (.int .i64 0), (.int .i64 0), (.int .i64 0), (.int .i64 0), (.int .i64 0), (.int .i64 0), (.int .i64 0), (.int .i64 0), (.int .i64 0), (.int .i64 0), (.int .i64 0), (.int .i64 0), (.int .i64 0), (.int .i64 0), (.int .i64 0), (.int .i64 0), (.int .i64 0), (.int .i64 0), (.int .i64 0), (.int .i64 0), (.int .i64 0), (.int .i64 0), (.int .i64 0), (.int .i64 0), (.int .i64 0), (.int .i64 0), (.int .i64 0), (.int .i64 0), (.int .i64 0), (.int .i64 0), (.int .i64 0), (.int .i64 0), (.int .i64 0), (.int .i64 0), (.int .i64 0), (.int .i64 0), (.int .i64 0)] -> aW w w' eS -> w'.heap.size = w.heap.size + 1 -> K (.pointer (some ⟨w.heap.size, 0, none⟩)) w') : aD pg (fW 183) w K := oU (i := Tryz.t183) aJM rfl hk
theorem mX {k : IntKind} {a : Int} (b o : Nat) (w : aNX) (h0 : 0 <= a) (h1 : a < 256) : (cI 183 (.pointer (some ⟨b, o, none⟩)) (.int k a)).run pg w = .ok (.value (.pointer (some ⟨b, o + a.toNat, none⟩))) w := anS rfl Tryz.underlying183 Bk b o h0 (by simpa using h1)
theorem dD (b o : Nat) (w : aNX) : (aK 145 (.pointer (some ⟨b, o, none⟩)) 2).run pg w = .ok (.value (.pointer (some ⟨b, o + 2, none⟩))) w := jQ (i := 2) Tryz.underlying145 rfl Bk (by decide) _
theorem dQ (b o : Nat) (w : aNX) : (aK 138 (.pointer (some ⟨b, o, none⟩)) 0).run pg w = .ok (.value (.pointer (some ⟨b, o, none⟩))) w := jQ (i := 0) Tryz.underlying138 rfl Bk (by decide) _
theorem aD0 : (pg).info? 131 = some Tryz.t131 := by kernel_rfl
theorem cJ (b o : Nat) (w : aNX) : (aK 133 (.pointer (some ⟨b, o, none⟩)) 0).run pg w = .ok (.value (.pointer (some ⟨b, o, none⟩))) w := jQ (i := 0) Tryz.underlying133 rfl aD0 (by decide) _
theorem lX (x : Addr) (w : aNX) : (aL 131 (.pointer (some x))).run pg w = ldC (w.cell? x) w (far pg 131 x w) := akC Tryz.underlying131 rfl x w
theorem cN (b o : Nat) (w : aNX) : (aK 133 (.pointer (some ⟨b, o, none⟩)) 1).run pg w = .ok (.value (.pointer (some ⟨b, o + 1, none⟩))) w := jQ (i := 1) Tryz.underlying133 rfl Bk (by decide) _
theorem dN {ty : TypeId} (x : Option Addr) (n c : Nat) (w : aNX) : (lI .len #[136] ty [.slice x n c]).run pg w = .ok (.value (.int .i64 n)) w := aeT Tryz.underlying136 x n c
theorem cZ {ty : TypeId} (x : Option Addr) (n c : Nat) (w : aNX) : (lI .len #[84] ty [.slice x n c]).run pg w = .ok (.value (.int .i64 n)) w := aeT Tryz.underlying84 x n c
theorem cK (b o : Nat) (w : aNX) : (aK 148 (.pointer (some ⟨b, o, none⟩)) 0).run pg w = .ok (.value (.pointer (some ⟨b, o, none⟩))) w := jQ (i := 0) Tryz.underlying148 rfl Bk (by decide) _
theorem dE (b o : Nat) (w : aNX) : (aK 148 (.pointer (some ⟨b, o, none⟩)) 1).run pg w = .ok (.value (.pointer (some ⟨b, o + 1, none⟩))) w := jQ (i := 1) Tryz.underlying148 rfl Bk (by decide) _
theorem Ye {k : IntKind} {n : Int} {w : aNX} {K : aNY -> aNX -> Prop} (h0 : 0 <= n) (hn : 16 * n <= 2 ^ 48) (hk : ∀ w', eM w' w.heap.size (Gn n.toNat [(.int .i64 0), (.int .i64 0)]) -> aW w w' eS -> w'.heap.size = w.heap.size + 1 -> K (.slice (some ⟨w.heap.size, 0, none⟩) n.toNat n.toNat) w') : aD pg (qG 152 (.int k n) (.int k n)) w K := aqY (i := Tryz.t171) Tryz.underlying152 awG rfl (by decide) rfl rfl h0 hn (by omega) hk
theorem fL (n0 : Int) (n1 : Int) (w : aNX) : (fX 171 [(0, (.int .i64 n0)), (1, (.int .i64 n1))]).run pg w = .ok (.value (.agg #[(.int .i64 n0), (.int .i64 n1)])) w := by kernel_rfl
theorem alY {b off : Nat} {cs : List aNY} {w : aNX} (ho : eM w b cs) {v : aNY} (h : cs[off]? = some v) {K : aNY -> Prop} (hk : K v) : Ac pg 22 (.pointer (some ⟨b, off, none⟩)) w K := aFv Tryz.underlying22 rfl ho h hk
theorem Zz {b off : Nat} {cs : List aNY} {w : aNX} (ho : eM w b cs) {v : aNY} (h : cs[off]? = some v) {K : aNY -> Prop} (hk : K v) : Ac pg 27 (.pointer (some ⟨b, off, none⟩)) w K := aFv Tryz.underlying27 rfl ho h hk
theorem aC1 {w : aNX} {K : aNY -> aNX -> Prop} (hk : ∀ w', eM w' w.heap.size [(.slice none 0 0)] -> aW w w' eS -> w'.heap.size = w.heap.size + 1 -> K (.pointer (some ⟨w.heap.size, 0, none⟩)) w') : aD pg (fW 22) w K := oU (i := Tryz.t22) axZ rfl hk
theorem aBW {w : aNX} {K : aNY -> aNX -> Prop} (hk : ∀ w', eM w' w.heap.size [(.int .i64 0)] -> aW w w' eS -> w'.heap.size = w.heap.size + 1 -> K (.pointer (some ⟨w.heap.size, 0, none⟩)) w') : aD pg (fW 27) w K := oU (i := Tryz.t27) aFu rfl hk
theorem aHN : (pg).info? 186 = some Tryz.t186 := by kernel_rfl
theorem apY {w : aNX} {K : aNY -> aNX -> Prop} (hk : ∀ w', eM w' w.heap.size [(.pointer none)] -> aW w w' eS -> w'.heap.size = w.heap.size + 1 -> K (.pointer (some ⟨w.heap.size, 0, none⟩)) w') : aD pg (fW 186) w K := oU (i := Tryz.t186) aHN rfl hk
theorem aoB {b off : Nat} {cs : List aNY} {w : aNX} {v : aNY} {K : aNY -> aNX -> Prop} (ho : eM w b cs) (hv : one v = true) (h : off < cs.length) (hk : ∀ w', eM w' b (cs.set off v) -> aW w w' (fun x => x = b) -> w'.heap.size = w.heap.size -> K undef w') : aD pg (aT 186 (.pointer (some ⟨b, off, none⟩)) v) w K := uV aHN rfl ho hv h hk
theorem gN (x : Addr) (w : aNX) : (aL 152 (.pointer (some x))).run pg w = ldC (w.cell? x) w (far pg 152 x w) := akC Tryz.underlying152 rfl x w
theorem gY (x : Addr) (w : aNX) : (aL 186 (.pointer (some x))).run pg w = ldC (w.cell? x) w (far pg 186 x w) := akC Tryz.underlying186 rfl x w
theorem iX (a0 : Option Addr) (l0 c0 : Nat) (w : aNX) : (fX 192 [(0, (.slice a0 l0 c0))]).run pg w = .ok (.value (.agg #[(.slice a0 l0 c0), (.int .i64 0)])) w := by kernel_rfl
theorem fN {ox oy : Operand} (x : Option Addr) (w : aNX) : (aI .eql 156 ox oy (.pointer x) (.pointer none)).run pg w = .ok (.value (.bool x.isNone)) w := azM Tryz.underlying156 x
theorem iI (b o : Nat) (w : aNX) : (aK 192 (.pointer (some ⟨b, o, none⟩)) 0).run pg w = .ok (.value (.pointer (some ⟨b, o, none⟩))) w := jQ (i := 0) Tryz.underlying192 rfl axZ (by decide) _
theorem gM (b o : Nat) (w : aNX) : (aK 192 (.pointer (some ⟨b, o, none⟩)) 1).run pg w = .ok (.value (.pointer (some ⟨b, o + 1, none⟩))) w := jQ (i := 1) Tryz.underlying192 rfl Bk (by decide) _
theorem arH {k : IntKind} {n : Int} {w : aNX} {K : aNY -> aNX -> Prop} (h0 : 0 <= n) (hn : 24 * n <= 2 ^ 48) (hk : ∀ w', eM w' w.heap.size (Gn n.toNat [(.int .u8 0), (.int .i64 0), (.int .i64 0)]) -> aW w w' eS -> w'.heap.size = w.heap.size + 1 -> K (.slice (some ⟨w.heap.size, 0, none⟩) n.toNat n.toNat) w') : aD pg (qG 106 (.int k n) (.int k n)) w K := aqY (i := Tryz.t115) Tryz.underlying106 ayO rfl (by decide) rfl rfl h0 hn (by omega) hk
theorem gS (b o : Nat) (w : aNX) : (aK 165 (.pointer (some ⟨b, o, none⟩)) 0).run pg w = .ok (.value (.pointer (some ⟨b, o, none⟩))) w := jQ (i := 0) Tryz.underlying165 rfl axZ (by decide) _
theorem lB {k : IntKind} (a : Int) (w : aNX) : (jP 94 5 (.int k a)).run pg w = .ok (.value (.int .u8 (IntKind.u8.wrap a))) w := Iy Tryz.underlying94 Tryz.underlying5
theorem aEC {n : Nat} {ps : List (Nat × aNY)} {cells : Array aNY} {w : aNX} (h1 : ¬ n * 1 > 2 ^ 24) (h0 : ¬ n * 1 = 0) (hf : Go.Instr.fill (fun j => some (j * 1, 1)) ((Array.range (n * 1)).map ((Tryz.t4.zero.get!).cells[· % (Tryz.t4.zero.get!).cells.size]!)) ps = some cells) {K : aNY -> aNX -> Prop} (hk : ∀ w', eM w' w.heap.size cells.toList -> aW w w' eS -> w'.heap.size = w.heap.size + 1 -> K (.slice (some ⟨w.heap.size, 0, none⟩) n n) w') : aD pg (cU 131 n ps) w K := Iq (i := Tryz.t4) Tryz.underlying131 aFI rfl h1 h0 hf hk
theorem aaF {base n m : Nat} {ty : TypeId} {w : aNX} {v x : aNY} {l news : List aNY} (h : tE w base 1 v n l) (hx : Cl w 1 x m news) (hone : ∀ y ∈ news, one y = true) (hb : base <= w.heap.size) (hbytes : (n + m) * 1 <= 140737488355328) {K : aNY -> aNX -> Prop} (hk : ∀ v' w', tE w' base 1 v' (n + m) (l ++ news) -> aW w w' (fun y => base <= y) -> K v' w') : aD pg (lI .append #[131, 131] ty [v, x]) w K := Oc (i := Tryz.t4) Tryz.underlying131 Tryz.underlying131 aFI rfl rfl rfl h hx hone hb (by omega) hbytes (by decide) hk
theorem qB {b off : Nat} {cs : List aNY} {w : aNX} (ho : eM w b cs) (h : off + 2 <= cs.length) {K : aNY -> Prop} (hk : K (.agg ((cs.drop off).take 2).toArray)) : Ac pg 176 (.pointer (some ⟨b, off, none⟩)) w K := Gg Tryz.underlying176 rfl aBN ho h hk
theorem eD (b o : Nat) (w : aNX) : (aK 176 (.pointer (some ⟨b, o, none⟩)) 0).run pg w = .ok (.value (.pointer (some ⟨b, o, none⟩))) w := jQ (i := 0) Tryz.underlying176 rfl aD0 (by decide) _
theorem dK (b o : Nat) (w : aNX) : (aK 176 (.pointer (some ⟨b, o, none⟩)) 1).run pg w = .ok (.value (.pointer (some ⟨b, o + 1, none⟩))) w := jQ (i := 1) Tryz.underlying176 rfl Bk (by decide) _
theorem kI {k k' : IntKind} {lo hi : Int} (a : Option Addr) (n c : Nat) (w : aNX) (h0 : 0 <= lo) (h1 : lo <= hi) (h2 : hi <= c) : (mD 131 (.slice a n c) (some (.int k lo)) (some (.int k' hi)) none).run pg w = .ok (.value (.slice (mZ a c (lo.toNat) 1) (hi.toNat - lo.toNat) (c - lo.toNat))) w := aB3 Tryz.underlying131 aFI _ n c h0 h1 h2
theorem mF {k : IntKind} {lo : Int} (a : Option Addr) (n c : Nat) (w : aNX) (h0 : 0 <= lo) (h1 : lo <= n) : (mD 131 (.slice a n c) (some (.int k lo)) none none).run pg w = .ok (.value (.slice (mZ a c (lo.toNat) 1) (n - lo.toNat) (c - lo.toNat))) w := aAe Tryz.underlying131 aFI _ n c h0 h1
theorem aEa {b off : Nat} {cs : List aNY} {w : aNX} {v : aNY} {K : aNY -> aNX -> Prop} (ho : eM w b cs) (hv : one v = true) (h : off < cs.length) (hk : ∀ w', eM w' b (cs.set off v) -> aW w w' (fun x => x = b) -> w'.heap.size = w.heap.size -> K undef w') : aD pg (aT 131 (.pointer (some ⟨b, off, none⟩)) v) w K := uV aD0 rfl ho hv h hk
theorem kJ  (w : aNX) : (fX 198 []).run pg w = .ok (.value (.agg #[(.slice none 0 0), (.int .i64 0)])) w := by kernel_rfl
theorem fH {ox oy : Operand} (x : Option Addr) (w : aNX) : (aI .eql 186 ox oy (.pointer x) (.pointer none)).run pg w = .ok (.value (.bool x.isNone)) w := azM Tryz.underlying186 x
theorem fO (b o : Nat) (w : aNX) : (aK 198 (.pointer (some ⟨b, o, none⟩)) 1).run pg w = .ok (.value (.pointer (some ⟨b, o + 1, none⟩))) w := jQ (i := 1) Tryz.underlying198 rfl Bk (by decide) _
theorem fG (b o : Nat) (w : aNX) : (aK 198 (.pointer (some ⟨b, o, none⟩)) 0).run pg w = .ok (.value (.pointer (some ⟨b, o, none⟩))) w := jQ (i := 0) Tryz.underlying198 rfl axZ (by decide) _
theorem iC (a0 : Option Addr) (l0 c0 : Nat) (n1 : Int) (w : aNX) : (fX 198 [(0, (.slice a0 l0 c0)), (1, (.int .i64 n1))]).run pg w = .ok (.value (.agg #[(.slice a0 l0 c0), (.int .i64 n1)])) w := by kernel_rfl
end Go.Proofs.YtgpimhlgaokobaaGreat
namespace Go.Pu
def iU (p : Int) : Int := if p < 0 then 1 else p
def fits : Int -> List Int -> Bool
 | left, [] => left == 0
 | left, p :: r => if p < -1 ∨ left < iU p then false else fits (left - iU p) r
def F0 (ps : List Int) : Int := (ps.map iU).sum
def aA2 (log : Int) (ps : List Int) : Bool := decide (5 <= log /\ log <= 15 /\ 1 <= ps.length /\ ps.length <= 256 /\ ps.getLast? ≠ some 0)
def Y4 (log : Int) (ps : List Int) : Bool := aA2 log ps && fits (2 ^ log.toNat) ps
theorem Ir (p : Int) (ps : List Int) : F0 (p :: ps) = iU p + F0 ps := by simp [F0]
theorem Xy (a b : List Int) : F0 (a ++ b) = F0 a + F0 b := by simp [F0]
theorem sU {p : Int} (h : -1 <= p) : 0 <= iU p := by unfold iU; split <;> omega
theorem atL {ps : List Int} (h : ∀ p ∈ ps, -1 <= p) : 0 <= F0 ps := by
 induction ps with
 | nil => simp [F0]
 | cons p r ih =>
   rw [Ir]
   have := sU (h p (by simp))
   have := ih fun q hq => h q (aLQ _ hq)
   omega
theorem agK : ∀ {ps : List Int} {left : Int}, fits left ps = true ↔ (∀ p ∈ ps, -1 <= p) /\ F0 ps = left
 | [], left => by simp [fits, F0]; constructor <;> intro h <;> omega
 | p :: r, left => by
   rw [fits, Ir]
   by_cases h : p < -1 ∨ left < iU p
   .rw [if_pos h]
    constructor
    .intro h; cases h
    .rintro ⟨h1, h2⟩
     have hp := h1 p (by simp)
     have := atL (ps := r) fun q hq => h1 q (aLQ _ hq)
     omega
   .rw [if_neg h, agK]
    constructor
    .rintro ⟨h1, h2⟩
     exact ⟨fun q hq => by rcases aMl.1 hq with rfl | hq; · omega
                           .exact h1 q hq, by omega⟩
    .rintro ⟨h1, h2⟩
     exact ⟨fun q hq => h1 q (aLQ _ hq), by omega⟩
structure May (log : Nat) (ps : List Int) : Prop where
 log5 : 5 <= log
 log15 : log <= 15
 len1 : 1 <= ps.length
 len256 : ps.length <= 256
 last : ps.getLast? ≠ some 0
 low : ∀ p ∈ ps, -1 <= p
 sum : F0 ps = 2 ^ log
theorem May.b {log : Nat} {ps : List Int} (h : May log ps) : Y4 log ps = true := by
 unfold Y4 aA2
 simp only [aLJ, decide_eq_true_eq]
 have h1 := h.log5
 have h2 := h.log15
 refine ⟨⟨by omega, by omega, h.len1, h.len256, h.last⟩, ?_⟩
 rw [agK, aLs]
 exact ⟨h.low, h.sum⟩
theorem aDI {log : Nat} (h : log <= 15) : (2 : Int) ^ log <= 32768 := by
 have : 2 ^ log <= 2 ^ 15 := aLC (by omega) h
 have e : ((2 ^ log : Nat) : Int) = (2 : Int) ^ log := by simp
 omega
theorem aDw (log : Nat) : (1 : Int) <= 2 ^ log := by
 have : 1 <= 2 ^ log := Nat.one_le_two_pow
 have e : ((2 ^ log : Nat) : Int) = (2 : Int) ^ log := by simp
 omega
theorem aFE {ps : List Int} (h : ∀ p ∈ ps, -1 <= p) {p : Int} (hp : p ∈ ps) : iU p <= F0 ps := by
 induction ps with
 | nil => cases hp
 | cons q r ih =>
   rw [Ir]
   have h0 := sU (h q (by simp))
   have h1 := atL (ps := r) fun q hq => h q (aLQ _ hq)
   rcases aMl.1 hp with rfl | hp
   .omega
   .have := ih (fun q hq => h q (aLQ _ hq)) hp
    omega
def adv (n a : Nat) : Nat := (a + n / 2 + n / 8 + 3) % n
def amI (n high : Nat) : Nat -> Nat -> Nat
 | 0, a => a
 | f + 1, a => if a < high then a else amI n high f (adv n a)
def aeA : List Int -> Nat -> Nat -> List Int -> Nat × List Int
 | [], _, high, arr => (high, arr)
 | p :: r, s, high, arr => if p = -1 then aeA r (s + 1) (high - 1) (arr.set (high - 1) s) else aeA r (s + 1) high arr
def tI : List Int -> Nat -> List Nat
 | [], _ => []
 | p :: r, s => List.replicate p.toNat s ++ tI r (s + 1)
def place (n high : Nat) : List Nat -> Nat -> List Int -> List Int
 | [], _, arr => arr
 | s :: r, a, arr => place n high r (amI n high n (adv n a)) (arr.set a s)
def rM (x0 : Int) (log : Nat) (ps : List Int) : List Int :=
 place (2 ^ log) (aeA ps 0 (2 ^ log) (List.replicate (2 ^ log) x0)).1 (tI ps 0) 0 (aeA ps 0 (2 ^ log) (List.replicate (2 ^ log) x0)).2
def pos (n j : Nat) : Nat := (j * (n / 2 + n / 8 + 3)) % n
theorem ME (n j : Nat) : adv n (pos n j) = pos n (j + 1) := by
 unfold adv pos
 rw [aM1, aM1, Nat.mod_add_mod, aMi, aNF, aM1]
theorem aIW {s : Nat} (hs : s % 2 = 1) : ∀ (k x : Nat), 2 ^ k ∣ s * x -> 2 ^ k ∣ x := by
 intro k
 induction k with
 | zero => intro x _; simp
 | succ k ih =>
   intro x h
   have h2 : 2 ∣ s * x := Nat.dvd_trans ⟨2 ^ k, by rw [aL6, aL1]⟩ h
   have hx : x % 2 = 0 := by
    have : (s * x) % 2 = 0 := Nat.mod_eq_zero_of_dvd h2
    rw [Nat.mul_mod, hs, aNF, Nat.mod_mod] at this
    exact this
   obtain ⟨y, rfl⟩ : ∃ y, x = 2 * y := ⟨x / 2, by omega⟩
   rw [aL6, aL1 (2 ^ k) 2, show s * (2 * y) = 2 * (s * y) by rw [Nat.mul_left_comm]] at h
   rw [aL6, aL1 (2 ^ k) 2]
   exact Nat.mul_dvd_mul_left 2 (ih y (Nat.dvd_of_mul_dvd_mul_left (by omega) h))
theorem aIb {log : Nat} (h : 5 <= log) : (2 ^ log / 2 + 2 ^ log / 8 + 3) % 2 = 1 := by
 obtain ⟨k, rfl⟩ : ∃ k, log = k + 5 := ⟨log - 5, by omega⟩
 have : 2 ^ (k + 5) = 32 * 2 ^ k := by rw [aMr, aL1]
 omega
theorem aIZ {log : Nat} (h : 5 <= log) {i j : Nat} (hij : i < j) (hj : j < 2 ^ log) : pos (2 ^ log) i ≠ pos (2 ^ log) j := by
 unfold pos
 generalize hst : 2 ^ log / 2 + 2 ^ log / 8 + 3 = st
 have hodd : st % 2 = 1 := by rw [<- hst]; exact aIb h
 intro e
 have hle : i * st <= j * st := aLY _ (by omega)
 have hd : 2 ^ log ∣ st * (j - i) := by
  rw [aL1, Nat.sub_mul]
  exact Nat.dvd_of_mod_eq_zero (Nat.sub_mod_eq_zero_of_mod_eq e.symm)
 have := Nat.le_of_dvd (by omega) (aIW hodd _ _ hd)
 omega
theorem aIe : ∀ (n : Nat) (l : List Nat), l.Nodup -> (∀ a ∈ l, a < n) -> l.length <= n := by
 intro n
 induction n with
 | zero => intro l _ h; cases l with
   | nil => simp
   | cons a r => exact absurd (h a (by simp)) (by omega)
 | succ n ih =>
   intro l hd h
   by_cases hn : n ∈ l
   .have := ih (l.erase n) (hd.erase n) (fun a ha => by
     have h1 := h a (List.mem_of_mem_erase ha)
     have h2 : a ≠ n := fun e => by subst e; exact hd.not_mem_erase ha
     omega)
    rw [aNL hn] at this
    omega
   .have := ih l hd (fun a ha => by
     have h1 := h a ha
     have h2 : a ≠ n := fun e => by subst e; exact hn ha
     omega)
    omega
theorem aBi {n : Nat} {l : List Nat} (hd : l.Nodup) (h : ∀ a ∈ l, a < n) (hl : l.length = n) {a : Nat} (ha : a < n) : a ∈ l := by
 refine Classical.byContradiction fun hn => ?_
 have := aIe n (a :: l) (List.nodup_cons.2 ⟨hn, hd⟩) (fun b hb => (aMl.1 hb).elim (fun e => e ▸ ha) (h b))
 simp at this; omega
def qD (n high j : Nat) : List Nat := ((List.range' j (n - j)).map (pos n)).filter (· < high)
theorem Xn {n high j : Nat} (h : j < n) : qD n high j = if pos n j < high then pos n j :: qD n high (j + 1) else qD n high (j + 1) := by
 unfold qD
 rw [show n - j = (n - (j + 1)) + 1 from by omega, List.range'_succ, aME, aNp]
 simp
theorem afU (n high : Nat) : qD n high n = [] := by unfold qD; simp
theorem axH {n : Nat} (h : 0 < n) (j : Nat) : pos n j < n := aNt _ h
theorem V3 (n : Nat) : pos n 0 = 0 := by simp [pos]
theorem aKs (n : Nat) : pos n n = 0 := by simp [pos, Nat.mul_mod_right]
theorem aF6 {n high : Nat} (hh : 0 < high) : ∀ (d j f : Nat), j + d = n -> d <= f -> amI n high f (pos n j) = (qD n high j).headD 0 := by
 intro d
 induction d with
 | zero =>
   intro j f hj _
   obtain rfl : j = n := by omega
   rw [afU, aKs]
   cases f with
   | zero => rfl
   | succ f => unfold amI; rw [if_pos hh] <;> rfl
 | succ d ih =>
   intro j f hj hf
   obtain ⟨f, rfl⟩ : ∃ g, f = g + 1 := ⟨f - 1, by omega⟩
   rw [Xn (by omega)]
   unfold amI
   split
   .rfl
   .rw [ME]; exact ih (j + 1) f (by omega) (by omega)
def setAt : List (Nat × Nat) -> List Int -> List Int
 | [], arr => arr
 | (q, s) :: r, arr => setAt r (arr.set q s)
theorem aEX {n high : Nat} (hh : 0 < high) : ∀ (syms : List Nat) (j a : Nat) (arr : List Int), j <= n -> syms.length <= (qD n high j).length -> (syms ≠ [] -> (qD n high j).headD 0 = a) →
 place n high syms a arr = setAt ((qD n high j).zip syms) arr := by
 intro syms
 induction syms with
 | nil => intro j a arr _ _ _; simp [place, setAt]
 | cons s r ih =>
   intro j a arr hj hlen ha
   have ha := ha (by simp)
   have key : ∀ (d j : Nat), j + d = n -> (s :: r).length <= (qD n high j).length -> (qD n high j).headD 0 = a -> ∃ i, i < n /\ j <= i /\ pos n i = a /\ qD n high j = a :: qD n high (i + 1) := by
    intro d
    induction d with
    | zero =>
      intro j hj hl _
      obtain rfl : j = n := by omega
      rw [afU] at hl; simp at hl
    | succ d ihd =>
      intro j hj hl hd
      have e := Xn (high := high) (show j < n by omega)
      by_cases hp : pos n j < high
      .rw [if_pos hp] at e
       rw [e] at hd
       have : pos n j = a := hd
       exact ⟨j, by omega, aLF _, this, by rw [e, this]⟩
      .rw [if_neg hp] at e
       rw [e] at hl hd ⊢
       obtain ⟨i, h1, h2, h3, h4⟩ := ihd (j + 1) (by omega) hl hd
       exact ⟨i, h1, by omega, h3, h4⟩
   obtain ⟨i, h1, h2, h3, h4⟩ := key (n - j) j (by omega) hlen ha
   rw [h4] at hlen ⊢
   simp only [aLP] at hlen
   rw [place, List.zip_cons_cons, setAt]
   refine ih (i + 1) _ _ (by omega) (by omega) (fun hr => ?_)
   rw [<- h3, ME]
   exact (aF6 hh (n - (i + 1)) (i + 1) n (by omega) (by omega)).symm
def xD : List Int -> Nat -> List Nat
 | [], _ => []
 | p :: r, s => if p = -1 then s :: xD r (s + 1) else xD r (s + 1)
def toI (l : List Nat) : List Int := l.map Int.ofNat
theorem aBa : ∀ (ps : List Int) (s high : Nat) (arr : List Int), (xD ps s).length <= high -> high <= arr.length →
 aeA ps s high arr = (high - (xD ps s).length, arr.take (high - (xD ps s).length) ++ toI (xD ps s).reverse ++ arr.drop high) := by
 intro ps
 induction ps with
 | nil => intro s high arr h1 h2; simp [aeA, xD, toI]
 | cons p r ih =>
   intro s high arr h1 h2
   unfold aeA xD
   unfold xD at h1
   by_cases hp : p = -1
   .rw [if_pos hp, if_pos hp]
    rw [if_pos hp] at h1
    simp only [aLP] at h1 ⊢
    rw [ih (s + 1) (high - 1) _ (by omega) (by simp; omega)]
    congr 1
    .omega
    .have hlt : high - 1 < arr.length := by omega
     rw [List.take_set_of_le (by omega), show high - 1 - (xD r (s + 1)).length = high - ((xD r (s + 1)).length + 1) from by omega]
     have : (arr.set (high - 1) (s : Int)).drop (high - 1) = (s : Int) :: arr.drop high := by
      rw [aL2 (by simp; omega)]
      simp only [aNy]
      rw [show high - 1 + 1 = high from by omega, List.drop_set_of_lt (by omega)]
     rw [this]
     simp [toI]
   .rw [if_neg hp, if_neg hp]
    rw [if_neg hp] at h1
    exact ih (s + 1) high arr h1 h2
theorem ahG : ∀ (l : List (Nat × Nat)) (arr : List Int), (setAt l arr).length = arr.length
 | [], _ => rfl
 | (q, s) :: r, arr => by rw [setAt, ahG]; simp
theorem XH {q : Nat} : ∀ (l : List (Nat × Nat)) (arr : List Int), (∀ x ∈ l, x.1 ≠ q) -> (setAt l arr)[q]? = arr[q]?
 | [], _, _ => rfl
 | (a, s) :: r, arr, h => by
   rw [setAt, XH r _ fun x hx => h x (aLQ _ hx), List.getElem?_set_ne (h (a, s) (by simp))]
theorem aF3 : ∀ (us : List Nat) (ss : List Nat) (arr : List Int) (t : Nat), us.Nodup -> us.length = ss.length -> (∀ q ∈ us, q < arr.length) -> (ht : t < us.length) -> (ht' : t < ss.length) →
 (setAt (us.zip ss) arr)[us[t]]? = some (ss[t] : Int) := by
 intro us
 induction us with
 | nil => intro ss arr t _ _ _ ht; simp at ht
 | cons u us ih =>
   intro ss arr t hd hl hb ht ht'
   cases ss with
   | nil => simp at hl
   | cons x ss =>
     obtain ⟨h1, h2⟩ := List.nodup_cons.1 hd
     rw [List.zip_cons_cons, setAt]
     cases t with
     | zero =>
       simp only [aMZ]
       rw [XH _ _ (fun y hy => fun e => h1 (by have := (List.of_mem_zip (a := y.1) (b := y.2) hy).1; rw [e] at this; exact this))]
       have : u < arr.length := hb u (by simp)
       simp [this]
     | succ t =>
       simp only [aNv]
       exact ih ss _ t h2 (by simpa using hl) (fun q hq => by simpa using hb q (aLQ _ hq)) (by simpa using ht) (by simpa using ht')
theorem awJ : ∀ (n : Nat) (l : List Nat), l.Nodup -> (∀ a ∈ l, a < n) -> l.length = n -> l.Perm (List.range n) := by
 intro n
 induction n with
 | zero => intro l _ _ h; rw [aL4.1 h]; exact List.Perm.refl _
 | succ n ih =>
   intro l hd h hl
   have hn : n ∈ l := aBi hd h hl (by omega)
   have p1 := List.perm_cons_erase hn
   have p2 := ih (l.erase n) (hd.erase n) (fun a ha => by
    have h1 := h a (List.mem_of_mem_erase ha)
    have h2 : a ≠ n := fun e => by subst e; exact hd.not_mem_erase ha
    omega) (by rw [aNL hn]; omega)
   rw [aNI]
   exact p1.trans ((p2.cons n).trans (List.perm_append_singleton n _).symm)
theorem aCz : ∀ (ps : List Int) (s : Nat), (∀ p ∈ ps, -1 <= p) -> ((tI ps s).length : Int) + (xD ps s).length = F0 ps := by
 intro ps
 induction ps with
 | nil => intro s _; simp [tI, xD, F0]
 | cons p r ih =>
   intro s h
   have := ih (s + 1) fun q hq => h q (aLQ _ hq)
   have hp := h p (by simp)
   rw [Ir]
   unfold tI xD iU
   by_cases h1 : p = -1
   .rw [if_pos h1, if_pos (by omega)]; subst h1; simp; omega
   .rw [if_neg h1, if_neg (by omega)]; simp; omega
theorem aEM : ∀ (ps : List Int) (s i : Nat), (tI ps s).count (s + i) = if h : i < ps.length then ps[i].toNat else 0 := by
 intro ps
 induction ps with
 | nil => intro s i; simp [tI]
 | cons p r ih =>
   intro s i
   have low : ∀ (ps : List Int) (s a : Nat), a < s -> (tI ps s).count a = 0 := by
    intro ps
    induction ps with
    | nil => intro s a _; simp [tI]
    | cons p r ih =>
      intro s a h
      unfold tI
      rw [aMV, ih (s + 1) a (by omega), List.count_replicate]
      simp; omega
   unfold tI
   rw [aMV, List.count_replicate]
   cases i with
   | zero => rw [aMA, low r (s + 1) s (by omega)]; simp
   | succ i =>
     rw [show s + (i + 1) = s + 1 + i from by omega, ih (s + 1) i]
     have : (s == s + 1 + i) = false := by simp; omega
     rw [this]; simp
theorem aEg : ∀ (ps : List Int) (s i : Nat), (xD ps s).count (s + i) = if h : i < ps.length then (if ps[i] = -1 then 1 else 0) else 0 := by
 intro ps
 induction ps with
 | nil => intro s i; simp [xD]
 | cons p r ih =>
   intro s i
   have low : ∀ (ps : List Int) (s a : Nat), a < s -> (xD ps s).count a = 0 := by
    intro ps
    induction ps with
    | nil => intro s a _; simp [xD]
    | cons p r ih =>
      intro s a h
      unfold xD
      split
      .rw [aMW, ih (s + 1) a (by omega)]; simp; omega
      .exact ih (s + 1) a (by omega)
   unfold xD
   cases i with
   | zero =>
     rw [aMA]
     by_cases h : p = -1
     .rw [if_pos h, aMW, low r (s + 1) s (by omega)]; simp [h]
     .rw [if_neg h, low r (s + 1) s (by omega)]; simp [h]
   | succ i =>
     have e : s + (i + 1) = s + 1 + i := by omega
     by_cases h : p = -1
     .rw [if_pos h, aMW, e, ih (s + 1) i]
      have : (s == s + 1 + i) = false := by simp; omega
      rw [this]; simp
     .rw [if_neg h, e, ih (s + 1) i]; simp
theorem aIA : ∀ (ps : List Int) (s i : Nat) (h : i < ps.length), ps[i] = -1 -> (xD ps s)[(ps.take i).count (-1)]? = some (s + i) := by
 intro ps
 induction ps with
 | nil => intro s i h; simp at h
 | cons p r ih =>
   intro s i h hp
   unfold xD
   cases i with
   | zero => simp only [aMZ] at hp; rw [if_pos hp]; simp
   | succ i =>
     simp only [aNv] at hp
     have := ih (s + 1) i (by simpa using h) hp
     rw [aLx, aMW]
     by_cases h1 : p = -1
     .rw [if_pos h1]; simp only [h1, beq_self_eq_true, if_true, aLr]; rw [this]; congr 1; omega
     .rw [if_neg h1]
      have : (p == -1) = false := by simpa using h1
      rw [this]; simp only [aLu, if_false, aMA]
      rw [‹(xD r (s + 1))[_]? = _›]; congr 1; omega
theorem ZE {log high : Nat} (hl : 5 <= log) (hh : high <= 2 ^ log) : (qD (2 ^ log) high 0).Nodup /\ (∀ a ∈ qD (2 ^ log) high 0, a < high) /\ (qD (2 ^ log) high 0).length = high := by
 have hn : 0 < 2 ^ log := aLW log
 have hnd : ((List.range (2 ^ log)).map (pos (2 ^ log))).Nodup := by
  rw [List.nodup_iff_pairwise_ne, List.pairwise_map]
  refine List.pairwise_iff_getElem.2 fun i j hi hj hij => ?_
  simp only [aNR] at hi hj
  simp only [aM9]
  exact aIZ hl hij hj
 have hp := awJ (2 ^ log) _ hnd (fun a ha => by
  obtain ⟨j, _, rfl⟩ := aMD.1 ha
  exact axH hn j) (by simp)
 unfold qD
 rw [Nat.sub_zero, <- List.range_eq_range']
 refine ⟨hnd.filter _, fun a ha => by simpa using (aNH.1 ha).2, ?_⟩
 rw [(hp.filter _).length_eq]
 have : ∀ m : Nat, high <= m -> ((List.range m).filter (· < high)).length = high := by
  intro m
  induction m with
  | zero => intro h; simp; omega
  | succ m ih =>
    intro h
    rw [aNI, List.filter_append, aLz]
    by_cases hm : high <= m
    .rw [ih hm]; simp; omega
    .have : high = m + 1 := by omega
     subst this
     have : (List.range m).filter (fun x => decide (x < m + 1)) = List.range m := List.filter_eq_self.2 fun a ha => by have := aL8.1 ha; simp; omega
     rw [this]; simp
 exact this _ hh
structure Lay (log : Nat) (ps : List Int) (S : List Int) : Prop where
 len : S.length = 2 ^ log
 cnt : ∀ s (h : s < ps.length), S.count (s : Int) = (iU ps[s]).toNat
 rng : ∀ x ∈ S, ∃ s : Nat, s < ps.length /\ x = s
 top : ∀ s (h : s < ps.length), ps[s] = -1 -> S[2 ^ log - 1 - (ps.take s).count (-1)]? = some (s : Int)
theorem aAX (l : List Nat) (s : Nat) : (toI l).count (s : Int) = l.count s := by
 induction l with
 | nil => rfl
 | cons a r ih =>
   show List.count _ (Int.ofNat a :: toI r) = _
   rw [aMW, aMW, ih]
   congr 1
   by_cases h : a = s
   .subst h; simp
   .simp [h]; omega
theorem aHl : ∀ (ps : List Int) (s : Nat), ∀ x ∈ tI ps s, s <= x /\ x < s + ps.length := by
 intro ps
 induction ps with
 | nil => intro s x h; simp [tI] at h
 | cons p r ih =>
   intro s x h
   unfold tI at h
   rcases aMb.1 h with h | h
   .have := (List.mem_replicate.1 h).2; simp; omega
   .have := ih (s + 1) x h; simp; omega
theorem aHW : ∀ (ps : List Int) (s : Nat), ∀ x ∈ xD ps s, s <= x /\ x < s + ps.length := by
 intro ps
 induction ps with
 | nil => intro s x h; simp [xD] at h
 | cons p r ih =>
   intro s x h
   unfold xD at h
   split at h
   .rcases aMl.1 h with rfl | h
    .simp
    .have := ih (s + 1) x h; simp; omega
   .have := ih (s + 1) x h; simp; omega
theorem XM {log : Nat} {ps : List Int} (h : May log ps) (x0 : Int) :
 ∃ low : List Int, rM x0 log ps = low ++ toI (xD ps 0).reverse /\ low.Perm (toI (tI ps 0)) /\ ((xD ps 0).length + low.length = 2 ^ log) /\
   (∀ t (h1 : t < (qD (2 ^ log) (tI ps 0).length 0).length) (h2 : t < (tI ps 0).length), low[(qD (2 ^ log) (tI ps 0).length 0)[t]]? = some ((tI ps 0)[t] : Int)) := by
 have hrl := aCz ps 0 h.low
 rw [h.sum] at hrl
 have hpow : ((2 ^ log : Nat) : Int) = (2 : Int) ^ log := by simp
 obtain ⟨m, hm⟩ : ∃ m, m = (xD ps 0).length := ⟨_, rfl⟩
 obtain ⟨hi, hhi⟩ : ∃ x, x = (tI ps 0).length := ⟨_, rfl⟩
 rw [<- hm, <- hhi] at hrl
 have hsum : hi + m = 2 ^ log := by omega
 have ht := aBa ps 0 (2 ^ log) (List.replicate (2 ^ log) x0) (by omega) (by simp)
 rw [<- hm, show 2 ^ log - m = hi from by omega] at ht
 have e2 : (List.replicate (2 ^ log) x0).take hi = List.replicate hi x0 := by rw [List.take_replicate]; congr 1; omega
 have e3 : (List.replicate (2 ^ log) x0).drop (2 ^ log) = [] := by simp
 rw [e2, e3, aMd] at ht
 unfold rM
 rw [ht]
 simp only
 obtain ⟨u1, u2, u3⟩ := ZE (high := hi) h.log5 (by omega)
 by_cases h0 : hi = 0
 .have hr : tI ps 0 = [] := aL4.1 (by omega)
  rw [hr, h0]
  refine ⟨[], by simp [place], by simp [toI], by simp; omega, fun t _ h2 => by simp at h2⟩
 .have hp := aEX (n := 2 ^ log) (high := hi) (by omega) (tI ps 0) 0 0 (List.replicate hi x0 ++ toI (xD ps 0).reverse) (by omega) (by rw [u3]; omega) (fun _ => by
   rw [Xn (aLW log), V3, if_pos (by omega)] <;> rfl)
  rw [hp]
  generalize hU : qD (2 ^ log) hi 0 = U at *
  have hb : ∀ q ∈ U, q < (List.replicate hi x0 ++ toI (xD ps 0).reverse).length := fun q hq => by have := u2 q hq; simp; omega
  obtain ⟨R, hR⟩ : ∃ R, R = setAt (U.zip (tI ps 0)) (List.replicate hi x0 ++ toI (xD ps 0).reverse) := ⟨_, rfl⟩
  have hRl : R.length = hi + m := by rw [hR, ahG]; simp [toI, hm]
  have hRd : R.drop hi = toI (xD ps 0).reverse := by
   apply aMC
   intro i
   rw [aM7, hR, XH _ _ (fun x hx => by
     have := u2 _ (List.of_mem_zip (a := x.1) (b := x.2) hx).1
     omega), aMx (by simp)]
   simp
  have hget : ∀ t (h1 : t < U.length) (h2 : t < (tI ps 0).length), R[U[t]]? = some ((tI ps 0)[t] : Int) := fun t h1 h2 => by
   rw [hR]; exact aF3 U _ _ t u1 (by omega) hb h1 h2
  rw [<- hR]
  refine ⟨R.take hi, by rw [<- hRd, aNa], ?_, by rw [aLG]; omega, fun t h1 h2 => ?_⟩
  .have p1 : (U.map fun q => R.getD q 0).Perm ((List.range hi).map fun q => R.getD q 0) := (awJ hi U u1 u2 u3).map _
   have p2 : (U.map fun q => R.getD q 0) = toI (tI ps 0) := by
    apply aMP
    .simp [toI]; omega
    .intro t h1 h2
     simp only [aLD] at h1
     have := hget t h1 (by omega)
     simp only [aMH, toI, aLE, this]
     rfl
   have p3 : ((List.range hi).map fun q => R.getD q 0) = R.take hi := by
    apply aMP
    .simp; omega
    .intro q h1 h2
     simp only [aLD, aNR] at h1
     simp only [aMH, aM9, List.getElem_take, aLE]
     rw [aLA (by omega)] <;> rfl
   rw [p2, p3] at p1
   exact p1.symm
  .subst hhi
   simp only [hU] at h1 ⊢
   have := hget t h1 h2
   rw [aMg (u2 _ (aMf h1))]
   exact this
theorem Ok {log : Nat} {ps : List Int} (h : May log ps) (x0 : Int) : Lay log ps (rM x0 log ps) := by
 obtain ⟨low, e, hp, hl, _⟩ := XM h x0
 rw [e]
 refine ⟨by simp [toI]; omega, fun s hs => ?_, fun x hx => ?_, fun s hs hps => ?_⟩
 .rw [aMV, hp.count_eq, aAX, aAX, List.count_reverse]
  have h1 := aEM ps 0 s
  have h2 := aEg ps 0 s
  rw [aLt] at h1 h2
  rw [h1, h2, dif_pos hs, dif_pos hs]
  have := h.low _ (aMf hs)
  unfold iU
  split <;> split <;> omega
 .rcases aMb.1 hx with hx | hx
  .have hx := hp.mem_iff.1 hx
   obtain ⟨s, hs, rfl⟩ := aMD.1 hx
   exact ⟨s, by have := aHl ps 0 s hs; omega, rfl⟩
  .obtain ⟨s, hs, rfl⟩ := aMD.1 hx
   exact ⟨s, by have := aHW ps 0 s (List.mem_reverse.1 hs); omega, rfl⟩
 .have h1 := aIA ps 0 s hs hps
  rw [aLt] at h1
  have hlt : (ps.take s).count (-1) < (xD ps 0).length := by
   rcases aLO ((ps.take s).count (-1)) (xD ps 0).length with h | h
   .exact h
   .rw [aLH h] at h1; cases h1
  rw [aMx (by omega)]
  unfold toI
  rw [aLZ, List.getElem?_reverse (by omega), show (xD ps 0).length - 1 - (2 ^ log - 1 - List.count (-1) (List.take s ps) - low.length) = (ps.take s).count (-1) from by omega, h1]
  rfl
theorem aFS {log : Nat} {ps : List Int} (h : May log ps) (x y : Int) : rM x log ps = rM y log ps := by
 obtain ⟨a, e1, p1, l1, g1⟩ := XM h x
 obtain ⟨b, e2, p2, l2, g2⟩ := XM h y
 rw [e1, e2]
 congr 1
 apply aMC
 intro q
 have hrl : (tI ps 0).length = a.length := by rw [p1.length_eq]; simp [toI]
 by_cases hq : q < a.length
 .obtain ⟨u1, u2, u3⟩ := ZE (high := (tI ps 0).length) h.log5 (by omega)
  have hm := aBi u1 u2 u3 (a := q) (by omega)
  obtain ⟨t, ht, rfl⟩ := aMX hm
  rw [g1 t ht (by omega), g2 t ht (by omega)]
 .rw [aLH (by omega), aLH (by omega)]
def bl (k : Nat) : Nat := if k = 0 then 0 else k.log2 + 1
theorem aIT : bl 0 = 0 := rfl
theorem XD (k : Nat) : k < 2 ^ bl k := by
 unfold bl
 split
 .subst_vars; simp
 .exact Nat.lt_log2_self
theorem ZP {k : Nat} (h : k ≠ 0) : 2 ^ (bl k - 1) <= k := by
 unfold bl
 rw [if_neg h, aMt]
 exact Nat.log2_self_le h
theorem Ni {k : Nat} (h : k ≠ 0) : 1 <= bl k := by unfold bl; rw [if_neg h]; omega
theorem xA {k n : Nat} (h : k < 2 ^ n) : bl k <= n := by
 by_cases h0 : k = 0
 .subst h0; simp [bl]
 .rcases aLO n (bl k) with hh | hh
  .have h1 := ZP h0
   have := aLC (n := 2) (by omega) (show n <= bl k - 1 by omega)
   omega
  .exact hh
theorem aH0 {k n : Nat} (h1 : 2 ^ n <= k) (h2 : k < 2 ^ (n + 1)) : bl k = n + 1 := by
 have h0 : k ≠ 0 := by have := aLW n; omega
 have a := xA h2
 have b := XD k
 rcases aLO (bl k) (n + 1) with h | h
 .have := aLC (n := 2) (by omega) (show bl k <= n by omega)
  omega
 .omega
def kAt (ps S : List Int) (i : Nat) : Nat := (iU (ps.getD (S.getD i 0).toNat 0)).toNat + (S.take i).count (S.getD i 0)
def EW (log : Nat) (x : Int) (k : Nat) : Int × Int × Int := (x, ((log + 1 - bl k : Nat) : Int), ((k * 2 ^ (log + 1 - bl k) : Nat) : Int) - 2 ^ log)
def UZ (log : Nat) (ps S : List Int) (i : Nat) : Int × Int × Int := EW log (S.getD i 0) (kAt ps S i)
def xF (log : Nat) (ps : List Int) : List (Int × Int × Int) := (List.range (2 ^ log)).map (UZ log ps (rM 0 log ps))
theorem xE (log : Nat) (ps : List Int) : (xF log ps).length = 2 ^ log := by simp [xF]
theorem aAB {S : List Int} {i : Nat} (h : i < S.length) : (S.take i).count S[i] + 1 <= S.count S[i] := by
 have e : S = S.take i ++ S[i] :: S.drop (i + 1) := by rw [<- aL2 h, aNa]
 have : S.count S[i] = (S.take i ++ S[i] :: S.drop (i + 1)).count S[i] := by rw [<- e]
 rw [this, aMV, aMW]; simp
theorem awU {log : Nat} {ps : List Int} (h : May log ps) {s : Nat} (hs : s < ps.length) : (iU ps[s]).toNat <= 2 ^ log := by
 have := aFE h.low (aMf hs)
 rw [h.sum] at this
 have hpow : ((2 ^ log : Nat) : Int) = (2 : Int) ^ log := by simp
 rw [<- hpow] at this
 exact Int.toNat_le.2 this
theorem axI {log : Nat} {ps S : List Int} (h : May log ps) (L : Lay log ps S) {i : Nat} (hi : i < 2 ^ log) :
 ∃ s : Nat, ∃ hs : s < ps.length, S.getD i 0 = (s : Int) /\ 1 <= (iU ps[s]).toNat /\ (iU ps[s]).toNat <= 2 ^ log /\ kAt ps S i = (iU ps[s]).toNat + (S.take i).count (s : Int) /\ (S.take i).count (s : Int) < (iU ps[s]).toNat := by
 have hil : i < S.length := by rw [L.len]; exact hi
 have hg : S.getD i 0 = S[i] := by rw [aLE, aLA hil] <;> rfl
 obtain ⟨s, hs, e⟩ := L.rng _ (aMf hil)
 have hc := aAB hil
 rw [e, L.cnt s hs] at hc
 refine ⟨s, hs, by rw [hg, e], by omega, awU h hs, ?_, by omega⟩
 unfold kAt
 rw [hg, e, aLs, aLE, aLA hs] <;> rfl
theorem aBD {log k : Nat} (h1 : 1 <= k) (h2 : k < 2 ^ (log + 1)) : 2 ^ log <= k * 2 ^ (log + 1 - bl k) /\ (k + 1) * 2 ^ (log + 1 - bl k) <= 2 ^ (log + 1) /\ bl k <= log + 1 /\ 1 <= bl k := by
 have a := xA h2
 have b := Ni (k := k) (by omega)
 have c := ZP (k := k) (by omega)
 have d := XD k
 refine ⟨?_, ?_, a, b⟩
 .calc 2 ^ log = 2 ^ (bl k - 1) * 2 ^ (log + 1 - bl k) := by rw [<- aMr]; congr 1; omega
   _ <= k * 2 ^ (log + 1 - bl k) := aLY _ c
 .calc (k + 1) * 2 ^ (log + 1 - bl k) <= 2 ^ bl k * 2 ^ (log + 1 - bl k) := aLY _ d
   _ = 2 ^ (log + 1) := by rw [<- aMr]; congr 1; omega
theorem aE6 (n j : Nat) (hn : 0 < n) : ∃ d, d < n /\ pos n (j + d) = 0 := by
 refine ⟨(n - j % n) % n, aNt _ hn, ?_⟩
 unfold pos
 have : (j + (n - j % n) % n) % n = 0 := by
  rw [Nat.add_mod_mod]
  have h1 := aNt j hn
  have h2 := Nat.div_add_mod j n
  have : j + (n - j % n) = n * (j / n + 1) := by
   rw [aNG, aMR]
   generalize n * (j / n) = y at *
   generalize j % n = r at *
   omega
  rw [this, Nat.mul_mod_right]
 rw [Nat.mul_mod, this, aNU, Nat.zero_mod]
theorem XY {n high : Nat} (hn : 0 < n) (hh : 0 < high) (j : Nat) : ∃ d, (∀ e, e < d -> high <= pos n (j + e)) /\ pos n (j + d) < high /\ amI n high n (pos n j) = pos n (j + d) := by
 obtain ⟨D, hD, h0⟩ := aE6 n j hn
 have key : ∀ (D f j : Nat), D <= f -> pos n (j + D) < high -> ∃ d, (∀ e, e < d -> high <= pos n (j + e)) /\ pos n (j + d) < high /\ amI n high f (pos n j) = pos n (j + d) := by
  intro D
  induction D with
  | zero =>
    intro f j _ h
    refine ⟨0, fun e he => by omega, h, ?_⟩
    rw [aMA] at h ⊢
    cases f with
    | zero => rfl
    | succ f => unfold amI; rw [if_pos h]
  | succ D ih =>
    intro f j hf h
    obtain ⟨f, rfl⟩ : ∃ g, f = g + 1 := ⟨f - 1, by omega⟩
    by_cases hj : pos n j < high
    .exact ⟨0, fun e he => by omega, hj, by unfold amI; rw [if_pos hj] <;> rfl⟩
    .obtain ⟨d, h1, h2, h3⟩ := ih f (j + 1) (by omega) (by rw [show j + 1 + D = j + (D + 1) from by omega]; exact h)
     refine ⟨d + 1, fun e he => ?_, by rw [show j + (d + 1) = j + 1 + d from by omega]; exact h2, ?_⟩
     .cases e with
      | zero => rw [aMA]; omega
      | succ e => rw [show j + (e + 1) = j + 1 + e from by omega]; exact h1 e (by omega)
     .unfold amI; rw [if_neg hj, ME, h3]; congr 1; omega
 exact key D n j (by omega) (by rw [h0]; exact hh)
theorem atM {log : Nat} {ps : List Int} (h : May log ps) (x0 : Int) : ∃ arr, aeA ps 0 (2 ^ log) (List.replicate (2 ^ log) x0) = ((tI ps 0).length, arr) /\ arr.length = 2 ^ log /\ (xD ps 0).length + (tI ps 0).length = 2 ^ log /\ rM x0 log ps = place (2 ^ log) (tI ps 0).length (tI ps 0) 0 arr := by
 have hrl := aCz ps 0 h.low
 rw [h.sum] at hrl
 have hpow : ((2 ^ log : Nat) : Int) = (2 : Int) ^ log := by simp
 have hsum : (xD ps 0).length + (tI ps 0).length = 2 ^ log := by omega
 have ht := aBa ps 0 (2 ^ log) (List.replicate (2 ^ log) x0) (by omega) (by simp)
 rw [show 2 ^ log - (xD ps 0).length = (tI ps 0).length from by omega] at ht
 refine ⟨_, ht, ?_, hsum, ?_⟩
 .simp [toI]; omega
 .unfold rM; rw [ht]
end Go.Pu
namespace Go.En
open Go
section
variable {P : Program} {w : aNX} {t e : TypeId}
theorem aCM {i : TypeInfo} (hu : P.underlying t = some (.slice e)) (hi : P.info? e = some i)
 {K : aNY -> aNX -> Prop} (hk : ∀ w', eM w' w.heap.size [] -> aW w w' eS -> w'.heap.size = w.heap.size + 1 -> K (.slice (some ⟨w.heap.size, 0, none⟩) 0 0) w') :
 aD P (cU t 0 []) w K := by
 have : (cU t 0 []).run P w = .ok (.value (.slice (some ⟨w.heap.size, 0, none⟩) 0 0)) (w.alloc (.cells ([] : List aNY).toArray e)) := by
  unfold cU; rw [uS]
  have h1 : ¬ (0 > 2 ^ 24) := by omega
  have e : ∀ f : Nat -> aNY, Array.map f (Array.range 0) = #[] := fun f => by simp
  simp only [Instr.buildSlice, underlying, pure_bind, Sem.run_bind, run_program, Result.andThen_ok, hu, Sem.run_pure, lC hi, aNU, h1, if_false, if_true, newRow, run_newObj, Instr.fill, e]
  rfl
 unfold aD
 rw [this]
 exact hk _ (eM.alloc _ _ _) (aW.alloc _ _ _) (by simp)
def At (v : aNY) (b : Nat) : Prop := ∀ M : Nat -> Prop, ¬ M b -> ¬ inB v M
theorem At.nil (c b : Nat) (a : Option Addr) : At (.slice a 0 c) b := fun M h => by unfold inB; split <;> simp_all
theorem At.at (b o n c : Nat) : At (.slice (some ⟨b, o, none⟩) n c) b := fun M h => by
 unfold inB; split
 .rename_i x m _ e
  obtain ⟨rfl, _⟩ : (⟨b, o, none⟩ : Addr) = x /\ _ := by simpa using e
  exact h
 .simp
theorem tE.at' {w : aNX} {base sz n : Nat} {v : aNY} {l : List aNY} (h : tE w base sz v n l) (hb : base < w.heap.size) : ∃ b, base <= b /\ b < w.heap.size /\ At v b := by
 rcases h.2 with ⟨rfl, rfl⟩ | ⟨b, c, rest, rfl, h2, h3, h4, h5⟩
 .exact ⟨base, aLF _, hb, At.nil _ _ _⟩
 .exact ⟨b, h2, h3.lt, At.at _ _ _ _⟩
end
end Go.En
namespace Go.Proofs.YtgpimhlgaokobaaGreat
open Go Go.En Go.Pu
set_option maxRecDepth 4000
theorem IG (n : Nat) (hn : n <= 40) (w : aNX) : aS pg oD #[.int .i64 n] w (fun r w' => r = .int .i64 (2 ^ n) /\ w' = w) := by
 refine apB ?_
 unfold asG OV Ol Ny NQ Oa PM OK
 refine cR.rule (fun m t w' => ∃ i : Nat, m = n - i /\ t = (.int .i64 (2 ^ i), .int .i64 i) /\ i <= n /\ w' = w) n ⟨0, rfl, rfl, by omega, rfl⟩ ?_
 rintro m t w' ⟨i, rfl, rfl, hi, rfl⟩
 by_cases hlt : i < n
 .have d1 : decide ((i : Int) < (n : Int)) = true := by simp; omega
  have d2 : decide ((i : Int) < 40) = true := by simp; omega
  have hb : (2 : Int) ^ i <= 549755813888 := by
   have : 2 ^ i <= 2 ^ 39 := aLC (by omega) (by omega)
   have e : ((2 ^ i : Nat) : Int) = (2 : Int) ^ i := by simp
   omega
  have hp := aDw i
  simp (disch := omega) only [BL, aD, aR, d1, oS, aQ, bJ, aA, rC, bF, if_true, bL, d2, and_true, aG]
  exact ⟨n - (i + 1), by omega, i + 1, rfl, by rw [Int.pow_succ] <;> rfl, by omega⟩
 .have d1 : decide ((i : Int) < (n : Int)) = false := by simp; omega
  have : i = n := by omega
  subst this
  simp (disch := omega) only [BL, aD, aR, d1, oS, bJ, aQ, aA, Fu, true_and, uX, bF, aLu, if_false, aE, cV]
def aCE : ByteArray := ⟨#[0, 1, 2, 2, 3, 3, 3, 3, 4, 4, 4, 4, 4, 4, 4, 4, 5, 5, 5, 5, 5, 5, 5, 5, 5, 5, 5, 5, 5, 5, 5, 5, 6, 6, 6, 6, 6, 6, 6, 6, 6, 6, 6, 6, 6, 6, 6, 6, 6, 6, 6, 6, 6, 6, 6, 6, 6, 6, 6, 6, 6, 6, 6, 6, 7, 7, 7, 7, 7, 7, 7, 7, 7, 7, 7, 7, 7, 7, 7, 7, 7, 7, 7, 7, 7, 7, 7, 7, 7, 7, 7, 7, 7, 7, 7, 7, 7, 7, 7, 7, 7, 7, 7, 7, 7, 7, 7, 7, 7, 7, 7, 7, 7, 7, 7, 7, 7, 7, 7, 7, 7, 7, 7, 7, 7, 7, 7, 7, 8, 8, 8, 8, 8, 8, 8, 8, 8, 8, 8, 8, 8, 8, 8, 8, 8, 8, 8, 8, 8, 8, 8, 8, 8, 8, 8, 8, 8, 8, 8, 8, 8, 8, 8, 8, 8, 8, 8, 8, 8, 8, 8, 8, 8, 8, 8, 8, 8, 8, 8, 8, 8, 8, 8, 8, 8, 8, 8, 8, 8, 8, 8, 8, 8, 8, 8, 8, 8, 8, 8, 8, 8, 8, 8, 8, 8, 8, 8, 8, 8, 8, 8, 8, 8, 8, 8, 8, 8, 8, 8, 8, 8, 8, 8, 8, 8, 8, 8, 8, 8, 8, 8, 8, 8, 8, 8, 8, 8, 8, 8, 8, 8, 8, 8, 8, 8, 8, 8, 8, 8, 8, 8, 8, 8, 8, 8, 8]⟩
theorem XX : aCE.size = 256 := by decide
set_option maxRecDepth 100000 in
theorem aCK (x : Nat) (h : x < 256) : (aCE[x]'(by rw [XX]; exact h)).toNat = bl x := by
 have : ∀ k : Fin 256, (aCE.data[k.val]!).toNat = bl k.val := by decide +kernel
 have h2 := this ⟨x, h⟩
 simp only at h2
 rw [<- h2]
 have hs : x < aCE.data.size := by have := XX; exact (show aCE.data.size = 256 from this) ▸ h
 rw [getElem!_pos aCE.data x hs]
 rfl
theorem axC {x j : Nat} (h : 2 ^ j <= x) : bl x = bl (x / 2 ^ j) + j := by
 have hp := aLW j
 have h0 : x / 2 ^ j ≠ 0 := by
  have := Nat.div_pos h hp
  omega
 have a := ZP h0
 have b := XD (x / 2 ^ j)
 have c := Ni h0
 obtain ⟨m, hm⟩ : ∃ m, bl (x / 2 ^ j) = m + 1 := ⟨bl (x / 2 ^ j) - 1, by omega⟩
 rw [hm, aMt] at a
 rw [hm] at b ⊢
 have h1 : 2 ^ (m + j) <= x := by
  rw [aMr]
  exact aMy (aLY _ a) (Nat.div_mul_le_self _ _)
 have h2 : x < 2 ^ (m + j + 1) := by
  rw [show m + j + 1 = (m + 1) + j from by omega, aMr]
  exact (aNh hp).1 b
 rw [aH0 h1 h2]; omega
theorem aDx {x n : Nat} (hx : x < 256) (hn : n <= 1000) (R : aNY -> aNX -> Prop) (w : aNX) (h : R (.int .i64 ((n + bl x : Nat) : Int)) w) :
 vN R (.int .u64 x) (.int .i64 n) w := by
 have hg := aCK x hx
 have hs := XX
 have hb : bl x <= 8 := xA (n := 8) (by omega)
 unfold vN
 change aD pg _ w fun t21 w => aD pg (CN 9 (.string aCE) t21) w _
 simp (disch := omega) only [aD, iA, xL, aA, iS, aLs, hg, dT, aQ, bJ]
 rw [Int.natCast_add] at h
 exact h
theorem azU (a b : Nat) : ((a : Int)).fdiv (b : Int) = ((a / b : Nat) : Int) := by rw [aM2 _ (by omega)] <;> rfl
theorem X8 (x j : Nat) (hj : j <= 64) : ((x : Int)).fdiv (2 ^ (min (j : Nat) IntKind.u64.bits)) = ((x / 2 ^ j : Nat) : Int) := by
 have e : min j IntKind.u64.bits = j := by simp only [IntKind.bits]; omega
 rw [e, <- azU]; simp
theorem aIs (x : Nat) (hx : x < 18446744073709551616) (w : aNX) : aS pg AZ #[.int .u64 x] w (fun r w' => r = .int .i64 (bl x : Nat) /\ w' = w) := by
 refine Xe ?_
 unfold US D4 DQ
 have step8 : ∀ (y n : Nat), y < 65536 -> n <= 64 -> n + bl y = bl x -> zP (fun r w' => r = .int .i64 (bl x : Nat) /\ w' = w) (.int .u64 y) (.int .i64 n) w := by
  intro y n hy hn e
  unfold zP Eg
  by_cases h : 256 <= y
  .have d : decide ((256 : Int) <= (y : Int)) = true := by simp; omega
   have sh := X8 y 8 (by omega)
   have hq : y / 2 ^ 8 < 256 := by omega
   have := axC (x := y) (j := 8) (by omega)
   have e2 : (n : Int) + 8 = ((n + 8 : Nat) : Int) := by omega
   simp (disch := omega) only [aD, nJ, d, sT, bJ, e2, aQ, aA, aG]
   rw [show (8 : Int).toNat = 8 from rfl, sh]
   exact aDx hq (by omega) _ _ ⟨by rw [<- e, this]; congr 2; omega, rfl⟩
  .have d : decide ((256 : Int) <= (y : Int)) = false := by simp; omega
   simp (disch := omega) only [aD, nJ, d, sT, bJ, aQ, aA, aE]
   exact aDx (by omega) (by omega) _ _ ⟨by rw [e], rfl⟩
 have step16 : ∀ (y n : Nat), y < 4294967296 -> n <= 32 -> n + bl y = bl x -> Aa (fun r w' => r = .int .i64 (bl x : Nat) /\ w' = w) (.int .u64 y) (.int .i64 n) w := by
  intro y n hy hn e
  unfold Aa D8
  by_cases h : 65536 <= y
  .have d : decide ((65536 : Int) <= (y : Int)) = true := by simp; omega
   have sh := X8 y 16 (by omega)
   have hq : y / 2 ^ 16 < 65536 := by omega
   have := axC (x := y) (j := 16) (by omega)
   have e2 : (n : Int) + 16 = ((n + 16 : Nat) : Int) := by omega
   simp (disch := omega) only [aD, nJ, d, sT, bJ, e2, aQ, aA, aG]
   rw [show (16 : Int).toNat = 16 from rfl, sh]
   exact step8 _ _ hq (by omega) (by rw [<- e, this]; omega)
  .have d : decide ((65536 : Int) <= (y : Int)) = false := by simp; omega
   simp (disch := omega) only [aD, nJ, d, sT, bJ, aQ, aA, aE]
   exact step8 _ _ (by omega) (by omega) e
 by_cases h : 4294967296 <= x
 .have d : decide ((4294967296 : Int) <= (x : Int)) = true := by simp; omega
  have sh := X8 x 32 (by omega)
  have hq : x / 2 ^ 32 < 4294967296 := by omega
  have := axC (x := x) (j := 32) (by omega)
  simp (disch := omega) only [aD, nJ, d, sT, aA, aG]
  rw [show (32 : Int).toNat = 32 from rfl, sh]
  exact step16 _ 32 hq (by omega) (by rw [this]; omega)
 .have d : decide ((4294967296 : Int) <= (x : Int)) = false := by simp; omega
  simp (disch := omega) only [aD, nJ, d, sT, aA, aE]
  exact step16 _ 0 (by omega) (by omega) (by omega)
theorem aCB (x : Nat) (hx : x < 18446744073709551616) (w : aNX) : aS pg rT #[.int .u64 x] w (fun r w' => r = .int .i64 (bl x : Nat) /\ w' = w) := by
 refine abX ?_
 simp (disch := omega) only [Zr, HN, aD, kO, aA, aE]
 exact aIs x hx w
theorem aGm {n : Nat} (h : n <= 20) : IntKind.i64.wrap (1 * 2 ^ (min n IntKind.i64.bits)) = ((2 ^ n : Nat) : Int) := by
 have : ∀ k : Fin 21, IntKind.i64.wrap (1 * 2 ^ (min k.val IntKind.i64.bits)) = ((2 ^ k.val : Nat) : Int) := by decide
 exact this ⟨n, by omega⟩
theorem O9 {w : aNX} {v : aNY} {l : List UInt8} (h : Bs w v l) (h0 : 0 < l.length) : ∃ b off c, v = .slice (some ⟨b, off, none⟩) l.length c /\ l.length <= c /\ ∀ i, (h : i < l.length) -> w.cell? ⟨b, off + i, none⟩ = some (.int .u8 (l[i].toNat : Nat)) := by
 obtain ⟨b, off, c, rfl, hc, hcell⟩ := h.openV (by simpa using h0)
 refine ⟨b, off, c, by rw [aLD], by simpa using hc, fun i hi => ?_⟩
 have := hcell i (by simpa using hi)
 simpa [tJ] using this
theorem I3 {v : aNY} {l : List UInt8} {w : aNX} (h : Bs w v l) (hl : l.length <= 1000000000) :
 aS pg jS #[v] w (fun r w' => tE w' w.heap.size 1 r l.length (l.map tJ) /\ aW w w' eS) := by
 refine Ui ?_
 have h1 := h
 obtain ⟨a, n, c, rfl, hn, hc, hh⟩ := h
 rw [aLD] at hn
 unfold QB Bu
 cases a with
 | none =>
   have h0 : l = [] := by
    cases l with
    | nil => rfl
    | cons x l => obtain ⟨b, off, h, _⟩ := hh (by simp at hn; omega); cases h
   subst h0
   simp (disch := omega) only [aD, lO, aMa, aA, aG]
   exact ⟨tE.nil _ _ _, aW.refl _ _⟩
 | some x =>
   simp (disch := omega) only [aD, lO, aLN, aA, aE]
   refine aCM Tryz.underlying22 S0 fun w1 o1 x1 s1 => ?_
   have hcl1 := (h1.ext x1 (bY _)).cl
   rw [aLD] at hcl1
   have hos : tE w1 w.heap.size 1 (.slice (some ⟨w.heap.size, 0, none⟩) 0 0) 0 [] := ⟨rfl, .inr ⟨_, 0, [], rfl, aLF _, o1, rfl, aLF _⟩⟩
   refine mJ hos hcl1 (azG _) x1.size (by omega) fun v3 w3 o3 x3 => ?_
   rw [aLt, aMM] at o3
   exact ⟨o3, x1.trans x3 fun b hb h => Nat.not_le_of_lt hb h⟩
def AtI (v : aNY) (lo hi : Nat) : Prop := ∀ M : Nat -> Prop, (∀ b, lo <= b -> b < hi -> ¬ M b) -> ¬ inB v M
theorem tE.atI {w : aNX} {base sz n : Nat} {v : aNY} {l : List aNY} (h : tE w base sz v n l) : AtI v base w.heap.size := by
 intro M hM
 rcases h.2 with ⟨rfl, rfl⟩ | ⟨b, c, rest, rfl, h2, h3, h4, h5⟩
 .exact fun h => h
 .exact At.at b 0 n c M (hM b h2 h3.lt)
theorem aJA {w : aNX} {a : Option Addr} {n c : Nat} {l : List aNY} (h : Sl w (.slice a n c) l) {k : Nat} (hk : k <= n) : Sl w (.slice a k c) (l.take k) := by
 obtain ⟨a', n', c', e, hn, hc, hh⟩ := h
 cases e
 refine ⟨a, k, c, rfl, by rw [aLG]; omega, by omega, fun h0 => ?_⟩
 obtain ⟨b, off, ha, hcell⟩ := hh (by omega)
 refine ⟨b, off, ha, fun i hi => ?_⟩
 rw [hcell i (by omega), aMg (by omega)]
theorem slA {w : aNX} {a : Option Addr} {n c : Nat} {l : List aNY} (h : Sl w (.slice a n c) l) (h0 : 0 < n) : ∃ b off, a = some ⟨b, off, none⟩ /\ ∀ i, i < n -> w.cell? ⟨b, off + i, none⟩ = l[i]? := by
 obtain ⟨a', n', c', e, hn, hc, hh⟩ := h
 cases e
 exact hh h0
end Go.Proofs.YtgpimhlgaokobaaGreat
namespace Go.En
open Go
section
variable {P : Program}
theorem ayZ {a : Array aNY} {t x : Nat} {v : aNY} (h : t < a.size) : Vc (a.setIfInBounds t v) x = if x = t then v else Vc a x := by
 unfold Vc
 rw [aLI, aLI]
 by_cases hx : x = t
 .subst hx; rw [aMn h, if_pos rfl] <;> rfl
 .rw [aMs (fun e => hx e.symm), if_neg hx]
theorem aF7 {N x : Nat} {g : Env} (h : x < N) : Vc (tmpsOf N g) x = g x := by
 unfold Vc tmpsOf
 rw [aLI, aL3 (by simpa using h)]
 simp
theorem aIH {f : FuncId} {fn : Func} (hf : P.funcs[f]? = some fn) (hb : fn.body.isSome = true) (hn : (fn.name == "runtime.NumGoroutine") = false) (cap : Array aNY) (args : List aNY) (w : aNX) :
 (Oy (.func (.func f) #[] cap) args).run P w = .ok (.enter f (args.toArray ++ cap)) w := by
 unfold Oy Deferred.ofValue
 simp only [pure_bind, invoke, Array.empty_append]
 exact ajP hf hb hn _ _
def awK (r : Loop) (args : List aNY) : Array aNY := (r.params.zip args.toArray).foldl (fun tmps (t, a) => tmps.setIfInBounds t a) r.tmps
theorem aI0 {r : Loop} {a b : Tmp} {t : Array aNY} (hp : r.params = #[a, b]) (ht : r.tmps = t) (x y : aNY) : awK r [x, y] = (t.setIfInBounds a x).setIfInBounds b y := by
 unfold awK; rw [hp, ht]; simp
theorem aJh {l : Nat} {r : Loop} {args : List aNY} {w : aNX} (h : w.heap[l]? = some (.loop r)) (hs : args.length = r.params.size) :
 (Oy (NZ l) args).run P w = .ok (.round l r.fn (awK r args) r.assign r.body) w := by
 unfold Oy NZ Deferred.ofValue
 simp only [pure_bind, invoke, Array.empty_append]
 exact run_yield h (by simpa using hs)
theorem aG2 {f fi : FuncId} {fn : Func} {gf : Operand} {ps : Array Tmp} {aLp bd : Code} {Q : Exit -> Env -> aNX -> Prop} {g : Env} {w : aNX} {cap : Array aNY}
 (hm : noMark (g DS) = true) (he : ev g gf = .func (.func fi) #[] cap) (hf : P.funcs[fi]? = some fn) (hb : fn.body.isSome = true) (hn : (fn.name == "runtime.NumGoroutine") = false)
 (h : aS P fi (#[NZ (w.heap.size + 1)] ++ cap) (rfW f (anU P f) ps aLp bd g w) fun _ w3 => aH2 (w.heap.size + 1) Q (put g (some DS) (.pointer (some ⟨w.heap.size, 0, none⟩))) w3) :
 RF P f gf ps aLp bd Q g w := by
 unfold RF
 rw [hm]
 simp only
 rw [he, aIH hf hb hn]
 exact h
theorem aW.putObj (w : aNX) (l : Nat) (o : Obj) : aW w (w.putObj l o) (fun y => y = l) :=
 ⟨rfl, rfl, rfl, by simp, fun b hb hM => World.putObj_heap_other hM⟩
theorem Io {w w' : aNX} {l : Nat} {o : Obj} {M : Nat -> Prop} (h : w.heap[l]? = some o) (hx : aW w w' M) (hM : ¬ M l) : w'.heap[l]? = some o := by
 have : l < w.heap.size := by
  rcases aLO l w.heap.size with h' | h'
  .exact h'
  .rw [aMY h'] at h; cases h
 rw [hx.keep l this hM]; exact h
theorem aJs {w : aNX} {l : Nat} {o : Obj} (h : w.heap[l]? = some o) : l < w.heap.size := by
 rcases aLO l w.heap.size with h' | h'
 .exact h'
 .rw [aMY h'] at h; cases h
theorem aFQ (f : FuncId) (N : Nat) (ps : Array Tmp) (aLp bd : Code) (g : Env) (w : aNX) :
 aW w (rfW f N ps aLp bd g w) eS /\ (rfW f N ps aLp bd g w).heap.size = w.heap.size + 2 /\ (rfW f N ps aLp bd g w).heap[w.heap.size]? = some (.deferred (some [])) /\
  (rfW f N ps aLp bd g w).heap[w.heap.size + 1]? = some (.loop { state := .ready, pending := none, fn := f, tmps := tmpsOf N g, params := ps, assign := aLp, body := bd, defers := w.heap.size }) := by
 unfold rfW
 have x1 := aW.alloc w (.deferred (some [])) eS
 have h1 := World.alloc_heap_new w (.deferred (some []))
 have z1 : (w.alloc (.deferred (some []))).heap.size = w.heap.size + 1 := by simp
 generalize w.alloc (.deferred (some [])) = w1 at *
 refine ⟨x1.seq (aW.alloc w1 _ eS), by simp [z1], Io h1 (aW.alloc w1 _ eS) (fun h => h), ?_⟩
 have := World.alloc_heap_new w1 (.loop { state := .ready, pending := none, fn := f, tmps := tmpsOf N g, params := ps, assign := aLp, body := bd, defers := w.heap.size })
 rw [z1] at this
 exact this
theorem aGH {l : Nat} {r : Loop} {w : aNX} {K : aNX -> Prop} (h : w.heap[l]? = some (.loop r)) (hr : r.state = .ready)
 (hk : ∀ w', w'.heap[l]? = some (.loop { r with state := .busy }) -> aW w w' (fun y => y = l) -> w'.heap.size = w.heap.size -> K w') : Rdy l w K :=
 ⟨r, h, hr, hk _ (World.putObj_heap_same (aJs h)) (aW.putObj _ _ _) (by simp)⟩
theorem axN {l : Nat} {r : Loop} {j : Option Code} {w : aNX} {R : aNY -> aNX -> Prop} (h : w.heap[l]? = some (.loop r))
 (hk : ∀ w', w'.heap[l]? = some (.loop { r with state := jSt j, pending := j }) -> aW w w' (fun y => y = l) -> w'.heap.size = w.heap.size -> R (.bool j.isNone) w') : aDe l j R w :=
 ⟨r, h, hk _ (World.putObj_heap_same (aJs h)) (aW.putObj _ _ _) (by simp)⟩
theorem arX {l : Nat} {r : Loop} {w : aNX} {Q : Exit -> Env -> aNX -> Prop} {g : Env} (h : w.heap[l]? = some (.loop r)) (hb : r.state ≠ .busy)
 (hk : ∀ w', aW w w' (fun y => y = l) -> w'.heap.size = w.heap.size -> aJU Q g r.pending w') : aH2 l Q g w :=
 ⟨r, h, hb, hk _ (aW.putObj _ _ _) (by simp)⟩
theorem awP {b : Nat} {w : aNX} {K : aNX -> Prop} (h : w.heap[b]? = some (.deferred (some []))) (hk : ∀ w', aW w w' (fun y => y = b) -> w'.heap.size = w.heap.size -> K w') :
 Hh (.pointer (some ⟨b, 0, none⟩)) w K := ⟨h, hk _ (aW.putObj _ _ _) (by simp)⟩
theorem aJ6 {f : FuncId} (first captured : List aNY) (w : aNX) : (aDu (.func f) first captured).run P w = .ok (.value (.func (.func f) first.toArray captured.toArray)) w := by
 unfold aDu V Instr.makeFunc
 simp [Sem.run_bind, Sem.run_pure]
end
end Go.En
namespace Go.Proofs.YtgpimhlgaokobaaGreat
open Go Go.En Go.Pu
set_option maxRecDepth 4000
theorem aEF {l : List UInt8} {v : aNY} {box lp : Nat} {r0 : Loop} {w : aNX} (I : Nat -> aNX -> Prop) (S : aNX -> Prop)
 (hI : ∀ i W, I i W -> eM W box [v] /\ Bs W v l /\ W.heap[lp]? = some (.loop r0)) (hp : r0.params.size = 2) (hl : l.length <= 1000000000) (h0 : I l.length w)
 (hs : ∀ i W, (hi : i < l.length) -> I (i + 1) W -> aBn pg lp r0.fn (awK r0 [.int .i64 i, .int .u8 ((l[i]'hi).toNat : Nat)]) r0.assign r0.body W (fun b W' => (b = .bool true /\ I i W') ∨ (b = .bool false /\ S W'))) :
 aS pg pE #[NZ lp, .pointer (some ⟨box, 0, none⟩)] w (fun r W => r = .tuple #[] /\ (I 0 W ∨ S W)) := by
 refine Jv ?_
 obtain ⟨o, hb, hlp⟩ := hI _ _ h0
 have c0 := o.cell (off := 0)
 simp only [aLq] at c0
 obtain ⟨a, n, c, hv, hn, hc, _⟩ := id hb
 rw [aLD] at hn
 unfold CO uG uC
 subst hn
 have e1 : (l.length : Int) - 1 = (l.length : Int) - 1 := rfl
 subst hv
 simp (disch := omega) only [aD, eP, c0, aH, true_and, aA, aP, fF, aQ]
 unfold uH uL
 refine cR.rule (fun m (t : aNY) w' => ∃ i : Nat, m = i /\ t = .int .i64 ((i : Int) - 1) /\ i <= l.length /\ I i w') l.length ⟨l.length, rfl, rfl, aLF _, h0⟩ ?_
 rintro i t w1 ⟨i', rfl, rfl, hi, hIw⟩
 unfold rB
 cases i with
 | zero =>
   have d1 : decide ((0 : Int) <= ((0 : Nat) : Int) - 1) = false := rfl
   simp (disch := omega) only [aD, nJ, d1, eP, true_and, fF, aQ, aA, aE]
   exact .inl hIw
 | succ j =>
   have e0 : ((j + 1 : Nat) : Int) - 1 = (j : Int) := by omega
   have d1 : decide ((0 : Int) <= (j : Int)) = true := by simp
   obtain ⟨o1, hb1, hlp1⟩ := hI _ _ hIw
   have c1 := o1.cell (off := 0)
   simp only [aLq] at c1
   obtain ⟨b, off, c', hv', hc', hcell⟩ := hb1.openV (by simp; omega)
   simp only [aLD, Value.slice.injEq] at hv'
   obtain ⟨rfl, _, rfl⟩ := hv'
   have g1 := hcell j (by rw [aLD]; omega)
   simp only [aMH, tJ] at g1
   have q1 := aJh (P := pg) (args := [.int .i64 (j : Nat), .int .u8 ((l[j]'hi).toNat : Nat)]) hlp1 (by rw [hp] <;> rfl)
   rw [e0]
   simp (disch := omega) only [aD, nJ, d1, eP, true_and, fF, aQ, aA, c1, aH, dO, aLs, iJ, g1, q1, aCJ, aG]
   obtain ⟨b', w2, hret, hR⟩ := hs j w1 hi hIw
   refine ⟨b', w2, hret, ?_⟩
   rcases hR with ⟨rfl, hI2⟩ | ⟨rfl, hS⟩
   .simp (disch := omega) only [pL, aLL, aA, aE]
    exact ⟨j, by omega, j, rfl, rfl, by omega, hI2⟩
   .simp (disch := omega) only [pL, aLX, aA, aG]
    exact .inr hS
end Go.Proofs.YtgpimhlgaokobaaGreat
namespace Go.Pu
open Go Go.En
def S7 (c : UInt8) : List Bool := (List.range 8).map c.toNat.testBit
def aZ : List UInt8 -> List Bool
 | [] => []
 | c :: l => S7 c ++ aZ l
def wN : List Bool -> Nat
 | [] => 0
 | b :: l => b.toNat + 2 * wN l
theorem zR (c : UInt8) : (S7 c).length = 8 := by simp [S7]
theorem lZ : ∀ l : List UInt8, (aZ l).length = 8 * l.length
 | [] => rfl
 | c :: l => by rw [aZ, aLz, zR, lZ l, aLP]; omega
theorem Ud : ∀ a b : List UInt8, aZ (a ++ b) = aZ a ++ aZ b
 | [], b => rfl
 | c :: a, b => by rw [aMp, aZ, aZ, Ud a b, aLV]
theorem aFG (c : UInt8) {k : Nat} (h : k < 8) : (S7 c)[k]? = some (c.toNat.testBit k) := by
 unfold S7
 rw [aLZ, aMv h] <;> rfl
theorem MN : ∀ (l : List UInt8) (i : Nat) (h : i < 8 * l.length), (aZ l)[i]? = some ((l[i / 8]'(by omega)).toNat.testBit (i % 8))
 | [], i, h => by simp at h
 | c :: l, i, h => by
   rw [aZ]
   rcases aLO i 8 with h8 | h8
   .rw [aLR (by rw [zR]; exact h8), aFG c h8]
    have e : i / 8 = 0 := by omega
    have e2 : i % 8 = i := by omega
    simp [e, e2]
   .rw [aMx (by rw [zR]; exact h8), zR, MN l (i - 8) (by simp at h; omega)]
    have e : i / 8 = (i - 8) / 8 + 1 := by omega
    have e2 : (i - 8) % 8 = i % 8 := by omega
    simp [e, e2]
theorem akE : ∀ l : List Bool, wN l < 2 ^ l.length
 | [] => by simp [wN]
 | b :: l => by
   have := akE l
   rw [wN, aLP, aL6]
   have : b.toNat <= 1 := Bool.toNat_le b
   omega
theorem WL : ∀ a b : List Bool, wN (a ++ b) = wN a + 2 ^ a.length * wN b
 | [], b => by simp [wN]
 | x :: a, b => by
   rw [aMp, wN, wN, WL a b, aLP, aL6, aNG, <- aNE, <- aM1, aL1 2 (2 ^ a.length)]
theorem aFM (a : List Bool) (x : Bool) : wN (a ++ [x]) = wN a + 2 ^ a.length * x.toNat := by
 rw [WL]; simp [wN]
def yQ (x : Nat) (n : Nat) : List Bool := (List.range n).map x.testBit
theorem Gz (x n : Nat) : (yQ x n).length = n := by simp [yQ]
theorem Na (x : Nat) : yQ x 0 = [] := rfl
theorem adM (x n : Nat) : yQ x (n + 1) = yQ x n ++ [x.testBit n] := by
 unfold yQ; rw [aNI, aLS] <;> rfl
theorem aEu (x n : Nat) : yQ x (n + 1) = x.testBit 0 :: yQ (x / 2) n := by
 unfold yQ
 rw [List.range_succ_eq_map, aME, aNV]
 congr 1
 apply aL7
 intro k _
 simp [Nat.testBit_succ]
theorem axU : ∀ (n x : Nat), wN (yQ x n) = x % 2 ^ n
 | 0, x => by simp [yQ, wN, Nat.mod_one]
 | n + 1, x => by
   rw [aEu, wN, axU n (x / 2), aL6, aL1 (2 ^ n) 2, Nat.mod_mul]
   congr 1
   rw [Nat.testBit_zero]
   have : x % 2 = 0 ∨ x % 2 = 1 := by omega
   rcases this with h | h <;> simp [h]
theorem azQ {x i : Nat} (h : x < 2 ^ i) (b : Nat) : x ||| (b * 2 ^ i) = x + 2 ^ i * b := by
 rw [Nat.or_comm, aL1 b, <- Nat.two_pow_add_eq_or_of_lt h b, Nat.add_comm]
theorem aBX {a b : Nat} (ha : a < 2 ^ 64) (hb : b < 2 ^ 64) : orI .u64 (a : Int) (b : Int) = ((a ||| b : Nat) : Int) := by
 have h := Nat.or_lt_two_pow ha hb
 unfold orI
 have e : IntKind.u64.bits = 64 := rfl
 rw [e, BitVec.ofInt_natCast, BitVec.ofInt_natCast, BitVec.toNat_or, BitVec.toNat_ofNat, BitVec.toNat_ofNat, aL5 ha, aL5 hb]
 exact kV (by omega) (by have : ((a ||| b : Nat) : Int) < ((2 ^ 64 : Nat) : Int) := by exact_mod_cast h
                         omega)
theorem ayI {a b : Nat} (ha : a < 2 ^ 8) (hb : b < 2 ^ 8) : orI .u8 (a : Int) (b : Int) = ((a ||| b : Nat) : Int) := by
 have h := Nat.or_lt_two_pow ha hb
 unfold orI
 have e : IntKind.u8.bits = 8 := rfl
 rw [e, BitVec.ofInt_natCast, BitVec.ofInt_natCast, BitVec.toNat_or, BitVec.toNat_ofNat, BitVec.toNat_ofNat, aL5 ha, aL5 hb]
 exact xL (by omega) (by have : ((a ||| b : Nat) : Int) < ((2 ^ 8 : Nat) : Int) := by exact_mod_cast h
                         omega)
theorem aIx {a : Nat} (h : a < 2 ^ 8) : VE .u8 (a : Int) 1 = ((a % 2 : Nat) : Int) := by
 have : ∀ k : Fin 256, VE .u8 (k.val : Int) 1 = ((k.val % 2 : Nat) : Int) := by decide +kernel
 exact this ⟨a, h⟩
theorem aDD {a : Nat} (h : a < 2 ^ 64) : VE .u64 (a : Int) 1 = ((a % 2 : Nat) : Int) := by
 unfold VE
 have e : IntKind.u64.bits = 64 := rfl
 rw [e, BitVec.ofInt_natCast, show (BitVec.ofInt 64 1) = BitVec.ofNat 64 1 from rfl, BitVec.toNat_and, BitVec.toNat_ofNat, BitVec.toNat_ofNat, aL5 h, show 1 % 2 ^ 64 = 1 from rfl, Nat.and_one_is_mod]
 exact kV (by omega) (by omega)
theorem aoO (x k : Nat) : (x.testBit k).toNat = x / 2 ^ k % 2 := by
 rw [aNq]
 have : x / 2 ^ k % 2 = 0 ∨ x / 2 ^ k % 2 = 1 := by omega
 rcases this with h | h <;> simp [h]
def qL (L : List Bool) (n : Nat) : Nat := wN (L.drop (L.length - min n L.length)) * 2 ^ (n - min n L.length)
theorem sX (L : List Bool) (n : Nat) : qL L n < 2 ^ n := by
 unfold qL
 have h := akE (L.drop (L.length - min n L.length))
 rw [aLM, show L.length - (L.length - min n L.length) = min n L.length from by omega] at h
 calc _ < 2 ^ min n L.length * 2 ^ (n - min n L.length) := Nat.mul_lt_mul_of_pos_right h (aLW _)
  _ = 2 ^ n := by rw [<- aMr]; congr 1; omega
theorem aAn {L : List Bool} {at' i : Nat} {b : Bool} (h : L[at' + i]? = some b) : (L.drop at').take (i + 1) = (L.drop at').take i ++ [b] := by
 rw [aMq, aM7, h] <;> rfl
def Yt (l : List UInt8) : Option Nat := match l.getLast? with
 | none => none
 | some c => if c.toNat = 0 then none else some (8 * (l.length - 1) + bl c.toNat - 1)
theorem MP {l : List UInt8} (h : 0 < l.length) : Yt l = if (l[l.length - 1]'(by omega)).toNat = 0 then none else some (8 * (l.length - 1) + bl (l[l.length - 1]'(by omega)).toNat - 1) := by
 unfold Yt
 rw [aNl, aLA (by omega)]
theorem H9 {l : List UInt8} {k : Nat} (h : Yt l = some k) : 0 < l.length /\ k < 8 * l.length /\ 8 * (l.length - 1) <= k /\ (aZ l)[k]? = some true /\ ∀ j, k < j -> j < 8 * l.length -> (aZ l)[j]? = some false := by
 have h0 : 0 < l.length := by
  cases l with
  | nil => simp [Yt] at h
  | cons x l => simp
 rw [MP h0] at h
 generalize hc : l[l.length - 1]'(by omega) = c at h
 split at h
 .cases h
 .rename_i hne
  have hk := aLT h
  have h1 := Ni hne
  have h2 : bl c.toNat <= 8 := xA (by have : c.toNat < 256 := aL9 c
                                      omega)
  have h3 := ZP hne
  have h4 := XD c.toNat
  refine ⟨h0, by omega, by omega, ?_, ?_⟩
  .rw [MN l k (by omega)]
   have e : k / 8 = l.length - 1 := by omega
   have e2 : k % 8 = bl c.toNat - 1 := by omega
   simp only [e, hc, e2]
   rw [aNq]
   obtain ⟨m, hm⟩ : ∃ m, bl c.toNat = m + 1 := ⟨bl c.toNat - 1, by omega⟩
   rw [hm, aMt] at h3 ⊢
   rw [hm, aL6] at h4
   have : c.toNat / 2 ^ m = 1 := by
    have hp := aLW m
    have := (Nat.le_div_iff_mul_le hp).2 (show 1 * 2 ^ m <= c.toNat by omega)
    have := (aNh hp).2 (show c.toNat < 2 * 2 ^ m by omega)
    omega
   simp [this]
  .intro j h5 h6
   rw [MN l j h6]
   have e : j / 8 = l.length - 1 := by omega
   simp only [e, hc]
   rw [Nat.testBit_lt_two_pow]
   exact aM4 h4 (aLC (by omega) (by omega))
end Go.Pu
namespace Go.Proofs.YtgpimhlgaokobaaGreat
open Go Go.En Go.Pu
set_option maxRecDepth 4000
theorem aH1 {l : List UInt8} {v : aNY} {st n : Nat} {w : aNX} (h : Bs w v l) (hn : n <= 64) (hat : st + n <= 8 * l.length) (hl : l.length <= 1000000000) :
 aS pg Jh #[v, .int .i64 st, .int .i64 n] w (fun r w' => r = .int .u64 (wN (((aZ l).drop st).take n)) /\ w' = w) := by
 refine azE ?_
 unfold aAK TQ Uq TL TX TO TP TY
 refine cR.rule (fun m (t : aNY × aNY) w' => ∃ i : Nat, m = n - i /\ t = (.int .u64 (wN (((aZ l).drop st).take i) : Nat), .int .i64 i) /\ i <= n /\ w' = w) n ⟨0, rfl, by simp [wN], by omega, rfl⟩ ?_
 rintro m t w1 ⟨i, rfl, rfl, hi, rfl⟩
 unfold Mf
 by_cases hlt : i < n
 .have d1 : decide ((i : Int) < (n : Int)) = true := by simp; omega
  obtain ⟨b, off, c, rfl, hc, hcell⟩ := h.openV (by simp; omega)
  obtain ⟨q, hq⟩ : ∃ q, q = st + i := ⟨_, rfl⟩
  have e0 : (st : Int) + (i : Int) = (q : Int) := by omega
  have e1 : (q : Int).tdiv 8 = ((q / 8 : Nat) : Int) := by rw [aLK (by omega)]; omega
  have e2 : (q : Int).tmod 8 = ((q % 8 : Nat) : Int) := by rw [aLU (by omega)]; omega
  have hq8 : q / 8 < l.length := by omega
  have hb : (aZ l)[st + i]? = some ((l[q / 8]'hq8).toNat.testBit (q % 8)) := by subst hq; exact MN l _ (by omega)
  have ht := aAn hb
  have g1 := hcell (q / 8) (by simpa using hq8)
  simp only [aMH, tJ] at g1
  have hx : (l[q / 8]'hq8).toNat < 256 := aL9 _
  generalize (l[q / 8]'hq8).toNat = x at *
  have e3 : (x : Int).fdiv (2 ^ (min (q % 8) IntKind.u8.bits)) = ((x / 2 ^ (q % 8) : Nat) : Int) := by
   rw [show min (q % 8) IntKind.u8.bits = q % 8 from aMm (by have : IntKind.u8.bits = 8 := rfl
                                                             omega), aM2 _ (Int.pow_nonneg (by omega))]
   simp
  have hy : x / 2 ^ (q % 8) < 2 ^ 8 := by have := aMu x (2 ^ (q % 8)); omega
  have e4 := aIx hy
  rw [<- aoO] at e4
  have hbt : (x.testBit (q % 8)).toNat <= 1 := Bool.toNat_le _
  have hlen : (((aZ l).drop st).take i).length = i := by rw [aLG, aLM, lZ]; omega
  have hnb := akE (((aZ l).drop st).take i)
  have hsn := aFM (((aZ l).drop st).take i) (x.testBit (q % 8))
  rw [<- ht, hlen] at hsn
  rw [hlen] at hnb
  have hp : 2 ^ i < 2 ^ 64 := Nat.pow_lt_pow_right (by omega) (by omega)
  have hp2 : 2 ^ i <= 2 ^ 63 := aLC (by omega) (by omega)
  generalize (x.testBit (q % 8)).toNat = bt at *
  have hm : bt * 2 ^ i <= 2 ^ i := by
   have := aLY (2 ^ i) hbt
   omega
  have e5 : IntKind.u64.wrap ((bt : Int) * 2 ^ (min i IntKind.u64.bits)) = ((bt * 2 ^ i : Nat) : Int) := by
   rw [show min i IntKind.u64.bits = i from aMm (by have : IntKind.u64.bits = 64 := rfl
                                                    omega)]
   have e : (bt : Int) * 2 ^ i = ((bt * 2 ^ i : Nat) : Int) := by simp
   rw [e]
   exact kV (by omega) (by omega)
  have e6 := aBX (a := wN (((aZ l).drop st).take i)) (b := bt * 2 ^ i) (by omega) (by omega)
  rw [azQ hnb, <- hsn] at e6
  simp (disch := omega) only [aD, aR, d1, bJ, e0, aQ, aLD, fY, kV, aA, oY, e1, rL, e2, dO, aLs, iJ, g1, aH, sT, e3, xK, e4, iR, pG, e5, LC, e6, and_true, aG]
  exact ⟨n - (i + 1), by omega, i + 1, rfl, rfl, by omega⟩
 .have d1 : decide ((i : Int) < (n : Int)) = false := by simp; omega
  obtain rfl : i = n := by omega
  unfold Mg
  simp (disch := omega) only [aD, aR, d1, bJ, aQ, fY, kV, aA, oY, rL, true_and, aE]
def Fwd (w : aNX) (lo hi : Nat) (l : List UInt8) (st : Nat) : Prop := ∃ v, eM w hi [v, .int .i64 st] /\ Bs w v l /\ AtI v lo hi
theorem Fwd.ext {w w' : aNX} {lo hi st : Nat} {l : List UInt8} {M : Nat -> Prop} (h : Fwd w lo hi l st) (hx : aW w w' M) (hM : ∀ b, lo <= b -> b <= hi -> ¬ M b) (hlh : lo <= hi) : Fwd w' lo hi l st := by
 obtain ⟨v, h1, h2, h3⟩ := h
 exact ⟨v, h1.ext hx (hM _ hlh (aLF _)), h2.ext hx (h3 M fun b hb hh => hM b hb (by omega)), h3⟩
theorem aBz {v : aNY} {l : List UInt8} {w : aNX} (h : Bs w v l) (hl : l.length <= 1000000000) :
 aS pg AR #[v] w (fun r w' => ∃ hi, r = .pointer (some ⟨hi, 0, none⟩) /\ w.heap.size <= hi /\ hi < w'.heap.size /\ Fwd w' w.heap.size hi l 0 /\ aW w w' eS) := by
 refine V9 ?_
 unfold UC Ev
 refine (I3 h hl).mono ?_
 rintro r w1 ⟨o1, x1⟩
 have hat := tE.atI o1
 have hs := o1.sl
 obtain ⟨a, c, rfl⟩ := o1.len
 simp (disch := omega) only [aD, iX, aA]
 refine nR fun w2 o2 x2 s2 => ?_
 simp only [Value.cells] at o2
 exact ⟨_, rfl, x1.size, by omega, ⟨_, o2, hs.ext x2 (bY _), hat⟩, x1.seq x2⟩
theorem X2 {l : List UInt8} {lo hi st n : Nat} {w : aNX} (h : Fwd w lo hi l st) (hlh : lo <= hi) (hn : n <= 32) (hst : st <= 8 * l.length) (hl : l.length <= 1000000) :
 aS pg pV #[.pointer (some ⟨hi, 0, none⟩), .int .i64 n] w (fun r w' =>
  (8 * l.length < st + n /\ r = .tuple #[.int .u64 0, .int .i64 10] /\ Fwd w' lo hi l st /\ aW w w' eS) ∨
  (st + n <= 8 * l.length /\ r = .tuple #[.int .u64 (wN (((aZ l).drop st).take n)), .int .i64 0] /\ Fwd w' lo hi l (st + n) /\ aW w w' (fun y => y = hi))) := by
 refine Uk ?_
 obtain ⟨v, o, hs, hat⟩ := h
 unfold QG BP
 have d1 : decide ((n : Int) < 0) = false := by simp
 have d2 : decide ((32 : Int) < (n : Int)) = false := by simp; omega
 have c0 := o.cell (off := 0)
 have c1 := o.cell (off := 1)
 simp only [aLq, aLr] at c0 c1
 obtain ⟨a, n', c, hv, hn', hc, hh⟩ := id hs
 rw [aLD] at hn'
 subst hn'
 by_cases hsh : 8 * l.length < st + n
 .have d3 : decide (8 * (l.length : Int) - (st : Int) < (n : Int)) = true := by simp; omega
  subst hv
  have od := kB o
  have c0d := od.cell (off := 0)
  have c1d := od.cell (off := 1)
  simp only [aLq, aLr] at c0d c1d
  simp (disch := omega) only [aD, fN, aLN, qW, true_and, aA, gM, aLt, bO, iI, eP, cW, bF, aLu, if_false, bL, aR, d1, cX, d2, c0d, aH, c1d, aP, oS, aQ, fF, d3, aG, aE]
  exact .inl ⟨hsh, ⟨_, kB o, hs.ext (aW.dr _ eS) (bY _), hat⟩, aW.dr _ _⟩
 .have d3 : decide (8 * (l.length : Int) - (st : Int) < (n : Int)) = false := by simp; omega
  subst hv
  have c0e := (kB o).cell (off := 0)
  have c1e := (kB o).cell (off := 1)
  have od := kB (kB o)
  have c0d := od.cell (off := 0)
  have c1d := od.cell (off := 1)
  simp only [aLq, aLr] at c0d c1d c0e c1e
  simp (disch := omega) only [aD, fN, aLN, qW, true_and, aA, gM, aLt, bO, iI, eP, cW, bF, aLu, if_false, bL, aR, d1, cX, d2, c0e, aH, c1e, c0d, c1d, aP, oS, aQ, fF, d3, aE]
  refine (aH1 (l := l) (st := st) (n := n) ((hs.ext (aW.dr _ eS) (bY _)).ext (aW.dr _ eS) (bY _)) (by omega) (by omega) (by omega)).mono ?_
  rintro r w1 ⟨rfl, rfl⟩
  simp (disch := omega) only [c1d, aH, true_and, aA, bJ, aQ]
  refine pH od rfl (by simp) fun w2 o2 x2 s2 => ?_
  simp only [aLw, aLv] at o2
  have e1 : (st : Int) + (n : Int) = ((st + n : Nat) : Int) := by omega
  rw [e1] at o2
  have x02 : aW w w2 (fun y => y = hi) := ((aW.dr _ _).seq (aW.dr _ _)).seq x2
  exact .inr ⟨by omega, ⟨_, o2, hs.ext x02 (hat _ fun b hb hh => by omega), hat⟩, x02⟩
theorem aGt {l : List UInt8} {lo hi st : Nat} {w : aNX} (h : Fwd w lo hi l st) (hst : st <= 1000000000) :
 aS pg xQ #[.pointer (some ⟨hi, 0, none⟩)] w (fun r w' => r = .int .i64 (((st + 7) / 8 : Nat)) /\ w' = w) := by
 refine Tx ?_
 obtain ⟨v, o, hs, hat⟩ := h
 have c1 := o.cell (off := 1)
 simp only [aLq, aLr] at c1
 have e1 : ((st : Int) + 7).tdiv 8 = (((st + 7) / 8 : Nat) : Int) := by rw [aLK (by omega)]; omega
 unfold QC BQ
 simp (disch := omega) only [aD, fN, aLN, qW, aA, gM, aLt, bO, and_true, c1, aH, bJ, aQ, oY, e1, aE]
end Go.Proofs.YtgpimhlgaokobaaGreat
namespace Go.Pu
open Go Go.En
structure auB (B : List Bool) (l : List UInt8) : Prop where
 len : l.length = (B.length + 7) / 8
 bits : aZ l = B ++ List.replicate (8 * l.length - B.length) false
theorem aIf : auB [] [] := ⟨rfl, rfl⟩
theorem aEy : S7 0 = List.replicate 8 false := by decide
theorem aA3 {B : List Bool} {l : List UInt8} (h : auB B l) (h8 : B.length % 8 = 0) : aZ (l ++ [0]) = B ++ List.replicate (8 * (l.length + 1) - B.length) false /\ (l ++ [(0 : UInt8)]).length = (B.length + 1 + 7) / 8 := by
 have hl := h.len
 refine ⟨?_, by rw [aLz, aMj]; omega⟩
 rw [Ud, h.bits, aZ, aZ, aEy, aMd, aLV]
 congr 1
 rw [show 8 * l.length - B.length = 0 from by omega, show 8 * (l.length + 1) - B.length = 8 from by omega]
 rfl
theorem aIg (c : UInt8) (r : Nat) (hr : r < 8) (y : Bool) (h : c.toNat.testBit r = false) : S7 (UInt8.ofNat (c.toNat + 2 ^ r * y.toNat)) = (S7 c).set r y /\ c.toNat + 2 ^ r * y.toNat < 256 /\ c.toNat ||| (y.toNat * 2 ^ r) = c.toNat + 2 ^ r * y.toNat := by
 have key : ∀ (c : Fin 256) (r : Fin 8) (y : Bool), c.val.testBit r.val = false -> S7 (UInt8.ofNat (c.val + 2 ^ r.val * y.toNat)) = (S7 (UInt8.ofNat c.val)).set r.val y /\ c.val + 2 ^ r.val * y.toNat < 256 /\ c.val ||| (y.toNat * 2 ^ r.val) = c.val + 2 ^ r.val * y.toNat := by decide +kernel
 have := key ⟨c.toNat, aL9 c⟩ ⟨r, hr⟩ y h
 simpa using this
theorem aAV : ∀ (l : List UInt8) (i r : Nat) (c : UInt8) (y : Bool) (hi : i < l.length), r < 8 -> S7 c = (S7 l[i]).set r y -> aZ (l.set i c) = (aZ l).set (8 * i + r) y
 | [], i, r, c, y, hi, hr, h => by simp at hi
 | x :: l, 0, r, c, y, hi, hr, h => by
   rw [aLw, aZ, aZ, h, aMI _ _ (by rw [zR]; omega)]
   simp
 | x :: l, i + 1, r, c, y, hi, hr, h => by
   rw [aLv, aZ, aZ, aM8 _ _ (by rw [zR]; omega), zR, aAV l i r c y (by simpa using hi) hr (by simpa using h)]
   congr 2
   omega
theorem aC2 {B : List Bool} {l : List UInt8} {y : Bool} (hb : aZ l = B ++ List.replicate (8 * l.length - B.length) false) (hl : l.length = (B.length + 1 + 7) / 8) :
 ∃ hi : B.length / 8 < l.length, auB (B ++ [y]) (l.set (B.length / 8) (UInt8.ofNat ((l[B.length / 8]'hi).toNat + 2 ^ (B.length % 8) * y.toNat))) /\
   (l[B.length / 8]'hi).toNat + 2 ^ (B.length % 8) * y.toNat < 256 /\ (l[B.length / 8]'hi).toNat ||| (y.toNat * 2 ^ (B.length % 8)) = (l[B.length / 8]'hi).toNat + 2 ^ (B.length % 8) * y.toNat := by
 have hi : B.length / 8 < l.length := by omega
 have hbit := MN l B.length (by omega)
 rw [hb, aMx (aLF _), aNb, aMT, if_pos (by omega)] at hbit
 have hbit := (aLT hbit).symm
 obtain ⟨h1, h2, h3⟩ := aIg _ (B.length % 8) (by omega) y hbit
 refine ⟨hi, ⟨?_, ?_⟩, h2, h3⟩
 .rw [aNJ, aLz, aMj]; exact hl
 .rw [aAV l _ (B.length % 8) _ y hi (by omega) h1, hb, show 8 * (B.length / 8) + B.length % 8 = B.length from by omega, aM8 _ _ (aLF _), aNb, aNJ, aLz, aMj, aLV]
  congr 1
  rw [show 8 * l.length - B.length = (8 * l.length - (B.length + 1)) + 1 from by omega, aMc, aLw]
  rfl
theorem aHw {B : List Bool} {l : List UInt8} (h : auB (B ++ [true]) l) : Yt l = some B.length /\ (aZ l).take B.length = B := by
 have hl := h.len
 have hb := h.bits
 rw [aLz, aMj] at hl hb
 have h0 : 0 < l.length := by omega
 have htop : (aZ l)[B.length]? = some true := by
  rw [hb, aLV, aMx (aLF _), aNb] <;> rfl
 have hoff : ∀ j, B.length < j -> j < 8 * l.length -> (aZ l)[j]? = some false := by
  intro j h1 h2
  rw [hb, aLV, aMx (by omega), List.singleton_append, List.getElem?_cons, if_neg (by omega), aMT, if_pos (by omega)]
 refine ⟨?_, by rw [hb, aLV, aNu] <;> rfl⟩
 cases he : Yt l with
 | none =>
   rw [MP h0] at he
   split at he
   .rename_i hz
    rw [MN l _ (by omega)] at htop
    have e : B.length / 8 = l.length - 1 := by omega
    simp only [e, hz] at htop
    simp at htop
   .cases he
 | some k =>
   obtain ⟨_, h1, _, h2, h3⟩ := H9 he
   rcases aNQ k B.length with h | h | h
   .rw [h3 _ h (by omega)] at htop; simp at htop
   .rw [h]
   .rw [hoff _ h h1] at h2; simp at h2
theorem aHq {x n : Nat} (h : x < 2 ^ n) : wN (yQ x n) = x := by rw [axU, aL5 h]
theorem aD5 {B : List Bool} {x n : Nat} (h : x < 2 ^ n) : qL (B ++ yQ x n) n = x := by
 unfold qL
 rw [aLz, Gz, show min n (B.length + n) = n from by omega, aNb, aMt, List.drop_left, aHq h]; simp
end Go.Pu
namespace Go.Proofs.YtgpimhlgaokobaaGreat
open Go Go.En Go.Pu
set_option maxRecDepth 4000
theorem LV {w w' : aNX} {S M : Nat -> Prop} {sz n : Nat} {v : aNY} {l : List aNY} (h : OSS w S sz v n l) (hx : aW w w' M) (hM : ∀ b, S b -> ¬ M b) : OSS w' S sz v n l := by
 refine ⟨h.1, ?_⟩
 rcases h.2 with h2 | ⟨b, c, rest, h1, h2, h3, h4, h5⟩
 .exact .inl h2
 .exact .inr ⟨b, c, rest, h1, h2, h3.ext hx (hM b h2), h4, h5⟩
def Wr (w : aNX) (lo p : Nat) (B : List Bool) : Prop := lo <= p /\ ∃ v bytes, eM w p [v, .int .i64 B.length] /\ OSS w (fun b => lo <= b /\ b ≠ p) 1 v bytes.length (bytes.map tJ) /\ auB B bytes
def Rm (w : aNX) (lo p : Nat) (B : List Bool) : Prop := lo <= p /\ ∃ v bytes, eM w p [v, .int .i64 B.length] /\ OSS w (fun b => lo <= b /\ b ≠ p) 1 v bytes.length (bytes.map tJ) /\
 aZ bytes = B ++ List.replicate (8 * bytes.length - B.length) false /\ bytes.length = (B.length + 1 + 7) / 8
theorem Wr.ext {w w' : aNX} {lo p : Nat} {B : List Bool} {M : Nat -> Prop} (h : Wr w lo p B) (hx : aW w w' M) (hM : ∀ b, lo <= b -> ¬ M b) : Wr w' lo p B := by
 obtain ⟨h0, v, bytes, h1, h2, h3⟩ := h
 exact ⟨h0, v, bytes, h1.ext hx (hM _ h0), LV h2 hx fun b hb => hM b hb.1, h3⟩
theorem aJw {lo p x i : Nat} {B : List Bool} {t17 : aNY} {w : aNX} (h : Rm w lo p B) (hx : x < 2 ^ 64) (hi : i <= 60) (hB : B.length <= 1000000000)
 {kn : aNY -> aNY -> aNY -> aNY -> aNX -> Prop} (hR : ∀ w', Wr w' lo p (B ++ [x.testBit i]) -> aW w w' (fun y => lo <= y) -> kn (.pointer (some ⟨p, 0, none⟩)) (.int .u64 x) t17 (.int .i64 i) w') :
 pB kn (.pointer (some ⟨p, 0, none⟩)) (.int .u64 x) (.int .i64 i) t17 (.int .i64 i) w := by
 obtain ⟨h0, v, bytes, o, os, hbits, hlen⟩ := h
 obtain ⟨hlt, hheld, hval, hor⟩ := aC2 (y := x.testBit i) hbits hlen
 rcases os.2 with ⟨rfl, hz⟩ | ⟨b, c, rest, rfl, hS, ob, hc, hn⟩
 .rw [hlen] at hz; omega
 generalize hq : B.length = q at *
 have hcell : (bytes.map tJ ++ rest)[q / 8]? = some (.int .u8 ((bytes[q / 8]'hlt).toNat : Nat)) := by
  rw [aLR (by rw [aLD]; exact hlt), aLZ, aLA hlt] <;> rfl
 have hcl : (bytes[q / 8]'hlt).toNat < 2 ^ 8 := aL9 _
 have hset : (bytes.map tJ ++ rest).set (q / 8) (.int .u8 (((bytes[q / 8]'hlt).toNat + 2 ^ (q % 8) * (x.testBit i).toNat : Nat))) = (bytes.set (q / 8) (UInt8.ofNat ((bytes[q / 8]'hlt).toNat + 2 ^ (q % 8) * (x.testBit i).toNat))).map tJ ++ rest := by
  rw [aMI _ _ (by rw [aLD]; exact hlt), aNN, tJ, aMQ (by simpa using hval)]
 have hbl : (bytes.set (q / 8) (UInt8.ofNat ((bytes[q / 8]'hlt).toNat + 2 ^ (q % 8) * (x.testBit i).toNat))).length = bytes.length := aNJ
 generalize bytes.set (q / 8) (UInt8.ofNat ((bytes[q / 8]'hlt).toNat + 2 ^ (q % 8) * (x.testBit i).toNat)) = bytes' at *
 generalize (bytes[q / 8]'hlt).toNat = y at *
 have e1 : (q : Int).tdiv 8 = ((q / 8 : Nat) : Int) := by rw [aLK (by omega)]; omega
 have e2 : (q : Int).tmod 8 = ((q % 8 : Nat) : Int) := by rw [aLU (by omega)]; omega
 have e3 := X8 x i (by omega)
 have hxl : x / 2 ^ i < 2 ^ 64 := by have := aMu x (2 ^ i); omega
 have e4 := aDD hxl
 rw [<- aoO] at e4
 have hbt : (x.testBit i).toNat <= 1 := Bool.toNat_le _
 have hp8 : 2 ^ (q % 8) <= 2 ^ 7 := aLC (by omega) (by omega)
 have hm : (x.testBit i).toNat * 2 ^ (q % 8) <= 2 ^ (q % 8) := by
  have := aLY (2 ^ (q % 8)) hbt
  omega
 have e5 : IntKind.u8.wrap (((x.testBit i).toNat : Int) * 2 ^ (min (q % 8) IntKind.u8.bits)) = (((x.testBit i).toNat * 2 ^ (q % 8) : Nat) : Int) := by
  rw [show min (q % 8) IntKind.u8.bits = q % 8 from aMm (by have h8 : IntKind.u8.bits = 8 := rfl; omega)]
  have e : ((x.testBit i).toNat : Int) * 2 ^ (q % 8) = (((x.testBit i).toNat * 2 ^ (q % 8) : Nat) : Int) := by simp
  rw [e]
  exact xL (by omega) (by omega)
 have e6 := ayI (a := y) (b := (x.testBit i).toNat * 2 ^ (q % 8)) hcl (by omega)
 rw [hor] at e6
 have e7 : (q : Int) + 1 = ((q + 1 : Nat) : Int) := by omega
 have od := kB o
 have obd := kB ob
 have c0 := od.cell (off := 0)
 have c1 := od.cell (off := 1)
 have g := obd.cell (off := q / 8)
 rw [hcell] at g
 simp only [aLq, aLr] at c0 c1
 unfold pB
 simp (disch := omega) only [aD, qW, fY, kV, aA, fO, aLt, bO, c1, aH, rL, e2, true_and, sT, aLs, e3, xK, e4, iA, xL, pG, e5, oY, e1, aQ, fG, eP, c0, dO, iJ, g, LC, e6]
 refine Xq obd rfl (by rw [aLz, aLD]; omega) fun w2 o2 x2 s2 => ?_
 rw [hset] at o2
 have op2 := od.ext x2 (fun h => hS.2 h.symm)
 have c12 := op2.cell (off := 1)
 simp only [aLq, aLr] at c12
 simp (disch := omega) only [c12, aH, aA, bJ, e7, aQ]
 refine pH op2 rfl (by simp) fun w3 o3 x3 s3 => ?_
 simp only [aLw, aLv] at o3
 have hBl : (B ++ [x.testBit i]).length = q + 1 := by rw [aLz, hq] <;> rfl
 refine hR _ ⟨h0, _, bytes', by rw [hBl]; exact o3, ⟨by simp, .inr ⟨b, c, rest, by rw [hbl], hS, o2.ext x3 hS.2, ?_, by rw [hbl]; exact hn⟩⟩, hheld⟩ ?_
 .rw [aLz, aLD] at hc ⊢; rw [hbl]; exact hc
 .exact ((aW.dr _ _).seq (x2.mono fun z _ h => by omega)).seq (x3.mono fun z _ h => by omega)
theorem aKu {lo p x i n : Nat} {B : List Bool} {w : aNX} (hw : Wr w lo p B) (hx : x < 2 ^ 64) (hi : i <= 60) (hB : B.length <= 1000000000)
 {kn : aNY -> aNY -> aNY -> aNY -> aNX -> Prop} (hR : ∀ w', Wr w' lo p (B ++ [x.testBit i]) -> aW w w' (fun y => lo <= y) -> kn (.pointer (some ⟨p, 0, none⟩)) (.int .u64 x) (.int .i64 n) (.int .i64 i) w') :
 sW kn (.pointer (some ⟨p, 0, none⟩)) (.int .u64 x) (.int .i64 n) (.int .i64 i) w := by
 unfold sW wK
 obtain ⟨h0, v, bytes, o, os, hh⟩ := hw
 have c1 := o.cell (off := 1)
 have c0 := o.cell (off := 0)
 simp only [aLq, aLr] at c0 c1
 have e2 : (B.length : Int).tmod 8 = ((B.length % 8 : Nat) : Int) := by rw [aLU (by omega)]; omega
 by_cases h8 : B.length % 8 = 0
 .have d4 : (((B.length % 8 : Nat) : Int) == 0) = true := by rw [h8] <;> rfl
  obtain ⟨hr1, hr2⟩ := aA3 hh h8
  have hl2 := hh.len
  have lp := o.lt
  simp (disch := omega) only [aD, qW, aA, fG, eP, fO, aLt, bO, c1, aH, rL, e2, dV, d4, c0, aG]
  refine pD (cells := #[.int .u8 0]) (by decide) (by decide) (by kernel_rfl) fun w2 o2 x2 s2 => ?_
  refine yY (m := 1) (news := [tJ 0]) (i := Tryz.t5) Tryz.underlying22 Tryz.underlying22 S0 rfl rfl rfl (LV os x2 (fun _ _ h => h)) (o2.cl (off := 0) (l := [tJ 0]) (n := 1) rfl (fun i hi => by rw [aLt] <;> rfl)) (by simp [one, tJ]) (fun b hb => ⟨by omega, by omega⟩) (by omega) (by rw [show Tryz.t5.bytes = 1 from rfl]; omega) (by decide) fun v3 w3 o3 x3 => ?_
  have x13 : aW w w3 (fun y => lo <= y /\ y ≠ p) := (x2.mono fun _ _ h => h.elim).seq x3
  have op3 := o.ext x13 (fun h => h.2 rfl)
  have hv3 : ∃ a n c, v3 = .slice a n c := by
   rcases o3.2 with ⟨rfl, _⟩ | ⟨b, c, rest, rfl, _⟩
   .exact ⟨_, _, _, rfl⟩
   .exact ⟨_, _, _, rfl⟩
  obtain ⟨a3, n3, c3, rfl⟩ := hv3
  refine yX op3 rfl (by simp) fun w4 o4 x4 s4 => ?_
  simp only [aLw, aLv] at o4
  have x14 : aW w w4 (fun y => lo <= y) := (x13.mono fun y _ h => h.1).seq (x4.mono fun y _ h => by omega)
  refine aJw (w := w4) ⟨h0, _, bytes ++ [0], o4, ?_, ?_, hr2⟩ hx hi hB fun w5 h5 x5 => hR w5 h5 (x14.seq x5)
  .have := LV o3 x4 (fun b hb h => hb.2 h)
   rw [aLz, aLS]
   exact this
  .rw [aLz]; exact hr1
 .have d4 : (((B.length % 8 : Nat) : Int) == 0) = false := by simp; omega
  simp (disch := omega) only [aD, qW, aA, fG, eP, fO, aLt, bO, c1, aH, rL, e2, dV, d4, aE]
  refine aJw (w := w) ⟨h0, v, bytes, o, os, hh.bits, ?_⟩ hx hi hB fun w5 h5 x5 => hR w5 h5 x5
  rw [hh.len]; omega
theorem aIG {lo p x n : Nat} {B : List Bool} {w : aNX} (h : Wr w lo p B) (hx : x < 2 ^ 64) (hn : n <= 56) (hB : B.length <= 100000000) :
 aS pg rP #[.pointer (some ⟨p, 0, none⟩), .int .u64 x, .int .i64 n] w (fun r w' => r = .tuple #[] /\ Wr w' lo p (B ++ yQ x n) /\ aW w w' (fun y => lo <= y)) := by
 refine Fo ?_
 unfold Ga vS vO
 by_cases hn0 : n = 0
 .subst hn0
  have d1 : decide (((0 : Nat) : Int) < 1) = true := rfl
  simp (disch := omega) only [aD, fH, aLN, true_and, aA, cW, bF, aLu, if_false, bL, aR, d1, iT, if_true, aG, cV]
  exact ⟨by rw [Na, aMd]; exact h, aW.refl _ _⟩
 have d1 : decide ((n : Int) < 1) = false := by simp; omega
 have d2 : decide ((56 : Int) < (n : Int)) = false := by simp; omega
 simp (disch := omega) only [aD, fH, aLN, true_and, aA, cW, bF, aLu, if_false, bL, aR, d1, cX, d2, aE]
 unfold vU wY
 refine cR.rule (fun m (t : aNY) w' => ∃ i : Nat, m = n - i /\ t = .int .i64 i /\ i <= n /\ Wr w' lo p (B ++ yQ x i) /\ aW w w' (fun y => lo <= y)) n
  ⟨0, rfl, rfl, by omega, by rw [Na, aMd]; exact h, aW.refl _ _⟩ ?_
 rintro m t w1 ⟨i, rfl, rfl, hi, hw, x1⟩
 unfold tD wZ
 by_cases hlt : i < n
 .have d3 : decide ((i : Int) < (n : Int)) = true := by simp; omega
  simp (disch := omega) only [aD, aR, d3, aA, aG]
  unfold wU wG
  refine aKu hw hx (by omega) (by rw [aLz, Gz]; omega) fun w3 hw3 x3 => ?_
  unfold tA
  simp (disch := omega) only [aD, bJ, aQ, aA]
  refine ⟨n - (i + 1), by omega, i + 1, rfl, rfl, by omega, ?_, x1.seq x3⟩
  rw [adM, <- aLV]
  exact hw3
 .have d3 : decide ((i : Int) < (n : Int)) = false := by simp; omega
  obtain rfl : i = n := by omega
  simp (disch := omega) only [aD, aR, d3, aA, aE]
  exact ⟨hw, x1⟩
def Ws (w : aNX) (S : Nat -> Prop) (p : Nat) (B : List Bool) : Prop := ¬ S p /\ ∃ v bytes, eM w p [v, .int .i64 B.length] /\ OSS w S 1 v bytes.length (bytes.map tJ) /\ auB B bytes
def Rs (w : aNX) (S : Nat -> Prop) (p : Nat) (B : List Bool) : Prop := ¬ S p /\ ∃ v bytes, eM w p [v, .int .i64 B.length] /\ OSS w S 1 v bytes.length (bytes.map tJ) /\
 aZ bytes = B ++ List.replicate (8 * bytes.length - B.length) false /\ bytes.length = (B.length + 1 + 7) / 8
theorem Ws.ext {w w' : aNX} {S M : Nat -> Prop} {p : Nat} {B : List Bool} (h : Ws w S p B) (hx : aW w w' M) (hp : ¬ M p) (hM : ∀ b, S b -> ¬ M b) : Ws w' S p B := by
 obtain ⟨h0, v, bytes, h1, h2, h3⟩ := h
 exact ⟨h0, v, bytes, h1.ext hx hp, LV h2 hx hM, h3⟩
theorem Ws.turn {w : aNX} {S T : Nat -> Prop} {p : Nat} {B : List Bool} (h : Ws w S p B) (hp : ¬ T p) (hT : ∀ b, S b -> b < w.heap.size -> T b) : Ws w T p B := by
 obtain ⟨h0, v, bytes, h1, h2, h3⟩ := h
 refine ⟨hp, v, bytes, h1, ⟨h2.1, ?_⟩, h3⟩
 rcases h2.2 with h2 | ⟨b, c, rest, e, hb, o, hc, hn⟩
 .exact .inl h2
 .exact .inr ⟨b, c, rest, e, hT b hb o.lt, o, hc, hn⟩
theorem aHY {S : Nat -> Prop} {p x i : Nat} {B : List Bool} {t17 : aNY} {w : aNX} (h : Rs w S p B) (hx : x < 2 ^ 64) (hi : i <= 60) (hB : B.length <= 1000000000)
 {kn : aNY -> aNY -> aNY -> aNY -> aNX -> Prop} (hR : ∀ w', Ws w' S p (B ++ [x.testBit i]) -> aW w w' (fun y => y = p ∨ S y) -> kn (.pointer (some ⟨p, 0, none⟩)) (.int .u64 x) t17 (.int .i64 i) w') :
 pB kn (.pointer (some ⟨p, 0, none⟩)) (.int .u64 x) (.int .i64 i) t17 (.int .i64 i) w := by
 obtain ⟨h0, v, bytes, o, os, hbits, hlen⟩ := h
 obtain ⟨hlt, hheld, hval, hor⟩ := aC2 (y := x.testBit i) hbits hlen
 rcases os.2 with ⟨rfl, hz⟩ | ⟨b, c, rest, rfl, hS, ob, hc, hn⟩
 .rw [hlen] at hz; omega
 generalize hq : B.length = q at *
 have hcell : (bytes.map tJ ++ rest)[q / 8]? = some (.int .u8 ((bytes[q / 8]'hlt).toNat : Nat)) := by
  rw [aLR (by rw [aLD]; exact hlt), aLZ, aLA hlt] <;> rfl
 have hcl : (bytes[q / 8]'hlt).toNat < 2 ^ 8 := aL9 _
 have hset : (bytes.map tJ ++ rest).set (q / 8) (.int .u8 (((bytes[q / 8]'hlt).toNat + 2 ^ (q % 8) * (x.testBit i).toNat : Nat))) = (bytes.set (q / 8) (UInt8.ofNat ((bytes[q / 8]'hlt).toNat + 2 ^ (q % 8) * (x.testBit i).toNat))).map tJ ++ rest := by
  rw [aMI _ _ (by rw [aLD]; exact hlt), aNN, tJ, aMQ (by simpa using hval)]
 have hbl : (bytes.set (q / 8) (UInt8.ofNat ((bytes[q / 8]'hlt).toNat + 2 ^ (q % 8) * (x.testBit i).toNat))).length = bytes.length := aNJ
 generalize bytes.set (q / 8) (UInt8.ofNat ((bytes[q / 8]'hlt).toNat + 2 ^ (q % 8) * (x.testBit i).toNat)) = bytes' at *
 generalize (bytes[q / 8]'hlt).toNat = y at *
 have e1 : (q : Int).tdiv 8 = ((q / 8 : Nat) : Int) := by rw [aLK (by omega)]; omega
 have e2 : (q : Int).tmod 8 = ((q % 8 : Nat) : Int) := by rw [aLU (by omega)]; omega
 have e3 := X8 x i (by omega)
 have hxl : x / 2 ^ i < 2 ^ 64 := by have := aMu x (2 ^ i); omega
 have e4 := aDD hxl
 rw [<- aoO] at e4
 have hbt : (x.testBit i).toNat <= 1 := Bool.toNat_le _
 have hp8 : 2 ^ (q % 8) <= 2 ^ 7 := aLC (by omega) (by omega)
 have hm : (x.testBit i).toNat * 2 ^ (q % 8) <= 2 ^ (q % 8) := by
  have := aLY (2 ^ (q % 8)) hbt
  omega
 have e5 : IntKind.u8.wrap (((x.testBit i).toNat : Int) * 2 ^ (min (q % 8) IntKind.u8.bits)) = (((x.testBit i).toNat * 2 ^ (q % 8) : Nat) : Int) := by
  rw [show min (q % 8) IntKind.u8.bits = q % 8 from aMm (by have h8 : IntKind.u8.bits = 8 := rfl; omega)]
  have e : ((x.testBit i).toNat : Int) * 2 ^ (q % 8) = (((x.testBit i).toNat * 2 ^ (q % 8) : Nat) : Int) := by simp
  rw [e]
  exact xL (by omega) (by omega)
 have e6 := ayI (a := y) (b := (x.testBit i).toNat * 2 ^ (q % 8)) hcl (by omega)
 rw [hor] at e6
 have e7 : (q : Int) + 1 = ((q + 1 : Nat) : Int) := by omega
 have od := kB o
 have obd := kB ob
 have c0 := od.cell (off := 0)
 have c1 := od.cell (off := 1)
 have g := obd.cell (off := q / 8)
 rw [hcell] at g
 simp only [aLq, aLr] at c0 c1
 unfold pB
 simp (disch := omega) only [aD, qW, fY, kV, aA, fO, aLt, bO, c1, aH, rL, e2, true_and, sT, aLs, e3, xK, e4, iA, xL, pG, e5, oY, e1, aQ, fG, eP, c0, dO, iJ, g, LC, e6]
 refine Xq obd rfl (by rw [aLz, aLD]; omega) fun w2 o2 x2 s2 => ?_
 rw [hset] at o2
 have op2 := od.ext x2 (fun h => h0 (h ▸ hS))
 have c12 := op2.cell (off := 1)
 simp only [aLq, aLr] at c12
 simp (disch := omega) only [c12, aH, aA, bJ, e7, aQ]
 refine pH op2 rfl (by simp) fun w3 o3 x3 s3 => ?_
 simp only [aLw, aLv] at o3
 have hBl : (B ++ [x.testBit i]).length = q + 1 := by rw [aLz, hq] <;> rfl
 refine hR _ ⟨h0, _, bytes', by rw [hBl]; exact o3, ⟨by simp, .inr ⟨b, c, rest, by rw [hbl], hS, o2.ext x3 (fun h => h0 (h ▸ hS)), ?_, by rw [hbl]; exact hn⟩⟩, hheld⟩ ?_
 .rw [aLz, aLD] at hc ⊢; rw [hbl]; exact hc
 .exact ((aW.dr _ _).seq (x2.mono fun z _ h => .inr (h ▸ hS))).seq (x3.mono fun z _ h => .inl h)
theorem aJQ {S : Nat -> Prop} {p x i n : Nat} {B : List Bool} {w : aNX} (hw : Ws w S p B) (hN : ∀ b, w.heap.size <= b -> S b) (hx : x < 2 ^ 64) (hi : i <= 60) (hB : B.length <= 1000000000)
 {kn : aNY -> aNY -> aNY -> aNY -> aNX -> Prop} (hR : ∀ w', Ws w' S p (B ++ [x.testBit i]) -> aW w w' (fun y => y = p ∨ S y) -> kn (.pointer (some ⟨p, 0, none⟩)) (.int .u64 x) (.int .i64 n) (.int .i64 i) w') :
 sW kn (.pointer (some ⟨p, 0, none⟩)) (.int .u64 x) (.int .i64 n) (.int .i64 i) w := by
 unfold sW wK
 obtain ⟨h0, v, bytes, o, os, hh⟩ := hw
 have c1 := o.cell (off := 1)
 have c0 := o.cell (off := 0)
 simp only [aLq, aLr] at c0 c1
 have e2 : (B.length : Int).tmod 8 = ((B.length % 8 : Nat) : Int) := by rw [aLU (by omega)]; omega
 by_cases h8 : B.length % 8 = 0
 .have d4 : (((B.length % 8 : Nat) : Int) == 0) = true := by rw [h8] <;> rfl
  obtain ⟨hr1, hr2⟩ := aA3 hh h8
  have hl2 := hh.len
  have lp := o.lt
  simp (disch := omega) only [aD, qW, aA, fG, eP, fO, aLt, bO, c1, aH, rL, e2, dV, d4, c0, aG]
  refine pD (cells := #[.int .u8 0]) (by decide) (by decide) (by kernel_rfl) fun w2 o2 x2 s2 => ?_
  refine yY (m := 1) (news := [tJ 0]) (i := Tryz.t5) Tryz.underlying22 Tryz.underlying22 S0 rfl rfl rfl (LV os x2 (fun _ _ h => h)) (o2.cl (off := 0) (l := [tJ 0]) (n := 1) rfl (fun i hi => by rw [aLt] <;> rfl)) (by simp [one, tJ]) (fun b hb => hN b (by omega)) (by omega) (by rw [show Tryz.t5.bytes = 1 from rfl]; omega) (by decide) fun v3 w3 o3 x3 => ?_
  have x13 : aW w w3 S := (x2.mono fun _ _ h => h.elim).seq x3
  have op3 := o.ext x13 h0
  have hv3 : ∃ a n c, v3 = .slice a n c := by
   rcases o3.2 with ⟨rfl, _⟩ | ⟨b, c, rest, rfl, _⟩
   .exact ⟨_, _, _, rfl⟩
   .exact ⟨_, _, _, rfl⟩
  obtain ⟨a3, n3, c3, rfl⟩ := hv3
  refine yX op3 rfl (by simp) fun w4 o4 x4 s4 => ?_
  simp only [aLw, aLv] at o4
  have x14 : aW w w4 (fun y => y = p ∨ S y) := (x13.mono fun y _ h => .inr h).seq (x4.mono fun y _ h => .inl h)
  refine aHY (w := w4) ⟨h0, _, bytes ++ [0], o4, ?_, ?_, hr2⟩ hx hi hB fun w5 h5 x5 => hR w5 h5 (x14.seq x5)
  .have := LV o3 x4 (fun b hb h => h0 (h ▸ hb))
   rw [aLz, aLS]
   exact this
  .rw [aLz]; exact hr1
 .have d4 : (((B.length % 8 : Nat) : Int) == 0) = false := by simp; omega
  simp (disch := omega) only [aD, qW, aA, fG, eP, fO, aLt, bO, c1, aH, rL, e2, dV, d4, aE]
  refine aHY (w := w) ⟨h0, v, bytes, o, os, hh.bits, ?_⟩ hx hi hB fun w5 h5 x5 => hR w5 h5 x5
  rw [hh.len]; omega
theorem aIo {S : Nat -> Prop} {p x n : Nat} {B : List Bool} {w : aNX} (h : Ws w S p B) (hN : ∀ b, w.heap.size <= b -> S b) (hx : x < 2 ^ 64) (hn : n <= 56) (hB : B.length <= 100000000) :
 aS pg rP #[.pointer (some ⟨p, 0, none⟩), .int .u64 x, .int .i64 n] w (fun r w' => r = .tuple #[] /\ Ws w' S p (B ++ yQ x n) /\ aW w w' (fun y => y = p ∨ S y)) := by
 refine Fo ?_
 unfold Ga vS vO
 by_cases hn0 : n = 0
 .subst hn0
  have d1 : decide (((0 : Nat) : Int) < 1) = true := rfl
  simp (disch := omega) only [aD, fH, aLN, true_and, aA, cW, bF, aLu, if_false, bL, aR, d1, iT, if_true, aG, cV]
  exact ⟨by rw [Na, aMd]; exact h, aW.refl _ _⟩
 have d1 : decide ((n : Int) < 1) = false := by simp; omega
 have d2 : decide ((56 : Int) < (n : Int)) = false := by simp; omega
 simp (disch := omega) only [aD, fH, aLN, true_and, aA, cW, bF, aLu, if_false, bL, aR, d1, cX, d2, aE]
 unfold vU wY
 refine cR.rule (fun m (t : aNY) w' => ∃ i : Nat, m = n - i /\ t = .int .i64 i /\ i <= n /\ Ws w' S p (B ++ yQ x i) /\ aW w w' (fun y => y = p ∨ S y)) n
  ⟨0, rfl, rfl, by omega, by rw [Na, aMd]; exact h, aW.refl _ _⟩ ?_
 rintro m t w1 ⟨i, rfl, rfl, hi, hw, x1⟩
 unfold tD wZ
 by_cases hlt : i < n
 .have d3 : decide ((i : Int) < (n : Int)) = true := by simp; omega
  simp (disch := omega) only [aD, aR, d3, aA, aG]
  unfold wU wG
  refine aJQ hw (fun b hb => hN b (by have := x1.size; omega)) hx (by omega) (by rw [aLz, Gz]; omega) fun w3 hw3 x3 => ?_
  unfold tA
  simp (disch := omega) only [aD, bJ, aQ, aA]
  refine ⟨n - (i + 1), by omega, i + 1, rfl, rfl, by omega, ?_, x1.seq x3⟩
  rw [adM, <- aLV]
  exact hw3
 .have d3 : decide ((i : Int) < (n : Int)) = false := by simp; omega
  obtain rfl : i = n := by omega
  simp (disch := omega) only [aD, aR, d3, aA, aE]
  exact ⟨hw, x1⟩
theorem Ws.wr {w : aNX} {S : Nat -> Prop} {p : Nat} {B : List Bool} (h : Ws w S p B) : Wr w 0 p B := by
 have h1 := h.turn (T := fun b => 0 <= b /\ b ≠ p) (fun h => h.2 rfl) (fun b hb _ => ⟨aNn _, fun e => h.1 (e ▸ hb)⟩)
 obtain ⟨h0, v, bytes, a, b, c⟩ := h1
 exact ⟨aNn _, v, bytes, a, b, c⟩
theorem aBB (w : aNX) : aS pg BZ #[] w (fun r w' => r = .pointer (some ⟨w.heap.size, 0, none⟩) /\ w'.heap.size = w.heap.size + 1 /\ Ws w' (fun _ => False) w.heap.size [] /\ aW w w' eS) := by
 refine Zc ?_
 unfold V7 ES
 simp (disch := omega) only [aD, kJ, aA]
 refine nR fun w1 o1 x1 s1 => ?_
 simp only [Value.cells] at o1
 exact ⟨rfl, by omega, ⟨fun h => h, _, [], o1, ⟨rfl, .inl ⟨rfl, rfl⟩⟩, aIf⟩, x1⟩
theorem aH4 {lo p : Nat} {B : List Bool} {w : aNX} (h : Wr w lo p B) (hB : B.length <= 10000000) :
 aS pg wM #[.pointer (some ⟨p, 0, none⟩)] w (fun r w' => ∃ bytes, Bs w' r bytes /\ auB (B ++ [true]) bytes /\ AtI r w.heap.size w'.heap.size /\ aW w w' eS) := by
 refine Tq ?_
 obtain ⟨h0, v, bytes, o, os, hh⟩ := h
 have c0 := (kB o).cell (off := 0)
 have c1 := (kB o).cell (off := 1)
 simp only [aLq, aLr] at c0 c1
 have hs : Bs w v bytes := by
  have h1 := os.1
  rcases os.2 with ⟨rfl, h2⟩ | ⟨b, c, rest, rfl, h2, h3, h4, h5⟩
  .exact ⟨_, _, _, rfl, by omega, by omega, fun h => by omega⟩
  .refine ⟨_, _, _, rfl, by omega, h5, fun _ => ⟨b, 0, rfl, fun i hi => ?_⟩⟩
   rw [h3.cell, aLt, aLR (by omega)]
 have hl := hh.len
 unfold Of AO
 simp (disch := omega) only [aD, fH, aLN, qW, jH, Result.ok.injEq, Next.value.injEq, and_true, true_and, aA, fO, aLt, bO, fG, eP, c0, aH, c1, aE]
 refine (I3 (hs.ext (aW.dr _ eS) (bY _)) (by omega)).mono ?_
 rintro r w1 ⟨o1, x1⟩
 have z1 := x1.size
 have x01 : aW w w1 eS := (aW.dr w eS).seq x1
 have c11 := (o.ext x01 (fun h => h)).cell (off := 1)
 simp only [aLq, aLr] at c11
 have hdr : (dr w).heap.size = w.heap.size := rfl
 rw [hdr] at o1 z1
 obtain ⟨a1, cc1, rfl⟩ := o1.len
 simp (disch := omega) only [c11, aH, aA, iC, true_and]
 refine nR fun w2 o2 x2 s2 => ?_
 simp only [Value.cells] at o2
 have hw : Wr w2 w.heap.size w1.heap.size B := by
  refine ⟨z1, _, bytes, o2, ⟨o1.1, ?_⟩, hh⟩
  rcases o1.2 with h2 | ⟨b, c, rest, h1, h2, h3, h4, h5⟩
  .exact .inl h2
  .have := h3.lt
   exact .inr ⟨b, c, rest, h1, ⟨h2, by omega⟩, h3.ext x2 (fun h => h), h4, h5⟩
 refine (aIG (x := 1) (n := 1) hw (by omega) (by omega) (by omega)).mono ?_
 rintro r w3 ⟨rfl, ⟨h0', v3, bytes3, o3, os3, hh3⟩, x3⟩
 have c03 := o3.cell (off := 0)
 simp only [aLq, aLr] at c03
 simp (disch := omega) only [qW, aA, fG, eP, c03, aH]
 have e1 : yQ 1 1 = [true] := by decide
 rw [e1] at hh3
 refine ⟨bytes3, ?_, hh3, ?_, ?_⟩
 .have h1 := os3.1
  rcases os3.2 with ⟨rfl, h2⟩ | ⟨b, c, rest, rfl, h2, h3, h4, h5⟩
  .exact ⟨_, _, _, rfl, by omega, by omega, fun h => by omega⟩
  .refine ⟨_, _, _, rfl, by omega, h5, fun _ => ⟨b, 0, rfl, fun i hi => ?_⟩⟩
   rw [h3.cell, aLt, aLR (by omega)]
 .intro M hM
  rcases os3.2 with ⟨rfl, h2⟩ | ⟨b, c, rest, rfl, h2, h3, h4, h5⟩
  .exact fun h => h
  .exact At.at b 0 _ c M (hM b h2.1 h3.lt)
 .exact (x01.seq x2).trans x3 fun b hb h => by omega
end Go.Proofs.YtgpimhlgaokobaaGreat
namespace Go.Pu
def G2 (w : Nat) : Nat := if w = 0 then 0 else 2 ^ (w - 1)
def dU (l : List Nat) : Nat := (l.map G2).sum
def rH (d : Nat) (l : List Nat) : Bool := l.all fun w => decide (w <= d)
def jF (l : List Nat) : Nat :=
 if rH 11 l = true /\ 2 <= l.length /\ l.length <= 256 /\ l.getLast? ≠ some 0 /\ 2 ^ (dU l).log2 = dU l /\ (dU l).log2 <= 11 /\ rH (dU l).log2 l = true then (dU l).log2 else 0
theorem CP (a b : List Nat) : dU (a ++ b) = dU a + dU b := by simp [dU]
theorem pC (w : Nat) (l : List Nat) : dU (w :: l) = G2 w + dU l := by simp [dU]
theorem aBR {w : Nat} (h : w <= 11) : G2 w <= 1024 := by
 unfold G2
 split
 .omega
 .have : 2 ^ (w - 1) <= 2 ^ 10 := aLC (by omega) (by omega)
  omega
theorem IA : ∀ {l : List Nat}, (∀ w ∈ l, w <= 11) -> dU l <= 1024 * l.length
 | [], _ => by simp [dU]
 | w :: l, h => by
   have h1 := aBR (h w (aM5 ..))
   have h2 := IA fun x hx => h x (aLQ _ hx)
   rw [pC, aLP]; omega
theorem alE {w : Nat} : ∀ {l : List Nat}, w ∈ l -> G2 w <= dU l
 | [], h => by cases h
 | x :: l, h => by
   rw [pC]
   rcases aMl.1 h with rfl | h
   .omega
   .have := alE h; omega
theorem rS {d : Nat} {l : List Nat} : rH d l = true ↔ ∀ w ∈ l, w <= d := by simp [rH]
theorem aCD : ∀ (s : Nat), 0 < s -> ((s &&& (s - 1) = 0) ↔ 2 ^ s.log2 = s) := by
 intro s
 induction s using Nat.strongRecOn with
 | ind s ih =>
   intro h
   by_cases h1 : s = 1
   .subst h1; decide
   .have hl : s.log2 = (s / 2).log2 + 1 := by
     rw [Nat.log2_def, if_pos (by omega)]
    have hd : (s &&& (s - 1)) / 2 = s / 2 &&& (s - 1) / 2 := Nat.and_div_two
    have hm : (s &&& (s - 1)) % 2 = 0 := by
     rcases aM3 (s &&& (s - 1)) with h' | h'
     .exact h'
     .rw [Nat.and_mod_two_eq_one] at h'; omega
    rw [hl, aL6]
    rcases aM3 s with h2 | h2
    .have he : (s - 1) / 2 = s / 2 - 1 := by omega
     rw [he] at hd
     have := ih (s / 2) (by omega) (by omega)
     constructor
     .intro h0
      rw [h0] at hd
      have := this.1 (by omega)
      omega
     .intro h0
      have := this.2 (by omega)
      omega
    .have he : (s - 1) / 2 = s / 2 := by omega
     rw [he, Nat.and_self] at hd
     constructor
     .intro h0; omega
     .intro h0; omega
theorem yM {l : List Nat} {d : Nat} (h : jF l = d) (hd : d ≠ 0) : (∀ w ∈ l, w <= d) /\ d <= 11 /\ 2 <= l.length /\ l.length <= 256 /\ l.getLast? ≠ some 0 /\ dU l = 2 ^ d := by
 unfold jF at h
 split at h
 .rename_i hh
  obtain ⟨h1, h2, h3, h4, h5, h6, h7⟩ := hh
  subst h
  exact ⟨rS.1 h7, h6, h2, h3, h4, h5.symm⟩
 .exact absurd h.symm hd
theorem aGC {l : List Nat} {d : Nat} (h1 : ∀ w ∈ l, w <= d) (h2 : d <= 11) (h3 : 2 <= l.length) (h4 : l.length <= 256) (h5 : l.getLast? ≠ some 0) (h6 : dU l = 2 ^ d) : jF l = d := by
 unfold jF
 have hl : (dU l).log2 = d := by rw [h6, aNA]
 rw [hl, if_pos ⟨rS.2 fun w hw => aMy (h1 w hw) h2, h3, h4, h5, h6.symm, h2, rS.2 h1⟩]
def xZ (l : List Nat) (w : Nat) : Nat := dU (l.filter fun x => decide (x < w))
def O3 (l : List Nat) (s : Nat) : Nat := xZ l (l.getD s 0) + (l.take s).count (l.getD s 0) * 2 ^ (l.getD s 0 - 1)
def Fe (l : List Nat) (d s : Nat) : Nat × Nat := if l.getD s 0 = 0 then (0, 0) else (d + 1 - l.getD s 0, O3 l s / 2 ^ (l.getD s 0 - 1))
theorem Qu (l : List Nat) (w : Nat) (hw : 1 <= w) : xZ l (w + 1) = xZ l w + l.count w * 2 ^ (w - 1) := by
 unfold xZ
 induction l with
 | nil => simp [dU]
 | cons x l ih =>
   rw [aMW, aNp, aNp]
   by_cases h1 : x < w
   .rw [if_pos (by simp; omega), if_pos (by simp; omega), pC, pC, ih]
    have : (x == w) = false := by simp; omega
    rw [this]; simp; omega
   .by_cases h2 : x = w
    .subst h2
     rw [if_pos (by simp), if_neg (by simp), pC, ih]
     have : G2 x = 2 ^ (x - 1) := by unfold G2; rw [if_neg (by omega)]
     rw [this]; simp [aMi]; omega
    .rw [if_neg (by simp; omega), if_neg (by simp; omega), ih]
     have : (x == w) = false := by simpa using h2
     rw [this]; simp
theorem awV (l : List Nat) : xZ l 1 = 0 := by
 unfold xZ
 induction l with
 | nil => rfl
 | cons x l ih =>
   rw [aNp]
   split
   .rename_i h
    have : x = 0 := by simp at h; omega
    subst this
    rw [pC, ih] <;> rfl
   .exact ih
theorem aaU {l : List Nat} {d : Nat} (h : ∀ w ∈ l, w <= d) : xZ l (d + 1) = dU l := by
 unfold xZ
 rw [List.filter_eq_self.2 fun a ha => by have := h a ha; simp; omega]
theorem azX {l : List Nat} {d w : Nat} (hs : dU l = 2 ^ d) (hw : w <= d + 1) (h1 : 1 <= w) : 2 ^ (w - 1) ∣ xZ l w := by
 have hsplit : ∀ l : List Nat, dU l = xZ l w + dU (l.filter fun x => decide (w <= x)) := by
  intro l
  unfold xZ
  induction l with
  | nil => rfl
  | cons x l ih =>
    rw [aNp, aNp, pC, ih]
    by_cases h : x < w
    .rw [if_pos (by simpa using h), if_neg (by simp; omega), pC]; omega
    .rw [if_neg (by simpa using h), if_pos (by simp; omega), pC]; omega
 have hhigh : 2 ^ (w - 1) ∣ dU (l.filter fun x => decide (w <= x)) := by
  generalize hL : l.filter (fun x => decide (w <= x)) = L
  have hge : ∀ x ∈ L, w <= x := fun x hx => by rw [<- hL] at hx; simpa using (aNH.1 hx).2
  clear hL
  induction L with
  | nil => exact Nat.dvd_zero _
  | cons x L ih =>
    rw [pC]
    refine Nat.dvd_add ?_ (ih fun y hy => hge y (aLQ _ hy))
    have := hge x (aM5 ..)
    unfold G2
    rw [if_neg (by omega)]
    exact Nat.pow_dvd_pow 2 (by omega)
 have htot : 2 ^ (w - 1) ∣ dU l := by rw [hs]; exact Nat.pow_dvd_pow 2 (by omega)
 rw [hsplit l] at htot
 exact (Nat.dvd_add_left hhigh).1 htot
def tP (l : List Nat) : Option Nat :=
 if rH 11 l = true /\ 1 <= l.length /\ l.length <= 255 /\ 0 < dU l /\ bl (dU l) <= 11 /\ 2 ^ (2 ^ bl (dU l) - dU l).log2 = 2 ^ bl (dU l) - dU l
 then some ((2 ^ bl (dU l) - dU l).log2 + 1) else none
theorem aBH {l : List Nat} {k : Nat} (h : tP l = some k) : jF (l ++ [k]) = bl (dU l) /\ 1 <= bl (dU l) /\ 1 <= k /\ k <= 11 /\ l.length <= 255 /\ 1 <= l.length /\ ∀ x, jF (l ++ [x]) = bl (dU l) -> x = k := by
 unfold tP at h
 split at h
 .rename_i hh
  obtain ⟨h1, h2, h3, h4, h5, h6⟩ := hh
  have hk := aLT h
  have hlt := XD (dU l)
  have hle := ZP (k := dU l) (by omega)
  have hb1 := Ni (k := dU l) (by omega)
  generalize hD : bl (dU l) = D at *
  generalize hlog : (2 ^ D - dU l).log2 = k0 at *
  have hW : dU (l ++ [k]) = 2 ^ D := by
   rw [CP, pC, <- hk]
   have : G2 (k0 + 1) = 2 ^ k0 := by unfold G2; rw [if_neg (by omega), aMt]
   rw [this, h6]
   have : dU [] = 0 := rfl
   rw [this]; omega
  have hp2 : 2 ^ D = 2 * 2 ^ (D - 1) := by
   obtain ⟨E, rfl⟩ : ∃ E, D = E + 1 := ⟨D - 1, by omega⟩
   rw [aMt, aL6, aL1]
  have hk0 : k0 <= D - 1 := by
   rcases aLO (D - 1) k0 with hq | hq
   .have := Nat.pow_lt_pow_right (a := 2) (by omega) hq
    omega
   .exact hq
  have hall : ∀ w ∈ l ++ [k], w <= D := by
   intro w hw
   rcases aMb.1 hw with hw | hw
   .have h7 := alE hw
    rcases aLO D w with hq | hq
    .exfalso
     unfold G2 at h7
     rw [if_neg (by omega)] at h7
     have := aLC (n := 2) (by omega) (show D <= w - 1 by omega)
     omega
    .exact hq
   .rw [aNg.1 hw]; omega
  refine ⟨aGC hall h5 (by simp; omega) (by simp; omega) (by rw [aNB]; intro e; have := aLT e; omega) hW, hb1, by omega, by omega, h3, h2, fun x hx => ?_⟩
  obtain ⟨q1, q2, q3, q4, q5, q6⟩ := yM hx (by omega)
  rw [CP, pC] at q6
  have e0 : dU [] = 0 := rfl
  rw [aNB] at q5
  have hx0 : x ≠ 0 := fun e => q5 (by rw [e])
  have hwx : G2 x = 2 ^ (x - 1) := by unfold G2; rw [if_neg hx0]
  rw [hwx, e0] at q6
  have : 2 ^ (x - 1) = 2 ^ k0 := by omega
  have := congrArg Nat.log2 this
  rw [aNA, aNA] at this
  omega
 .cases h
theorem tX {l : List Nat} {s : Nat} (h : s < l.length) : l.getD s 0 ∈ l := by
 rw [aLE, aLA h]; exact aMf h
theorem aIa {l : List Nat} {s : Nat} (h : s < l.length) : (l.take s).count (l.getD s 0) + 1 <= l.count (l.getD s 0) := by
 have hg : l.getD s 0 = l[s] := by rw [aLE, aLA h] <;> rfl
 have e : l = l.take s ++ l[s] :: l.drop (s + 1) := by rw [<- aL2 h, aNa]
 rw [hg]
 have : l.count l[s] = (l.take s ++ l[s] :: l.drop (s + 1)).count l[s] := by rw [<- e]
 rw [this, aMV, aMW]; simp
theorem WW {l : List Nat} {a b : Nat} (h1 : 1 <= a) (h : a <= b) : xZ l a <= xZ l b := by
 obtain ⟨c, rfl⟩ := Nat.exists_eq_add_of_le h
 induction c with
 | zero => exact aLF _
 | succ c ih =>
   have := Qu l (a + c) (by omega)
   rw [<- aM1]
   have := ih (by omega)
   omega
theorem aHJ {l : List Nat} {s : Nat} (h : s < l.length) (h0 : l.getD s 0 ≠ 0) : O3 l s + 2 ^ (l.getD s 0 - 1) <= xZ l (l.getD s 0 + 1) := by
 have h1 := aIa h
 rw [Qu l _ (by omega)]
 unfold O3
 have := aLY (2 ^ (l.getD s 0 - 1)) h1
 rw [aMi] at this
 omega
theorem aEh {l : List Nat} {s d : Nat} (h : s < l.length) (h0 : l.getD s 0 ≠ 0) (hs : dU l = 2 ^ d) (hd : l.getD s 0 <= d) : 2 ^ (l.getD s 0 - 1) ∣ O3 l s :=
 Nat.dvd_add (azX hs (by omega) (by omega)) (Nat.dvd_mul_left _ _)
theorem aGn {l : List Nat} {s d : Nat} (h : s < l.length) (h0 : l.getD s 0 ≠ 0) (hs : dU l = 2 ^ d) (hall : ∀ w ∈ l, w <= d) : O3 l s / 2 ^ (l.getD s 0 - 1) < 2 ^ (d + 1 - l.getD s 0) := by
 have hd := hall _ (tX h)
 have h1 := aHJ h h0
 have h2 := WW (l := l) (a := l.getD s 0 + 1) (b := d + 1) (by omega) (by omega)
 rw [aaU hall, hs] at h2
 rw [aNh (aLW _), <- aMr, show d + 1 - l.getD s 0 + (l.getD s 0 - 1) = d from by omega]
 have := aLW (l.getD s 0 - 1)
 omega
theorem aBe {l : List Nat} {s t d : Nat} (hsl : s < l.length) (htl : t < l.length) (hst : s ≠ t) (hs0 : l.getD s 0 ≠ 0) (ht0 : l.getD t 0 ≠ 0) (hw : l.getD t 0 <= l.getD s 0) (hs : dU l = 2 ^ d) (hall : ∀ w ∈ l, w <= d) :
 O3 l t / 2 ^ (l.getD t 0 - 1) / 2 ^ (l.getD s 0 - l.getD t 0) ≠ O3 l s / 2 ^ (l.getD s 0 - 1) := by
 rw [aM0, <- aMr, show l.getD t 0 - 1 + (l.getD s 0 - l.getD t 0) = l.getD s 0 - 1 from by omega]
 have hp := aLW (l.getD s 0 - 1)
 obtain ⟨q, hq⟩ := aEh hsl hs0 hs (hall _ (tX hsl))
 rw [hq, aNr _ hp]
 rcases aLO (l.getD t 0) (l.getD s 0) with hlt | hge
 .have h1 := aHJ htl ht0
  have h2 := WW (l := l) (a := l.getD t 0 + 1) (b := l.getD s 0) (by omega) (by omega)
  have h3 : xZ l (l.getD s 0) <= O3 l s := Nat.le_add_right _ _
  have hp2 := aLW (l.getD t 0 - 1)
  have : O3 l t / 2 ^ (l.getD s 0 - 1) < q := by
   rw [aNh hp, aL1]
   omega
  omega
 .have he : l.getD t 0 = l.getD s 0 := by omega
  have hne : (l.take t).count (l.getD t 0) ≠ (l.take s).count (l.getD s 0) := by
   have key : ∀ {a b : Nat}, a < b -> b < l.length -> l.getD a 0 = l.getD b 0 -> (l.take a).count (l.getD a 0) < (l.take b).count (l.getD b 0) := by
    intro a b hab hb hab2
    have h1 := aIa (l := l.take b) (s := a) (by rw [aLG]; omega)
    have h2 : (l.take b).getD a 0 = l.getD a 0 := by
     rw [aLE, aLE, aMg hab]
    rw [h2, aNP, aMm (by omega)] at h1
    rw [<- hab2]; omega
   rcases Nat.lt_or_gt_of_ne hst with h | h
   .have := key h htl he.symm; omega
   .have := key h hsl he; omega
  intro h
  apply hne
  unfold O3 at hq h
  rw [he] at h ⊢
  obtain ⟨r, hr⟩ := azX hs (by have := hall _ (tX hsl); omega) (by omega : 1 <= l.getD s 0)
  rw [hr] at hq h
  generalize 2 ^ (l.getD s 0 - 1) = p at *
  generalize (l.take t).count (l.getD s 0) = x at *
  generalize (l.take s).count (l.getD s 0) = y at *
  rw [aL1 x p, <- aNG, aNr _ hp] at h
  rw [aL1 y p, <- aNG] at hq
  have := Nat.eq_of_mul_eq_mul_left hp hq
  omega
end Go.Pu
namespace Go.Proofs.YtgpimhlgaokobaaGreat
open Go Go.En Go.Pu
set_option maxRecDepth 4000
abbrev cF (l : List UInt8) : List Nat := l.map (·.toNat)
theorem kC (l : List UInt8) : (cF l).length = l.length := by simp
theorem aCO {l : List UInt8} {i : Nat} (h : i < l.length) : (cF l)[i]? = some (l[i].toNat) := by rw [aLZ, aLA h] <;> rfl
theorem X7 {l : List UInt8} {i : Nat} (h : i < l.length) : cF (l.take (i + 1)) = cF (l.take i) ++ [l[i].toNat] := by
 unfold cF
 rw [aMq, aLA h, aLS] <;> rfl
theorem aGv {l : List UInt8} (h : 0 < l.length) : (cF l).getLast? = some 0 ↔ l[l.length - 1].toNat = 0 := by
 rw [aNl, kC, aCO (by omega)]
 simp
theorem Qn (l : List UInt8) : ∀ w ∈ cF l, w < 256 := fun w hw => by
 obtain ⟨x, _, rfl⟩ := aMD.1 hw
 exact aL9 x
theorem azW {d : Nat} {l : List Nat} {x : Nat} : rH d (l ++ [x]) = (rH d l && decide (x <= d)) := by
 unfold rH; rw [List.all_append]; simp
theorem axS {d : Nat} {l : List Nat} {i : Nat} (h : rH d (l.take i) = false) : rH d l = false := by
 cases hq : rH d l with
 | false => rfl
 | true =>
   rw [rS] at hq
   have : rH d (l.take i) = true := rS.2 fun w hw => hq w (aMS hw)
   rw [this] at h; cases h
theorem aFq {v : aNY} {l : List UInt8} {w : aNX} (h : Bs w v l) (hl : l.length <= 100000) :
 aS pg Ak #[v] w (fun r w' => r = .tuple #[.int .i64 (if rH 11 (cF l) = true then dU (cF l) else 0 : Nat), .bool (rH 11 (cF l))] /\ w' = w) := by
 refine afA ?_
 obtain ⟨a, n, c, rfl, hn, hc, hh⟩ := id h
 rw [aLD] at hn
 subst hn
 unfold ZI Ge Gx HW HX Ij
 simp (disch := omega) only [aD, aP, aA]
 unfold Ia H3
 refine cR.rule (fun m (t : aNY × aNY) w' => ∃ i : Nat, m = l.length - i /\ t = (.int .i64 (dU (cF (l.take i)) : Nat), .int .i64 i) /\ i <= l.length /\ rH 11 (cF (l.take i)) = true /\ w' = w) l.length
  ⟨0, rfl, by simp [dU], by omega, by simp [rH], rfl⟩ ?_
 rintro m t w1 ⟨i, rfl, rfl, hi, hle, rfl⟩
 unfold Cp H5
 by_cases hlt : i < l.length
 .have d1 : decide ((i : Int) < (l.length : Int)) = true := by simp; omega
  obtain ⟨b, off, rfl, hcell⟩ := slA h (by omega)
  have g1 := hcell i hlt
  rw [aLZ, aLA hlt] at g1
  simp only [aMh, tJ] at g1
  have ht := X7 hlt
  have hx : (l[i]).toNat < 256 := aL9 _
  have hwl := IA (rS.1 hle)
  rw [kC, aLG] at hwl
  have hsn : rH 11 (cF (l.take (i + 1))) = (rH 11 (cF (l.take i)) && decide ((l[i]).toNat <= 11)) := by rw [ht, azW]
  have hwn : dU (cF (l.take (i + 1))) = dU (cF (l.take i)) + G2 (l[i]).toNat := by rw [ht, CP, pC] <;> rfl
  have hbad : rH 11 (cF (l.take (i + 1))) = false -> rH 11 (cF l) = false := fun h => axS (i := i + 1) (by rw [<- aNi]; exact h)
  generalize (l[i]).toNat = x at *
  unfold Ch
  by_cases h11 : 11 < x
  .have d2 : decide ((11 : Int) < (x : Int)) = true := by simp; omega
   have hf := hbad (by rw [hsn, hle, decide_eq_false (by omega)] <;> rfl)
   simp (disch := omega) only [aD, aR, d1, dO, aLs, bJ, aQ, aA, iJ, g1, aH, cX, d2, fF, xL, pG, and_true, aG]
   rw [hf]; simp
  .have d2 : decide ((11 : Int) < (x : Int)) = false := by simp; omega
   have hle1 : rH 11 (cF (l.take (i + 1))) = true := by rw [hsn, hle, decide_eq_true (by omega)] <;> rfl
   have hwp := aBR (w := x) (by omega)
   by_cases h0 : 0 < x
   .have d3 : decide ((0 : Int) < (x : Int)) = true := by simp; omega
    have e1 : (x : Int) - 1 = ((x - 1 : Nat) : Int) := by omega
    have hsh := aGm (n := x - 1) (by omega)
    have hpw : G2 x = 2 ^ (x - 1) := by unfold G2; rw [if_neg (by omega)]
    have e2 : ((dU (cF (l.take i)) : Nat) : Int) + ((2 ^ (x - 1) : Nat) : Int) = ((dU (cF (l.take i)) + 2 ^ (x - 1) : Nat) : Int) := by omega
    rw [hpw] at hwp hwn
    simp (disch := omega) only [aD, aR, d1, dO, aLs, bJ, aQ, aA, iJ, g1, aH, cX, d2, d3, fF, e1, xL, pG, hsh, e2, aG, and_true, aE]
    exact ⟨l.length - (i + 1), by omega, i + 1, rfl, by rw [hwn] <;> rfl, by omega, hle1⟩
   .have d3 : decide ((0 : Int) < (x : Int)) = false := by simp; omega
    have hpw : G2 x = 0 := by unfold G2; rw [if_pos (by omega)]
    simp (disch := omega) only [aD, aR, d1, dO, aLs, bJ, aQ, aA, iJ, g1, aH, cX, d2, d3, fF, aE, and_true, aG]
    exact ⟨l.length - (i + 1), by omega, i + 1, rfl, by rw [hwn, hpw] <;> rfl, by omega, hle1⟩
 .have d1 : decide ((i : Int) < (l.length : Int)) = false := by simp; omega
  obtain rfl : i = l.length := by omega
  rw [aNd] at *
  unfold Cu
  simp (disch := omega) only [aD, aR, d1, aA, and_true, aE]
  rw [hle]; simp
theorem aDR {a b : Nat} (ha : a < 2 ^ 63) (hb : b < 2 ^ 63) : VE .i64 (a : Int) (b : Int) = ((a &&& b : Nat) : Int) := by
 unfold VE
 have e : IntKind.i64.bits = 64 := rfl
 have h := Nat.and_lt_two_pow (n := 63) a hb
 rw [e, BitVec.ofInt_natCast, BitVec.ofInt_natCast, BitVec.toNat_and, BitVec.toNat_ofNat, BitVec.toNat_ofNat, aL5 (by omega), aL5 (by omega)]
 exact aQ (by omega) (by omega)
theorem aJN {v : aNY} {l : List UInt8} {w : aNX} (h : Bs w v l) (h0 : 0 < l.length) (hl : l.length <= 100000) :
 aS pg Bc #[v] w (fun r w' => (∃ m : Nat, r = .int .u8 m /\ (∀ x ∈ cF l, x <= m) /\ m ∈ cF l) /\ w' = w) := by
 refine WD ?_
 obtain ⟨b, off, c, rfl, hc, hcell⟩ := O9 h h0
 unfold Uy CH CG
 have d0 : decide ((l.length : Int) < 1) = false := by simp; omega
 have g0 := hcell 0 h0
 have t0 : (0 : Int).toNat = 0 := rfl
 simp (disch := omega) only [aD, aP, aA, aR, d0, aE]
 unfold Eu Eh
 simp (disch := omega) only [aD, dO, t0, aA, iJ, g0, aH]
 unfold DT Ef Ex D5 Ed
 refine cR.rule (fun m (t : aNY × aNY) w' => ∃ i q : Nat, m = l.length - i /\ t = (.int .u8 q, .int .i64 i) /\ 1 <= i /\ i <= l.length /\ (∀ x ∈ cF (l.take i), x <= q) /\ q ∈ cF (l.take i) /\ w' = w) (l.length - 1)
  ⟨1, l[0].toNat, by omega, rfl, by omega, by omega, ?_, ?_, rfl⟩ ?_
 .intro x hx
  rw [X7 (i := 0) h0] at hx
  simp at hx; omega
 .rw [X7 (i := 0) h0]; simp
 rintro m t w1 ⟨i, q, rfl, rfl, hi1, hi, hle, hmem, rfl⟩
 unfold zJ
 by_cases hlt : i < l.length
 .have d1 : decide ((i : Int) < (l.length : Int)) = true := by simp; omega
  have g1 := hcell i hlt
  have ht := X7 hlt
  generalize (l[i]).toNat = x at *
  have hmx : (if (q : Int) <= (x : Int) then (x : Int) else (q : Int)) = ((max q x : Nat) : Int) := by split <;> omega
  have hmx2 : (if (x : Int) > (q : Int) then (x : Int) else (q : Int)) = ((max q x : Nat) : Int) := by split <;> omega
  have hmx3 : (if (q : Int) < (x : Int) then (x : Int) else (q : Int)) = ((max q x : Nat) : Int) := by split <;> omega
  simp (disch := omega) only [aD, aP, dO, aLs, bJ, aQ, aA, iJ, aR, d1, g1, aH, A2, hmx2, and_true, aG]
  refine ⟨l.length - (i + 1), by omega, i + 1, max q x, rfl, rfl, by omega, by omega, ?_, ?_⟩
  .intro y hy
   rw [ht] at hy
   rcases aMb.1 hy with hy | hy
   .have := hle y hy; omega
   .rw [aNg.1 hy]; omega
  .rw [ht, aMb]
   rcases Nat.le_total q x with h | h
   .rw [Nat.max_eq_right h]; exact .inr (aNg.2 rfl)
   .rw [Nat.max_eq_left h]; exact .inl hmem
 .have d1 : decide ((i : Int) < (l.length : Int)) = false := by simp; omega
  obtain rfl : i = l.length := by omega
  rw [aNd] at *
  unfold zU
  simp (disch := omega) only [aD, aP, bJ, aQ, aA, aR, d1, and_true, aE]
  exact ⟨q, rfl, hle, hmem⟩
theorem awF {v : aNY} {l : List UInt8} {w : aNX} (h : Bs w v l) (hl : l.length <= 100000) :
 aS pg Af #[v] w (fun r w' => r = .int .i64 (jF (cF l) : Nat) /\ w' = w) := by
 refine abV ?_
 obtain ⟨a, n, c, rfl, hn, hc, hh⟩ := id h
 rw [aLD] at hn
 subst hn
 have no : ¬ (rH 11 (cF l) = true /\ 2 <= (cF l).length /\ (cF l).length <= 256 /\ (cF l).getLast? ≠ some 0 /\ 2 ^ (dU (cF l)).log2 = dU (cF l) /\ (dU (cF l)).log2 <= 11 /\ rH (dU (cF l)).log2 (cF l) = true) -> jF (cF l) = 0 := fun h => by
  unfold jF; rw [if_neg h]
 have hnl := kC l
 unfold ZB HH
 refine (aFq h hl).mono ?_
 rintro r w1 ⟨rfl, rfl⟩
 cases hok : rH 11 (cF l) with
 | false =>
   have := no (by rw [hok]; simp)
   simp (disch := omega) only [aD, aLu, if_false, pT, pS, aA, pL, aLX, iT, bF, if_true, aG, cV, and_true]
   rw [this] <;> rfl
 | true =>
   have hw := IA (rS.1 hok)
   rw [hnl] at hw
   by_cases h2 : l.length < 2
   .have d2 : decide ((l.length : Int) < 2) = true := by simp; omega
    have := no (by omega)
    simp (disch := omega) only [aD, if_true, pT, pS, aA, pL, aLL, cW, bF, aLu, if_false, bL, aP, aR, d2, iT, aG, cV, and_true]
    rw [this] <;> rfl
   have d2 : decide ((l.length : Int) < 2) = false := by simp; omega
   by_cases h3 : 256 < l.length
   .have d3 : decide ((256 : Int) < (l.length : Int)) = true := by simp; omega
    have := no (by omega)
    simp (disch := omega) only [aD, if_true, pT, pS, aA, pL, aLL, cW, bF, aLu, if_false, bL, aP, aR, d2, cX, d3, iT, aG, cV, and_true]
    rw [this] <;> rfl
   have d3 : decide ((256 : Int) < (l.length : Int)) = false := by simp; omega
   obtain ⟨b, off, rfl, hcell⟩ := slA h (by omega)
   have e1 : (l.length : Int) - 1 = ((l.length - 1 : Nat) : Int) := by omega
   have g1 := hcell (l.length - 1) (by omega)
   rw [aLZ, aLA (by omega)] at g1
   simp only [aMh, tJ] at g1
   have hla := aGv (l := l) (by omega)
   have hmem : (l[l.length - 1]'(by omega)).toNat ∈ cF l := aMD.2 ⟨_, aMf _, rfl⟩
   generalize (l[l.length - 1]'(by omega)).toNat = x at *
   by_cases h4 : x = 0
   .have d4 : ((x : Int) == 0) = true := by rw [h4] <;> rfl
    have := no (fun h => h.2.2.2.1 (hla.2 h4))
    simp (disch := omega) only [aD, if_true, pT, pS, aA, pL, aLL, cW, bF, aLu, if_false, bL, aP, aR, d2, cX, d3, fF, e1, aQ, dO, aLs, iJ, g1, aH, fY, kV, dV, d4, iT, aG, cV, and_true]
    rw [this] <;> rfl
   have d4 : ((x : Int) == 0) = false := beq_eq_false_iff_ne.2 (by omega)
   have hwp := alE hmem
   have hwx : 1 <= G2 x := by unfold G2; rw [if_neg h4]; exact Nat.one_le_two_pow
   obtain ⟨s, hs⟩ : ∃ s, dU (cF l) = s := ⟨_, rfl⟩
   rw [hs] at no hw hwp ⊢
   have e2 : (s : Int) - 1 = ((s - 1 : Nat) : Int) := by omega
   have e3 := aDR (a := s) (b := s - 1) (by omega) (by omega)
   have hpw := aCD s (by omega)
   have hlast : (cF l).getLast? ≠ some 0 := fun h => h4 (hla.1 h)
   simp only [if_true]
   by_cases h5 : s &&& (s - 1) = 0
   .have d5 : (((s &&& (s - 1) : Nat) : Int) != 0) = false := by rw [h5] <;> rfl
    have hlog := hpw.1 h5
    have hbl : bl s = s.log2 + 1 := by unfold bl; rw [if_neg (by omega)]
    have e4 : ((s.log2 + 1 : Nat) : Int) - 1 = (s.log2 : Int) := by omega
    have hb20 : bl s <= 20 := xA (by omega)
    simp (disch := omega) only [aD, pT, pS, aA, pL, aLL, cW, bF, aLu, if_false, bL, aP, aR, d2, cX, d3, fF, e1, aQ, dO, aLs, iJ, g1, aH, fY, kV, dV, d4, e2, xK, e3, cY, d5, and_true, aE]
    refine (aCB s (by omega) w1).mono ?_
    rintro r w2 ⟨rfl, rfl⟩
    rw [hbl]
    by_cases h6 : 11 < s.log2
    .have d6 : decide ((11 : Int) < (s.log2 : Int)) = true := by simp; omega
     have := no (by omega)
     simp (disch := omega) only [fF, e4, aQ, aA, cX, d6, iT, bF, if_true, aG, cV, and_true]
     rw [this] <;> rfl
    have d6 : decide ((11 : Int) < (s.log2 : Int)) = false := by simp; omega
    simp (disch := omega) only [fF, e4, aQ, aA, cX, d6, cW, bF, aLu, if_false, bL]
    refine (aJN h (by omega) hl).mono ?_
    rintro r w3 ⟨⟨q, rfl, hq1, hq2⟩, rfl⟩
    have hq := Qn l q hq2
    by_cases h7 : s.log2 < q
    .have d7 : decide ((s.log2 : Int) < (q : Int)) = true := by simp; omega
     have := no (fun h => by have := rS.1 h.2.2.2.2.2.2 q hq2; omega)
     simp (disch := omega) only [dT, aQ, aA, cX, d7, and_true, aG]
     rw [this] <;> rfl
    .have d7 : decide ((s.log2 : Int) < (q : Int)) = false := by simp; omega
     have hyes : jF (cF l) = s.log2 := by
      unfold jF
      rw [hs, if_pos ⟨hok, by omega, by omega, hlast, hlog, by omega, rS.2 fun y hy => by have := hq1 y hy; omega⟩]
     simp (disch := omega) only [dT, aQ, aA, cX, d7, and_true, aE]
     rw [hyes]
   .have d5 : (((s &&& (s - 1) : Nat) : Int) != 0) = true := by simpa using h5
    have := no (fun h => h5 (hpw.2 h.2.2.2.2.1))
    simp (disch := omega) only [aD, pT, pS, aA, pL, aLL, cW, bF, aLu, if_false, bL, aP, aR, d2, cX, d3, fF, e1, aQ, dO, aLs, iJ, g1, aH, fY, kV, dV, d4, e2, xK, e3, cY, d5, and_true, aG]
    rw [this] <;> rfl
def aIw (w : aNX) (base : Nat) (l : List UInt8) (o : Option Nat) (r : aNY) : Prop := match o with
 | none => r = .tuple #[.slice none 0 0, .int .i64 11]
 | some k => ∃ v, r = .tuple #[v, .int .i64 0] /\ tE w base 1 v (l.length + 1) ((l ++ [UInt8.ofNat k]).map tJ)
theorem aE5 {v : aNY} {l : List UInt8} {w : aNX} (h : Bs w v l) (hl : l.length <= 100000) :
 aS pg DC #[v] w (fun r w' => aIw w' w.heap.size l (tP (cF l)) r /\ aW w w' eS) := by
 refine aaA ?_
 obtain ⟨a, n, c, rfl, hn, hc, hh⟩ := id h
 rw [aLD] at hn
 subst hn
 have hnl := kC l
 have no : ¬ (rH 11 (cF l) = true /\ 1 <= (cF l).length /\ (cF l).length <= 255 /\ 0 < dU (cF l) /\ bl (dU (cF l)) <= 11 /\ 2 ^ (2 ^ bl (dU (cF l)) - dU (cF l)).log2 = 2 ^ bl (dU (cF l)) - dU (cF l)) -> tP (cF l) = none := fun h => by
  unfold tP; rw [if_neg h]
 unfold Zy HE
 refine (aFq h hl).mono ?_
 rintro r w1 ⟨rfl, rfl⟩
 cases hok : rH 11 (cF l) with
 | false =>
   have := no (by rw [hok]; simp)
   simp (disch := omega) only [aD, aLu, if_false, pT, pS, aA, pL, aLX, iT, bF, if_true, aG, cV]
   rw [this]; exact ⟨rfl, aW.refl _ _⟩
 | true =>
   have hw := IA (rS.1 hok)
   rw [hnl] at hw
   by_cases h2 : l.length = 0
   .have d2 : ((l.length : Int) == 0) = true := by rw [h2] <;> rfl
    have := no (by omega)
    simp (disch := omega) only [aD, if_true, pT, pS, aA, pL, aLL, cW, bF, aLu, if_false, bL, aP, dV, d2, iT, aG, cV]
    rw [this]; exact ⟨rfl, aW.refl _ _⟩
   have d2 : ((l.length : Int) == 0) = false := beq_eq_false_iff_ne.2 (by omega)
   by_cases h3 : 256 <= l.length
   .have d3 : decide ((256 : Int) <= (l.length : Int)) = true := by simp; omega
    have := no (by omega)
    simp (disch := omega) only [aD, if_true, pT, pS, aA, pL, aLL, cW, bF, aLu, if_false, bL, aP, dV, d2, nJ, d3, iT, aG, cV]
    rw [this]; exact ⟨rfl, aW.refl _ _⟩
   have d3 : decide ((256 : Int) <= (l.length : Int)) = false := by simp; omega
   obtain ⟨s, hs⟩ : ∃ s, dU (cF l) = s := ⟨_, rfl⟩
   rw [hs] at no hw ⊢
   simp only [if_true]
   by_cases h4 : s = 0
   .have d4 : ((s : Int) == 0) = true := by rw [h4] <;> rfl
    have := no (by omega)
    simp (disch := omega) only [aD, pT, pS, aA, pL, aLL, cW, bF, aLu, if_false, bL, aP, dV, d2, nJ, d3, d4, fY, kV, aG]
    rw [this]; exact ⟨rfl, aW.refl _ _⟩
   have d4 : ((s : Int) == 0) = false := beq_eq_false_iff_ne.2 (by omega)
   have hbl19 : bl s <= 20 := xA (by omega)
   have hlt := XD s
   have hbl0 := Ni h4
   have hp20 : 2 ^ bl s <= 2 ^ 20 := aLC (by omega) hbl19
   have hshl := aGm (n := bl s) hbl19
   have e1 : ((2 ^ bl s : Nat) : Int) - (s : Int) = ((2 ^ bl s - s : Nat) : Int) := by omega
   simp (disch := omega) only [aD, pT, pS, aA, pL, aLL, cW, bF, aLu, if_false, bL, aP, dV, d2, nJ, d3, d4, fY, kV, aE]
   refine (aCB s (by omega) w1).mono ?_
   rintro r w2 ⟨rfl, rfl⟩
   obtain ⟨q, hq⟩ : ∃ q, 2 ^ bl s - s = q := ⟨_, rfl⟩
   rw [hq] at no e1
   by_cases h5 : 11 < bl s
   .have d5 : decide ((11 : Int) < (bl s : Int)) = true := by simp; omega
    have := no (by omega)
    simp (disch := omega) only [pG, aLs, hshl, cX, d5, aA, iT, bF, if_true, aG, cV, fF, e1, aQ]
    rw [this]; exact ⟨rfl, aW.refl _ _⟩
   have d5 : decide ((11 : Int) < (bl s : Int)) = false := by simp; omega
   have e2 : (q : Int) - 1 = ((q - 1 : Nat) : Int) := by omega
   have e3 := aDR (a := q) (b := q - 1) (by omega) (by omega)
   have hpw := aCD q (by omega)
   by_cases h6 : q &&& (q - 1) = 0
   .have d6 : (((q &&& (q - 1) : Nat) : Int) != 0) = false := by rw [h6] <;> rfl
    have hyes : tP (cF l) = some (q.log2 + 1) := by
     unfold tP
     rw [hs, hq, if_pos ⟨hok, by omega, by omega, by omega, by omega, hpw.1 h6⟩]
    have hblq : bl q = q.log2 + 1 := by unfold bl; rw [if_neg (by omega)]
    have hblq2 : bl q <= 20 := xA (by omega)
    simp (disch := omega) only [pG, aLs, hshl, cX, d5, aA, cW, bF, aLu, if_false, bL, fF, e1, aQ, e2, fY, kV, xK, e3, cY, d6, aE]
    refine (I3 (h.ext (aW.refl _ eS) (bY _)) (by omega)).mono ?_
    rintro r w3 ⟨o3, x3⟩
    have z3 := x3.size
    refine (aCB q (by omega) w3).mono ?_
    rintro r w4 ⟨rfl, rfl⟩
    rw [hblq] at hblq2 ⊢
    rw [hyes]
    have e8 : IntKind.u8.wrap ((q.log2 + 1 : Nat) : Int) = ((q.log2 + 1 : Nat) : Int) := xL (by omega) (by omega)
    simp (disch := omega) only [eQ, e8, aA]
    obtain ⟨av, cv, rfl⟩ := o3.len
    refine pD (cells := #[.int .u8 (q.log2 + 1 : Nat)]) (by decide) (by decide) (by kernel_rfl) fun w5 o5 x5 s5 => ?_
    have z5 := x5.size
    refine mJ (m := 1) (news := [.int .u8 (q.log2 + 1 : Nat)]) (o3.ext x5 (fun _ _ h => h)) (o5.cl (off := 0) (l := [.int .u8 (q.log2 + 1 : Nat)]) (n := 1) rfl (fun i hi => by rw [aLt])) (by simp [one]) (by omega) (by omega) fun v6 w6 o6 x6 => ?_
    refine ⟨⟨v6, rfl, ?_⟩, (x3.seq x5).trans x6 fun b hb h => by omega⟩
    have hb2 : tJ (UInt8.ofNat (q.log2 + 1)) = .int .u8 (q.log2 + 1 : Nat) := by
     unfold tJ
     rw [aMQ (show q.log2 + 1 < 256 by omega)]
    rw [aLS, aME, aNM, hb2]
    exact o6
   .have d6 : (((q &&& (q - 1) : Nat) : Int) != 0) = true := by simpa using h6
    have := no (fun h => h6 (hpw.2 h.2.2.2.2.2))
    simp (disch := omega) only [pG, aLs, hshl, cX, d5, aA, cW, bF, aLu, if_false, bL, fF, e1, aQ, e2, fY, kV, xK, e3, cY, d6, aG]
    rw [this]; exact ⟨rfl, aW.refl _ _⟩
end Go.Proofs.YtgpimhlgaokobaaGreat

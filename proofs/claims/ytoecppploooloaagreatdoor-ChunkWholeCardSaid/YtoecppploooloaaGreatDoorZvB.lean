/- Parts of the proof of ChunkWhole: merged and given short names by a program of ours. -/
import Derived.Laws.IdiomStrings
import Derived.Test.YtoecppploooloaaGreatDoorZvA
set_option linter.unusedVariables false
set_option linter.unusedSimpArgs false
open Array renaming getElem?_eq_getElem → aoH, getElem?_setIfInBounds_self_of_lt → aoS, getElem?_setIfInBounds_ne → apA, getElem?_eq_none → apU, getElem?_modify → aqO, length_toList → aqU, getElem?_toList → arN
open Bool renaming false_eq_true → anO, not_false → anT, not_true → anU, and_eq_true → aoB, or_eq_false_iff → arU
open Int renaming toNat_natCast → anP, fdiv_eq_ediv_of_nonneg → aqL, tdiv_eq_ediv_of_nonneg → aqZ, tmod_eq_emod_of_nonneg → arA
open List renaming getElem?_cons_zero → anM, getElem?_cons_succ → anN, length_map → anV, length_append → anW, getElem?_eq_getElem → anX, mem_cons_of_mem → aoC, getElem?_eq_none → aoD, take_of_length_le → aoF, length_cons → aoG, getElem?_append_left → aoI, getElem?_map → aoJ, set_cons_zero → aoK, length_take → aoL, set_cons_succ → aoM, length_drop → aoN, getElem?_append_right → aoP, map_cons → aoT, append_assoc → aoU, mem_cons_self → aoV, map_append → aoX, all_eq_true → aoY, length_singleton → apD, length_eq_zero_iff → apE, mem_cons → apK, nil_append → apL, mem_map → apM, getElem?_take_of_lt → apO, getElem?_toArray → apR, set_append_right → apS, mem_append → apV, mem_of_mem_take → apX, map_congr_left → apZ, drop_eq_getElem_cons → aqA, append_nil → aqC, ext_getElem? → aqI, cons_append → aqM, length_set → aqT, set_append_left → arB, getElem?_replicate → arE, getElem?_drop → arH, take_add_one → arL, map_set → arT, take_length → arV, replicate_succ → arZ, getElem?_range → asA, getLast?_eq_getElem? → asD, take_left' → asE, flatten_cons → asM
open Nat renaming zero_add → anS, le_refl → aoA, lt_or_ge → aoE, pow_le_pow_right → aoO, mul_le_mul_right → aoQ, two_pow_pos → apC, add_mul → apG, mod_eq_of_lt → apH, add_zero → apI, mul_comm → apJ, le_trans → apN, mul_one → apT, pow_add → apY, min_eq_left → aqD, div_div_eq_div_mul → aqJ, eq_zero_or_pos → aqP, lt_of_lt_of_le → aqW, add_assoc → aqY, mul_add → arC, add_sub_cancel → arI, sub_self → arO, sub_zero → arP, zero_mul → arQ, div_lt_iff_lt_mul → arR, pow_succ → arS, div_le_self → asF, lt_trichotomy → asL, zero_le → asN, mod_lt → asU
open Option renaming isNone_some → anQ, isNone_none → anR, map_some → aoW, getD_some → aqV
open Option.some renaming inj → aoZ
open UInt8 renaming toNat_lt → aqG, toNat_ofNat_of_lt' → asG
namespace Go.Proofs.YtoecppploooloaaGreatDoor
open Go Go.En
set_option maxRecDepth 20000
attribute [local irreducible] Go.En.jK
variable (Q : Exit -> Env -> asY -> Prop) (g : Env) (w : asY)
def Db : FA := ⟨oB, fun i => .leaf ([], []) []⟩
def L8 : List ResultVar := []
noncomputable def Cc : Code := kF Tryz.f72
def wS (kn : K0) (yD xK : asZ) (w : asY) : Prop :=
 gD pg (gV .neq 60 (.tmp 4) (.const (.pointer none)) yD (.pointer none)) w fun b5 w =>
 nG b5
  (gD pg (rO yD) w fun b8 w =>
  gD pg (jJ 77 b8 0) w fun b9 w =>
  gD pg (jE 22 b9) w fun c0 w =>
  gD pg (oF .append #[22, 22] 22 [c0, xK]) w fun c2 w =>
  gD pg (rO yD) w fun c3 w =>
  gD pg (jJ 77 c3 0) w fun c4 w =>
  gD pg (jZ 22 c4 c2) w fun _u w =>
  kn w)
  (kn w)
theorem ID (kn : K0) (hn : N0 Q kn) (h : wS kn (g 0) (g 1) w) : jK pg Db Cc Q g w :=
 lM (kr := no) (l := []) h hn mI trivial
def GQ (a0 a1 : asZ) (w : asY) (R : K1) : Prop :=
 wS (fun  w => R (.tuple #[]) w) a0 a1 w
theorem JP {a0 a1 : asZ} {w : asY} {R : K1} (h : GQ a0 a1 w R) : jD pg oB #[a0, a1] w R := by
 refine B0 (ann := Db) Tryz.f72 Cc [a0, a1] L8 15 TryzM.mixed Tryz.func72 ?_
 exact (ID _ _ _ (fun  w => R (.tuple #[]) w) (fun _ _ h => h) h)
def rC : FA := ⟨xL, fun i => .leaf ([], []) []⟩
def Bv : List ResultVar := [.tmp 4]
noncomputable def qO : Code := kF Tryz.f73
def vI (R : K1) (EC : asZ) (w : asY) : Prop :=
 R EC w
theorem Lr (R : K1) (hr : HR Bv R Q) (h : vI R (g 0) w) : jK pg rC (fU 1 (fU 2 qO)) Q g w :=
 lM (kn := no) (l := []) h mI hr trivial
def BT (kn : K1) (EC Un : asZ) (w : asY) : Prop :=
 gD pg (oF .cap #[22] 3 [EC]) w fun c0 w =>
 gD pg (oF .len #[22] 3 [EC]) w fun c2 w =>
 gD pg (gV .sub 3 iI iI c0 c2) w fun c3 w =>
 gD pg (gV .sub 3 iI iI Un c3) w fun c4 w =>
 gD pg (gV .gtr 3 iI iI c4 (atA 0)) w fun c6 w =>
 nG c6
  (gD pg (oF .cap #[22] 3 [EC]) w fun c9 w =>
  gD pg (lR 22 EC none (some c9) none) w fun d0 w =>
  gD pg (oF .append #[22, 3] 22 [d0, c4]) w fun d2 w =>
  gD pg (oF .len #[22] 3 [EC]) w fun d4 w =>
  gD pg (lR 22 d2 none (some d4) none) w fun d5 w =>
  kn d5 w)
  (kn EC w)
theorem Ly (kn : K1) (hn : N1 Q kn 0) (h : BT kn (g 0) (g 1) w) : jK pg rC (gR 1 (fU 2 qO)) Q g w :=
 lM (kr := no) (l := []) h hn mI trivial
def BJ (R : K1) (EC Un : asZ) (w : asY) : Prop :=
 BT (fun EC w => vI R EC w) EC Un w
def Bi (kn : K2) (EC Un : asZ) (w : asY) : Prop :=
 gD pg (gV .lss 3 iI iI Un (atA 0)) w fun b6 w =>
 nG b6
  (gD pg (VC 9 (.string ⟨#[99, 97, 110, 110, 111, 116, 32, 98, 101, 32, 110, 101, 103, 97, 116, 105, 118, 101]⟩)) w fun b7 w =>
  gD pg (V (Instr.panic b7)) w fun _u w =>
  kn EC Un w)
  (kn EC Un w)
theorem LM (kn : K2) (hn : N2 Q kn 0 1) (h : Bi kn (g 0) (g 1) w) : jK pg rC (gR 2 qO) Q g w :=
 lM (kr := no) (l := []) h hn mI trivial
def Bl (R : K1) (EC Un : asZ) (w : asY) : Prop :=
 Bi (fun EC Un w => BJ R EC Un w) EC Un w
theorem LX (R : K1) (hr : HR Bv R Q) (h : Bl R (g 0) (g 1) w) : jK pg rC qO Q g w :=
 oE 2 (LM _ g w (BJ R) (fun g w h => iA (oE 1 (Ly _ g w (vI R) (fun g w h => iA (Lr _ g w R hr h)) h))) h)
def Kh (a0 a1 : asZ) (w : asY) (R : K1) : Prop :=
 Bl R a0 a1 w
theorem MV {a0 a1 : asZ} {w : asY} {R : K1} (h : Kh a0 a1 w R) : jD pg xL #[a0, a1] w R := by
 refine B0 (ann := rC) Tryz.f73 qO [a0, a1] Bv 27 TryzM.mixed Tryz.func73 ?_
 exact (LX _ _ _ R (fun _ _ h => h) h)
def Ep : FA := ⟨rB, fun i => .leaf ([], []) []⟩
def EA : List ResultVar := [.cell 4 146, .tmp 5]
noncomputable def Df : Code := kF Tryz.f79
def yS (R : K1) (rN nF : asZ) (w : asY) : Prop :=
 gD pg (pY 146) w fun b4 w =>
 gD pg (gV .add 3 iI iI nF (atA 4)) w fun b7 w =>
 gD pg (rO rN) w fun b9 w =>
 gD pg (jJ 119 b9 0) w fun c0 w =>
 gD pg (jE 22 c0) w fun c1 w =>
 gD pg (oF .len #[22] 3 [c1]) w fun c2 w =>
 gD pg (gV .gtr 3 iI iI b7 c2) w fun c3 w =>
 nG c3
  (gD pg (mK 146 []) w fun c4 w =>
  gD pg (jZ 146 b4 c4) w fun _u w =>
  Um pg 146 b4 w fun r0 => R (.tuple #[r0, (.bool false)]) w)
  (gD pg (rO rN) w fun c6 w =>
  gD pg (jJ 119 c6 0) w fun c7 w =>
  gD pg (jE 22 c7) w fun c8 w =>
  gD pg (gV .add 3 iI iI nF (atA 4)) w fun d1 w =>
  gD pg (lR 22 c8 (some nF) (some d1) none) w fun d2 w =>
  gD pg (ahH 146 d2) w fun d3 w =>
  gD pg (jE 146 d3) w fun d4 w =>
  gD pg (jZ 146 b4 d4) w fun _u w =>
  Um pg 146 b4 w fun r0 => R (.tuple #[r0, (.bool true)]) w)
theorem JC (R : K1) (hr : HR EA R Q) (h : yS R (g 0) (g 1) w) : jK pg Ep Df Q g w :=
 lM (kn := no) (l := []) h mI hr trivial
def H2 (a0 a1 : asZ) (w : asY) (R : K1) : Prop :=
 yS R a0 a1 w
theorem Kt {a0 a1 : asZ} {w : asY} {R : K1} (h : H2 a0 a1 w R) : jD pg rB #[a0, a1] w R := by
 refine B0 (ann := Ep) Tryz.f79 Df [a0, a1] EA 25 TryzM.mixed Tryz.func79 ?_
 exact (JC _ _ _ R (fun _ _ h => h) h)
def oD : FA := ⟨vB, fun i => match Nat.beq i 2 with | true => .leaf ([], []) [(false, []), (false, []), (false, []), (false, []), (false, []), (false, []), (false, []), (false, []), (false, []), (false, []), (false, []), (false, []), (false, []), (false, []), (false, []), (false, []), (false, []), (false, []), (false, []), (false, []), (false, []), (false, []), (false, []), (false, []), (false, []), (false, []), (false, []), (false, []), (false, []), (false, []), (false, []), (false, []), (false, [])] | false => .leaf ([], []) []⟩
def Ax : List ResultVar := [.tmp 6]
noncomputable def nT : Code := kF Tryz.f80
def tQ (R : K1) (Er : asZ) (w : asY) : Prop :=
 R Er w
theorem KF (R : K1) (hr : HR Ax R Q) (h : tQ R (g 7) w) : jK pg oD (fU 1 (fU 2 nT)) Q g w :=
 lM (kn := no) (l := []) h mI hr trivial
def oU (kn : K4) (k0 : K1) (rN GP NW Er : asZ) (w : asY) : Prop :=
 (dr w) = (dr w) /\
 (dr w) = (dr w) /\
 gD pg (gV .add 3 iI iI NW Er) (dr w) fun c0 w_ => w_ = (dr w) /\
 (dr w) = (dr w) /\
 gD pg (rO rN) (dr w) fun c2 w_ => w_ = (dr w) /\
 gD pg (jJ 119 c2 1) (dr w) fun c3 w_ => w_ = (dr w) /\
 gD pg (jE 3 c3) (dr w) fun c4 w_ => w_ = (dr w) /\
 gD pg (gV .lss 3 iI iI c0 c4) (dr w) fun c5 w_ => w_ = (dr w) /\
 (dr w) = (dr w) /\
 Gd (kK c5 true) (fun K => K Er (dr w)) (dr w) fun c7 w_ => w_ = (dr w) /\
 Gd (kK c5 true) (fun K => gD pg (gV .lss 3 iI iI c7 (atA 131074)) (dr w) K) (dr w) fun c8 w_ => w_ = (dr w) /\
 gD pg (mA c5 c8 (.bool false)) (dr w) fun c9 w_ => w_ = (dr w) /\
 (dr w) = (dr w) /\
 Gd (kK c9 true) (fun K => K rN (dr w)) (dr w) fun d1 w_ => w_ = (dr w) /\
 Gd (kK c9 true) (fun K => gD pg (rO d1) (dr w) K) (dr w) fun d2 w_ => w_ = (dr w) /\
 Gd (kK c9 true) (fun K => gD pg (jJ 119 d2 0) (dr w) K) (dr w) fun d3 w_ => w_ = (dr w) /\
 Gd (kK c9 true) (fun K => gD pg (jE 22 d3) (dr w) K) (dr w) fun d4 w_ => w_ = (dr w) /\
 Gd (kK c9 true) (fun K => K GP (dr w)) (dr w) fun d5 w_ => w_ = (dr w) /\
 Gd (kK c9 true) (fun K => K Er (dr w)) (dr w) fun d6 w_ => w_ = (dr w) /\
 Gd (kK c9 true) (fun K => gD pg (gV .add 3 iI iI d5 d6) (dr w) K) (dr w) fun d7 w_ => w_ = (dr w) /\
 Gd (kK c9 true) (fun K => gD pg (jO 22 d4 d7) (dr w) K) (dr w) fun d8 w_ => w_ = (dr w) /\
 Gd (kK c9 true) (fun K => gD pg (jE 5 d8) (dr w) K) (dr w) fun d9 w_ => w_ = (dr w) /\
 Gd (kK c9 true) (fun K => K rN (dr w)) (dr w) fun e0 w_ => w_ = (dr w) /\
 Gd (kK c9 true) (fun K => gD pg (rO e0) (dr w) K) (dr w) fun e1 w_ => w_ = (dr w) /\
 Gd (kK c9 true) (fun K => gD pg (jJ 119 e1 0) (dr w) K) (dr w) fun e2 w_ => w_ = (dr w) /\
 Gd (kK c9 true) (fun K => gD pg (jE 22 e2) (dr w) K) (dr w) fun e3 w_ => w_ = (dr w) /\
 Gd (kK c9 true) (fun K => K NW (dr w)) (dr w) fun e4 w_ => w_ = (dr w) /\
 Gd (kK c9 true) (fun K => K Er (dr w)) (dr w) fun e5 w_ => w_ = (dr w) /\
 Gd (kK c9 true) (fun K => gD pg (gV .add 3 iI iI e4 e5) (dr w) K) (dr w) fun e6 w_ => w_ = (dr w) /\
 Gd (kK c9 true) (fun K => gD pg (jO 22 e3 e6) (dr w) K) (dr w) fun e7 w_ => w_ = (dr w) /\
 Gd (kK c9 true) (fun K => gD pg (jE 5 e7) (dr w) K) (dr w) fun e8 w_ => w_ = (dr w) /\
 Gd (kK c9 true) (fun K => gD pg (gV .eql 5 (.tmp 29) (.tmp 38) d9 e8) (dr w) K) (dr w) fun e9 w_ => w_ = (dr w) /\
 gD pg (mA c9 e9 (.bool false)) (dr w) fun f0 w_ => w_ = (dr w) /\
 nG f0
  (gD pg (gV .add 3 iI iI Er (atA 1)) (dr w) fun f2 w =>
  kn rN GP NW f2 w)
  (k0 Er (dr w))
theorem Kd (kn : K4) (k0 : K1) (hn : N4 Q kn 0 1 2 7) (h0 : E1 Q k0 0 7) (h : oU kn k0 (g 0) (g 1) (g 2) (g 7) w) : jK pg oD (bI (bI (gR 1 (fU 2 nT)))) Q g w :=
 lM (kr := no) (l := [(0, fun g w => k0 (g 7) w)]) h hn mI ⟨h0, trivial⟩
def Aw (k0 : K1) (rN GP NW Er : asZ) (w : asY) : Prop :=
 kE (fun (X : asZ -> K0) (t : asZ) (w : asY) => oU (fun _ _ _ Er w => X Er w) k0 rN GP NW t w) Er w
theorem KM (k0 : K1) (h0 : E1 Q k0 0 7) (h : Aw k0 (g 0) (g 1) (g 2) (g 7) w) : jK pg oD (bI (gR 1 (fU 2 nT))) Q g w := by
 refine MJ (fun g : Env => g 7) (fun X t w => oU (fun _ _ _ Er w => X Er w) k0 (g 0) (g 1) (g 2) t w) h (fun X g1 w1 ha hL => ?_)
 rw [<- qP 0 ha, <- qP 1 ha, <- qP 2 ha] at hL
 exact (Kd _ g1 w1 (fun _ _ _ Er w => X Er w) k0 (fun _ _ h => h) h0 hL)
def Ao (kn : K1) (rN GP NW Er : asZ) (w : asY) : Prop :=
 Aw kn rN GP NW Er w
def AB (R : K1) (rN GP NW Er : asZ) (w : asY) : Prop :=
 Ao (fun Er w => tQ R Er w) rN GP NW Er w
theorem Km (kn : K1) (hn : N1 Q kn 7) (h : Ao kn (g 0) (g 1) (g 2) (g 7) w) : jK pg oD (gR 1 (fU 2 nT)) Q g w :=
 G5 0 (KM _ g w kn hn h)
def AF (kn : K4) (rN GP NW : asZ) (w : asY) : Prop :=
 kn rN GP NW (atA 0) w
theorem KT (kn : K4) (hn : N4 Q kn 0 1 2 7) (h : AF kn (g 0) (g 1) (g 2) w) : jK pg oD (gR 2 nT) Q g w :=
 lM (kr := no) (l := []) h hn mI trivial
def Az (R : K1) (rN GP NW : asZ) (w : asY) : Prop :=
 AF (fun rN GP NW Er w => AB R rN GP NW Er w) rN GP NW w
theorem KQ (R : K1) (hr : HR Ax R Q) (h : Az R (g 0) (g 1) (g 2) w) : jK pg oD nT Q g w :=
 oE 2 (KT _ g w (AB R) (fun g w h => iA (oE 1 (Km _ g w (tQ R) (fun g w h => iA (KF _ g w R hr h)) h))) h)
def Jd (a0 a1 a2 : asZ) (w : asY) (R : K1) : Prop :=
 Az R a0 a1 a2 w
theorem Ln {a0 a1 a2 : asZ} {w : asY} {R : K1} (h : Jd a0 a1 a2 w R) : jD pg vB #[a0, a1, a2] w R := by
 refine B0 (ann := oD) Tryz.f80 nT [a0, a1, a2] Ax 44 TryzM.mixed Tryz.func80 ?_
 exact (KQ _ _ _ R (fun _ _ h => h) h)
def wN : FA := ⟨vY, fun i => .leaf ([], []) []⟩
def Dn : List ResultVar := [.tmp 4]
noncomputable def vE : Code := kF Tryz.f81
def tV (R : K1) (w_5 : asZ) (w : asY) : Prop :=
 jD pg nD #[w_5] w fun e7 w =>
 R e7 w
theorem Oc (R : K1) (hr : HR Dn R Q) (h : tV R (g 5) w) : jK pg wN (fU 3 vE) Q g w :=
 lM (kn := no) (l := []) h mI hr trivial
def DY (kn : K1) (NI Un : asZ) (w : asY) : Prop :=
 jD pg nU #[] w fun b6 w =>
 gD pg (gV .lss 3 iI iI Un (atA 32)) w fun c7 w =>
 nG c7
  (gD pg (gV .shl 3 iI iI Un (.int .u64 3)) w fun d0 w =>
  gD pg (gV .or 3 iI iI d0 NI) w fun d2 w =>
  gD pg (nL 3 32 d2) w fun d3 w =>
  jD pg jL #[b6, d3, (atA 1)] w fun d4 w =>
  kn b6 w)
  (gD pg (gV .lss 3 iI iI Un (atA 4096)) w fun d7 w =>
  nG d7
   (gD pg (gV .shl 3 iI iI Un (.int .u64 4)) w fun e0 w =>
   gD pg (gV .or 3 iI iI e0 (atA 4)) w fun e1 w =>
   gD pg (gV .or 3 iI iI e1 NI) w fun e3 w =>
   gD pg (nL 3 32 e3) w fun e4 w =>
   jD pg jL #[b6, e4, (atA 2)] w fun e5 w =>
   kn b6 w)
   (gD pg (gV .shl 3 iI iI Un (.int .u64 4)) w fun b9 w =>
   gD pg (gV .or 3 iI iI b9 (atA 12)) w fun c0 w =>
   gD pg (gV .or 3 iI iI c0 NI) w fun c2 w =>
   gD pg (nL 3 32 c2) w fun c3 w =>
   jD pg jL #[b6, c3, (atA 3)] w fun c4 w =>
   kn b6 w))
theorem NR (kn : K1) (hn : N1 Q kn 5) (h : DY kn (g 0) (g 1) w) : jK pg wN (gR 3 vE) Q g w :=
 lM (kr := no) (l := []) h hn mI trivial
def DI (R : K1) (NI Un : asZ) (w : asY) : Prop :=
 DY (fun w_5 w => tV R w_5 w) NI Un w
theorem O5 (R : K1) (hr : HR Dn R Q) (h : DI R (g 0) (g 1) w) : jK pg wN vE Q g w :=
 oE 3 (NR _ g w (tV R) (fun g w h => iA (Oc _ g w R hr h)) h)
def OX (a0 a1 : asZ) (w : asY) (R : K1) : Prop :=
 DI R a0 a1 w
theorem Qb {a0 a1 : asZ} {w : asY} {R : K1} (h : OX a0 a1 w R) : jD pg vY #[a0, a1] w R := by
 refine B0 (ann := wN) Tryz.f81 vE [a0, a1] Dn 38 TryzM.mixed Tryz.func81 ?_
 exact (O5 _ _ _ R (fun _ _ h => h) h)
def kO : FA := ⟨yO, fun i => .leaf ([], []) []⟩
def yC : List ResultVar := [.tmp 4]
noncomputable def kI : Code := kF Tryz.f82
def sH (R : K1) (Kx : asZ) (w : asY) : Prop :=
 R Kx w
theorem IB (R : K1) (hr : HR yC R Q) (h : sH R (g 5) w) : jK pg kO (fU 1 (fU 1 (fU 2 kI))) Q g w :=
 lM (kn := no) (l := []) h mI hr trivial
def sF (kn : K4) (nN pN Kx wK : asZ) (w : asY) : Prop :=
 gD pg (gV .add 3 iI iI wK (atA 1)) w fun c9 w =>
 kn nN pN Kx c9 w
theorem IX (kn : K4) (hn : N4 Q kn 0 1 5 6) (h : sF kn (g 0) (g 1) (g 5) (g 6) w) : jK pg kO (fU 2 (bI (bI (fU 1 (gR 1 (fU 1 (fU 2 kI))))))) Q g w :=
 lM (kr := no) (l := []) h hn mI trivial
def sE (kn : K4) (k0 : K1) (nN pN Kx wK : asZ) (w : asY) : Prop :=
 gD pg (oF .len #[137] 3 [nN]) w fun c6 w =>
 gD pg (gV .lss 3 iI iI wK c6) w fun c7 w =>
 nG c7
  (gD pg (jO 137 nN wK) w fun d3 w =>
  gD pg (jE 22 d3) w fun d4 w =>
  gD pg (CZ pN [d4, Kx]) w fun d6 w =>
  gD pg (gV .lss 3 iI iI d6 (atA 0)) w fun d7 w =>
  nG d7
   (gD pg (jO 137 nN wK) w fun e0 w =>
   gD pg (jE 22 e0) w fun e1 w =>
   kn nN pN e1 wK w)
   (kn nN pN Kx wK w))
  (k0 Kx w)
theorem IL (kn : K4) (k0 : K1) (hn : N4 Q kn 0 1 5 6) (h0 : E1 Q k0 0 5) (h : sE kn k0 (g 0) (g 1) (g 5) (g 6) w) : jK pg kO (gR 2 (bI (bI (fU 1 (gR 1 (fU 1 (fU 2 kI))))))) Q g w :=
 lM (kr := no) (l := [(0, fun g w => k0 (g 5) w)]) h hn mI ⟨h0, trivial⟩
def qC (kn : K4) (k0 : K1) (nN pN Kx wK : asZ) (w : asY) : Prop :=
 sE (fun nN pN Kx wK w => sF kn nN pN Kx wK w) k0 nN pN Kx wK w
def yB (k0 : K1) (nN pN Kx wK : asZ) (w : asY) : Prop :=
 kE (fun (X : (asZ × asZ) -> K0) (t : asZ × asZ) (w : asY) => qC (fun _ _ Kx wK w => X (Kx, wK) w) k0 nN pN t.1 t.2 w) (Kx, wK) w
theorem IV (kn : K4) (k0 : K1) (hn : N4 Q kn 0 1 5 6) (h0 : E1 Q k0 0 5) (h : qC kn k0 (g 0) (g 1) (g 5) (g 6) w) : jK pg kO (bI (bI (fU 1 (gR 1 (fU 1 (fU 2 kI)))))) Q g w :=
 oE 2 (IL _ g w (sF kn) k0 (fun g w h => iA (IX _ g w kn hn h)) h0 h)
theorem IK (k0 : K1) (h0 : E1 Q k0 0 5) (h : yB k0 (g 0) (g 1) (g 5) (g 6) w) : jK pg kO (bI (fU 1 (gR 1 (fU 1 (fU 2 kI))))) Q g w := by
 refine MJ (fun g : Env => (g 5, g 6)) (fun X t w => qC (fun _ _ Kx wK w => X (Kx, wK) w) k0 (g 0) (g 1) t.1 t.2 w) h (fun X g1 w1 ha hL => ?_)
 rw [<- qP 0 ha, <- qP 1 ha] at hL
 exact (IV _ g1 w1 (fun _ _ Kx wK w => X (Kx, wK) w) k0 (fun _ _ h => h) h0 hL)
def xR (kn : K1) (nN pN Kx wK : asZ) (w : asY) : Prop :=
 yB kn nN pN Kx wK w
def xD (kn : K4) (nN pN Kx : asZ) (w : asY) : Prop :=
 kn nN pN Kx (atA 1) w
theorem IM (kn : K4) (hn : N4 Q kn 0 1 5 6) (h : xD kn (g 0) (g 1) (g 5) w) : jK pg kO (gR 1 (gR 1 (fU 1 (fU 2 kI)))) Q g w :=
 lM (kr := no) (l := []) h hn mI trivial
def xC (kn : K1) (nN pN Kx : asZ) (w : asY) : Prop :=
 xD (fun nN pN Kx wK w => xR kn nN pN Kx wK w) nN pN Kx w
def wY (R : K1) (nN pN Kx : asZ) (w : asY) : Prop :=
 xC (fun Kx w => sH R Kx w) nN pN Kx w
theorem IY (kn : K1) (hn : N1 Q kn 5) (h : xC kn (g 0) (g 1) (g 5) w) : jK pg kO (gR 1 (fU 1 (fU 2 kI))) Q g w :=
 oE 1 (IM _ g w (xR kn) (fun g w h => iA (G5 0 (IK _ g w kn hn h))) h)
def wB (kn : K3) (nN pN : asZ) (w : asY) : Prop :=
 gD pg (jO 137 nN (atA 0)) w fun c2 w =>
 gD pg (jE 22 c2) w fun c3 w =>
 kn nN pN c3 w
theorem Ig (kn : K3) (hn : N3 Q kn 0 1 5) (h : wB kn (g 0) (g 1) w) : jK pg kO (gR 1 (fU 2 kI)) Q g w :=
 lM (kr := no) (l := []) h hn mI trivial
def wH (R : K1) (nN pN : asZ) (w : asY) : Prop :=
 wB (fun nN pN Kx w => wY R nN pN Kx w) nN pN w
def vR (kn : K2) (nN pN : asZ) (w : asY) : Prop :=
 gD pg (oF .len #[137] 3 [nN]) w fun b8 w =>
 gD pg (gV .lss 3 iI iI b8 (atA 1)) w fun b9 w =>
 nG b9
  (gD pg (VC 9 (.string ⟨#[115, 108, 105, 99, 101, 115, 46, 77, 105, 110, 70, 117, 110, 99, 58, 32, 101, 109, 112, 116, 121, 32, 108, 105, 115, 116]⟩)) w fun c0 w =>
  gD pg (V (Instr.panic c0)) w fun _u w =>
  kn nN pN w)
  (kn nN pN w)
theorem He (kn : K2) (hn : N2 Q kn 0 1) (h : vR kn (g 0) (g 1) w) : jK pg kO (gR 2 kI) Q g w :=
 lM (kr := no) (l := []) h hn mI trivial
def vW (R : K1) (nN pN : asZ) (w : asY) : Prop :=
 vR (fun nN pN w => wH R nN pN w) nN pN w
theorem Hn (R : K1) (hr : HR yC R Q) (h : vW R (g 0) (g 1) w) : jK pg kO kI Q g w :=
 oE 2 (He _ g w (wH R) (fun g w h => iA (oE 1 (Ig _ g w (wY R) (fun g w h => iA (oE 1 (IY _ g w (sH R) (fun g w h => iA (IB _ g w R hr h)) h))) h))) h)
def GW (a0 a1 : asZ) (w : asY) (R : K1) : Prop :=
 vW R a0 a1 w
theorem JY {a0 a1 : asZ} {w : asY} {R : K1} (h : GW a0 a1 w R) : jD pg yO #[a0, a1] w R := by
 refine B0 (ann := kO) Tryz.f82 kI [a0, a1] yC 33 TryzM.mixed Tryz.func82 ?_
 exact (Hn _ _ _ R (fun _ _ h => h) h)
def EB : FA := ⟨uX, fun i => .leaf ([], []) []⟩
def Gb : List ResultVar := [.tmp 4]
noncomputable def Ds : Code := kF Tryz.f83
def Ai (R : K1) (a_0 xK : asZ) (w : asY) : Prop :=
 gD pg (oF .len #[22] 3 [a_0]) w fun b6 w =>
 gD pg (oF .len #[22] 3 [xK]) w fun b8 w =>
 gD pg (gV .sub 3 iI iI b6 b8) w fun b9 w =>
 R b9 w
theorem Kr (R : K1) (hr : HR Gb R Q) (h : Ai R (g 0) (g 1) w) : jK pg EB Ds Q g w :=
 lM (kn := no) (l := []) h mI hr trivial
def Jc (a0 a1 : asZ) (w : asY) (R : K1) : Prop :=
 Ai R a0 a1 w
theorem Mm {a0 a1 : asZ} {w : asY} {R : K1} (h : Jc a0 a1 w R) : jD pg uX #[a0, a1] w R := by
 refine B0 (ann := EB) Tryz.f83 Ds [a0, a1] Gb 10 TryzM.mixed Tryz.func83 ?_
 exact (Kr _ _ _ R (fun _ _ h => h) h)
def jC : FA := ⟨zJ, fun i => match Nat.beq i 15 with | true => .leaf ([], []) [(false, []), (false, []), (false, []), (false, []), (false, []), (false, []), (false, []), (false, []), (false, []), (false, []), (false, []), (false, []), (false, []), (false, []), (false, []), (false, []), (false, []), (false, []), (false, []), (false, []), (false, []), (false, []), (false, []), (false, []), (false, []), (false, []), (false, []), (false, []), (false, []), (false, []), (false, []), (false, []), (false, []), (false, []), (false, []), (false, []), (false, []), (false, []), (false, []), (false, []), (false, []), (false, []), (false, [])] | false => match Nat.beq i 25 with | true => .leaf ([], []) [(false, []), (false, []), (false, []), (false, []), (false, []), (false, []), (false, []), (false, []), (false, []), (false, []), (false, []), (false, []), (false, []), (false, []), (false, []), (false, []), (false, []), (false, []), (false, []), (false, []), (false, []), (false, []), (false, []), (false, []), (false, []), (false, []), (false, []), (false, []), (false, []), (false, []), (false, []), (false, []), (false, []), (false, []), (false, []), (false, []), (false, []), (false, []), (false, []), (false, []), (false, []), (false, []), (false, []), (false, []), (false, []), (false, [])] | false => .leaf ([], []) []⟩
def CL : List ResultVar := [.tmp 4]
noncomputable def iY : Code := kF Tryz.f84
def xI (R : K1) (gY : asZ) (w : asY) : Prop :=
 R gY w
theorem Nx (R : K1) (hr : HR CL R Q) (h : xI R (g 5) w) : jK pg jC (fU 1 (fU 1 (fU 1 (fU 3 iY)))) Q g w :=
 lM (kn := no) (l := []) h mI hr trivial
def xJ (kn : K3) (gP gY iL pC : asZ) (w : asY) : Prop :=
 gD pg (jO 117 gY pC) w fun y6 w =>
 gD pg (jE 3 y6) w fun y7 w =>
 gD pg (gV .sub 3 iI iI (atA 11) y7) w fun y8 w =>
 gD pg (gV .shl 3 iI iI (atA 1) y8) w fun y9 w =>
 gD pg (gV .sub 3 iI iI iL y9) w fun z0 w =>
 gD pg (jO 117 gY pC) w fun z3 w =>
 gD pg (jE 3 z3) w fun z4 w =>
 gD pg (gV .sub 3 iI iI z4 (atA 1)) w fun z5 w =>
 gD pg (jO 117 gY pC) w fun z6 w =>
 gD pg (jZ 3 z6 z5) w fun _u w =>
 kn gP gY z0 w
theorem MT (kn : K3) (hn : N3 Q kn 0 5 6) (h : xJ kn (g 0) (g 5) (g 6) (g 12) w) : jK pg jC (fU 1 (fU 1 (bI (fU 1 (bI (bI (gR 1 (fU 1 (fU 1 (fU 3 iY)))))))))) Q g w :=
 lM (kr := no) (l := []) h hn mI trivial
def xP (kn : K7) (gP gY iL pC p8 p9 q0 : asZ) (w : asY) : Prop :=
 gD pg (gV .add 3 iI iI q0 (atA 1)) w fun y2 w =>
 kn gP gY iL pC p8 p9 y2 w
theorem M7 (kn : K7) (hn : N7 Q kn 0 5 6 12 118 119 120) (h : xP kn (g 0) (g 5) (g 6) (g 12) (g 118) (g 119) (g 120) w) : jK pg jC (fU 3 (bI (bI (fU 1 (gR 1 (fU 1 (bI (fU 1 (bI (bI (gR 1 (fU 1 (fU 1 (fU 3 iY)))))))))))))) Q g w :=
 lM (kr := no) (l := []) h hn mI trivial
def Cv (kn : K7) (k8 : K4) (gP gY iL pC p8 p9 q0 : asZ) (w : asY) : Prop :=
 gD pg (gV .lss 3 iI iI q0 p9) w fun q1 w =>
 nG q1
  (gD pg (jO 128 p8 q0) w fun q3 w =>
  gD pg (jE 38 q3) w fun q4 w =>
  (dr w) = (dr w) /\
  gD pg (gV .gtr 38 iI iI q4 (.int .u32 0)) (dr w) fun q6 w_ => w_ = (dr w) /\
  (dr w) = (dr w) /\
  Gd (kK q6 true) (fun K => K gY (dr w)) (dr w) fun q8 w_ => w_ = (dr w) /\
  Gd (kK q6 true) (fun K => K q0 (dr w)) (dr w) fun q9 w_ => w_ = (dr w) /\
  Gd (kK q6 true) (fun K => gD pg (jO 117 q8 q9) (dr w) K) (dr w) fun s0 w_ => w_ = (dr w) /\
  Gd (kK q6 true) (fun K => gD pg (jE 3 s0) (dr w) K) (dr w) fun s1 w_ => w_ = (dr w) /\
  Gd (kK q6 true) (fun K => gD pg (gV .sub 3 iI iI (atA 11) s1) (dr w) K) (dr w) fun s2 w_ => w_ = (dr w) /\
  Gd (kK q6 true) (fun K => gD pg (gV .shl 3 iI iI (atA 1) s2) (dr w) K) (dr w) fun s3 w_ => w_ = (dr w) /\
  Gd (kK q6 true) (fun K => K iL (dr w)) (dr w) fun s4 w_ => w_ = (dr w) /\
  Gd (kK q6 true) (fun K => gD pg (gV .leq 3 iI iI s3 s4) (dr w) K) (dr w) fun s5 w_ => w_ = (dr w) /\
  gD pg (mA q6 s5 (.bool false)) (dr w) fun s6 w_ => w_ = (dr w) /\
  (dr w) = (dr w) /\
  Gd (kK s6 true) (fun K => K pC (dr w)) (dr w) fun s8 w_ => w_ = (dr w) /\
  Gd (kK s6 true) (fun K => gD pg (gV .lss 3 iI iI s8 (atA 0)) (dr w) K) (dr w) fun s9 w_ => w_ = (dr w) /\
  Gd (kK s6 true) (fun K => K s9 (dr w)) (dr w) fun u0 w_ => w_ = (dr w) /\
  Gd (kK u0 false) (fun K => K gY (dr w)) (dr w) fun u1 w_ => w_ = (dr w) /\
  Gd (kK u0 false) (fun K => K q0 (dr w)) (dr w) fun u2 w_ => w_ = (dr w) /\
  Gd (kK u0 false) (fun K => gD pg (jO 117 u1 u2) (dr w) K) (dr w) fun u3 w_ => w_ = (dr w) /\
  Gd (kK u0 false) (fun K => gD pg (jE 3 u3) (dr w) K) (dr w) fun u4 w_ => w_ = (dr w) /\
  Gd (kK u0 false) (fun K => K gY (dr w)) (dr w) fun u5 w_ => w_ = (dr w) /\
  Gd (kK u0 false) (fun K => K pC (dr w)) (dr w) fun u6 w_ => w_ = (dr w) /\
  Gd (kK u0 false) (fun K => gD pg (jO 117 u5 u6) (dr w) K) (dr w) fun u7 w_ => w_ = (dr w) /\
  Gd (kK u0 false) (fun K => gD pg (jE 3 u7) (dr w) K) (dr w) fun u8 w_ => w_ = (dr w) /\
  Gd (kK u0 false) (fun K => gD pg (gV .gtr 3 iI iI u4 u8) (dr w) K) (dr w) fun u9 w_ => w_ = (dr w) /\
  Gd (kK s6 true) (fun K => gD pg (mA u0 (.bool true) u9) (dr w) K) (dr w) fun v0 w_ => w_ = (dr w) /\
  Gd (kK s6 true) (fun K => K v0 (dr w)) (dr w) fun v1 w_ => w_ = (dr w) /\
  Gd (kK v1 false) (fun K => K gY (dr w)) (dr w) fun v2 w_ => w_ = (dr w) /\
  Gd (kK v1 false) (fun K => K q0 (dr w)) (dr w) fun v3 w_ => w_ = (dr w) /\
  Gd (kK v1 false) (fun K => gD pg (jO 117 v2 v3) (dr w) K) (dr w) fun v4 w_ => w_ = (dr w) /\
  Gd (kK v1 false) (fun K => gD pg (jE 3 v4) (dr w) K) (dr w) fun v5 w_ => w_ = (dr w) /\
  Gd (kK v1 false) (fun K => K gY (dr w)) (dr w) fun v6 w_ => w_ = (dr w) /\
  Gd (kK v1 false) (fun K => K pC (dr w)) (dr w) fun v7 w_ => w_ = (dr w) /\
  Gd (kK v1 false) (fun K => gD pg (jO 117 v6 v7) (dr w) K) (dr w) fun v8 w_ => w_ = (dr w) /\
  Gd (kK v1 false) (fun K => gD pg (jE 3 v8) (dr w) K) (dr w) fun v9 w_ => w_ = (dr w) /\
  Gd (kK v1 false) (fun K => gD pg (gV .eql 3 (.tmp 155) (.tmp 159) v5 v9) (dr w) K) (dr w) fun x0 w_ => w_ = (dr w) /\
  Gd (kK v1 false) (fun K => K x0 (dr w)) (dr w) fun x1 w_ => w_ = (dr w) /\
  Gd (kK x1 true) (fun K => K q4 (dr w)) (dr w) fun x2 w_ => w_ = (dr w) /\
  Gd (kK x1 true) (fun K => K gP (dr w)) (dr w) fun x3 w_ => w_ = (dr w) /\
  Gd (kK x1 true) (fun K => K pC (dr w)) (dr w) fun x4 w_ => w_ = (dr w) /\
  Gd (kK x1 true) (fun K => gD pg (jO 128 x3 x4) (dr w) K) (dr w) fun x5 w_ => w_ = (dr w) /\
  Gd (kK x1 true) (fun K => gD pg (jE 38 x5) (dr w) K) (dr w) fun x6 w_ => w_ = (dr w) /\
  Gd (kK x1 true) (fun K => gD pg (gV .gtr 38 iI iI x2 x6) (dr w) K) (dr w) fun x7 w_ => w_ = (dr w) /\
  Gd (kK v1 false) (fun K => gD pg (mA x1 x7 (.bool false)) (dr w) K) (dr w) fun x8 w_ => w_ = (dr w) /\
  Gd (kK s6 true) (fun K => gD pg (mA v1 (.bool true) x8) (dr w) K) (dr w) fun x9 w_ => w_ = (dr w) /\
  gD pg (mA s6 x9 (.bool false)) (dr w) fun y0 w_ => w_ = (dr w) /\
  nG y0
   (kn gP gY iL q0 p8 p9 q0 (dr w))
   (kn gP gY iL pC p8 p9 q0 (dr w)))
  (k8 gP gY iL pC w)
theorem MK (kn : K7) (k8 : K4) (hn : N7 Q kn 0 5 6 12 118 119 120) (h8 : E4 Q k8 8 0 5 6 12) (h : Cv kn k8 (g 0) (g 5) (g 6) (g 12) (g 118) (g 119) (g 120) w) : jK pg jC (gR 3 (bI (bI (fU 1 (gR 1 (fU 1 (bI (fU 1 (bI (bI (gR 1 (fU 1 (fU 1 (fU 3 iY)))))))))))))) Q g w :=
 lM (kr := no) (l := [(8, fun g w => k8 (g 0) (g 5) (g 6) (g 12) w)]) h hn mI ⟨h8, trivial⟩
def xN (kn : K7) (k8 : K4) (gP gY iL pC p8 p9 q0 : asZ) (w : asY) : Prop :=
 Cv (fun gP gY iL pC p8 p9 q0 w => xP kn gP gY iL pC p8 p9 q0 w) k8 gP gY iL pC p8 p9 q0 w
def CD (k8 : K4) (gP gY iL pC p8 p9 q0 : asZ) (w : asY) : Prop :=
 kE (fun (X : (asZ × asZ) -> K0) (t : asZ × asZ) (w : asY) => xN (fun _ _ _ pC _ _ q0 w => X (pC, q0) w) k8 gP gY iL t.1 p8 p9 t.2 w) (pC, q0) w
theorem Nn (kn : K7) (k8 : K4) (hn : N7 Q kn 0 5 6 12 118 119 120) (h8 : E4 Q k8 8 0 5 6 12) (h : xN kn k8 (g 0) (g 5) (g 6) (g 12) (g 118) (g 119) (g 120) w) : jK pg jC (bI (bI (fU 1 (gR 1 (fU 1 (bI (fU 1 (bI (bI (gR 1 (fU 1 (fU 1 (fU 3 iY))))))))))))) Q g w :=
 oE 3 (MK _ g w (xP kn) k8 (fun g w h => iA (M7 _ g w kn hn h)) h8 h)
theorem Nv (k8 : K4) (h8 : E4 Q k8 8 0 5 6 12) (h : CD k8 (g 0) (g 5) (g 6) (g 12) (g 118) (g 119) (g 120) w) : jK pg jC (bI (fU 1 (gR 1 (fU 1 (bI (fU 1 (bI (bI (gR 1 (fU 1 (fU 1 (fU 3 iY)))))))))))) Q g w := by
 refine MJ (fun g : Env => (g 12, g 120)) (fun X t w => xN (fun _ _ _ pC _ _ q0 w => X (pC, q0) w) k8 (g 0) (g 5) (g 6) t.1 (g 118) (g 119) t.2 w) h (fun X g1 w1 ha hL => ?_)
 rw [<- qP 0 ha, <- qP 5 ha, <- qP 6 ha, <- qP 118 ha, <- qP 119 ha] at hL
 exact (Nn _ g1 w1 (fun _ _ _ pC _ _ q0 w => X (pC, q0) w) k8 (fun _ _ h => h) h8 hL)
def CI (kn : K4) (gP gY iL pC p8 p9 q0 : asZ) (w : asY) : Prop :=
 CD kn gP gY iL pC p8 p9 q0 w
def C2 (kn : K7) (gP gY iL pC : asZ) (w : asY) : Prop :=
 gD pg (oF .len #[128] 3 [gP]) w fun p9 w =>
 kn gP gY iL pC gP p9 (atA 0) w
theorem M1 (kn : K7) (hn : N7 Q kn 0 5 6 12 118 119 120) (h : C2 kn (g 0) (g 5) (g 6) (g 12) w) : jK pg jC (gR 1 (gR 1 (fU 1 (bI (fU 1 (bI (bI (gR 1 (fU 1 (fU 1 (fU 3 iY))))))))))) Q g w :=
 lM (kr := no) (l := []) h hn mI trivial
def wV (kn : K4) (gP gY iL pC : asZ) (w : asY) : Prop :=
 C2 (fun gP gY iL pC p8 p9 q0 w => CI kn gP gY iL pC p8 p9 q0 w) gP gY iL pC w
def BV (kn : K3) (gP gY iL pC : asZ) (w : asY) : Prop :=
 wV (fun gP gY iL pC w => xJ kn gP gY iL pC w) gP gY iL pC w
theorem Ny (kn : K4) (hn : N4 Q kn 0 5 6 12) (h : wV kn (g 0) (g 5) (g 6) (g 12) w) : jK pg jC (gR 1 (fU 1 (bI (fU 1 (bI (bI (gR 1 (fU 1 (fU 1 (fU 3 iY)))))))))) Q g w :=
 oE 1 (M1 _ g w (CI kn) (fun g w h => iA (G5 8 (Nv _ g w kn hn h))) h)
def BG (kn : K4) (gP gY iL : asZ) (w : asY) : Prop :=
 kn gP gY iL (atA (-1)) w
theorem Me (kn : K4) (hn : N4 Q kn 0 5 6 12) (h : BG kn (g 0) (g 5) (g 6) w) : jK pg jC (gR 1 (bI (fU 1 (bI (bI (gR 1 (fU 1 (fU 1 (fU 3 iY))))))))) Q g w :=
 lM (kr := no) (l := []) h hn mI trivial
def GM (kn : K3) (gP gY iL : asZ) (w : asY) : Prop :=
 BG (fun gP gY iL pC w => BV kn gP gY iL pC w) gP gY iL w
def Bt (kn : K3) (gP gY iL : asZ) (w : asY) : Prop :=
 GM kn gP gY iL w
def Bd (kn : K3) (k6 : K1) (gP gY iL : asZ) (w : asY) : Prop :=
 gD pg (gV .gtr 3 iI iI iL (atA 0)) w fun p7 w =>
 nG p7
  (kn gP gY iL w)
  (k6 gY w)
theorem Lb (kn : K3) (k6 : K1) (hn : N3 Q kn 0 5 6) (h6 : E1 Q k6 6 5) (h : Bd kn k6 (g 0) (g 5) (g 6) w) : jK pg jC (gR 1 (bI (bI (gR 1 (fU 1 (fU 1 (fU 3 iY))))))) Q g w :=
 lM (kr := no) (l := [(6, fun g w => k6 (g 5) w)]) h hn mI ⟨h6, trivial⟩
def uY (kn : K3) (k6 : K1) (gP gY iL : asZ) (w : asY) : Prop :=
 Bd (fun gP gY iL w => Bt kn gP gY iL w) k6 gP gY iL w
def BU (k6 : K1) (gP gY iL : asZ) (w : asY) : Prop :=
 kE (fun (X : asZ -> K0) (t : asZ) (w : asY) => uY (fun _ _ iL w => X iL w) k6 gP gY t w) iL w
theorem L1 (kn : K3) (k6 : K1) (hn : N3 Q kn 0 5 6) (h6 : E1 Q k6 6 5) (h : uY kn k6 (g 0) (g 5) (g 6) w) : jK pg jC (bI (bI (gR 1 (fU 1 (fU 1 (fU 3 iY)))))) Q g w :=
 oE 1 (Lb _ g w (Bt kn) k6 (fun g w h => iA (G5 7 (oE 1 (Me _ g w (BV kn) (fun g w h => iA (oE 1 (Ny _ g w (xJ kn) (fun g w h => iA (MT _ g w kn hn h)) h))) h)))) h6 h)
theorem LH (k6 : K1) (h6 : E1 Q k6 6 5) (h : BU k6 (g 0) (g 5) (g 6) w) : jK pg jC (bI (gR 1 (fU 1 (fU 1 (fU 3 iY))))) Q g w := by
 refine MJ (fun g : Env => g 6) (fun X t w => uY (fun _ _ iL w => X iL w) k6 (g 0) (g 5) t w) h (fun X g1 w1 ha hL => ?_)
 rw [<- qP 0 ha, <- qP 5 ha] at hL
 exact (L1 _ g1 w1 (fun _ _ iL w => X iL w) k6 (fun _ _ h => h) h6 hL)
def Bw (kn : K1) (gP gY iL : asZ) (w : asY) : Prop :=
 BU kn gP gY iL w
def rV (R : K1) (gP gY iL : asZ) (w : asY) : Prop :=
 Bw (fun gY w => xI R gY w) gP gY iL w
theorem Mc (kn : K1) (hn : N1 Q kn 5) (h : Bw kn (g 0) (g 5) (g 6) w) : jK pg jC (gR 1 (fU 1 (fU 1 (fU 3 iY)))) Q g w :=
 G5 6 (LH _ g w kn hn h)
def uW (kn : K3) (gP gY iL nP : asZ) (w : asY) : Prop :=
 gD pg (jO 117 gY nP) w fun o4 w =>
 gD pg (jE 3 o4) w fun o5 w =>
 gD pg (gV .sub 3 iI iI (atA 11) o5) w fun o6 w =>
 gD pg (gV .sub 3 iI iI o6 (atA 1)) w fun o7 w =>
 gD pg (gV .shl 3 iI iI (atA 1) o7) w fun o8 w =>
 gD pg (gV .add 3 iI iI iL o8) w fun o9 w =>
 gD pg (jO 117 gY nP) w fun p2 w =>
 gD pg (jE 3 p2) w fun p3 w =>
 gD pg (gV .add 3 iI iI p3 (atA 1)) w fun p4 w =>
 gD pg (jO 117 gY nP) w fun p5 w =>
 gD pg (jZ 3 p5 p4) w fun _u w =>
 kn gP gY o9 w
theorem Lx (kn : K3) (hn : N3 Q kn 0 5 6) (h : uW kn (g 0) (g 5) (g 6) (g 9) w) : jK pg jC (fU 1 (fU 1 (bI (fU 1 (bI (bI (gR 1 (fU 1 (fU 3 iY))))))))) Q g w :=
 lM (kr := no) (l := []) h hn mI trivial
def vF (kn : K7) (gP gY iL nP f9 i0 i1 : asZ) (w : asY) : Prop :=
 gD pg (gV .add 3 iI iI i1 (atA 1)) w fun o0 w =>
 kn gP gY iL nP f9 i0 o0 w
theorem Lp (kn : K7) (hn : N7 Q kn 0 5 6 9 49 50 51) (h : vF kn (g 0) (g 5) (g 6) (g 9) (g 49) (g 50) (g 51) w) : jK pg jC (fU 3 (bI (bI (fU 1 (gR 1 (fU 1 (bI (fU 1 (bI (bI (gR 1 (fU 1 (fU 3 iY))))))))))))) Q g w :=
 lM (kr := no) (l := []) h hn mI trivial
def BH (kn : K7) (k4 : K4) (gP gY iL nP f9 i0 i1 : asZ) (w : asY) : Prop :=
 gD pg (gV .lss 3 iI iI i1 i0) w fun i2 w =>
 nG i2
  (gD pg (jO 128 f9 i1) w fun i4 w =>
  gD pg (jE 38 i4) w fun i5 w =>
  (dr w) = (dr w) /\
  gD pg (gV .gtr 38 iI iI i5 (.int .u32 0)) (dr w) fun i7 w_ => w_ = (dr w) /\
  (dr w) = (dr w) /\
  Gd (kK i7 true) (fun K => K gY (dr w)) (dr w) fun i9 w_ => w_ = (dr w) /\
  Gd (kK i7 true) (fun K => K i1 (dr w)) (dr w) fun j0 w_ => w_ = (dr w) /\
  Gd (kK i7 true) (fun K => gD pg (jO 117 i9 j0) (dr w) K) (dr w) fun j1 w_ => w_ = (dr w) /\
  Gd (kK i7 true) (fun K => gD pg (jE 3 j1) (dr w) K) (dr w) fun j2 w_ => w_ = (dr w) /\
  Gd (kK i7 true) (fun K => gD pg (gV .lss 3 iI iI j2 (atA 11)) (dr w) K) (dr w) fun j3 w_ => w_ = (dr w) /\
  gD pg (mA i7 j3 (.bool false)) (dr w) fun j4 w_ => w_ = (dr w) /\
  (dr w) = (dr w) /\
  Gd (kK j4 true) (fun K => K nP (dr w)) (dr w) fun j6 w_ => w_ = (dr w) /\
  Gd (kK j4 true) (fun K => gD pg (gV .lss 3 iI iI j6 (atA 0)) (dr w) K) (dr w) fun j7 w_ => w_ = (dr w) /\
  Gd (kK j4 true) (fun K => K j7 (dr w)) (dr w) fun j8 w_ => w_ = (dr w) /\
  Gd (kK j8 false) (fun K => K gY (dr w)) (dr w) fun j9 w_ => w_ = (dr w) /\
  Gd (kK j8 false) (fun K => K i1 (dr w)) (dr w) fun l0 w_ => w_ = (dr w) /\
  Gd (kK j8 false) (fun K => gD pg (jO 117 j9 l0) (dr w) K) (dr w) fun l1 w_ => w_ = (dr w) /\
  Gd (kK j8 false) (fun K => gD pg (jE 3 l1) (dr w) K) (dr w) fun l2 w_ => w_ = (dr w) /\
  Gd (kK j8 false) (fun K => K gY (dr w)) (dr w) fun l3 w_ => w_ = (dr w) /\
  Gd (kK j8 false) (fun K => K nP (dr w)) (dr w) fun l4 w_ => w_ = (dr w) /\
  Gd (kK j8 false) (fun K => gD pg (jO 117 l3 l4) (dr w) K) (dr w) fun l5 w_ => w_ = (dr w) /\
  Gd (kK j8 false) (fun K => gD pg (jE 3 l5) (dr w) K) (dr w) fun l6 w_ => w_ = (dr w) /\
  Gd (kK j8 false) (fun K => gD pg (gV .gtr 3 iI iI l2 l6) (dr w) K) (dr w) fun l7 w_ => w_ = (dr w) /\
  Gd (kK j4 true) (fun K => gD pg (mA j8 (.bool true) l7) (dr w) K) (dr w) fun l8 w_ => w_ = (dr w) /\
  Gd (kK j4 true) (fun K => K l8 (dr w)) (dr w) fun l9 w_ => w_ = (dr w) /\
  Gd (kK l9 false) (fun K => K gY (dr w)) (dr w) fun m0 w_ => w_ = (dr w) /\
  Gd (kK l9 false) (fun K => K i1 (dr w)) (dr w) fun m1 w_ => w_ = (dr w) /\
  Gd (kK l9 false) (fun K => gD pg (jO 117 m0 m1) (dr w) K) (dr w) fun m2 w_ => w_ = (dr w) /\
  Gd (kK l9 false) (fun K => gD pg (jE 3 m2) (dr w) K) (dr w) fun m3 w_ => w_ = (dr w) /\
  Gd (kK l9 false) (fun K => K gY (dr w)) (dr w) fun m4 w_ => w_ = (dr w) /\
  Gd (kK l9 false) (fun K => K nP (dr w)) (dr w) fun m5 w_ => w_ = (dr w) /\
  Gd (kK l9 false) (fun K => gD pg (jO 117 m4 m5) (dr w) K) (dr w) fun m6 w_ => w_ = (dr w) /\
  Gd (kK l9 false) (fun K => gD pg (jE 3 m6) (dr w) K) (dr w) fun m7 w_ => w_ = (dr w) /\
  Gd (kK l9 false) (fun K => gD pg (gV .eql 3 (.tmp 83) (.tmp 87) m3 m7) (dr w) K) (dr w) fun m8 w_ => w_ = (dr w) /\
  Gd (kK l9 false) (fun K => K m8 (dr w)) (dr w) fun m9 w_ => w_ = (dr w) /\
  Gd (kK m9 true) (fun K => K i5 (dr w)) (dr w) fun n0 w_ => w_ = (dr w) /\
  Gd (kK m9 true) (fun K => K gP (dr w)) (dr w) fun n1 w_ => w_ = (dr w) /\
  Gd (kK m9 true) (fun K => K nP (dr w)) (dr w) fun n2 w_ => w_ = (dr w) /\
  Gd (kK m9 true) (fun K => gD pg (jO 128 n1 n2) (dr w) K) (dr w) fun n3 w_ => w_ = (dr w) /\
  Gd (kK m9 true) (fun K => gD pg (jE 38 n3) (dr w) K) (dr w) fun n4 w_ => w_ = (dr w) /\
  Gd (kK m9 true) (fun K => gD pg (gV .lss 38 iI iI n0 n4) (dr w) K) (dr w) fun n5 w_ => w_ = (dr w) /\
  Gd (kK l9 false) (fun K => gD pg (mA m9 n5 (.bool false)) (dr w) K) (dr w) fun n6 w_ => w_ = (dr w) /\
  Gd (kK j4 true) (fun K => gD pg (mA l9 (.bool true) n6) (dr w) K) (dr w) fun n7 w_ => w_ = (dr w) /\
  gD pg (mA j4 n7 (.bool false)) (dr w) fun n8 w_ => w_ = (dr w) /\
  nG n8
   (kn gP gY iL i1 f9 i0 i1 (dr w))
   (kn gP gY iL nP f9 i0 i1 (dr w)))
  (k4 gP gY iL nP w)
theorem Ls (kn : K7) (k4 : K4) (hn : N7 Q kn 0 5 6 9 49 50 51) (h4 : E4 Q k4 4 0 5 6 9) (h : BH kn k4 (g 0) (g 5) (g 6) (g 9) (g 49) (g 50) (g 51) w) : jK pg jC (gR 3 (bI (bI (fU 1 (gR 1 (fU 1 (bI (fU 1 (bI (bI (gR 1 (fU 1 (fU 3 iY))))))))))))) Q g w :=
 lM (kr := no) (l := [(4, fun g w => k4 (g 0) (g 5) (g 6) (g 9) w)]) h hn mI ⟨h4, trivial⟩
def uQ (kn : K7) (k4 : K4) (gP gY iL nP f9 i0 i1 : asZ) (w : asY) : Prop :=
 BH (fun gP gY iL nP f9 i0 i1 w => vF kn gP gY iL nP f9 i0 i1 w) k4 gP gY iL nP f9 i0 i1 w
def Bm (k4 : K4) (gP gY iL nP f9 i0 i1 : asZ) (w : asY) : Prop :=
 kE (fun (X : (asZ × asZ) -> K0) (t : asZ × asZ) (w : asY) => uQ (fun _ _ _ nP _ _ i1 w => X (nP, i1) w) k4 gP gY iL t.1 f9 i0 t.2 w) (nP, i1) w
theorem LF (kn : K7) (k4 : K4) (hn : N7 Q kn 0 5 6 9 49 50 51) (h4 : E4 Q k4 4 0 5 6 9) (h : uQ kn k4 (g 0) (g 5) (g 6) (g 9) (g 49) (g 50) (g 51) w) : jK pg jC (bI (bI (fU 1 (gR 1 (fU 1 (bI (fU 1 (bI (bI (gR 1 (fU 1 (fU 3 iY)))))))))))) Q g w :=
 oE 3 (Ls _ g w (vF kn) k4 (fun g w h => iA (Lp _ g w kn hn h)) h4 h)
theorem Mb (k4 : K4) (h4 : E4 Q k4 4 0 5 6 9) (h : Bm k4 (g 0) (g 5) (g 6) (g 9) (g 49) (g 50) (g 51) w) : jK pg jC (bI (fU 1 (gR 1 (fU 1 (bI (fU 1 (bI (bI (gR 1 (fU 1 (fU 3 iY))))))))))) Q g w := by
 refine MJ (fun g : Env => (g 9, g 51)) (fun X t w => uQ (fun _ _ _ nP _ _ i1 w => X (nP, i1) w) k4 (g 0) (g 5) (g 6) t.1 (g 49) (g 50) t.2 w) h (fun X g1 w1 ha hL => ?_)
 rw [<- qP 0 ha, <- qP 5 ha, <- qP 6 ha, <- qP 49 ha, <- qP 50 ha] at hL
 exact (LF _ g1 w1 (fun _ _ _ nP _ _ i1 w => X (nP, i1) w) k4 (fun _ _ h => h) h4 hL)
def BB (kn : K4) (gP gY iL nP f9 i0 i1 : asZ) (w : asY) : Prop :=
 Bm kn gP gY iL nP f9 i0 i1 w
def BW (kn : K7) (gP gY iL nP : asZ) (w : asY) : Prop :=
 gD pg (oF .len #[128] 3 [gP]) w fun i0 w =>
 kn gP gY iL nP gP i0 (atA 0) w
theorem LY (kn : K7) (hn : N7 Q kn 0 5 6 9 49 50 51) (h : BW kn (g 0) (g 5) (g 6) (g 9) w) : jK pg jC (gR 1 (gR 1 (fU 1 (bI (fU 1 (bI (bI (gR 1 (fU 1 (fU 3 iY)))))))))) Q g w :=
 lM (kr := no) (l := []) h hn mI trivial
def uP (kn : K4) (gP gY iL nP : asZ) (w : asY) : Prop :=
 BW (fun gP gY iL nP f9 i0 i1 w => BB kn gP gY iL nP f9 i0 i1 w) gP gY iL nP w
def BF (kn : K3) (gP gY iL nP : asZ) (w : asY) : Prop :=
 uP (fun gP gY iL nP w => uW kn gP gY iL nP w) gP gY iL nP w
theorem Lz (kn : K4) (hn : N4 Q kn 0 5 6 9) (h : uP kn (g 0) (g 5) (g 6) (g 9) w) : jK pg jC (gR 1 (fU 1 (bI (fU 1 (bI (bI (gR 1 (fU 1 (fU 3 iY))))))))) Q g w :=
 oE 1 (LY _ g w (BB kn) (fun g w h => iA (G5 4 (Mb _ g w kn hn h))) h)
def Bj (kn : K4) (gP gY iL : asZ) (w : asY) : Prop :=
 kn gP gY iL (atA (-1)) w
theorem Md (kn : K4) (hn : N4 Q kn 0 5 6 9) (h : Bj kn (g 0) (g 5) (g 6) w) : jK pg jC (gR 1 (bI (fU 1 (bI (bI (gR 1 (fU 1 (fU 3 iY)))))))) Q g w :=
 lM (kr := no) (l := []) h hn mI trivial
def GR (kn : K3) (gP gY iL : asZ) (w : asY) : Prop :=
 Bj (fun gP gY iL nP w => BF kn gP gY iL nP w) gP gY iL w
def Br (kn : K3) (gP gY iL : asZ) (w : asY) : Prop :=
 GR kn gP gY iL w
def BM (kn : K3) (k2 : K3) (gP gY iL : asZ) (w : asY) : Prop :=
 gD pg (gV .lss 3 iI iI iL (atA 0)) w fun f8 w =>
 nG f8
  (kn gP gY iL w)
  (k2 gP gY iL w)
theorem Lo (kn : K3) (k2 : K3) (hn : N3 Q kn 0 5 6) (h2 : E3 Q k2 2 0 5 6) (h : BM kn k2 (g 0) (g 5) (g 6) w) : jK pg jC (gR 1 (bI (bI (gR 1 (fU 1 (fU 3 iY)))))) Q g w :=
 lM (kr := no) (l := [(2, fun g w => k2 (g 0) (g 5) (g 6) w)]) h hn mI ⟨h2, trivial⟩
def uT (kn : K3) (k2 : K3) (gP gY iL : asZ) (w : asY) : Prop :=
 BM (fun gP gY iL w => Br kn gP gY iL w) k2 gP gY iL w
def Bp (k2 : K3) (gP gY iL : asZ) (w : asY) : Prop :=
 kE (fun (X : asZ -> K0) (t : asZ) (w : asY) => uT (fun _ _ iL w => X iL w) k2 gP gY t w) iL w
theorem L2 (kn : K3) (k2 : K3) (hn : N3 Q kn 0 5 6) (h2 : E3 Q k2 2 0 5 6) (h : uT kn k2 (g 0) (g 5) (g 6) w) : jK pg jC (bI (bI (gR 1 (fU 1 (fU 3 iY))))) Q g w :=
 oE 1 (Lo _ g w (Br kn) k2 (fun g w h => iA (G5 3 (oE 1 (Md _ g w (BF kn) (fun g w h => iA (oE 1 (Lz _ g w (uW kn) (fun g w h => iA (Lx _ g w kn hn h)) h))) h)))) h2 h)
theorem Lk (k2 : K3) (h2 : E3 Q k2 2 0 5 6) (h : Bp k2 (g 0) (g 5) (g 6) w) : jK pg jC (bI (gR 1 (fU 1 (fU 3 iY)))) Q g w := by
 refine MJ (fun g : Env => g 6) (fun X t w => uT (fun _ _ iL w => X iL w) k2 (g 0) (g 5) t w) h (fun X g1 w1 ha hL => ?_)
 rw [<- qP 0 ha, <- qP 5 ha] at hL
 exact (L2 _ g1 w1 (fun _ _ iL w => X iL w) k2 (fun _ _ h => h) h2 hL)
def BD (kn : K3) (gP gY iL : asZ) (w : asY) : Prop :=
 Bp kn gP gY iL w
def rW (R : K1) (gP gY iL : asZ) (w : asY) : Prop :=
 BD (fun gP gY iL w => rV R gP gY iL w) gP gY iL w
theorem Ma (kn : K3) (hn : N3 Q kn 0 5 6) (h : BD kn (g 0) (g 5) (g 6) w) : jK pg jC (gR 1 (fU 1 (fU 3 iY))) Q g w :=
 G5 2 (Lk _ g w kn hn h)
def uZ (kn : K7) (gP oI gY iL c8 c9 d0 : asZ) (w : asY) : Prop :=
 gD pg (gV .add 3 iI iI d0 (atA 1)) w fun f6 w =>
 kn gP oI gY iL c8 c9 f6 w
theorem LR (kn : K7) (hn : N7 Q kn 0 1 5 6 18 19 20) (h : uZ kn (g 0) (g 1) (g 5) (g 6) (g 18) (g 19) (g 20) w) : jK pg jC (fU 3 (bI (bI (fU 1 (gR 1 (fU 3 iY)))))) Q g w :=
 lM (kr := no) (l := []) h hn mI trivial
def BR (kn : K7) (k0 : K3) (gP oI gY iL c8 c9 d0 : asZ) (w : asY) : Prop :=
 gD pg (gV .lss 3 iI iI d0 c9) w fun d1 w =>
 nG d1
  (gD pg (jO 128 c8 d0) w fun d3 w =>
  gD pg (jE 38 d3) w fun d4 w =>
  gD pg (gV .gtr 38 iI iI d4 (.int .u32 0)) w fun d6 w =>
  nG d6
   (gD pg (gV .sub 32 iI iI oI (.int .u64 1)) w fun e0 w =>
   gD pg (nL 38 32 d4) w fun e2 w =>
   gD pg (gV .quo 32 iI iI e0 e2) w fun e3 w =>
   jD pg tM #[e3] w fun e4 w =>
   gD pg (oF .max #[3, 3] 3 [e4, (atA 1)]) w fun e5 w =>
   gD pg (oF .min #[3, 3] 3 [e5, (atA 11)]) w fun e6 w =>
   gD pg (jO 117 gY d0) w fun e7 w =>
   gD pg (jZ 3 e7 e6) w fun _u w =>
   gD pg (jO 117 gY d0) w fun f1 w =>
   gD pg (jE 3 f1) w fun f2 w =>
   gD pg (gV .sub 3 iI iI (atA 11) f2) w fun f3 w =>
   gD pg (gV .shl 3 iI iI (atA 1) f3) w fun f4 w =>
   gD pg (gV .sub 3 iI iI iL f4) w fun f5 w =>
   kn gP oI gY f5 c8 c9 d0 w)
   (kn gP oI gY iL c8 c9 d0 w))
  (k0 gP gY iL w)
theorem LC (kn : K7) (k0 : K3) (hn : N7 Q kn 0 1 5 6 18 19 20) (h0 : E3 Q k0 0 0 5 6) (h : BR kn k0 (g 0) (g 1) (g 5) (g 6) (g 18) (g 19) (g 20) w) : jK pg jC (gR 3 (bI (bI (fU 1 (gR 1 (fU 3 iY)))))) Q g w :=
 lM (kr := no) (l := [(0, fun g w => k0 (g 0) (g 5) (g 6) w)]) h hn mI ⟨h0, trivial⟩
def vG (kn : K7) (k0 : K3) (gP oI gY iL c8 c9 d0 : asZ) (w : asY) : Prop :=
 BR (fun gP oI gY iL c8 c9 d0 w => uZ kn gP oI gY iL c8 c9 d0 w) k0 gP oI gY iL c8 c9 d0 w
def BK (k0 : K3) (gP oI gY iL c8 c9 d0 : asZ) (w : asY) : Prop :=
 kE (fun (X : (asZ × asZ) -> K0) (t : asZ × asZ) (w : asY) => vG (fun _ _ _ iL _ _ d0 w => X (iL, d0) w) k0 gP oI gY t.1 c8 c9 t.2 w) (iL, d0) w
theorem Mj (kn : K7) (k0 : K3) (hn : N7 Q kn 0 1 5 6 18 19 20) (h0 : E3 Q k0 0 0 5 6) (h : vG kn k0 (g 0) (g 1) (g 5) (g 6) (g 18) (g 19) (g 20) w) : jK pg jC (bI (bI (fU 1 (gR 1 (fU 3 iY))))) Q g w :=
 oE 3 (LC _ g w (uZ kn) k0 (fun g w h => iA (LR _ g w kn hn h)) h0 h)
theorem LA (k0 : K3) (h0 : E3 Q k0 0 0 5 6) (h : BK k0 (g 0) (g 1) (g 5) (g 6) (g 18) (g 19) (g 20) w) : jK pg jC (bI (fU 1 (gR 1 (fU 3 iY)))) Q g w := by
 refine MJ (fun g : Env => (g 6, g 20)) (fun X t w => vG (fun _ _ _ iL _ _ d0 w => X (iL, d0) w) k0 (g 0) (g 1) (g 5) t.1 (g 18) (g 19) t.2 w) h (fun X g1 w1 ha hL => ?_)
 rw [<- qP 0 ha, <- qP 1 ha, <- qP 5 ha, <- qP 18 ha, <- qP 19 ha] at hL
 exact (Mj _ g1 w1 (fun _ _ _ iL _ _ d0 w => X (iL, d0) w) k0 (fun _ _ h => h) h0 hL)
def Be (kn : K3) (gP oI gY iL c8 c9 d0 : asZ) (w : asY) : Prop :=
 BK kn gP oI gY iL c8 c9 d0 w
def BX (kn : K7) (gP oI gY iL : asZ) (w : asY) : Prop :=
 gD pg (oF .len #[128] 3 [gP]) w fun c9 w =>
 kn gP oI gY iL gP c9 (atA 0) w
theorem LW (kn : K7) (hn : N7 Q kn 0 1 5 6 18 19 20) (h : BX kn (g 0) (g 1) (g 5) (g 6) w) : jK pg jC (gR 1 (gR 1 (fU 3 iY))) Q g w :=
 lM (kr := no) (l := []) h hn mI trivial
def BA (kn : K3) (gP oI gY iL : asZ) (w : asY) : Prop :=
 BX (fun gP oI gY iL c8 c9 d0 w => Be kn gP oI gY iL c8 c9 d0 w) gP oI gY iL w
def uS (R : K1) (gP oI gY iL : asZ) (w : asY) : Prop :=
 BA (fun gP gY iL w => rW R gP gY iL w) gP oI gY iL w
theorem Lt (kn : K3) (hn : N3 Q kn 0 5 6) (h : BA kn (g 0) (g 1) (g 5) (g 6) w) : jK pg jC (gR 1 (fU 3 iY)) Q g w :=
 oE 1 (LW _ g w (Be kn) (fun g w h => iA (G5 0 (LA _ g w kn hn h))) h)
def Bq (kn : K4) (gP oI : asZ) (w : asY) : Prop :=
 gD pg (oF .len #[128] 3 [gP]) w fun c6 w =>
 gD pg (tW 117 c6 c6) w fun c7 w =>
 kn gP oI c7 (atA 2048) w
theorem Mf (kn : K4) (hn : N4 Q kn 0 1 5 6) (h : Bq kn (g 0) (g 1) w) : jK pg jC (gR 3 iY) Q g w :=
 lM (kr := no) (l := []) h hn mI trivial
def Bn (R : K1) (gP oI : asZ) (w : asY) : Prop :=
 Bq (fun gP oI gY iL w => uS R gP oI gY iL w) gP oI w
theorem Lc (R : K1) (hr : HR CL R Q) (h : Bn R (g 0) (g 1) w) : jK pg jC iY Q g w :=
 oE 3 (Mf _ g w (uS R) (fun g w h => iA (oE 1 (Lt _ g w (rW R) (fun g w h => iA (oE 1 (Ma _ g w (rV R) (fun g w h => iA (oE 1 (Mc _ g w (xI R) (fun g w h => iA (Nx _ g w R hr h)) h))) h))) h))) h)
def Mq (a0 a1 : asZ) (w : asY) (R : K1) : Prop :=
 Bn R a0 a1 w
theorem O6 {a0 a1 : asZ} {w : asY} {R : K1} (h : Mq a0 a1 w R) : jD pg zJ #[a0, a1] w R := by
 refine B0 (ann := jC) Tryz.f84 iY [a0, a1] CL 188 TryzM.mixed Tryz.func84 ?_
 exact (Lc _ _ _ R (fun _ _ h => h) h)
def nE : FA := ⟨zS, fun i => .leaf ([], []) []⟩
def CA : List ResultVar := [.tmp 2]
noncomputable def mN : Code := kF Tryz.f85
def wZ (R : K1) (B9 : asZ) (w : asY) : Prop :=
 R B9 w
theorem M3 (R : K1) (hr : HR CA R Q) (h : wZ R (g 3) w) : jK pg nE (fU 1 (fU 1 (fU 2 mN))) Q g w :=
 lM (kn := no) (l := []) h mI hr trivial
def xF (kn : K3) (k0 : K1) (nN B9 Oe : asZ) (w : asY) : Prop :=
 gD pg (oF .len #[117] 3 [nN]) w fun c4 w =>
 gD pg (gV .lss 3 iI iI Oe c4) w fun c5 w =>
 nG c5
  (gD pg (jO 117 nN Oe) w fun d1 w =>
  gD pg (jE 3 d1) w fun d2 w =>
  gD pg (oF .max #[3, 3] 3 [B9, d2]) w fun d3 w =>
  gD pg (gV .add 3 iI iI Oe (atA 1)) w fun c7 w =>
  kn nN d3 c7 w)
  (k0 B9 w)
theorem NC (kn : K3) (k0 : K1) (hn : N3 Q kn 0 3 4) (h0 : E1 Q k0 0 3) (h : xF kn k0 (g 0) (g 3) (g 4) w) : jK pg nE (bI (bI (fU 1 (gR 1 (fU 1 (fU 2 mN)))))) Q g w :=
 lM (kr := no) (l := [(0, fun g w => k0 (g 3) w)]) h hn mI ⟨h0, trivial⟩
def CX (k0 : K1) (nN B9 Oe : asZ) (w : asY) : Prop :=
 kE (fun (X : (asZ × asZ) -> K0) (t : asZ × asZ) (w : asY) => xF (fun _ B9 Oe w => X (B9, Oe) w) k0 nN t.1 t.2 w) (B9, Oe) w
theorem M9 (k0 : K1) (h0 : E1 Q k0 0 3) (h : CX k0 (g 0) (g 3) (g 4) w) : jK pg nE (bI (fU 1 (gR 1 (fU 1 (fU 2 mN))))) Q g w := by
 refine MJ (fun g : Env => (g 3, g 4)) (fun X t w => xF (fun _ B9 Oe w => X (B9, Oe) w) k0 (g 0) t.1 t.2 w) h (fun X g1 w1 ha hL => ?_)
 rw [<- qP 0 ha] at hL
 exact (NC _ g1 w1 (fun _ B9 Oe w => X (B9, Oe) w) k0 (fun _ _ h => h) h0 hL)
def CT (kn : K1) (nN B9 Oe : asZ) (w : asY) : Prop :=
 CX kn nN B9 Oe w
def CC (kn : K3) (nN B9 : asZ) (w : asY) : Prop :=
 kn nN B9 (atA 1) w
theorem M8 (kn : K3) (hn : N3 Q kn 0 3 4) (h : CC kn (g 0) (g 3) w) : jK pg nE (gR 1 (gR 1 (fU 1 (fU 2 mN)))) Q g w :=
 lM (kr := no) (l := []) h hn mI trivial
def CQ (kn : K1) (nN B9 : asZ) (w : asY) : Prop :=
 CC (fun nN B9 Oe w => CT kn nN B9 Oe w) nN B9 w
def CS (R : K1) (nN B9 : asZ) (w : asY) : Prop :=
 CQ (fun B9 w => wZ R B9 w) nN B9 w
theorem Nr (kn : K1) (hn : N1 Q kn 3) (h : CQ kn (g 0) (g 3) w) : jK pg nE (gR 1 (fU 1 (fU 2 mN))) Q g w :=
 oE 1 (M8 _ g w (CT kn) (fun g w h => iA (G5 0 (M9 _ g w kn hn h))) h)
def CH (kn : K2) (nN : asZ) (w : asY) : Prop :=
 gD pg (jO 117 nN (atA 0)) w fun c0 w =>
 gD pg (jE 3 c0) w fun c1 w =>
 kn nN c1 w
theorem Nz (kn : K2) (hn : N2 Q kn 0 3) (h : CH kn (g 0) w) : jK pg nE (gR 1 (fU 2 mN)) Q g w :=
 lM (kr := no) (l := []) h hn mI trivial
def C6 (R : K1) (nN : asZ) (w : asY) : Prop :=
 CH (fun nN B9 w => CS R nN B9 w) nN w
def Bk (kn : K1) (nN : asZ) (w : asY) : Prop :=
 gD pg (oF .len #[117] 3 [nN]) w fun b6 w =>
 gD pg (gV .lss 3 iI iI b6 (atA 1)) w fun b7 w =>
 nG b7
  (gD pg (VC 9 (.string ⟨#[115, 108, 105, 99, 101, 115, 46, 77, 97, 120, 58, 32, 101, 109, 112, 116, 121, 32, 108, 105, 115, 116]⟩)) w fun b8 w =>
  gD pg (V (Instr.panic b8)) w fun _u w =>
  kn nN w)
  (kn nN w)
theorem LU (kn : K1) (hn : N1 Q kn 0) (h : Bk kn (g 0) w) : jK pg nE (gR 2 mN) Q g w :=
 lM (kr := no) (l := []) h hn mI trivial
def BN (R : K1) (nN : asZ) (w : asY) : Prop :=
 Bk (fun nN w => C6 R nN w) nN w
theorem L7 (R : K1) (hr : HR CA R Q) (h : BN R (g 0) w) : jK pg nE mN Q g w :=
 oE 2 (LU _ g w (C6 R) (fun g w h => iA (oE 1 (Nz _ g w (CS R) (fun g w h => iA (oE 1 (Nr _ g w (wZ R) (fun g w h => iA (M3 _ g w R hr h)) h))) h))) h)
def MA (a0 : asZ) (w : asY) (R : K1) : Prop :=
 BN R a0 w
theorem NL {a0 : asZ} {w : asY} {R : K1} (h : MA a0 w R) : jD pg zS #[a0] w R := by
 refine B0 (ann := nE) Tryz.f85 mN [a0] CA 25 TryzM.mixed Tryz.func85 ?_
 exact (L7 _ _ _ R (fun _ _ h => h) h)
def lT : FA := ⟨yJ, fun i => .leaf ([], []) []⟩
def AO : List ResultVar := [.tmp 2, .tmp 3]
noncomputable def lL : Code := kF Tryz.f86
def AY (R : K1) (gY : asZ) (w : asY) : Prop :=
 R (.tuple #[gY, (atA 0)]) w
theorem Pv (R : K1) (hr : HR AO R Q) (h : AY R (g 5) w) : jK pg lT (fU 1 (fU 4 lL)) Q g w :=
 lM (kn := no) (l := []) h mI hr trivial
def vM (kn : K4) (kT F0 gY wK : asZ) (w : asY) : Prop :=
 gD pg (gV .add 3 iI iI wK (atA 2)) w fun d7 w =>
 kn kT F0 gY d7 w
theorem PA (kn : K4) (hn : N4 Q kn 0 4 5 6) (h : vM kn (g 0) (g 4) (g 5) (g 6) w) : jK pg lT (fU 1 (fU 1 (bI (bI (fU 1 (gR 1 (fU 4 lL))))))) Q g w :=
 lM (kr := no) (l := []) h hn mI trivial
def vN (kn : K4) (kT F0 gY wK c_7 : asZ) (w : asY) : Prop :=
 gD pg (lI 22 1 [(0, c_7)]) w fun f6 w =>
 gD pg (oF .append #[22, 22] 22 [gY, f6]) w fun f7 w =>
 kn kT F0 f7 wK w
theorem PN (kn : K4) (hn : N4 Q kn 0 4 5 6) (h : vN kn (g 0) (g 4) (g 5) (g 6) (g 7) w) : jK pg lT (fU 2 (bI (gR 1 (fU 1 (bI (bI (fU 1 (gR 1 (fU 4 lL))))))))) Q g w :=
 lM (kr := no) (l := []) h hn mI trivial
def Fs (kn : K5) (kT F0 gY wK : asZ) (w : asY) : Prop :=
 gD pg (jO 22 kT wK) w fun e0 w =>
 gD pg (jE 5 e0) w fun e1 w =>
 gD pg (gV .shl 5 iI iI e1 (.int .u64 4)) w fun e2 w =>
 gD pg (gV .add 3 iI iI wK (atA 1)) w fun e4 w =>
 gD pg (gV .lss 3 iI iI e4 F0) w fun e6 w =>
 nG e6
  (gD pg (gV .add 3 iI iI wK (atA 1)) w fun f0 w =>
  gD pg (jO 22 kT f0) w fun f1 w =>
  gD pg (jE 5 f1) w fun f2 w =>
  gD pg (gV .or 5 iI iI e2 f2) w fun f3 w =>
  kn kT F0 gY wK f3 w)
  (kn kT F0 gY wK e2 w)
theorem PS (kn : K5) (hn : N5 Q kn 0 4 5 6 7) (h : Fs kn (g 0) (g 4) (g 5) (g 6) w) : jK pg lT (gR 2 (bI (gR 1 (fU 1 (bI (bI (fU 1 (gR 1 (fU 4 lL))))))))) Q g w :=
 lM (kr := no) (l := []) h hn mI trivial
def Kw (kn : K4) (kT F0 gY wK : asZ) (w : asY) : Prop :=
 Fs (fun kT F0 gY wK c_7 w => vN kn kT F0 gY wK c_7 w) kT F0 gY wK w
def FD (kn : K4) (kT F0 gY wK : asZ) (w : asY) : Prop :=
 Kw kn kT F0 gY wK w
def Fh (kn : K4) (kT F0 gY wK : asZ) (w : asY) : Prop :=
 FD (fun kT F0 gY wK w => vM kn kT F0 gY wK w) kT F0 gY wK w
theorem P7 (kn : K4) (hn : N4 Q kn 0 4 5 6) (h : FD kn (g 0) (g 4) (g 5) (g 6) w) : jK pg lT (gR 1 (fU 1 (bI (bI (fU 1 (gR 1 (fU 4 lL))))))) Q g w :=
 G5 2 (oE 2 (PS _ g w (vN kn) (fun g w h => iA (PN _ g w kn hn h)) h))
def Fi (kn : K4) (k1 : K1) (kT F0 gY wK : asZ) (w : asY) : Prop :=
 gD pg (gV .lss 3 iI iI wK F0) w fun d5 w =>
 nG d5
  (kn kT F0 gY wK w)
  (k1 gY w)
theorem Pz (kn : K4) (k1 : K1) (hn : N4 Q kn 0 4 5 6) (h1 : E1 Q k1 1 5) (h : Fi kn k1 (g 0) (g 4) (g 5) (g 6) w) : jK pg lT (gR 1 (bI (bI (fU 1 (gR 1 (fU 4 lL)))))) Q g w :=
 lM (kr := no) (l := [(1, fun g w => k1 (g 5) w)]) h hn mI ⟨h1, trivial⟩
def A5 (kn : K4) (k1 : K1) (kT F0 gY wK : asZ) (w : asY) : Prop :=
 Fi (fun kT F0 gY wK w => Fh kn kT F0 gY wK w) k1 kT F0 gY wK w
def DK (k1 : K1) (kT F0 gY wK : asZ) (w : asY) : Prop :=
 kE (fun (X : (asZ × asZ) -> K0) (t : asZ × asZ) (w : asY) => A5 (fun _ _ gY wK w => X (gY, wK) w) k1 kT F0 t.1 t.2 w) (gY, wK) w
theorem PZ (kn : K4) (k1 : K1) (hn : N4 Q kn 0 4 5 6) (h1 : E1 Q k1 1 5) (h : A5 kn k1 (g 0) (g 4) (g 5) (g 6) w) : jK pg lT (bI (bI (fU 1 (gR 1 (fU 4 lL))))) Q g w :=
 oE 1 (Pz _ g w (Fh kn) k1 (fun g w h => iA (oE 1 (P7 _ g w (vM kn) (fun g w h => iA (PA _ g w kn hn h)) h))) h1 h)
theorem NG (k1 : K1) (h1 : E1 Q k1 1 5) (h : DK k1 (g 0) (g 4) (g 5) (g 6) w) : jK pg lT (bI (fU 1 (gR 1 (fU 4 lL)))) Q g w := by
 refine MJ (fun g : Env => (g 5, g 6)) (fun X t w => A5 (fun _ _ gY wK w => X (gY, wK) w) k1 (g 0) (g 4) t.1 t.2 w) h (fun X g1 w1 ha hL => ?_)
 rw [<- qP 0 ha, <- qP 4 ha] at hL
 exact (PZ _ g1 w1 (fun _ _ gY wK w => X (gY, wK) w) k1 (fun _ _ h => h) h1 hL)
def Eb (kn : K1) (kT F0 gY wK : asZ) (w : asY) : Prop :=
 DK kn kT F0 gY wK w
def Eo (kn : K4) (kT F0 gY : asZ) (w : asY) : Prop :=
 kn kT F0 gY (atA 0) w
theorem Oa (kn : K4) (hn : N4 Q kn 0 4 5 6) (h : Eo kn (g 0) (g 4) (g 5) w) : jK pg lT (gR 1 (gR 1 (fU 4 lL))) Q g w :=
 lM (kr := no) (l := []) h hn mI trivial
def DP (kn : K1) (kT F0 gY : asZ) (w : asY) : Prop :=
 Eo (fun kT F0 gY wK w => Eb kn kT F0 gY wK w) kT F0 gY w
def DR (R : K1) (kT F0 gY : asZ) (w : asY) : Prop :=
 DP (fun gY w => AY R gY w) kT F0 gY w
theorem OA (kn : K1) (hn : N1 Q kn 5) (h : DP kn (g 0) (g 4) (g 5) w) : jK pg lT (gR 1 (fU 4 lL)) Q g w :=
 oE 1 (Oa _ g w (Eb kn) (fun g w h => iA (G5 1 (NG _ g w kn hn h))) h)
def zQ (kn : K3) (R : K1) (kT : asZ) (w : asY) : Prop :=
 jD pg yF #[kT] w fun c0 w =>
 gD pg (gV .eql 3 (.tmp 10) (.const (atA 0)) c0 (atA 0)) w fun c1 w =>
 nG c1
  (R (.tuple #[(.slice none 0 0), (atA 1)]) w)
  (gD pg (oF .len #[22] 3 [kT]) w fun c4 w =>
  gD pg (gV .gtr 3 iI iI c4 (atA 129)) w fun c5 w =>
  nG c5
   (R (.tuple #[(.slice none 0 0), (atA 12)]) w)
   (gD pg (oF .len #[22] 3 [kT]) w fun c7 w =>
   gD pg (gV .sub 3 iI iI c7 (atA 1)) w fun c8 w =>
   gD pg (gV .add 3 iI iI (atA 127) c8) w fun d0 w =>
   gD pg (nL 3 5 d0) w fun d1 w =>
   gD pg (lI 22 1 [(0, d1)]) w fun d2 w =>
   kn kT c8 d2 w))
theorem OI (kn : K3) (R : K1) (hn : N3 Q kn 0 4 5) (hr : HR AO R Q) (h : zQ kn R (g 0) w) : jK pg lT (gR 4 lL) Q g w :=
 lM (l := []) h hn hr trivial
def zK (R : K1) (kT : asZ) (w : asY) : Prop :=
 zQ (fun kT F0 gY w => DR R kT F0 gY w) R kT w
theorem OF (R : K1) (hr : HR AO R Q) (h : zK R (g 0) w) : jK pg lT lL Q g w :=
 oE 4 (OI _ g w (DR R) R (fun g w h => iA (oE 1 (OA _ g w (AY R) (fun g w h => iA (Pv _ g w R hr h)) h))) hr h)
def Jy (a0 : asZ) (w : asY) (R : K1) : Prop :=
 zK R a0 w
theorem Iu {a0 : asZ} {w : asY} {R : K1} (h : Jy a0 w R) : jD pg yJ #[a0] w R := by
 refine B0 (ann := lT) Tryz.f86 lL [a0] AO 49 TryzM.mixed Tryz.func86 ?_
 exact (OF _ _ _ R (fun _ _ h => h) h)
def EG : FA := ⟨vD, fun i => .leaf ([], []) []⟩
def Gq : List ResultVar := [.tmp 4, .tmp 5]
noncomputable def DN : Code := kF Tryz.f87
def Al (R : K1) (kT jH : asZ) (w : asY) : Prop :=
 gD pg (oF .len #[22] 3 [jH]) w fun b7 w =>
 gD pg (gV .lss 3 iI iI b7 (atA 256)) w fun b8 w =>
 nG b8
  (jD pg FW #[kT, jH] w fun c1 w =>
  gD pg (jV c1 0) w fun c2 w =>
  gD pg (jV c1 1) w fun c3 w =>
  R (.tuple #[c2, c3]) w)
  (jD pg DO #[kT, jH] w fun c6 w =>
  gD pg (jV c6 0) w fun c7 w =>
  gD pg (jV c6 1) w fun c8 w =>
  R (.tuple #[c7, c8]) w)
theorem Kc (R : K1) (hr : HR Gq R Q) (h : Al R (g 0) (g 1) w) : jK pg EG DN Q g w :=
 lM (kn := no) (l := []) h mI hr trivial
def I8 (a0 a1 : asZ) (w : asY) (R : K1) : Prop :=
 Al R a0 a1 w
theorem Ml {a0 a1 : asZ} {w : asY} {R : K1} (h : I8 a0 a1 w R) : jD pg vD #[a0, a1] w R := by
 refine B0 (ann := EG) Tryz.f87 DN [a0, a1] Gq 19 TryzM.mixed Tryz.func87 ?_
 exact (Kc _ _ _ R (fun _ _ h => h) h)
def HY : FA := ⟨AQ, fun i => .leaf ([], []) []⟩
def I9 : List ResultVar := [.tmp 0]
noncomputable def GS : Code := kF Tryz.f97
def D6 (R : K1)  (w : asY) : Prop :=
 gD pg (mK 201 []) w fun b1 w =>
 gD pg (Q7 201 b1) w fun b2 w =>
 R b2 w
theorem NP (R : K1) (hr : HR I9 R Q) (h : D6 R w) : jK pg HY GS Q g w :=
 lM (kn := no) (l := []) h mI hr trivial
def NV (w : asY) (R : K1) : Prop :=
 D6 R w
theorem Pl {w : asY} {R : K1} (h : NV w R) : jD pg AQ #[] w R := by
 refine B0 (ann := HY) Tryz.f97 GS [] I9 3 TryzM.mixed Tryz.func97 ?_
 exact (NP _ _ _ R (fun _ _ h => h) h)
def lW : FA := ⟨qG, fun i => match Nat.beq i 6 with | true => .leaf ([25], []) [(false, []), (false, []), (false, []), (false, []), (false, []), (false, []), (false, []), (false, []), (false, []), (false, []), (false, []), (false, []), (false, []), (false, []), (false, []), (false, []), (false, []), (false, []), (false, []), (false, []), (false, []), (false, []), (false, []), (false, []), (false, []), (true, [])] | false => .leaf ([], []) []⟩
def An : List ResultVar := []
noncomputable def lP : Code := kF Tryz.f100
def rH (kn : K4) (yD BZ c7 c8 : asZ) (w : asY) : Prop :=
 gD pg (gV .add 3 iI iI c8 (atA 1)) w fun j8 w =>
 kn yD BZ c7 j8 w
theorem J8 (kn : K4) (hn : N4 Q kn 0 1 17 18) (h : rH kn (g 0) (g 1) (g 17) (g 18) w) : jK pg lW (fU 1 (fU 2 (bI (bI (fU 2 lP))))) Q g w :=
 lM (kr := no) (l := []) h hn mI trivial
def oM (kn : K4) (yD BZ wK c7 c8 : asZ) (w : asY) : Prop :=
 (dr w) = (dr w) /\
 gD pg (rO yD) (dr w) fun e7 w_ => w_ = (dr w) /\
 gD pg (jJ 201 e7 0) (dr w) fun e8 w_ => w_ = (dr w) /\
 gD pg (jE 22 e8) (dr w) fun e9 w_ => w_ = (dr w) /\
 (dr w) = (dr w) /\
 gD pg (rO yD) (dr w) fun f1 w_ => w_ = (dr w) /\
 gD pg (jJ 201 f1 1) (dr w) fun f2 w_ => w_ = (dr w) /\
 gD pg (jE 3 f2) (dr w) fun f3 w_ => w_ = (dr w) /\
 gD pg (gV .quo 3 iI iI f3 (atA 8)) (dr w) fun f4 w_ => w_ = (dr w) /\
 gD pg (jO 22 e9 f4) (dr w) fun f5 w_ => w_ = (dr w) /\
 gD pg (jE 5 f5) (dr w) fun f6 w_ => w_ = (dr w) /\
 (dr w) = (dr w) /\
 (dr w) = (dr w) /\
 gD pg (nL 3 50 wK) (dr w) fun f9 w_ => w_ = (dr w) /\
 gD pg (gV .shr 32 iI iI BZ f9) (dr w) fun i0 w_ => w_ = (dr w) /\
 gD pg (gV .and 32 iI iI i0 (.int .u64 1)) (dr w) fun i1 w_ => w_ = (dr w) /\
 gD pg (nL 32 5 i1) (dr w) fun i2 w_ => w_ = (dr w) /\
 (dr w) = (dr w) /\
 gD pg (rO yD) (dr w) fun i4 w_ => w_ = (dr w) /\
 gD pg (jJ 201 i4 1) (dr w) fun i5 w_ => w_ = (dr w) /\
 gD pg (jE 3 i5) (dr w) fun i6 w_ => w_ = (dr w) /\
 gD pg (gV .rem 3 iI iI i6 (atA 8)) (dr w) fun i7 w_ => w_ = (dr w) /\
 gD pg (gV .shl 5 iI iI i2 i7) (dr w) fun i8 w_ => w_ = (dr w) /\
 gD pg (gV .or 5 iI iI f6 i8) (dr w) fun i9 w_ => w_ = (dr w) /\
 gD pg (jO 22 e9 f4) (dr w) fun j0 w_ => w_ = (dr w) /\
 gD pg (jZ 5 j0 i9) (dr w) fun _u25 akY =>
 gD pg (rO yD) akY fun j2 w =>
 gD pg (jJ 201 j2 1) w fun j3 w =>
 gD pg (jE 3 j3) w fun j4 w =>
 gD pg (gV .add 3 iI iI j4 (atA 1)) w fun j5 w =>
 gD pg (rO yD) w fun j6 w =>
 gD pg (jJ 201 j6 1) w fun j7 w =>
 gD pg (jZ 3 j7 j5) w fun _u w =>
 kn yD BZ c7 c8 w
theorem Ku (kn : K4) (hn : N4 Q kn 0 1 17 18) (h : oM kn (g 0) (g 1) (g 6) (g 17) (g 18) w) : jK pg lW (fU 2 (bI (gR 1 (fU 2 (bI (bI (fU 2 lP))))))) Q g w :=
 lM (kr := no) (l := []) h hn mI trivial
def uA (kn : K5) (yD BZ c7 c8 : asZ) (w : asY) : Prop :=
 gD pg (rO yD) w fun d2 w =>
 gD pg (jJ 201 d2 1) w fun d3 w =>
 gD pg (jE 3 d3) w fun d4 w =>
 gD pg (gV .rem 3 iI iI d4 (atA 8)) w fun d5 w =>
 gD pg (gV .eql 3 (.tmp 25) (.const (atA 0)) d5 (atA 0)) w fun d6 w =>
 nG d6
  (gD pg (rO yD) w fun d9 w =>
  gD pg (jJ 201 d9 0) w fun e0 w =>
  gD pg (jE 22 e0) w fun e1 w =>
  gD pg (lI 22 1 [(0, (.int .u8 0))]) w fun e2 w =>
  gD pg (oF .append #[22, 22] 22 [e1, e2]) w fun e3 w =>
  gD pg (rO yD) w fun e4 w =>
  gD pg (jJ 201 e4 0) w fun e5 w =>
  gD pg (jZ 22 e5 e3) w fun _u w =>
  kn yD BZ c8 c7 c8 w)
  (kn yD BZ c8 c7 c8 w)
theorem KV (kn : K5) (hn : N5 Q kn 0 1 6 17 18) (h : uA kn (g 0) (g 1) (g 17) (g 18) w) : jK pg lW (gR 2 (bI (gR 1 (fU 2 (bI (bI (fU 2 lP))))))) Q g w :=
 lM (kr := no) (l := []) h hn mI trivial
def qX (kn : K4) (yD BZ c7 c8 : asZ) (w : asY) : Prop :=
 uA (fun yD BZ wK c7 c8 w => oM kn yD BZ wK c7 c8 w) yD BZ c7 c8 w
def tR (kn : K4) (yD BZ c7 c8 : asZ) (w : asY) : Prop :=
 qX kn yD BZ c7 c8 w
def uB (kn : K4) (yD BZ c7 c8 : asZ) (w : asY) : Prop :=
 tR (fun yD BZ c7 c8 w => rH kn yD BZ c7 c8 w) yD BZ c7 c8 w
theorem Ko (kn : K4) (hn : N4 Q kn 0 1 17 18) (h : tR kn (g 0) (g 1) (g 17) (g 18) w) : jK pg lW (gR 1 (fU 2 (bI (bI (fU 2 lP))))) Q g w :=
 G5 1 (oE 2 (KV _ g w (oM kn) (fun g w h => iA (Ku _ g w kn hn h)) h))
def uD (kn : K4) (k0 : K0) (yD BZ c7 c8 : asZ) (w : asY) : Prop :=
 gD pg (gV .lss 3 iI iI c8 c7) w fun c9 w =>
 nG c9
  (kn yD BZ c7 c8 w)
  (k0 w)
theorem Kn (kn : K4) (k0 : K0) (hn : N4 Q kn 0 1 17 18) (h0 : E0 Q k0 0) (h : uD kn k0 (g 0) (g 1) (g 17) (g 18) w) : jK pg lW (gR 2 (bI (bI (fU 2 lP)))) Q g w :=
 lM (kr := no) (l := [(0, fun g w => k0 w)]) h hn mI ⟨h0, trivial⟩
def qY (kn : K4) (k0 : K0) (yD BZ c7 c8 : asZ) (w : asY) : Prop :=
 uD (fun yD BZ c7 c8 w => uB kn yD BZ c7 c8 w) k0 yD BZ c7 c8 w
def tT (k0 : K0) (yD BZ c7 c8 : asZ) (w : asY) : Prop :=
 kE (fun (X : asZ -> K0) (t : asZ) (w : asY) => qY (fun _ _ _ c8 w => X c8 w) k0 yD BZ c7 t w) c8 w
theorem KX (kn : K4) (k0 : K0) (hn : N4 Q kn 0 1 17 18) (h0 : E0 Q k0 0) (h : qY kn k0 (g 0) (g 1) (g 17) (g 18) w) : jK pg lW (bI (bI (fU 2 lP))) Q g w :=
 oE 2 (Kn _ g w (uB kn) k0 (fun g w h => iA (oE 1 (Ko _ g w (rH kn) (fun g w h => iA (J8 _ g w kn hn h)) h))) h0 h)
theorem KY (k0 : K0) (h0 : E0 Q k0 0) (h : tT k0 (g 0) (g 1) (g 17) (g 18) w) : jK pg lW (bI (fU 2 lP)) Q g w := by
 refine MJ (fun g : Env => g 18) (fun X t w => qY (fun _ _ _ c8 w => X c8 w) k0 (g 0) (g 1) (g 17) t w) h (fun X g1 w1 ha hL => ?_)
 rw [<- qP 0 ha, <- qP 1 ha, <- qP 17 ha] at hL
 exact (KX _ g1 w1 (fun _ _ _ c8 w => X c8 w) k0 (fun _ _ h => h) h0 hL)
def sZ (kn : K0) (yD BZ c7 c8 : asZ) (w : asY) : Prop :=
 tT kn yD BZ c7 c8 w
def sY (kn : K4) (R : K1) (yD BZ OM : asZ) (w : asY) : Prop :=
 gD pg (gV .eql 170 (.tmp 7) (.const (.pointer none)) yD (.pointer none)) w fun b8 w =>
 Gd (kK b8 false) (fun K => K OM w) w fun c0 w =>
 Gd (kK b8 false) (fun K => gD pg (gV .lss 3 iI iI c0 (atA 1)) w K) w fun c1 w =>
 gD pg (mA b8 (.bool true) c1) w fun c2 w =>
 Gd (kK c2 false) (fun K => K OM w) w fun c4 w =>
 Gd (kK c2 false) (fun K => gD pg (gV .gtr 3 iI iI c4 (atA 56)) w K) w fun c5 w =>
 gD pg (mA c2 (.bool true) c5) w fun c6 w =>
 nG c6
  (R (.tuple #[]) w)
  (kn yD BZ OM (atA 0) w)
theorem Jl (kn : K4) (R : K1) (hn : N4 Q kn 0 1 17 18) (hr : HR An R Q) (h : sY kn R (g 0) (g 1) (g 2) w) : jK pg lW (gR 2 lP) Q g w :=
 lM (l := []) h hn hr trivial
def tG (kn : K0) (R : K1) (yD BZ OM : asZ) (w : asY) : Prop :=
 sY (fun yD BZ c7 c8 w => sZ kn yD BZ c7 c8 w) R yD BZ OM w
theorem JN (kn : K0) (R : K1) (hn : N0 Q kn) (hr : HR An R Q) (h : tG kn R (g 0) (g 1) (g 2) w) : jK pg lW lP Q g w :=
 oE 2 (Jl _ g w (sZ kn) R (fun g w h => iA (G5 0 (KY _ g w kn hn h))) hr h)
def Eg (a0 a1 a2 : asZ) (w : asY) (R : K1) : Prop :=
 tG (fun  w => R (.tuple #[]) w) R a0 a1 a2 w
theorem DM {a0 a1 a2 : asZ} {w : asY} {R : K1} (h : Eg a0 a1 a2 w R) : jD pg qG #[a0, a1, a2] w R := by
 refine B0 (ann := lW) Tryz.f100 lP [a0, a1, a2] An 69 TryzM.mixed Tryz.func100 ?_
 exact (JN _ _ _ (fun  w => R (.tuple #[]) w) R (fun _ _ h => h) (fun _ _ h => h) h)
def Ea : FA := ⟨tS, fun i => match Nat.beq i 3 with | true => .leaf ([4, 10], [(4, 6), (4, 7), (4, 8)]) [(false, []), (false, []), (false, []), (false, []), (true, []), (false, []), (false, [1]), (false, [2]), (false, [3]), (false, []), (true, []), (false, [])] | false => .leaf ([], []) []⟩
def EH : List ResultVar := [.tmp 2]
noncomputable def De : Code := kF Tryz.f102
def zD (R : K1) (yD : asZ) (w : asY) : Prop :=
 gD pg (gV .eql 170 (.tmp 4) (.const (.pointer none)) yD (.pointer none)) w fun b5 w =>
 nG b5
  (R (.slice none 0 0) w)
  ((dr w) = (dr w) /\
  gD pg (rO yD) (dr w) fun b7 w_ => w_ = (dr w) /\
  gD pg (jJ 201 b7 0) (dr w) fun b8 w_ => w_ = (dr w) /\
  gD pg (jE 22 b8) (dr w) fun b9 w_ => w_ = (dr w) /\
  jD pg pG #[b9] (dr w) fun c0 Vd =>
  Vd = Vd /\
  gD pg (rO yD) Vd fun c2 w_ => w_ = Vd /\
  (jF pg (rO yD) c2 (dr w) /\ True) /\
  gD pg (jJ 201 c2 1) Vd fun c3 w_ => w_ = Vd /\
  (jF pg (jJ 201 c2 1) c3 (dr w) /\ True) /\
  gD pg (jE 3 c3) Vd fun c4 w_ => w_ = Vd /\
  (jF pg (jE 3 c3) c4 (dr w) /\ True) /\
  gD pg (mK 201 [(0, c0), (1, c4)]) Vd fun c5 w_ => w_ = Vd /\
  gD pg (Q7 201 c5) Vd fun c6 adI =>
  adI = adI /\
  jD pg qG #[c6, (.int .u64 1), (atA 1)] adI fun c8 w =>
  gD pg (rO c6) w fun d0 w =>
  gD pg (jJ 201 d0 0) w fun d1 w =>
  gD pg (jE 22 d1) w fun d2 w =>
  R d2 w)
theorem JS (R : K1) (hr : HR EH R Q) (h : zD R (g 0) w) : jK pg Ea De Q g w :=
 lM (kn := no) (l := []) h mI hr trivial
def HS (a0 : asZ) (w : asY) (R : K1) : Prop :=
 zD R a0 w
theorem KA {a0 : asZ} {w : asY} {R : K1} (h : HS a0 w R) : jD pg tS #[a0] w R := by
 refine B0 (ann := Ea) Tryz.f102 De [a0] EH 23 TryzM.mixed Tryz.func102 ?_
 exact (JS _ _ _ R (fun _ _ h => h) h)
def qF : FA := ⟨tM, fun i => .leaf ([], []) []⟩
def CK : List ResultVar := [.tmp 2]
noncomputable def pT : Code := kF Tryz.f107
def sQ (R : K1) (nN OM : asZ) (w : asY) : Prop :=
 gD pg (nL 32 5 nN) w fun d1 w =>
 gD pg (PU 9 (.string ⟨#[0, 1, 2, 2, 3, 3, 3, 3, 4, 4, 4, 4, 4, 4, 4, 4, 5, 5, 5, 5, 5, 5, 5, 5, 5, 5, 5, 5, 5, 5, 5, 5, 6, 6, 6, 6, 6, 6, 6, 6, 6, 6, 6, 6, 6, 6, 6, 6, 6, 6, 6, 6, 6, 6, 6, 6, 6, 6, 6, 6, 6, 6, 6, 6, 7, 7, 7, 7, 7, 7, 7, 7, 7, 7, 7, 7, 7, 7, 7, 7, 7, 7, 7, 7, 7, 7, 7, 7, 7, 7, 7, 7, 7, 7, 7, 7, 7, 7, 7, 7, 7, 7, 7, 7, 7, 7, 7, 7, 7, 7, 7, 7, 7, 7, 7, 7, 7, 7, 7, 7, 7, 7, 7, 7, 7, 7, 7, 7, 8, 8, 8, 8, 8, 8, 8, 8, 8, 8, 8, 8, 8, 8, 8, 8, 8, 8, 8, 8, 8, 8, 8, 8, 8, 8, 8, 8, 8, 8, 8, 8, 8, 8, 8, 8, 8, 8, 8, 8, 8, 8, 8, 8, 8, 8, 8, 8, 8, 8, 8, 8, 8, 8, 8, 8, 8, 8, 8, 8, 8, 8, 8, 8, 8, 8, 8, 8, 8, 8, 8, 8, 8, 8, 8, 8, 8, 8, 8, 8, 8, 8, 8, 8, 8, 8, 8, 8, 8, 8, 8, 8, 8, 8, 8, 8, 8, 8, 8, 8, 8, 8, 8, 8, 8, 8, 8, 8, 8, 8, 8, 8, 8, 8, 8, 8, 8, 8, 8, 8, 8, 8, 8, 8, 8, 8, 8, 8]⟩) d1) w fun d2 w =>
 gD pg (nL 5 3 d2) w fun d3 w =>
 gD pg (gV .add 3 iI iI OM d3) w fun d4 w =>
 R d4 w
theorem MP (R : K1) (hr : HR CK R Q) (h : sQ R (g 0) (g 2) w) : jK pg qF (fU 1 (fU 1 (fU 2 pT))) Q g w :=
 lM (kn := no) (l := []) h mI hr trivial
def Cu (kn : K2) (nN OM : asZ) (w : asY) : Prop :=
 gD pg (gV .geq 32 iI iI nN (.int .u64 256)) w fun c4 w =>
 nG c4
  (gD pg (gV .shr 32 iI iI nN (.int .u64 8)) w fun c6 w =>
  gD pg (gV .add 3 iI iI OM (atA 8)) w fun c8 w =>
  kn c6 c8 w)
  (kn nN OM w)
theorem MR (kn : K2) (hn : N2 Q kn 0 2) (h : Cu kn (g 0) (g 2) w) : jK pg qF (gR 1 (fU 1 (fU 2 pT))) Q g w :=
 lM (kr := no) (l := []) h hn mI trivial
def xV (R : K1) (nN OM : asZ) (w : asY) : Prop :=
 Cu (fun nN OM w => sQ R nN OM w) nN OM w
def C8 (kn : K2) (nN OM : asZ) (w : asY) : Prop :=
 gD pg (gV .geq 32 iI iI nN (.int .u64 65536)) w fun b8 w =>
 nG b8
  (gD pg (gV .shr 32 iI iI nN (.int .u64 16)) w fun c0 w =>
  gD pg (gV .add 3 iI iI OM (atA 16)) w fun c2 w =>
  kn c0 c2 w)
  (kn nN OM w)
theorem Ns (kn : K2) (hn : N2 Q kn 0 2) (h : C8 kn (g 0) (g 2) w) : jK pg qF (gR 1 (fU 2 pT)) Q g w :=
 lM (kr := no) (l := []) h hn mI trivial
def xE (R : K1) (nN OM : asZ) (w : asY) : Prop :=
 C8 (fun nN OM w => xV R nN OM w) nN OM w
def CF (kn : K2) (nN : asZ) (w : asY) : Prop :=
 gD pg (gV .geq 32 iI iI nN (.int .u64 4294967296)) w fun b4 w =>
 nG b4
  (gD pg (gV .shr 32 iI iI nN (.int .u64 32)) w fun b6 w =>
  kn b6 (atA 32) w)
  (kn nN (atA 0) w)
theorem Nh (kn : K2) (hn : N2 Q kn 0 2) (h : CF kn (g 0) w) : jK pg qF (gR 2 pT) Q g w :=
 lM (kr := no) (l := []) h hn mI trivial
def CJ (R : K1) (nN : asZ) (w : asY) : Prop :=
 CF (fun nN OM w => xE R nN OM w) nN w
theorem Nt (R : K1) (hr : HR CK R Q) (h : CJ R (g 0) w) : jK pg qF pT Q g w :=
 oE 2 (Nh _ g w (xE R) (fun g w h => iA (oE 1 (Ns _ g w (xV R) (fun g w h => iA (oE 1 (MR _ g w (sQ R) (fun g w h => iA (MP _ g w R hr h)) h))) h))) h)
def Mu (a0 : asZ) (w : asY) (R : K1) : Prop :=
 CJ R a0 w
theorem Oi {a0 : asZ} {w : asY} {R : K1} (h : Mu a0 w R) : jD pg tM #[a0] w R := by
 refine B0 (ann := qF) Tryz.f107 pT [a0] CK 25 TryzM.mixed Tryz.func107 ?_
 exact (Nt _ _ _ R (fun _ _ h => h) h)
def I6 : FA := ⟨yF, fun i => .leaf ([], []) []⟩
def J5 : List ResultVar := [.tmp 2]
noncomputable def H8 : Code := kF Tryz.f108
def FO (R : K1) (kT : asZ) (w : asY) : Prop :=
 jD pg Cn #[kT] w fun b8 w =>
 gD pg (jV b8 0) w fun b9 w =>
 gD pg (jV b8 1) w fun c0 w =>
 gD pg (Yp .not c0) w fun c2 w =>
 Gd (kK c2 false) (fun K => K kT w) w fun c4 w =>
 Gd (kK c2 false) (fun K => gD pg (oF .len #[22] 3 [c4]) w K) w fun c5 w =>
 Gd (kK c2 false) (fun K => gD pg (gV .lss 3 iI iI c5 (atA 2)) w K) w fun c6 w =>
 gD pg (mA c2 (.bool true) c6) w fun c7 w =>
 Gd (kK c7 false) (fun K => K kT w) w fun c9 w =>
 Gd (kK c7 false) (fun K => gD pg (oF .len #[22] 3 [c9]) w K) w fun d0 w =>
 Gd (kK c7 false) (fun K => gD pg (gV .gtr 3 iI iI d0 (atA 256)) w K) w fun d1 w =>
 gD pg (mA c7 (.bool true) d1) w fun d2 w =>
 Gd (kK d2 false) (fun K => K kT w) w fun d4 w =>
 Gd (kK d2 false) (fun K => K kT w) w fun d5 w =>
 Gd (kK d2 false) (fun K => gD pg (oF .len #[22] 3 [d5]) w K) w fun d6 w =>
 Gd (kK d2 false) (fun K => gD pg (gV .sub 3 iI iI d6 (atA 1)) w K) w fun d7 w =>
 Gd (kK d2 false) (fun K => gD pg (jO 22 d4 d7) w K) w fun d8 w =>
 Gd (kK d2 false) (fun K => gD pg (jE 5 d8) w K) w fun d9 w =>
 Gd (kK d2 false) (fun K => gD pg (gV .eql 5 (.tmp 29) (.const (.int .u8 0)) d9 (.int .u8 0)) w K) w fun e0 w =>
 gD pg (mA d2 (.bool true) e0) w fun e1 w =>
 Gd (kK e1 false) (fun K => K b9 w) w fun e3 w =>
 Gd (kK e1 false) (fun K => K b9 w) w fun e4 w =>
 Gd (kK e1 false) (fun K => gD pg (gV .sub 3 iI iI e4 (atA 1)) w K) w fun e5 w =>
 Gd (kK e1 false) (fun K => gD pg (gV .and 3 iI iI e3 e5) w K) w fun e6 w =>
 Gd (kK e1 false) (fun K => gD pg (gV .neq 3 (.tmp 36) (.const (atA 0)) e6 (atA 0)) w K) w fun e7 w =>
 gD pg (mA e1 (.bool true) e7) w fun e8 w =>
 nG e8
  (R (atA 0) w)
  (gD pg (nL 3 50 b9) w fun f0 w =>
  jD pg Cd #[f0] w fun f1 w =>
  gD pg (gV .sub 3 iI iI f1 (atA 1)) w fun f2 w =>
  gD pg (gV .gtr 3 iI iI f2 (atA 11)) w fun f4 w =>
  Gd (kK f4 false) (fun K => K kT w) w fun f6 w =>
  Gd (kK f4 false) (fun K => jD pg tA #[f6] w K) w fun f7 w =>
  Gd (kK f4 false) (fun K => gD pg (nL 5 3 f7) w K) w fun f8 w =>
  Gd (kK f4 false) (fun K => K f2 w) w fun f9 w =>
  Gd (kK f4 false) (fun K => gD pg (gV .gtr 3 iI iI f8 f9) w K) w fun i0 w =>
  gD pg (mA f4 (.bool true) i0) w fun i1 w =>
  nG i1
   (R (atA 0) w)
   (R f2 w))
theorem Pf (R : K1) (hr : HR J5 R Q) (h : FO R (g 0) w) : jK pg I6 H8 Q g w :=
 lM (kn := no) (l := []) h mI hr trivial
def Qo (a0 : asZ) (w : asY) (R : K1) : Prop :=
 FO R a0 w
theorem QY {a0 : asZ} {w : asY} {R : K1} (h : Qo a0 w R) : jD pg yF #[a0] w R := by
 refine B0 (ann := I6) Tryz.f108 H8 [a0] J5 53 TryzM.mixed Tryz.func108 ?_
 exact (Pf _ _ _ R (fun _ _ h => h) h)
def My : FA := ⟨FW, fun i => .leaf ([], []) []⟩
def OD : List ResultVar := [.tmp 4, .tmp 5]
noncomputable def J4 : Code := kF Tryz.f109
def H4 (R : K1) (kT jH : asZ) (w : asY) : Prop :=
 jD pg tK #[kT] w fun c0 w =>
 gD pg (jV c0 0) w fun c1 w =>
 gD pg (jV c0 1) w fun c2 w =>
 gD pg (gV .neq 24 (.tmp 14) (.const (atA 0)) c2 (atA 0)) w fun c5 w =>
 nG c5
  (R (.tuple #[(.slice none 0 0), c2]) w)
  (gD pg (oF .len #[22] 3 [jH]) w fun c9 w =>
  gD pg (gV .gtr 3 iI iI c9 (atA 131072)) w fun d0 w =>
  nG d0
   (R (.tuple #[(.slice none 0 0), (atA 1)]) w)
   (jD pg nH #[c1, jH] w fun d3 w =>
   gD pg (jV d3 0) w fun d4 w =>
   gD pg (jV d3 1) w fun d5 w =>
   R (.tuple #[d4, d5]) w))
theorem RE (R : K1) (hr : HR OD R Q) (h : H4 R (g 0) (g 1) w) : jK pg My J4 Q g w :=
 lM (kn := no) (l := []) h mI hr trivial
def T9 (a0 a1 : asZ) (w : asY) (R : K1) : Prop :=
 H4 R a0 a1 w
theorem Tn {a0 a1 : asZ} {w : asY} {R : K1} (h : T9 a0 a1 w R) : jD pg FW #[a0, a1] w R := by
 refine B0 (ann := My) Tryz.f109 J4 [a0, a1] OD 26 TryzM.mixed Tryz.func109 ?_
 exact (RE _ _ _ R (fun _ _ h => h) h)
def mG : FA := ⟨DO, fun i => .leaf ([], []) []⟩
def pM : List ResultVar := [.tmp 4, .tmp 5]
noncomputable def lS : Code := kF Tryz.f110
def yK (R : K1) (qN kQ : asZ) (w : asY) : Prop :=
 jD pg oB #[qN, kQ] w fun l3 w =>
 jD pg nD #[qN] w fun l5 w =>
 R (.tuple #[l5, (atA 0)]) w
theorem QT (R : K1) (hr : HR pM R Q) (h : yK R (g 10) (g 11) w) : jK pg mG (fU 1 (fU 7 lS)) Q g w :=
 lM (kn := no) (l := []) h mI hr trivial
def yE (kn : K6) (jH kW qN kQ e8 e9 : asZ) (w : asY) : Prop :=
 gD pg (gV .add 3 iI iI e9 (atA 1)) w fun l0 w =>
 kn jH kW qN kQ e8 l0 w
theorem Ri (kn : K6) (hn : N6 Q kn 1 6 10 11 38 39) (h : yE kn (g 1) (g 6) (g 10) (g 11) (g 38) (g 39) w) : jK pg mG (fU 1 (fU 2 (bI (bI (fU 1 (gR 1 (fU 7 lS))))))) Q g w :=
 lM (kr := no) (l := []) h hn mI trivial
def yG (kn : K6) (jH kW qN kQ aeA e8 e9 : asZ) (w : asY) : Prop :=
 gD pg (oF .append #[22, 22] 22 [kQ, aeA]) w fun j9 w =>
 kn jH kW qN j9 e8 e9 w
theorem QS (kn : K6) (hn : N6 Q kn 1 6 10 11 38 39) (h : yG kn (g 1) (g 6) (g 10) (g 11) (g 14) (g 38) (g 39) w) : jK pg mG (fU 5 (bI (gR 1 (fU 2 (bI (bI (fU 1 (gR 1 (fU 7 lS))))))))) Q g w :=
 lM (kr := no) (l := []) h hn mI trivial
def Gv (kn : K7) (R : K1) (jH kW qN kQ e8 e9 : asZ) (w : asY) : Prop :=
 gD pg (PU 139 e8 e9) w fun f2 w =>
 gD pg (lR 22 jH none (some f2) none) w fun f7 w =>
 jD pg nH #[kW, f7] w fun f8 w =>
 gD pg (jV f8 0) w fun f9 w =>
 gD pg (jV f8 1) w fun i0 w =>
 gD pg (gV .neq 24 (.tmp 51) (.const (atA 0)) i0 (atA 0)) w fun i2 w =>
 nG i2
  (R (.tuple #[(.slice none 0 0), i0]) w)
  (gD pg (lR 22 jH (some f2) none none) w fun i6 w =>
  gD pg (gV .lss 3 iI iI e9 (atA 3)) w fun i8 w =>
  nG i8
   (gD pg (oF .len #[22] 3 [f9]) w fun j0 w =>
   gD pg (gV .geq 3 iI iI j0 (atA 65536)) w fun j1 w =>
   nG j1
    (R (.tuple #[(.slice none 0 0), (atA 1)]) w)
    (gD pg (oF .len #[22] 3 [f9]) w fun j4 w =>
    gD pg (nL 3 32 j4) w fun j5 w =>
    jD pg jL #[qN, j5, (atA 2)] w fun j6 w =>
    kn i6 kW qN kQ f9 e8 e9 w))
   (kn i6 kW qN kQ f9 e8 e9 w))
theorem QE (kn : K7) (R : K1) (hn : N7 Q kn 1 6 10 11 14 38 39) (hr : HR pM R Q) (h : Gv kn R (g 1) (g 6) (g 10) (g 11) (g 38) (g 39) w) : jK pg mG (gR 5 (bI (gR 1 (fU 2 (bI (bI (fU 1 (gR 1 (fU 7 lS))))))))) Q g w :=
 lM (l := []) h hn hr trivial
def MB (kn : K6) (R : K1) (jH kW qN kQ e8 e9 : asZ) (w : asY) : Prop :=
 Gv (fun jH kW qN kQ aeA e8 e9 w => yG kn jH kW qN kQ aeA e8 e9 w) R jH kW qN kQ e8 e9 w
def Gr (kn : K6) (R : K1) (jH kW qN kQ e8 e9 : asZ) (w : asY) : Prop :=
 MB kn R jH kW qN kQ e8 e9 w
def Gy (kn : K6) (R : K1) (jH kW qN kQ e8 e9 : asZ) (w : asY) : Prop :=
 Gr (fun jH kW qN kQ e8 e9 w => yE kn jH kW qN kQ e8 e9 w) R jH kW qN kQ e8 e9 w
theorem QH (kn : K6) (R : K1) (hn : N6 Q kn 1 6 10 11 38 39) (hr : HR pM R Q) (h : Gr kn R (g 1) (g 6) (g 10) (g 11) (g 38) (g 39) w) : jK pg mG (gR 1 (fU 2 (bI (bI (fU 1 (gR 1 (fU 7 lS))))))) Q g w :=
 G5 1 (oE 5 (QE _ g w (yG kn) R (fun g w h => iA (QS _ g w kn hn h)) hr h))
def GH (kn : K6) (k0 : K2) (jH kW qN kQ e8 e9 : asZ) (w : asY) : Prop :=
 gD pg (gV .lss 3 iI iI e9 (atA 4)) w fun f0 w =>
 nG f0
  (kn jH kW qN kQ e8 e9 w)
  (k0 qN kQ w)
theorem QD (kn : K6) (k0 : K2) (hn : N6 Q kn 1 6 10 11 38 39) (h0 : E2 Q k0 0 10 11) (h : GH kn k0 (g 1) (g 6) (g 10) (g 11) (g 38) (g 39) w) : jK pg mG (gR 2 (bI (bI (fU 1 (gR 1 (fU 7 lS)))))) Q g w :=
 lM (kr := no) (l := [(0, fun g w => k0 (g 10) (g 11) w)]) h hn mI ⟨h0, trivial⟩
def Ci (kn : K6) (k0 : K2) (R : K1) (jH kW qN kQ e8 e9 : asZ) (w : asY) : Prop :=
 GH (fun jH kW qN kQ e8 e9 w => Gy kn R jH kW qN kQ e8 e9 w) k0 jH kW qN kQ e8 e9 w
def EK (k0 : K2) (R : K1) (jH kW qN kQ e8 e9 : asZ) (w : asY) : Prop :=
 kE (fun (X : (asZ × asZ × asZ) -> K0) (t : asZ × asZ × asZ) (w : asY) => Ci (fun jH _ _ kQ _ e9 w => X (jH, kQ, e9) w) k0 R t.1 kW qN t.2.1 e8 t.2.2 w) (jH, kQ, e9) w
theorem Rj (kn : K6) (k0 : K2) (R : K1) (hn : N6 Q kn 1 6 10 11 38 39) (h0 : E2 Q k0 0 10 11) (hr : HR pM R Q) (h : Ci kn k0 R (g 1) (g 6) (g 10) (g 11) (g 38) (g 39) w) : jK pg mG (bI (bI (fU 1 (gR 1 (fU 7 lS))))) Q g w :=
 oE 2 (QD _ g w (Gy kn R) k0 (fun g w h => iA (oE 1 (QH _ g w (yE kn) R (fun g w h => iA (Ri _ g w kn hn h)) hr h))) h0 h)
theorem PE (k0 : K2) (R : K1) (h0 : E2 Q k0 0 10 11) (hr : HR pM R Q) (h : EK k0 R (g 1) (g 6) (g 10) (g 11) (g 38) (g 39) w) : jK pg mG (bI (fU 1 (gR 1 (fU 7 lS)))) Q g w := by
 refine MJ (fun g : Env => (g 1, g 11, g 39)) (fun X t w => Ci (fun jH _ _ kQ _ e9 w => X (jH, kQ, e9) w) k0 R t.1 (g 6) (g 10) t.2.1 (g 38) t.2.2 w) h (fun X g1 w1 ha hL => ?_)
 rw [<- qP 6 ha, <- qP 10 ha, <- qP 38 ha] at hL
 exact (Rj _ g1 w1 (fun jH _ _ kQ _ e9 w => X (jH, kQ, e9) w) k0 R (fun _ _ h => h) h0 hr hL)
def AI (kn : K2) (R : K1) (jH kW qN kQ e8 e9 : asZ) (w : asY) : Prop :=
 EK kn R jH kW qN kQ e8 e9 w
def Fk (kn : K6) (jH kW Gt qN kQ : asZ) (w : asY) : Prop :=
 gD pg (jE 139 Gt) w fun e8 w =>
 kn jH kW qN kQ e8 (atA 0) w
theorem Qc (kn : K6) (hn : N6 Q kn 1 6 10 11 38 39) (h : Fk kn (g 1) (g 6) (g 8) (g 10) (g 11) w) : jK pg mG (gR 1 (gR 1 (fU 7 lS))) Q g w :=
 lM (kr := no) (l := []) h hn mI trivial
def FK (kn : K2) (R : K1) (jH kW Gt qN kQ : asZ) (w : asY) : Prop :=
 Fk (fun jH kW qN kQ e8 e9 w => AI kn R jH kW qN kQ e8 e9 w) jH kW Gt qN kQ w
def FC (R : K1) (jH kW Gt qN kQ : asZ) (w : asY) : Prop :=
 FK (fun qN kQ w => yK R qN kQ w) R jH kW Gt qN kQ w
theorem PX (kn : K2) (R : K1) (hn : N2 Q kn 10 11) (hr : HR pM R Q) (h : FK kn R (g 1) (g 6) (g 8) (g 10) (g 11) w) : jK pg mG (gR 1 (fU 7 lS)) Q g w :=
 oE 1 (Qc _ g w (AI kn R) (fun g w h => iA (G5 0 (PE _ g w kn R hn hr h))) h)
def FQ (kn : K5) (R : K1) (kT jH : asZ) (w : asY) : Prop :=
 jD pg tK #[kT] w fun c8 w =>
 gD pg (jV c8 0) w fun c9 w =>
 gD pg (jV c8 1) w fun d0 w =>
 gD pg (gV .neq 24 (.tmp 21) (.const (atA 0)) d0 (atA 0)) w fun d2 w =>
 nG d2
  (R (.tuple #[(.slice none 0 0), d0]) w)
  (gD pg (oF .len #[22] 3 [jH]) w fun d6 w =>
  jD pg GZ #[d6] w fun d7 w =>
  gD pg (jV d7 0) w fun d8 w =>
  gD pg (jV d7 1) w fun d9 w =>
  gD pg (pY 139) w fun Gt w =>
  gD pg (jZ 139 Gt d8) w fun _u w =>
  gD pg (Yp .not d9) w fun e1 w =>
  Gd (kK e1 false) (fun K => K jH w) w fun e3 w =>
  Gd (kK e1 false) (fun K => gD pg (oF .len #[22] 3 [e3]) w K) w fun e4 w =>
  Gd (kK e1 false) (fun K => gD pg (gV .gtr 3 iI iI e4 (atA 131072)) w K) w fun e5 w =>
  gD pg (mA e1 (.bool true) e5) w fun e6 w =>
  nG e6
   (R (.tuple #[(.slice none 0 0), (atA 1)]) w)
   (jD pg nU #[] w fun e7 w =>
   kn jH c9 Gt e7 (.slice none 0 0) w))
theorem P4 (kn : K5) (R : K1) (hn : N5 Q kn 1 6 8 10 11) (hr : HR pM R Q) (h : FQ kn R (g 0) (g 1) w) : jK pg mG (gR 7 lS) Q g w :=
 lM (l := []) h hn hr trivial
def FB (R : K1) (kT jH : asZ) (w : asY) : Prop :=
 FQ (fun jH kW Gt qN kQ w => FC R jH kW Gt qN kQ w) R kT jH w
theorem Pg (R : K1) (hr : HR pM R Q) (h : FB R (g 0) (g 1) w) : jK pg mG lS Q g w :=
 oE 7 (P4 _ g w (FC R) R (fun g w h => iA (oE 1 (PX _ g w (yK R) R (fun g w h => iA (QT _ g w R hr h)) hr h))) hr h)
def SK (a0 a1 : asZ) (w : asY) (R : K1) : Prop :=
 FB R a0 a1 w
theorem R3 {a0 a1 : asZ} {w : asY} {R : K1} (h : SK a0 a1 w R) : jD pg DO #[a0, a1] w R := by
 refine B0 (ann := mG) Tryz.f110 lS [a0, a1] pM 76 TryzM.mixed Tryz.func110 ?_
 exact (Pg _ _ _ R (fun _ _ h => h) h)
def Je : FA := ⟨Cd, fun i => .leaf ([], []) []⟩
def Ks : List ResultVar := [.tmp 2]
noncomputable def Ik : Code := kF Tryz.f115
def Fb (R : K1) (nN : asZ) (w : asY) : Prop :=
 nG (.bool false)
  (gD pg (nL 50 38 nN) w fun b4 w =>
  jD pg R0 #[b4] w fun b5 w =>
  R b5 w)
  (jD pg tM #[nN] w fun b7 w =>
  R b7 w)
theorem PB (R : K1) (hr : HR Ks R Q) (h : Fb R (g 0) w) : jK pg Je Ik Q g w :=
 lM (kn := no) (l := []) h mI hr trivial
def Qj (a0 : asZ) (w : asY) (R : K1) : Prop :=
 Fb R a0 w
theorem QG {a0 : asZ} {w : asY} {R : K1} (h : Qj a0 w R) : jD pg Cd #[a0] w R := by
 refine B0 (ann := Je) Tryz.f115 Ik [a0] Ks 8 TryzM.mixed Tryz.func115 ?_
 exact (PB _ _ _ R (fun _ _ h => h) h)
def nJ : FA := ⟨Cn, fun i => .leaf ([], []) []⟩
def qQ : List ResultVar := [.tmp 2, .tmp 3]
noncomputable def mR : Code := kF Tryz.f132
def AM (R : K1) (kL : asZ) (w : asY) : Prop :=
 R (.tuple #[kL, (.bool true)]) w
theorem PY (R : K1) (hr : HR qQ R Q) (h : AM R (g 4) w) : jK pg nJ (fU 1 (fU 2 mR)) Q g w :=
 lM (kn := no) (l := []) h mI hr trivial
def A7 (kn : K4) (kL b7 b8 b9 : asZ) (w : asY) : Prop :=
 gD pg (gV .add 3 iI iI b9 (atA 1)) w fun d2 w =>
 kn kL b7 b8 d2 w
theorem PI (kn : K4) (hn : N4 Q kn 4 7 8 9) (h : A7 kn (g 4) (g 7) (g 8) (g 9) w) : jK pg nJ (fU 3 (bI (bI (fU 1 (gR 1 (fU 2 mR)))))) Q g w :=
 lM (kr := no) (l := []) h hn mI trivial
def Ft (kn : K4) (k0 : K1) (R : K1) (kL b7 b8 b9 : asZ) (w : asY) : Prop :=
 gD pg (gV .lss 3 iI iI b9 b8) w fun c0 w =>
 nG c0
  (gD pg (jO 22 b7 b9) w fun c1 w =>
  gD pg (jE 5 c1) w fun c2 w =>
  gD pg (gV .gtr 5 iI iI c2 (.int .u8 11)) w fun c4 w =>
  nG c4
   (R (.tuple #[(atA 0), (.bool false)]) w)
   (gD pg (gV .gtr 5 iI iI c2 (.int .u8 0)) w fun c6 w =>
   nG c6
    (gD pg (gV .sub 5 iI iI c2 (.int .u8 1)) w fun c9 w =>
    gD pg (gV .shl 3 iI iI (atA 1) c9) w fun d0 w =>
    gD pg (gV .add 3 iI iI kL d0) w fun d1 w =>
    kn d1 b7 b8 b9 w)
    (kn kL b7 b8 b9 w)))
  (k0 kL w)
theorem PK (kn : K4) (k0 : K1) (R : K1) (hn : N4 Q kn 4 7 8 9) (h0 : E1 Q k0 0 4) (hr : HR qQ R Q) (h : Ft kn k0 R (g 4) (g 7) (g 8) (g 9) w) : jK pg nJ (gR 3 (bI (bI (fU 1 (gR 1 (fU 2 mR)))))) Q g w :=
 lM (l := [(0, fun g w => k0 (g 4) w)]) h hn hr ⟨h0, trivial⟩
def A4 (kn : K4) (k0 : K1) (R : K1) (kL b7 b8 b9 : asZ) (w : asY) : Prop :=
 Ft (fun kL b7 b8 b9 w => A7 kn kL b7 b8 b9 w) k0 R kL b7 b8 b9 w
def Fq (k0 : K1) (R : K1) (kL b7 b8 b9 : asZ) (w : asY) : Prop :=
 kE (fun (X : (asZ × asZ) -> K0) (t : asZ × asZ) (w : asY) => A4 (fun kL _ _ b9 w => X (kL, b9) w) k0 R t.1 b7 b8 t.2 w) (kL, b9) w
theorem Qe (kn : K4) (k0 : K1) (R : K1) (hn : N4 Q kn 4 7 8 9) (h0 : E1 Q k0 0 4) (hr : HR qQ R Q) (h : A4 kn k0 R (g 4) (g 7) (g 8) (g 9) w) : jK pg nJ (bI (bI (fU 1 (gR 1 (fU 2 mR))))) Q g w :=
 oE 3 (PK _ g w (A7 kn) k0 R (fun g w h => iA (PI _ g w kn hn h)) h0 hr h)
theorem PR (k0 : K1) (R : K1) (h0 : E1 Q k0 0 4) (hr : HR qQ R Q) (h : Fq k0 R (g 4) (g 7) (g 8) (g 9) w) : jK pg nJ (bI (fU 1 (gR 1 (fU 2 mR)))) Q g w := by
 refine MJ (fun g : Env => (g 4, g 9)) (fun X t w => A4 (fun kL _ _ b9 w => X (kL, b9) w) k0 R t.1 (g 7) (g 8) t.2 w) h (fun X g1 w1 ha hL => ?_)
 rw [<- qP 7 ha, <- qP 8 ha] at hL
 exact (Qe _ g1 w1 (fun kL _ _ b9 w => X (kL, b9) w) k0 R (fun _ _ h => h) h0 hr hL)
def FR (kn : K1) (R : K1) (kL b7 b8 b9 : asZ) (w : asY) : Prop :=
 Fq kn R kL b7 b8 b9 w
def ER (kn : K4) (kT kL : asZ) (w : asY) : Prop :=
 gD pg (oF .len #[22] 3 [kT]) w fun b8 w =>
 kn kL kT b8 (atA 0) w
theorem PV (kn : K4) (hn : N4 Q kn 4 7 8 9) (h : ER kn (g 0) (g 4) w) : jK pg nJ (gR 1 (gR 1 (fU 2 mR))) Q g w :=
 lM (kr := no) (l := []) h hn mI trivial
def EL (kn : K1) (R : K1) (kT kL : asZ) (w : asY) : Prop :=
 ER (fun kL b7 b8 b9 w => FR kn R kL b7 b8 b9 w) kT kL w
def FT (R : K1) (kT kL : asZ) (w : asY) : Prop :=
 EL (fun kL w => AM R kL w) R kT kL w
theorem PW (kn : K1) (R : K1) (hn : N1 Q kn 4) (hr : HR qQ R Q) (h : EL kn R (g 0) (g 4) w) : jK pg nJ (gR 1 (fU 2 mR)) Q g w :=
 oE 1 (PV _ g w (FR kn R) (fun g w h => iA (G5 0 (PR _ g w kn R hn hr h))) h)
def DB (kn : K2) (kT : asZ) (w : asY) : Prop :=
 kn kT (atA 0) w
theorem O3 (kn : K2) (hn : N2 Q kn 0 4) (h : DB kn (g 0) w) : jK pg nJ (gR 2 mR) Q g w :=
 lM (kr := no) (l := []) h hn mI trivial
def Dm (R : K1) (kT : asZ) (w : asY) : Prop :=
 DB (fun kT kL w => FT R kT kL w) kT w
theorem OS (R : K1) (hr : HR qQ R Q) (h : Dm R (g 0) w) : jK pg nJ mR Q g w :=
 oE 2 (O3 _ g w (FT R) (fun g w h => iA (oE 1 (PW _ g w (AM R) R (fun g w h => iA (PY _ g w R hr h)) hr h))) h)
def Qh (a0 : asZ) (w : asY) (R : K1) : Prop :=
 Dm R a0 w
theorem QK {a0 : asZ} {w : asY} {R : K1} (h : Qh a0 w R) : jD pg Cn #[a0] w R := by
 refine B0 (ann := nJ) Tryz.f132 mR [a0] qQ 24 TryzM.mixed Tryz.func132 ?_
 exact (OS _ _ _ R (fun _ _ h => h) h)
def lU : FA := ⟨tA, fun i => .leaf ([], []) []⟩
def xT : List ResultVar := [.tmp 2]
noncomputable def lO : Code := kF Tryz.f133
def rZ (R : K1) (B9 : asZ) (w : asY) : Prop :=
 R B9 w
theorem IZ (R : K1) (hr : HR xT R Q) (h : rZ R (g 3) w) : jK pg lU (fU 1 (fU 1 (fU 2 lO))) Q g w :=
 lM (kn := no) (l := []) h mI hr trivial
def rX (kn : K3) (k0 : K1) (nN B9 Oe : asZ) (w : asY) : Prop :=
 gD pg (oF .len #[22] 3 [nN]) w fun c4 w =>
 gD pg (gV .lss 3 iI iI Oe c4) w fun c5 w =>
 nG c5
  (gD pg (jO 22 nN Oe) w fun d1 w =>
  gD pg (jE 5 d1) w fun d2 w =>
  gD pg (oF .max #[5, 5] 5 [B9, d2]) w fun d3 w =>
  gD pg (gV .add 3 iI iI Oe (atA 1)) w fun c7 w =>
  kn nN d3 c7 w)
  (k0 B9 w)
theorem IF (kn : K3) (k0 : K1) (hn : N3 Q kn 0 3 4) (h0 : E1 Q k0 0 3) (h : rX kn k0 (g 0) (g 3) (g 4) w) : jK pg lU (bI (bI (fU 1 (gR 1 (fU 1 (fU 2 lO)))))) Q g w :=
 lM (kr := no) (l := [(0, fun g w => k0 (g 3) w)]) h hn mI ⟨h0, trivial⟩
def xU (k0 : K1) (nN B9 Oe : asZ) (w : asY) : Prop :=
 kE (fun (X : (asZ × asZ) -> K0) (t : asZ × asZ) (w : asY) => rX (fun _ B9 Oe w => X (B9, Oe) w) k0 nN t.1 t.2 w) (B9, Oe) w
theorem II (k0 : K1) (h0 : E1 Q k0 0 3) (h : xU k0 (g 0) (g 3) (g 4) w) : jK pg lU (bI (fU 1 (gR 1 (fU 1 (fU 2 lO))))) Q g w := by
 refine MJ (fun g : Env => (g 3, g 4)) (fun X t w => rX (fun _ B9 Oe w => X (B9, Oe) w) k0 (g 0) t.1 t.2 w) h (fun X g1 w1 ha hL => ?_)
 rw [<- qP 0 ha] at hL
 exact (IF _ g1 w1 (fun _ B9 Oe w => X (B9, Oe) w) k0 (fun _ _ h => h) h0 hL)
def wQ (kn : K1) (nN B9 Oe : asZ) (w : asY) : Prop :=
 xU kn nN B9 Oe w
def wL (kn : K3) (nN B9 : asZ) (w : asY) : Prop :=
 kn nN B9 (atA 1) w
theorem IW (kn : K3) (hn : N3 Q kn 0 3 4) (h : wL kn (g 0) (g 3) w) : jK pg lU (gR 1 (gR 1 (fU 1 (fU 2 lO)))) Q g w :=
 lM (kr := no) (l := []) h hn mI trivial
def wR (kn : K1) (nN B9 : asZ) (w : asY) : Prop :=
 wL (fun nN B9 Oe w => wQ kn nN B9 Oe w) nN B9 w
def xM (R : K1) (nN B9 : asZ) (w : asY) : Prop :=
 wR (fun B9 w => rZ R B9 w) nN B9 w
theorem IC (kn : K1) (hn : N1 Q kn 3) (h : wR kn (g 0) (g 3) w) : jK pg lU (gR 1 (fU 1 (fU 2 lO))) Q g w :=
 oE 1 (IW _ g w (wQ kn) (fun g w h => iA (G5 0 (II _ g w kn hn h))) h)
def wX (kn : K2) (nN : asZ) (w : asY) : Prop :=
 gD pg (jO 22 nN (atA 0)) w fun c0 w =>
 gD pg (jE 5 c0) w fun c1 w =>
 kn nN c1 w
theorem IS (kn : K2) (hn : N2 Q kn 0 3) (h : wX kn (g 0) w) : jK pg lU (gR 1 (fU 2 lO)) Q g w :=
 lM (kr := no) (l := []) h hn mI trivial
def xZ (R : K1) (nN : asZ) (w : asY) : Prop :=
 wX (fun nN B9 w => xM R nN B9 w) nN w
def wG (kn : K1) (nN : asZ) (w : asY) : Prop :=
 gD pg (oF .len #[22] 3 [nN]) w fun b6 w =>
 gD pg (gV .lss 3 iI iI b6 (atA 1)) w fun b7 w =>
 nG b7
  (gD pg (VC 9 (.string ⟨#[115, 108, 105, 99, 101, 115, 46, 77, 97, 120, 58, 32, 101, 109, 112, 116, 121, 32, 108, 105, 115, 116]⟩)) w fun b8 w =>
  gD pg (V (Instr.panic b8)) w fun _u w =>
  kn nN w)
  (kn nN w)
theorem Hj (kn : K1) (hn : N1 Q kn 0) (h : wG kn (g 0) w) : jK pg lU (gR 2 lO) Q g w :=
 lM (kr := no) (l := []) h hn mI trivial
def vJ (R : K1) (nN : asZ) (w : asY) : Prop :=
 wG (fun nN w => xZ R nN w) nN w
theorem Hq (R : K1) (hr : HR xT R Q) (h : vJ R (g 0) w) : jK pg lU lO Q g w :=
 oE 2 (Hj _ g w (xZ R) (fun g w h => iA (oE 1 (IS _ g w (xM R) (fun g w h => iA (oE 1 (IC _ g w (rZ R) (fun g w h => iA (IZ _ g w R hr h)) h))) h))) h)
def GV (a0 : asZ) (w : asY) (R : K1) : Prop :=
 vJ R a0 w
theorem J1 {a0 : asZ} {w : asY} {R : K1} (h : GV a0 w R) : jD pg tA #[a0] w R := by
 refine B0 (ann := lU) Tryz.f133 lO [a0] xT 25 TryzM.mixed Tryz.func133 ?_
 exact (Hq _ _ _ R (fun _ _ h => h) h)
def kN : FA := ⟨tK, fun i => .leaf ([], []) []⟩
def AU : List ResultVar := [.tmp 2, .tmp 3]
noncomputable def kC : Code := kF Tryz.f134
def AX (R : K1) (gY : asZ) (w : asY) : Prop :=
 R (.tuple #[gY, (atA 0)]) w
theorem P8 (R : K1) (hr : HR AU R Q) (h : AX R (g 5) w) : jK pg kN (fU 1 (fU 5 kC)) Q g w :=
 lM (kn := no) (l := []) h mI hr trivial
def AL (kn : K5) (kT Dg gY oJ Di : asZ) (w : asY) : Prop :=
 gD pg (gV .add 3 iI iI Di (atA 1)) w fun d0 w =>
 kn kT Dg gY oJ d0 w
theorem Qd (kn : K5) (hn : N5 Q kn 0 4 5 6 7) (h : AL kn (g 0) (g 4) (g 5) (g 6) (g 7) w) : jK pg kN (fU 1 (fU 1 (bI (bI (fU 1 (gR 1 (fU 5 kC))))))) Q g w :=
 lM (kr := no) (l := []) h hn mI trivial
def A9 (kn : K7) (kT Dg gY oJ Di d2 d3 : asZ) (w : asY) : Prop :=
 gD pg (gV .add 3 iI iI d3 (atA 1)) w fun i0 w =>
 kn kT Dg gY oJ Di d2 i0 w
theorem PJ (kn : K7) (hn : N7 Q kn 0 4 5 6 7 22 23) (h : A9 kn (g 0) (g 4) (g 5) (g 6) (g 7) (g 22) (g 23) w) : jK pg kN (fU 3 (bI (bI (fU 1 (bI (gR 1 (fU 1 (bI (bI (fU 1 (gR 1 (fU 5 kC)))))))))))) Q g w :=
 lM (kr := no) (l := []) h hn mI trivial
def Fv (kn : K7) (k2 : K5) (kT Dg gY oJ Di d2 d3 : asZ) (w : asY) : Prop :=
 gD pg (gV .lss 3 iI iI d3 d2) w fun d4 w =>
 nG d4
  (gD pg (jO 22 kT d3) w fun d8 w =>
  gD pg (jE 5 d8) w fun d9 w =>
  gD pg (nL 5 3 d9) w fun e0 w =>
  gD pg (gV .neq 3 (.tmp 30) (.tmp 31) e0 Di) w fun e2 w =>
  nG e2
   (kn kT Dg gY oJ Di d2 d3 w)
   (gD pg (gV .add 3 iI iI Dg (atA 1)) w fun e6 w =>
   gD pg (gV .sub 3 iI iI e6 Di) w fun e8 w =>
   gD pg (gV .sub 3 iI iI Di (atA 1)) w fun f1 w =>
   gD pg (gV .shr 3 iI iI oJ f1) w fun f2 w =>
   gD pg (mK 241 [(0, e8), (1, f2)]) w fun f3 w =>
   gD pg (jO 225 gY d3) w fun f4 w =>
   gD pg (jZ 241 f4 f3) w fun _u w =>
   gD pg (gV .sub 3 iI iI Di (atA 1)) w fun f7 w =>
   gD pg (gV .shl 3 iI iI (atA 1) f7) w fun f8 w =>
   gD pg (gV .add 3 iI iI oJ f8) w fun f9 w =>
   kn kT Dg gY f9 Di d2 d3 w))
  (k2 kT Dg gY oJ Di w)
theorem Pr (kn : K7) (k2 : K5) (hn : N7 Q kn 0 4 5 6 7 22 23) (h2 : E5 Q k2 2 0 4 5 6 7) (h : Fv kn k2 (g 0) (g 4) (g 5) (g 6) (g 7) (g 22) (g 23) w) : jK pg kN (gR 3 (bI (bI (fU 1 (bI (gR 1 (fU 1 (bI (bI (fU 1 (gR 1 (fU 5 kC)))))))))))) Q g w :=
 lM (kr := no) (l := [(2, fun g w => k2 (g 0) (g 4) (g 5) (g 6) (g 7) w)]) h hn mI ⟨h2, trivial⟩
def AN (kn : K7) (k2 : K5) (kT Dg gY oJ Di d2 d3 : asZ) (w : asY) : Prop :=
 Fv (fun kT Dg gY oJ Di d2 d3 w => A9 kn kT Dg gY oJ Di d2 d3 w) k2 kT Dg gY oJ Di d2 d3 w
def Fl (k2 : K5) (kT Dg gY oJ Di d2 d3 : asZ) (w : asY) : Prop :=
 kE (fun (X : (asZ × asZ) -> K0) (t : asZ × asZ) (w : asY) => AN (fun _ _ _ oJ _ _ d3 w => X (oJ, d3) w) k2 kT Dg gY t.1 Di d2 t.2 w) (oJ, d3) w
theorem PM (kn : K7) (k2 : K5) (hn : N7 Q kn 0 4 5 6 7 22 23) (h2 : E5 Q k2 2 0 4 5 6 7) (h : AN kn k2 (g 0) (g 4) (g 5) (g 6) (g 7) (g 22) (g 23) w) : jK pg kN (bI (bI (fU 1 (bI (gR 1 (fU 1 (bI (bI (fU 1 (gR 1 (fU 5 kC))))))))))) Q g w :=
 oE 3 (Pr _ g w (A9 kn) k2 (fun g w h => iA (PJ _ g w kn hn h)) h2 h)
theorem Pp (k2 : K5) (h2 : E5 Q k2 2 0 4 5 6 7) (h : Fl k2 (g 0) (g 4) (g 5) (g 6) (g 7) (g 22) (g 23) w) : jK pg kN (bI (fU 1 (bI (gR 1 (fU 1 (bI (bI (fU 1 (gR 1 (fU 5 kC)))))))))) Q g w := by
 refine MJ (fun g : Env => (g 6, g 23)) (fun X t w => AN (fun _ _ _ oJ _ _ d3 w => X (oJ, d3) w) k2 (g 0) (g 4) (g 5) t.1 (g 7) (g 22) t.2 w) h (fun X g1 w1 ha hL => ?_)
 rw [<- qP 0 ha, <- qP 4 ha, <- qP 5 ha, <- qP 7 ha, <- qP 22 ha] at hL
 exact (PM _ g1 w1 (fun _ _ _ oJ _ _ d3 w => X (oJ, d3) w) k2 (fun _ _ h => h) h2 hL)
def Fx (kn : K5) (kT Dg gY oJ Di d2 d3 : asZ) (w : asY) : Prop :=
 Fl kn kT Dg gY oJ Di d2 d3 w
def EM (kn : K7) (kT Dg gY oJ Di : asZ) (w : asY) : Prop :=
 gD pg (oF .len #[22] 3 [kT]) w fun d2 w =>
 kn kT Dg gY oJ Di d2 (atA 0) w
theorem PO (kn : K7) (hn : N7 Q kn 0 4 5 6 7 22 23) (h : EM kn (g 0) (g 4) (g 5) (g 6) (g 7) w) : jK pg kN (gR 1 (bI (gR 1 (fU 1 (bI (bI (fU 1 (gR 1 (fU 5 kC))))))))) Q g w :=
 lM (kr := no) (l := []) h hn mI trivial
def KL (kn : K5) (kT Dg gY oJ Di : asZ) (w : asY) : Prop :=
 EM (fun kT Dg gY oJ Di d2 d3 w => Fx kn kT Dg gY oJ Di d2 d3 w) kT Dg gY oJ Di w
def Em (kn : K5) (kT Dg gY oJ Di : asZ) (w : asY) : Prop :=
 KL kn kT Dg gY oJ Di w
def Dp (kn : K5) (kT Dg gY oJ Di : asZ) (w : asY) : Prop :=
 Em (fun kT Dg gY oJ Di w => AL kn kT Dg gY oJ Di w) kT Dg gY oJ Di w
theorem O2 (kn : K5) (hn : N5 Q kn 0 4 5 6 7) (h : Em kn (g 0) (g 4) (g 5) (g 6) (g 7) w) : jK pg kN (gR 1 (fU 1 (bI (bI (fU 1 (gR 1 (fU 5 kC))))))) Q g w :=
 G5 1 (oE 1 (PO _ g w (Fx kn) (fun g w h => iA (G5 2 (Pp _ g w kn hn h))) h))
def DW (kn : K5) (k0 : K1) (kT Dg gY oJ Di : asZ) (w : asY) : Prop :=
 gD pg (gV .leq 3 iI iI Di Dg) w fun c8 w =>
 nG c8
  (kn kT Dg gY oJ Di w)
  (k0 gY w)
theorem OC (kn : K5) (k0 : K1) (hn : N5 Q kn 0 4 5 6 7) (h0 : E1 Q k0 0 5) (h : DW kn k0 (g 0) (g 4) (g 5) (g 6) (g 7) w) : jK pg kN (gR 1 (bI (bI (fU 1 (gR 1 (fU 5 kC)))))) Q g w :=
 lM (kr := no) (l := [(0, fun g w => k0 (g 5) w)]) h hn mI ⟨h0, trivial⟩
def zO (kn : K5) (k0 : K1) (kT Dg gY oJ Di : asZ) (w : asY) : Prop :=
 DW (fun kT Dg gY oJ Di w => Dp kn kT Dg gY oJ Di w) k0 kT Dg gY oJ Di w
def DZ (k0 : K1) (kT Dg gY oJ Di : asZ) (w : asY) : Prop :=
 kE (fun (X : (asZ × asZ) -> K0) (t : asZ × asZ) (w : asY) => zO (fun _ _ _ oJ Di w => X (oJ, Di) w) k0 kT Dg gY t.1 t.2 w) (oJ, Di) w
theorem Oz (kn : K5) (k0 : K1) (hn : N5 Q kn 0 4 5 6 7) (h0 : E1 Q k0 0 5) (h : zO kn k0 (g 0) (g 4) (g 5) (g 6) (g 7) w) : jK pg kN (bI (bI (fU 1 (gR 1 (fU 5 kC))))) Q g w :=
 oE 1 (OC _ g w (Dp kn) k0 (fun g w h => iA (oE 1 (O2 _ g w (AL kn) (fun g w h => iA (Qd _ g w kn hn h)) h))) h0 h)
theorem OL (k0 : K1) (h0 : E1 Q k0 0 5) (h : DZ k0 (g 0) (g 4) (g 5) (g 6) (g 7) w) : jK pg kN (bI (fU 1 (gR 1 (fU 5 kC)))) Q g w := by
 refine MJ (fun g : Env => (g 6, g 7)) (fun X t w => zO (fun _ _ _ oJ Di w => X (oJ, Di) w) k0 (g 0) (g 4) (g 5) t.1 t.2 w) h (fun X g1 w1 ha hL => ?_)
 rw [<- qP 0 ha, <- qP 4 ha, <- qP 5 ha] at hL
 exact (Oz _ g1 w1 (fun _ _ _ oJ Di w => X (oJ, Di) w) k0 (fun _ _ h => h) h0 hL)
def DX (kn : K1) (kT Dg gY oJ Di : asZ) (w : asY) : Prop :=
 DZ kn kT Dg gY oJ Di w
def DV (kn : K5) (kT Dg gY oJ : asZ) (w : asY) : Prop :=
 kn kT Dg gY oJ (atA 1) w
theorem O0 (kn : K5) (hn : N5 Q kn 0 4 5 6 7) (h : DV kn (g 0) (g 4) (g 5) (g 6) w) : jK pg kN (gR 1 (gR 1 (fU 5 kC))) Q g w :=
 lM (kr := no) (l := []) h hn mI trivial
def Dx (kn : K1) (kT Dg gY oJ : asZ) (w : asY) : Prop :=
 DV (fun kT Dg gY oJ Di w => DX kn kT Dg gY oJ Di w) kT Dg gY oJ w
def Ek (R : K1) (kT Dg gY oJ : asZ) (w : asY) : Prop :=
 Dx (fun gY w => AX R gY w) kT Dg gY oJ w
theorem NO (kn : K1) (hn : N1 Q kn 5) (h : Dx kn (g 0) (g 4) (g 5) (g 6) w) : jK pg kN (gR 1 (fU 5 kC)) Q g w :=
 oE 1 (O0 _ g w (DX kn) (fun g w h => iA (G5 0 (OL _ g w kn hn h))) h)
def Aa (kn : K4) (R : K1) (kT : asZ) (w : asY) : Prop :=
 jD pg yF #[kT] w fun c0 w =>
 gD pg (gV .eql 3 (.tmp 11) (.const (atA 0)) c0 (atA 0)) w fun c2 w =>
 nG c2
  (R (.tuple #[(.slice none 0 0), (atA 1)]) w)
  (gD pg (oF .len #[22] 3 [kT]) w fun c4 w =>
  gD pg (tW 225 c4 c4) w fun c5 w =>
  kn kT c0 c5 (atA 0) w)
theorem Oo (kn : K4) (R : K1) (hn : N4 Q kn 0 4 5 6) (hr : HR AU R Q) (h : Aa kn R (g 0) w) : jK pg kN (gR 5 kC) Q g w :=
 lM (l := []) h hn hr trivial
def zP (R : K1) (kT : asZ) (w : asY) : Prop :=
 Aa (fun kT Dg gY oJ w => Ek R kT Dg gY oJ w) R kT w
theorem NJ (R : K1) (hr : HR AU R Q) (h : zP R (g 0) w) : jK pg kN kC Q g w :=
 oE 5 (Oo _ g w (Ek R) R (fun g w h => iA (oE 1 (NO _ g w (AX R) (fun g w h => iA (P8 _ g w R hr h)) h))) hr h)
def Jq (a0 : asZ) (w : asY) (R : K1) : Prop :=
 zP R a0 w
theorem Hr {a0 : asZ} {w : asY} {R : K1} (h : Jq a0 w R) : jD pg tK #[a0] w R := by
 refine B0 (ann := kN) Tryz.f134 kC [a0] AU 52 TryzM.mixed Tryz.func134 ?_
 exact (NJ _ _ _ R (fun _ _ h => h) h)
def nV : FA := ⟨nH, fun i => match Nat.beq i 6 with | true => .leaf ([12], []) [(false, []), (false, []), (false, []), (false, []), (false, []), (false, []), (false, []), (false, []), (false, []), (false, []), (false, []), (false, []), (true, [])] | false => .leaf ([], []) []⟩
def Aj : List ResultVar := [.cell 4 22, .cell 5 24]
noncomputable def jN : Code := kF Tryz.f135
def zX (kn : K0) (R : K1) (nK b4 b5 NF s_8 : asZ) (w : asY) : Prop :=
 gD pg (nL 5 3 s_8) w fun c5 w =>
 gD pg (jE 225 nK) w fun c6 w =>
 gD pg (oF .len #[225] 3 [c6]) w fun c7 w =>
 gD pg (gV .geq 3 iI iI c5 c7) w fun c8 w =>
 Gd (kK c8 false) (fun K => gD pg (jE 225 nK) w K) w fun d0 w =>
 Gd (kK c8 false) (fun K => K s_8 w) w fun d1 w =>
 Gd (kK c8 false) (fun K => gD pg (jO 225 d0 d1) w K) w fun d2 w =>
 Gd (kK c8 false) (fun K => gD pg (jJ 241 d2 0) w K) w fun d3 w =>
 Gd (kK c8 false) (fun K => gD pg (jE 3 d3) w K) w fun d4 w =>
 Gd (kK c8 false) (fun K => gD pg (gV .eql 3 (.tmp 24) (.const (atA 0)) d4 (atA 0)) w K) w fun d5 w =>
 gD pg (mA c8 (.bool true) d5) w fun d6 w =>
 nG d6
  (gD pg (jZ 22 b4 (.slice none 0 0)) w fun _u w =>
  gD pg (jZ 24 b5 (atA 1)) w fun _u w =>
  R (.tuple #[]) w)
  (gD pg (jE 170 NF) (dr w) fun d7 w_ => w_ = (dr w) /\
  gD pg (jE 225 nK) (dr w) fun d8 w_ => w_ = (dr w) /\
  (dr w) = (dr w) /\
  gD pg (jO 225 d8 s_8) (dr w) fun e0 w_ => w_ = (dr w) /\
  gD pg (jJ 241 e0 1) (dr w) fun e1 w_ => w_ = (dr w) /\
  gD pg (jE 3 e1) (dr w) fun e2 w_ => w_ = (dr w) /\
  gD pg (nL 3 32 e2) (dr w) fun e3 w_ => w_ = (dr w) /\
  gD pg (jE 225 nK) (dr w) fun e4 w_ => w_ = (dr w) /\
  (dr w) = (dr w) /\
  gD pg (jO 225 e4 s_8) (dr w) fun e6 w_ => w_ = (dr w) /\
  gD pg (jJ 241 e6 0) (dr w) fun e7 w_ => w_ = (dr w) /\
  gD pg (jE 3 e7) (dr w) fun e8 w_ => w_ = (dr w) /\
  jD pg qG #[d7, e3, e8] (dr w) fun e9 akP =>
  kn akP)
theorem NZ (kn : K0) (R : K1) (hn : N0 Q kn) (hr : HR aiO R Q) (h : zX kn R (g 2) (g 4) (g 5) (g 6) (g 8) w) : jK pg nV (YB jN) Q g w :=
 lM (l := []) h hn hr trivial
def Dz (kn : K5) (nK b4 b5 NF c3 : asZ) (w : asY) : Prop :=
 kn nK b4 b5 NF c3 w
theorem NQ (kn : K5) (hn : N5 Q kn 2 4 5 6 8) (h : Dz kn (g 2) (g 4) (g 5) (g 6) (g 13) w) : jK pg nV (abT jN) Q g w :=
 lM (kr := no) (l := []) h hn mI trivial
def Mv (l : Nat) (R : K1) (nK b4 b5 NF c3 : asZ) (w : asY) : Prop :=
 Dz (fun nK b4 b5 NF s_8 w => Rdy l w fun w => zX (fun w => XL l none R w) (fun _ w => XL l (some .ret) R w) nK b4 b5 NF s_8 w) nK b4 b5 NF c3 w
theorem RB {l : Nat} {tmps : Array asZ} {w : asY} {R : K1} (hsz : tmps.size = 42) (h : Mv l R (MZ tmps 2) (MZ tmps 4) (MZ tmps 5) (MZ tmps 6) (MZ tmps 13) w) : Wv pg l nH tmps (abT jN) (YB jN) w R :=
 dsR (ann := nV) 42 TryzM.mixed hsz (NQ (asQ pg nV l (YB jN) R) (MZ tmps) w (fun nK b4 b5 NF s_8 w => Rdy l w fun w => zX (XL l none R) (fun _ w => XL l (some .ret) R w) nK b4 b5 NF s_8 w) (fun g w h => let ⟨r, h1, h2, h3⟩ := h; ⟨r, h1, h2, (NZ (WZ l R) g _ (XL l none R) (fun _ w => XL l (some .ret) R w) (fun _ _ h => h) (fun _ _ h => h) h3)⟩) h) (by kernel_rfl) (by kernel_rfl) (by kernel_rfl)
def Ah (R : K1) (b4 b5 NF t1000003 : asZ) (w : asY) : Prop :=
 gD pg (jE 170 NF) w fun f0 w =>
 jD pg tS #[f0] w fun f1 w =>
 gD pg (jZ 22 b4 f1) w fun _u w =>
 gD pg (jZ 24 b5 (atA 0)) w fun _u w =>
 EE t1000003 w fun w => Um pg 22 b4 w fun r0 => Um pg 24 b5 w fun r1 => R (.tuple #[r0, r1]) w
theorem R5 (R : K1) (hr : HRF Aj R Q) (h : Ah R (g 4) (g 5) (g 6) (g 1000003) w) : jK pg nV (fU 1 (fU 2 jN)) Q g w :=
 lM (kn := no) (l := []) h mI hr trivial
def Io (kn : K4) (R : K1) (nK b4 b5 NF c1 t1000003 : asZ) (w : asY) : Prop :=
 ∀ g : Env, g 2 = nK -> g 4 = b4 -> g 5 = b5 -> g 6 = NF -> g 11 = c1 -> g 1000003 = t1000003 -> RF pg nH (.tmp 11) (afG jN) (abT jN) (YB jN) (exQ (fun g w => kn (g 4) (g 5) (g 6) (g 1000003) w) (fun g w => EE (g 1000003) w fun w => Um pg 22 (g 4) w fun r0 => Um pg 24 (g 5) w fun r1 => R (.tuple #[r0, r1]) w) []) g w
theorem So (kn : K4) (R : K1) (hn : N4 Q kn 4 5 6 1000003) (hr : HRF Aj R Q) (h : Io kn R (g 2) (g 4) (g 5) (g 6) (g 11) (g 1000003) w) : jK pg nV (bI (fU 1 (gR 1 (fU 2 jN)))) Q g w :=
 lM (l := []) (h g rfl rfl rfl rfl rfl rfl) hn hr trivial
def Iv (kn : K4) (R : K1) (nK b4 b5 NF c1 t1000003 : asZ) (w : asY) : Prop :=
 Io kn R nK b4 b5 NF c1 t1000003 w
def Hi (kn : K6) (TM nK b4 b5 NF t1000003 : asZ) (w : asY) : Prop :=
 jD pg xX #[TM] w fun c1 w =>
 kn nK b4 b5 NF c1 t1000003 w
theorem RX (kn : K6) (hn : N6 Q kn 2 4 5 6 11 1000003) (h : Hi kn (g 1) (g 2) (g 4) (g 5) (g 6) (g 1000003) w) : jK pg nV (gR 1 (gR 1 (fU 2 jN))) Q g w :=
 lM (kr := no) (l := []) h hn mI trivial
def Ij (kn : K4) (R : K1) (TM nK b4 b5 NF t1000003 : asZ) (w : asY) : Prop :=
 Hi (fun nK b4 b5 NF c1 t1000003 w => Iv kn R nK b4 b5 NF c1 t1000003 w) TM nK b4 b5 NF t1000003 w
def Hy (R : K1) (TM nK b4 b5 NF t1000003 : asZ) (w : asY) : Prop :=
 Ij (fun b4 b5 NF t1000003 w => Ah R b4 b5 NF t1000003 w) R TM nK b4 b5 NF t1000003 w
theorem Rl (kn : K4) (R : K1) (hn : N4 Q kn 4 5 6 1000003) (hr : HRF Aj R Q) (h : Ij kn R (g 1) (g 2) (g 4) (g 5) (g 6) (g 1000003) w) : jK pg nV (gR 1 (fU 2 jN)) Q g w :=
 oE 1 (RX _ g w (Iv kn R) (fun g w h => iA (G5 0 (So _ g w kn R hn hr h))) h)
def Hd (kn : K6) (W9 TM t1000003 : asZ) (w : asY) : Prop :=
 gD pg (Q7 225 W9) w fun nK w =>
 gD pg (pY 22) w fun b4 w =>
 gD pg (pY 24) w fun b5 w =>
 jD pg AQ #[] w fun b9 w =>
 gD pg (pY 170) w fun NF w =>
 gD pg (jZ 170 NF b9) w fun _u w =>
 kn TM nK b4 b5 NF t1000003 w
theorem RZ (kn : K6) (hn : N6 Q kn 1 2 4 5 6 1000003) (h : Hd kn (g 0) (g 1) (g 1000003) w) : jK pg nV (gR 2 jN) Q g w :=
 lM (kr := no) (l := []) h hn mI trivial
def HQ (R : K1) (W9 TM t1000003 : asZ) (w : asY) : Prop :=
 Hd (fun TM nK b4 b5 NF t1000003 w => Hy R TM nK b4 b5 NF t1000003 w) W9 TM t1000003 w
theorem RV (R : K1) (hr : HRF Aj R Q) (h : HQ R (g 0) (g 1) (g 1000003) w) : jK pg nV jN Q g w :=
 oE 2 (RZ _ g w (Hy R) (fun g w h => iA (oE 1 (Rl _ g w (Ah R) R (fun g w h => iA (R5 _ g w R hr h)) hr h))) h)
def Ue (a0 a1 : asZ) (w : asY) (R : K1) : Prop :=
 HQ R a0 a1 undef w
theorem SX {a0 a1 : asZ} {w : asY} {R : K1} (h : Ue a0 a1 w R) : jD pg nH #[a0, a1] w R := by
 refine dsF (ann := nV) Tryz.f135 jN [a0, a1] Aj 42 TryzM.mixed Tryz.func135 ?_
 exact (RV _ _ _ R (fun _ _ h => h) h)
def OK : FA := ⟨GZ, fun i => .leaf ([], []) []⟩
def Qv : List ResultVar := [.cell 2 139, .tmp 3]
noncomputable def MH : Code := kF Tryz.f136
def JR (R : K1) (n_0 : asZ) (w : asY) : Prop :=
 gD pg (pY 139) w fun b2 w =>
 gD pg (gV .add 3 iI iI n_0 (atA 4)) w fun b6 w =>
 gD pg (gV .sub 3 iI iI b6 (atA 1)) w fun b7 w =>
 gD pg (gV .quo 3 iI iI b7 (atA 4)) w fun b8 w =>
 gD pg (gV .mul 3 iI iI (atA 3) b8) w fun c4 w =>
 gD pg (gV .sub 3 iI iI n_0 c4) w fun c5 w =>
 gD pg (mK 139 [(0, b8), (1, b8), (2, b8), (3, c5)]) w fun c6 w =>
 gD pg (gV .mul 3 iI iI (atA 3) b8) w fun c9 w =>
 gD pg (gV .geq 3 iI iI n_0 c9) w fun d0 w =>
 gD pg (jZ 139 b2 c6) w fun _u w =>
 Um pg 139 b2 w fun r0 => R (.tuple #[r0, d0]) w
theorem Tq (R : K1) (hr : HR Qv R Q) (h : JR R (g 0) w) : jK pg OK MH Q g w :=
 lM (kn := no) (l := []) h mI hr trivial
def U7 (a0 : asZ) (w : asY) (R : K1) : Prop :=
 JR R a0 w
theorem UB {a0 : asZ} {w : asY} {R : K1} (h : U7 a0 w R) : jD pg GZ #[a0] w R := by
 refine B0 (ann := OK) Tryz.f136 MH [a0] Qv 21 TryzM.mixed Tryz.func136 ?_
 exact (Tq _ _ _ R (fun _ _ h => h) h)
def B3 : FA := ⟨xX, fun i => .leaf ([], []) []⟩
def Da : List ResultVar := [.tmp 2]
noncomputable def Bb : Code := kF Tryz.f145
def vL (R : K1) (EC : asZ) (w : asY) : Prop :=
 gD pg (Q7 22 EC) w fun s_1 w =>
 gD pg (VD (.func 151) [] [s_1]) w fun b3 w =>
 R b3 w
theorem Hm (R : K1) (hr : HR Da R Q) (h : vL R (g 0) w) : jK pg B3 Bb Q g w :=
 lM (kn := no) (l := []) h mI hr trivial
def Gk (a0 : asZ) (w : asY) (R : K1) : Prop :=
 vL R a0 w
theorem IP {a0 : asZ} {w : asY} {R : K1} (h : Gk a0 w R) : jD pg xX #[a0] w R := by
 refine B0 (ann := B3) Tryz.f145 Bb [a0] Da 4 TryzM.mixed Tryz.func145 ?_
 exact (Hm _ _ _ R (fun _ _ h => h) h)
def nW : FA := ⟨oS, fun i => .leaf ([], []) []⟩
def pW : List ResultVar := []
noncomputable def nQ : Code := kF Tryz.f151
def pX (kn : K3) (k0 : K0) (R : K1) (zT b1 Xd : asZ) (w : asY) : Prop :=
 gD pg (gV .geq 3 iI iI Xd (atA 0)) w fun b8 w =>
 nG b8
  (gD pg (jE 22 b1) w fun c3 w =>
  gD pg (jO 22 c3 Xd) w fun c5 w =>
  gD pg (jE 5 c5) w fun c6 w =>
  gD pg (CZ zT [Xd, c6]) w fun c7 w =>
  gD pg (Yp .not c7) w fun c8 w =>
  nG c8
   (R (.tuple #[]) w)
   (gD pg (gV .sub 3 iI iI Xd (atA 1)) w fun c0 w =>
   kn zT b1 c0 w))
  (k0 w)
theorem Ff (kn : K3) (k0 : K0) (R : K1) (hn : N3 Q kn 0 1 3) (h0 : E0 Q k0 0) (hr : HR pW R Q) (h : pX kn k0 R (g 0) (g 1) (g 3) w) : jK pg nW (bI (bI (fU 1 nQ))) Q g w :=
 lM (l := [(0, fun g w => k0 w)]) h hn hr ⟨h0, trivial⟩
def sC (k0 : K0) (R : K1) (zT b1 Xd : asZ) (w : asY) : Prop :=
 kE (fun (X : asZ -> K0) (t : asZ) (w : asY) => pX (fun _ _ Xd w => X Xd w) k0 R zT b1 t w) Xd w
theorem Fg (k0 : K0) (R : K1) (h0 : E0 Q k0 0) (hr : HR pW R Q) (h : sC k0 R (g 0) (g 1) (g 3) w) : jK pg nW (bI (fU 1 nQ)) Q g w := by
 refine MJ (fun g : Env => g 3) (fun X t w => pX (fun _ _ Xd w => X Xd w) k0 R (g 0) (g 1) t w) h (fun X g1 w1 ha hL => ?_)
 rw [<- qP 0 ha, <- qP 1 ha] at hL
 exact (Ff _ g1 w1 (fun _ _ Xd w => X Xd w) k0 R (fun _ _ h => h) h0 hr hL)
def rY (kn : K0) (R : K1) (zT b1 Xd : asZ) (w : asY) : Prop :=
 sC kn R zT b1 Xd w
def sD (kn : K3) (zT b1 : asZ) (w : asY) : Prop :=
 gD pg (jE 22 b1) w fun b4 w =>
 gD pg (oF .len #[22] 3 [b4]) w fun b5 w =>
 gD pg (gV .sub 3 iI iI b5 (atA 1)) w fun b6 w =>
 kn zT b1 b6 w
theorem FL (kn : K3) (hn : N3 Q kn 0 1 3) (h : sD kn (g 0) (g 1) w) : jK pg nW (gR 1 nQ) Q g w :=
 lM (kr := no) (l := []) h hn mI trivial
def sG (kn : K0) (R : K1) (zT b1 : asZ) (w : asY) : Prop :=
 sD (fun zT b1 Xd w => rY kn R zT b1 Xd w) zT b1 w
theorem Fo (kn : K0) (R : K1) (hn : N0 Q kn) (hr : HR pW R Q) (h : sG kn R (g 0) (g 1) w) : jK pg nW nQ Q g w :=
 oE 1 (FL _ g w (rY kn R) (fun g w h => iA (G5 0 (Fg _ g w kn R hn hr h))) h)
def B8 (a0 a1 : asZ) (w : asY) (R : K1) : Prop :=
 sG (fun  w => R (.tuple #[]) w) R a0 a1 w
theorem Gi {a0 a1 : asZ} {w : asY} {R : K1} (h : B8 a0 a1 w R) : jD pg oS #[a0, a1] w R := by
 refine B0 (ann := nW) Tryz.f151 nQ [a0, a1] pW 19 TryzM.mixed Tryz.func151 ?_
 exact (Fo _ _ _ (fun  w => R (.tuple #[]) w) R (fun _ _ h => h) (fun _ _ h => h) h)
end Go.Proofs.YtoecppploooloaaGreatDoor
namespace Go.En
open Go
section
variable {P : Program} {w : asY} {t : TypeId} {ox oy : Operand} {k : IntKind} {a b : Int}
theorem rT (s : Sem asZ) : (V s).run P w = (s.run P w).andThen fun v w => .ok (.value v) w := by
 unfold V; rw [Sem.run_bind] <;> rfl
theorem akZ (s : Sem Unit) : (U s).run P w = (s.run P w).andThen fun _ w => .ok .skip w := by
 unfold U; rw [Sem.run_bind] <;> rfl
theorem hO : (gV .add t ox oy (.int k a) (.int k b)).run P w = .ok (.value (.int k (k.wrap (a + b)))) w := by
 simp [gV, IH, rT, binOp, Op.intArith]
theorem iB : (gV .sub t ox oy (.int k a) (.int k b)).run P w = .ok (.value (.int k (k.wrap (a - b)))) w := by
 simp [gV, IH, rT, binOp, Op.intArith]
theorem iP : (gV .mul t ox oy (.int k a) (.int k b)).run P w = .ok (.value (.int k (k.wrap (a * b)))) w := by
 simp [gV, IH, rT, binOp, Op.intArith]
theorem iN (h : b ≠ 0) : (gV .quo t ox oy (.int k a) (.int k b)).run P w = .ok (.value (.int k (k.wrap (a.tdiv b)))) w := by
 simp [gV, IH, rT, binOp, Op.intDiv, h]
theorem iK (h : b ≠ 0) : (gV .rem t ox oy (.int k a) (.int k b)).run P w = .ok (.value (.int k (a.tmod b))) w := by
 simp [gV, IH, rT, binOp, Op.intDiv, h]
def YG (k : IntKind) (a b : Int) : Int := k.wrap (BitVec.ofInt k.bits a &&& BitVec.ofInt k.bits b).toNat
def UI (k : IntKind) (a b : Int) : Int := k.wrap (BitVec.ofInt k.bits a ||| BitVec.ofInt k.bits b).toNat
def Rg (k : IntKind) (a b : Int) : Int := k.wrap (BitVec.ofInt k.bits a ^^^ BitVec.ofInt k.bits b).toNat
def ZM (k : IntKind) (a b : Int) : Int := k.wrap (BitVec.ofInt k.bits a &&& ~~~BitVec.ofInt k.bits b).toNat
theorem iO : (gV .and t ox oy (.int k a) (.int k b)).run P w = .ok (.value (.int k (YG k a b))) w := by
 simp [gV, IH, rT, binOp, Op.intBits, YG]
theorem jI : (gV .or t ox oy (.int k a) (.int k b)).run P w = .ok (.value (.int k (UI k a b))) w := by
 simp [gV, IH, rT, binOp, Op.intBits, UI]
theorem iV : (gV .xor t ox oy (.int k a) (.int k b)).run P w = .ok (.value (.int k (Rg k a b))) w := by
 simp [gV, IH, rT, binOp, Op.intBits, Rg]
theorem gK : (gV .andNot t ox oy (.int k a) (.int k b)).run P w = .ok (.value (.int k (ZM k a b))) w := by
 simp [gV, IH, rT, binOp, Op.intBits, ZM]
theorem iC {k' : IntKind} (h : 0 <= b) : (gV .shl t ox oy (.int k a) (.int k' b)).run P w = .ok (.value (.int k (k.wrap (a * 2 ^ (min b.toNat k.bits))))) w := by
 simp [gV, IH, rT, binOp, Op.shift, Int.not_lt.2 h]
theorem iF {k' : IntKind} (h : 0 <= b) : (gV .shr t ox oy (.int k a) (.int k' b)).run P w = .ok (.value (.int k (a.fdiv (2 ^ (min b.toNat k.bits))))) w := by
 simp [gV, IH, rT, binOp, Op.shift, Int.not_lt.2 h]
theorem iD : (gV .eql t ox oy (.int k a) (.int k b)).run P w = .ok (.value (.bool (a == b))) w := by
 simp [gV, IH, rT, binOp, Op.intCmp, eqGuard]
theorem iH : (gV .neq t ox oy (.int k a) (.int k b)).run P w = .ok (.value (.bool (a != b))) w := by
 simp [gV, IH, rT, binOp, Op.intCmp, eqGuard]
theorem hJ : (gV .lss t ox oy (.int k a) (.int k b)).run P w = .ok (.value (.bool (decide (a < b)))) w := by
 simp [gV, IH, rT, binOp, Op.intCmp]
theorem iM : (gV .leq t ox oy (.int k a) (.int k b)).run P w = .ok (.value (.bool (decide (a <= b)))) w := by
 simp [gV, IH, rT, binOp, Op.intCmp]
theorem hU : (gV .gtr t ox oy (.int k a) (.int k b)).run P w = .ok (.value (.bool (decide (b < a)))) w := by
 simp [gV, IH, rT, binOp, Op.intCmp]
theorem iE : (gV .geq t ox oy (.int k a) (.int k b)).run P w = .ok (.value (.bool (decide (b <= a)))) w := by
 simp [gV, IH, rT, binOp, Op.intCmp]
theorem iW : (Yp .neg (.int k a)).run P w = .ok (.value (.int k (k.wrap (0 - a)))) w := by
 simp [Yp, rT, Op.unary, Op.intArith]
theorem iS : (Yp .xor (.int k a)).run P w = .ok (.value (.int k (Rg k (if k.signed then -1 else k.max) a))) w := by
 simp [Yp, rT, Op.unary, Op.intBits, Rg]
theorem iJ (c : Bool) : (Yp .not (.bool c)).run P w = .ok (.value (.bool !c)) w := by
 simp [Yp, rT, Op.unary]
theorem gQ (c : Bool) (x y : asZ) : (mA (.bool c) x y).run P w = .ok (.value (if c then x else y)) w := by
 simp [mA, asBool]
theorem X5 {x y : asZ} {r : Bool} (hg : eqGuard .eql t ox oy x y = pure ()) (hb : binOp .eql t x y = (do pure (.bool (<- Op.equal t x y)))) (he : (Op.equal t x y).run P w = .ok r w) :
 (gV .eql t ox oy x y).run P w = .ok (.value (.bool r)) w := by
 unfold gV
 simp only [IH, rT, hg, hb, pure_bind]
 rw [Sem.run_bind, he] <;> rfl
theorem adG {x y : asZ} {r : Bool} (hg : eqGuard .neq t ox oy x y = pure ()) (hb : binOp .neq t x y = (do pure (.bool (!(<- Op.equal t x y))))) (he : (Op.equal t x y).run P w = .ok r w) :
 (gV .neq t ox oy x y).run P w = .ok (.value (.bool (!r))) w := by
 unfold gV
 simp only [IH, rT, hg, hb, pure_bind]
 rw [Sem.run_bind, he] <;> rfl
theorem gZ {n : Int} (h0 : -9223372036854775808 <= n) (h1 : n <= 9223372036854775807) : IntKind.i64.wrap n = n := by
 unfold IntKind.wrap; simp [IntKind.bits, IntKind.signed]; split <;> omega
theorem hZ {n : Int} (h0 : 0 <= n) (h1 : n <= 18446744073709551615) : IntKind.u64.wrap n = n := by
 unfold IntKind.wrap; simp [IntKind.bits, IntKind.signed]; omega
theorem iX {n : Int} (h0 : -2147483648 <= n) (h1 : n <= 2147483647) : IntKind.i32.wrap n = n := by
 unfold IntKind.wrap; simp [IntKind.bits, IntKind.signed]; split <;> omega
theorem iT {n : Int} (h0 : 0 <= n) (h1 : n <= 4294967295) : IntKind.u32.wrap n = n := by
 unfold IntKind.wrap; simp [IntKind.bits, IntKind.signed]; omega
theorem iU {n : Int} (h0 : 0 <= n) (h1 : n <= 65535) : IntKind.u16.wrap n = n := by
 unfold IntKind.wrap; simp [IntKind.bits, IntKind.signed]; omega
theorem jG {n : Int} (h0 : 0 <= n) (h1 : n <= 255) : IntKind.u8.wrap n = n := by
 unfold IntKind.wrap; simp [IntKind.bits, IntKind.signed]; omega
theorem wu8 (n : Int) : IntKind.u8.wrap n = n % 256 := by
 unfold IntKind.wrap; simp [IntKind.bits, IntKind.signed]
theorem ajT (x y : ByteArray) : (gV .eql t ox oy (.string x) (.string y)).run P w = .ok (.value (.bool (x.toList == y.toList))) w := by
 simp [gV, IH, rT, binOp, Op.stringOp, eqGuard]
theorem acU (n : Nat) {e : TypeId} (hu : P.underlying t = some (.pointer e)) (x : Option Addr) : (Op.equalIn (n + 1) t (.pointer x) (.pointer none)).run P w = .ok x.isNone w := by
 simp only [Op.equalIn, underlying]
 cases x <;> simp [hu]
theorem aeE {e : TypeId} (hu : P.underlying t = some (.pointer e)) (x : Option Addr) : (Op.equal t (.pointer x) (.pointer none)).run P w = .ok x.isNone w := acU 9999 hu x
theorem ahG (m : Nat) {e : TypeId} (hu : P.underlying t = some (.slice e)) (x : Option Addr) (n c : Nat) : (Op.equalIn (m + 1) t (.slice x n c) (.slice none 0 0)).run P w = .ok x.isNone w := by
 simp only [Op.equalIn, underlying]
 cases x <;> simp [hu]
theorem alO {e : TypeId} (hu : P.underlying t = some (.slice e)) (x : Option Addr) (n c : Nat) : (Op.equal t (.slice x n c) (.slice none 0 0)).run P w = .ok x.isNone w := ahG 9999 hu x n c
theorem WX {e : TypeId} (hu : P.underlying t = some (.pointer e)) (x : Option Addr) : (gV .eql t ox oy (.pointer x) (.pointer none)).run P w = .ok (.value (.bool x.isNone)) w :=
 X5 rfl rfl (aeE hu x)
theorem ajD {e : TypeId} (hu : P.underlying t = some (.pointer e)) (x : Option Addr) : (gV .neq t ox oy (.pointer x) (.pointer none)).run P w = .ok (.value (.bool (!x.isNone))) w :=
 adG rfl rfl (aeE hu x)
theorem ahQ {e : TypeId} (hu : P.underlying t = some (.slice e)) (x : Option Addr) (n c : Nat) : (gV .eql t ox oy (.slice x n c) (.slice none 0 0)).run P w = .ok (.value (.bool x.isNone)) w :=
 X5 rfl rfl (alO hu x n c)
theorem Bg {s : TypeId} {d : TypeDesc} {kd : IntKind} (hs : P.underlying s = some d) (hu : P.underlying t = some (.int kd)) : (nL s t (.int k a)).run P w = .ok (.value (.int kd (kd.wrap a))) w := by
 cases d <;> simp [nL, rT, convert, underlying, hs, hu, Conv.intToInt]
theorem Q9 {ty : TypeId} {e : TypeId} (hu : P.underlying t = some (.slice e)) (x : Option Addr) (n c : Nat) : (oF .len #[t] ty [.slice x n c]).run P w = .ok (.value (.int .i64 n)) w := by
 simp [oF, builtin, Builtin.len_, underlying, hu, goInt]
theorem iR {ats : Array TypeId} {ty : TypeId} : (oF .min ats ty [.int k a, .int k b]).run P w = .ok (.value (.int k (if b < a then b else a))) w := by
 simp [oF, builtin, Builtin.min_, Builtin.min2]
theorem iQ {ats : Array TypeId} {ty : TypeId} : (oF .max ats ty [.int k a, .int k b]).run P w = .ok (.value (.int k (if b > a then b else a))) w := by
 simp [oF, builtin, Builtin.max_, Builtin.max2]
theorem kU (a b : asZ) : (jV (.tuple #[a, b]) 0).run P w = .ok (.value a) w := Eq.trans rfl rfl
theorem kV (a b : asZ) : (jV (.tuple #[a, b]) 1).run P w = .ok (.value b) w := Eq.trans rfl rfl
theorem lF (a b c : asZ) : (jV (.tuple #[a, b, c]) 0).run P w = .ok (.value a) w := Eq.trans rfl rfl
theorem lC (a b c : asZ) : (jV (.tuple #[a, b, c]) 1).run P w = .ok (.value b) w := Eq.trans rfl rfl
theorem lH (a b c : asZ) : (jV (.tuple #[a, b, c]) 2).run P w = .ok (.value c) w := Eq.trans rfl rfl
theorem lE (a b c d : asZ) : (jV (.tuple #[a, b, c, d]) 0).run P w = .ok (.value a) w := Eq.trans rfl rfl
theorem lJ (a b c d : asZ) : (jV (.tuple #[a, b, c, d]) 1).run P w = .ok (.value b) w := Eq.trans rfl rfl
theorem lG (a b c d : asZ) : (jV (.tuple #[a, b, c, d]) 2).run P w = .ok (.value c) w := Eq.trans rfl rfl
theorem lD (a b c d : asZ) : (jV (.tuple #[a, b, c, d]) 3).run P w = .ok (.value d) w := Eq.trans rfl rfl
theorem iG (x : Addr) : (rO (.pointer (some x))).run P w = .ok (.value (.pointer (some x))) w := Eq.trans rfl rfl
theorem lY {fs : Array Field} {f : Field} {i : Nat} {inf : TypeInfo} (hu : P.underlying t = some (.struct fs)) (hf : fs[i]? = some f)
 (hi : P.info? f.type = some inf) (hz : inf.size ≠ 0) (x : Addr) : (jJ t (.pointer (some x)) i).run P w = .ok (.value (.pointer (some (x.add f.offset)))) w := by
 simp [jJ, rT, Instr.fieldAt, underlying, hu, hf, Instr.sureAddr, fieldPlace, sizeOf, typeInfo, hi, hz]
theorem XX {e : TypeId} {inf : TypeInfo} (hu : P.underlying t = some (.slice e)) (hi : P.info? e = some inf) (x : Addr) (n c : Nat) (h0 : 0 <= a) (h1 : a < n) :
 (jO t (.slice (some x) n c) (.int k a)).run P w = .ok (.value (.pointer (some (x.add (a.toNat * inf.size))))) w := by
 simp [jO, rT, Instr.indexAt, asIntOf, underlying, hu, h0, h1, sizeOf, typeInfo, hi]
theorem Xg {e : TypeId} {len : Nat} {inf : TypeInfo} (hu : P.underlying t = some (.array len e)) (hi : P.info? e = some inf) (x : Addr) (h0 : 0 <= a) (h1 : a < len) :
 (jO t (.pointer (some x)) (.int k a)).run P w = .ok (.value (.pointer (some (x.add (a.toNat * inf.size))))) w := by
 simp [jO, rT, Instr.indexAt, asIntOf, underlying, hu, h0, h1, sizeOf, typeInfo, hi, Instr.sureAddr]
theorem aiM (hu : P.underlying t = some .string) (x : ByteArray) (h0 : 0 <= a) (h1 : a.toNat < x.size) :
 (PU t (.string x) (.int k a)).run P w = .ok (.value (.int .u8 (x[a.toNat]'h1).toNat)) w := by
 simp [PU, rT, Instr.index, asIntOf, underlying, hu, h0, h1]
end
def mP (w : asY) (b : Nat) (cs : List asZ) : Prop :=
 ∃ T lo hi, w.heap[b]? = some (.cells cs.toArray T (lo, hi)) /\ (cs.length <= lo ∨ hi = lo)
structure jM (w w' : asY) (M : Nat -> Prop) : Prop where
 os : w'.os = w.os
 tape : w'.tape = w.tape
 output : w'.output = w.output
 size : w.heap.size <= w'.heap.size
 keep : ∀ b, b < w.heap.size -> ¬ M b -> w'.heap[b]? = w.heap[b]?
def mM : Nat -> Prop := fun _ => False
theorem jM.refl (w : asY) (M : Nat -> Prop) : jM w w M := ⟨rfl, rfl, rfl, aoA _, fun _ _ _ => rfl⟩
theorem jM.mono {w w' : asY} {M N : Nat -> Prop} (h : jM w w' M) (hm : ∀ b, b < w.heap.size -> M b -> N b) : jM w w' N :=
 ⟨h.os, h.tape, h.output, h.size, fun b hb hn => h.keep b hb fun hM => hn (hm b hb hM)⟩
theorem jM.trans {a b c : asY} {M N : Nat -> Prop} (h : jM a b M) (k : jM b c N) (hn : ∀ x, x < a.heap.size -> N x -> M x) : jM a c M :=
 ⟨k.os.trans h.os, k.tape.trans h.tape, k.output.trans h.output, apN h.size k.size,
   fun x hx hM => (k.keep x (aqW hx h.size) fun h => hM (hn x hx h)).trans (h.keep x hx hM)⟩
theorem jM.seq {a b c : asY} {M : Nat -> Prop} (h : jM a b M) (k : jM b c M) : jM a c M := h.trans k fun _ _ h => h
theorem jM.new {a b c : asY} {M : Nat -> Prop} {x : Nat} (h : jM a b M) (k : jM b c (fun y => y = x)) (hx : a.heap.size <= x) : jM a c M :=
 h.trans k fun y hy e => absurd hy (by subst e; omega)
theorem jM.below {w w' : asY} (h : jM w w' mM) : Go.RowKit.Below w.heap.size w w' :=
 ⟨h.os, h.tape, h.output, h.size, fun k hk => h.keep k hk fun h => h⟩
theorem jM.dr (w : asY) (M : Nat -> Prop) : jM w (dr w) M := ⟨rfl, rfl, rfl, aoA _, fun _ _ _ => rfl⟩
theorem jM.alloc (w : asY) (o : Obj) (M : Nat -> Prop) : jM w (w.alloc o) M :=
 ⟨rfl, rfl, rfl, by simp, fun b hb _ => by show (w.heap.push o)[b]? = _; rw [Array.getElem?_push, if_neg (by omega)]⟩
theorem Uk (w : asY) (a : Addr) (v : asZ) (b : Nat) (h : b ≠ a.block) : (w.setCell a v).heap[b]? = w.heap[b]? := Go.RowKit.Below.heap_setCell w a v b h
theorem jM.setCell (w : asY) (a : Addr) (v : asZ) {M : Nat -> Prop} (h : a.block < w.heap.size -> M a.block) : jM w (w.setCell a v) M :=
 ⟨rfl, rfl, rfl, by simp, fun b hb hM => Uk w a v b fun e => hM (e ▸ h (e ▸ hb))⟩
theorem mP.lt {w : asY} {b : Nat} {cs : List asZ} (h : mP w b cs) : b < w.heap.size := by
 obtain ⟨T, lo, hi, h, _⟩ := h
 rcases aoE b w.heap.size with h' | h'
 .exact h'
 .rw [apU h'] at h; cases h
theorem mP.ext {w w' : asY} {b : Nat} {cs : List asZ} {M : Nat -> Prop} (h : mP w b cs) (hx : jM w w' M) (hM : ¬ M b) : mP w' b cs := by
 have := h.lt
 obtain ⟨T, lo, hi, h, k⟩ := h
 exact ⟨T, lo, hi, by rw [hx.keep b this hM]; exact h, k⟩
theorem mP.cell {w : asY} {b off : Nat} {cs : List asZ} (h : mP w b cs) : w.cell? ⟨b, off, none⟩ = cs[off]? := by
 obtain ⟨T, lo, hi, h, _⟩ := h
 simp [World.cell?, h]
theorem mP.free {w : asY} {b off : Nat} {cs : List asZ} {s : Option Nat} (h : mP w b cs) (ho : off < cs.length) : w.frozen? ⟨b, off, s⟩ = false := by
 obtain ⟨T, lo, hi, h, k⟩ := h
 simp only [World.frozen?, h]
 rcases k with k | k <;> (simp; omega)
theorem mP.setCell {w : asY} {b off : Nat} {cs : List asZ} (h : mP w b cs) (v : asZ) : mP (w.setCell ⟨b, off, none⟩ v) b (cs.set off v) := by
 have hb := h.lt
 obtain ⟨T, lo, hi, h, k⟩ := h
 refine ⟨T, lo, hi, ?_, by simpa using k⟩
 simp only [World.setCell, aqO, h]
 simp
theorem mP.alloc (w : asY) (cs : List asZ) (T : TypeId) : mP (w.alloc (.cells cs.toArray T)) w.heap.size cs :=
 ⟨T, 0, 0, by show (w.heap.push _)[w.heap.size]? = _; simp, .inr rfl⟩
theorem adK {w w' : asY} {M : Nat -> Prop} {a : Addr} {v : asZ} (h : w.cell? a = some v) (hx : jM w w' M) (hM : ¬ M a.block) : w'.cell? a = some v := by
 have hb := World.block_lt_of_cell? w a h
 have e := hx.keep _ hb hM
 unfold World.cell? at h ⊢
 rw [e]; exact h
section
variable {P : Program} {w : asY} {t : TypeId}
def VR (d : TypeDesc) : Bool := match d with | .struct _ | .array _ _ => true | _ => false
theorem EO {d : TypeDesc} (hu : P.underlying t = some d) : (isAgg t).run P w = .ok (VR d) w := by
 cases d <;> simp [isAgg, underlying, hu, VR]
theorem kR {i : TypeInfo} (hi : P.info? t = some i) : (sizeOf t).run P w = .ok i.size w := by simp [sizeOf, typeInfo, hi]
theorem R8 {b off : Nat} {cs : List asZ} (ho : mP w b cs) : ∀ (n i : Nat) (acc : Array asZ), off + i + n <= cs.length →
 (loadCellsFrom ⟨b, off, none⟩ i n acc).run P w = .ok (acc ++ ((cs.drop (off + i)).take n).toArray) w := by
 intro n
 induction n with
 | zero => intro i acc _; simp [loadCellsFrom]
 | succ n ih =>
   intro i acc h
   have hc : w.cell? ((⟨b, off, none⟩ : Addr).add i) = some cs[off + i] := by
    unfold Addr.add
    split
    .rename_i hi; subst hi; rw [ho.cell]; simp
    .show w.cell? ⟨b, off + i, none⟩ = _; rw [ho.cell]; simp
   simp only [loadCellsFrom, Sem.run_bind, run_load, hc, Result.andThen_ok]
   rw [ih (i + 1) _ (by omega)]
   congr 1
   rw [aqA (by omega : off + i < cs.length)]
   simp [aqY]
theorem Qk {b off n : Nat} {cs : List asZ} (ho : mP w b cs) (h : off + n <= cs.length) :
 (loadCells ⟨b, off, none⟩ n).run P w = .ok ((cs.drop off).take n).toArray w := by
 unfold loadCells
 rw [R8 ho n 0 #[] (by omega)]
 simp
theorem RA {d : TypeDesc} {i : TypeInfo} (hu : P.underlying t = some d) (hd : VR d = true) (hi : P.info? t = some i) {b off : Nat} {cs : List asZ} (ho : mP w b cs) (h : off + i.size <= cs.length) :
 (jE t (.pointer (some ⟨b, off, none⟩))).run P w = .ok (.value (.agg ((cs.drop off).take i.size).toArray)) w := by
 unfold jE
 rw [rT]
 simp only [Instr.loadAt, Instr.sureAddr, loadVar, pure_bind, Sem.run_bind, EO hu, hd, Result.andThen_ok, if_true, kR hi, Qk ho h, Sem.run_pure]
def one (v : asZ) : Bool := match v with | .agg _ | .tuple _ => false | _ => true
theorem Y5 {a : Addr} {v x : asZ} (hv : one v = true) (hc : w.cell? a = some x) (hf : w.frozen? a = false) : (store a v).run P w = .ok () (w.setCell a v) := by
 unfold store
 cases v <;> simp [one] at hv <;> simp [Sem.run, hc, hf]
def qM (cs : List asZ) (off : Nat) : List asZ -> List asZ
 | [] => cs
 | v :: vs => qM (cs.set off v) (off + 1) vs
theorem Qf (vs : List asZ) : ∀ (cs : List asZ) (off : Nat), (qM cs off vs).length = cs.length := by
 induction vs with
 | nil => intro cs off; rfl
 | cons v vs ih => intro cs off; simp [qM, ih]
theorem D5 {b : Nat} {M : Nat -> Prop} (hM : M b) : ∀ (vs : List asZ) (w : asY) (off i : Nat) (cs : List asZ), mP w b cs -> off + i + vs.length <= cs.length -> (∀ v ∈ vs, one v = true) →
 ∃ w', (storeCells ⟨b, off, none⟩ vs i).run P w = .ok () w' /\ mP w' b (qM cs (off + i) vs) /\ jM w w' M /\ w'.heap.size = w.heap.size /\ w'.drawn = w.drawn := by
 intro vs
 induction vs with
 | nil => intro w off i cs ho _ _; exact ⟨w, by simp [storeCells], ho, jM.refl _ _, rfl, rfl⟩
 | cons v vs ih =>
   intro w off i cs ho h hv
   simp only [aoG] at h
   have ha : (⟨b, off, none⟩ : Addr).add i = ⟨b, off + i, none⟩ := by
    unfold Addr.add; split
    .rename_i hi; subst hi; rfl
    .rfl
   have hlt : off + i < cs.length := by omega
   have hc : w.cell? ⟨b, off + i, none⟩ = some cs[off + i] := by rw [ho.cell]; simp
   have hs := Y5 (P := P) (hv v (by simp)) hc (ho.free hlt)
   obtain ⟨w', h1, h2, h3, h4, h5⟩ := ih (w.setCell ⟨b, off + i, none⟩ v) off (i + 1) (cs.set (off + i) v) (ho.setCell v) (by simp; omega) (fun x hx => hv x (aoC _ hx))
   refine ⟨w', ?_, h2, (jM.setCell w _ v fun _ => hM).trans h3 (fun _ _ h => h), by rw [h4]; simp, by rw [h5] <;> rfl⟩
   simp only [storeCells, Sem.run_bind, ha, hs, Result.andThen_ok]
   exact h1
theorem Hb {i : TypeInfo} (hi : P.info? t = some i) {b off : Nat} {cs : List asZ} (ho : mP w b cs) {v : asZ} (hs : v.cells.size = i.size)
 (hv : ∀ x ∈ v.cells.toList, one x = true) (h : off + i.size <= cs.length) {K : asZ -> asY -> Prop}
 (hk : ∀ w', mP w' b (qM cs off v.cells.toList) -> jM w w' (fun x => x = b) -> w'.heap.size = w.heap.size -> K undef w') : gD P (jZ t (.pointer (some ⟨b, off, none⟩)) v) w K := by
 obtain ⟨w', h1, h2, h3, h4, _⟩ := D5 (P := P) (M := fun x => x = b) rfl v.cells.toList w off 0 cs ho (by simp [hs]; omega) hv
 have : (jZ t (.pointer (some ⟨b, off, none⟩)) v).run P w = .ok .skip w' := by
  unfold jZ
  rw [akZ]
  simp only [Instr.storeAt, Instr.sureAddr, storeVar, pure_bind, Sem.run_bind, kR hi, Result.andThen_ok, hs]
  simp [h1]
 unfold gD
 rw [this]
 exact hk w' h2 h3 h4
theorem Wa {v : asZ} (hv : one v = true) : v.cells = #[v] := by cases v <;> simp [one] at hv <;> rfl
theorem C5 {i : TypeInfo} (hi : P.info? t = some i) (h1 : i.size = 1) {b off : Nat} {cs : List asZ} (ho : mP w b cs) {v : asZ} (hv : one v = true) (h : off < cs.length) {K : asZ -> asY -> Prop}
 (hk : ∀ w', mP w' b (cs.set off v) -> jM w w' (fun x => x = b) -> w'.heap.size = w.heap.size -> K undef w') : gD P (jZ t (.pointer (some ⟨b, off, none⟩)) v) w K := by
 have e := Wa hv
 refine Hb hi ho (by rw [e, h1] <;> rfl) (by rw [e]; simpa using hv) (by omega) fun w' a b c => hk w' ?_ b c
 rw [e] at a; exact a
def VX (c : Option asZ) (w : asY) (Yo : Result Next) : Result Next := match c with | some v => .ok (.value v) w | none => Yo
def Yo (P : Program) (t : TypeId) (x : Addr) (w : asY) : Result Next := (jE t (.pointer (some x))).run P w
theorem gB (v : asZ) (w : asY) (f : Result Next) : VX (some v) w f = .ok (.value v) w := rfl
theorem TC {d : TypeDesc} (hu : P.underlying t = some d) (hd : VR d = false) (x : Addr) (w : asY) :
 (jE t (.pointer (some x))).run P w = VX (w.cell? x) w (Yo P t x w) := by
 cases h : w.cell? x with
 | none => rfl
 | some v =>
   unfold jE
   rw [rT]
   simp only [Instr.loadAt, Instr.sureAddr, loadVar, pure_bind, Sem.run_bind, EO hu, hd, Result.andThen_ok, anO, if_false, run_load, h, VX]
theorem WG {d : TypeDesc} {i : TypeInfo} (hu : P.underlying t = some d) (hd : VR d = true) (hi : P.info? t = some i) {b off : Nat} {cs : List asZ} (ho : mP w b cs) (h : off + i.size <= cs.length) {K : asZ -> Prop}
 (hk : K (.agg ((cs.drop off).take i.size).toArray)) : Um P t (.pointer (some ⟨b, off, none⟩)) w K := by
 refine ⟨_, ?_, hk⟩
 simp only [asAddr, loadVar, pure_bind, Sem.run_bind, EO hu, hd, Result.andThen_ok, if_true, kR hi, Qk ho h, Sem.run_pure]
theorem ZH {d : TypeDesc} (hu : P.underlying t = some d) (hd : VR d = false) {b off : Nat} {cs : List asZ} (ho : mP w b cs) {v : asZ} (h : cs[off]? = some v) {K : asZ -> Prop}
 (hk : K v) : Um P t (.pointer (some ⟨b, off, none⟩)) w K := by
 refine ⟨_, ?_, hk⟩
 simp only [asAddr, loadVar, pure_bind, Sem.run_bind, EO hu, hd, Result.andThen_ok, anO, if_false, run_load, ho.cell, h]
theorem Ce {v : asZ} {K : asZ -> asY -> Prop} (hk : ∀ w', mP w' w.heap.size v.cells.toList -> jM w w' mM -> w'.heap.size = w.heap.size + 1 -> K (.pointer (some ⟨w.heap.size, 0, none⟩)) w') :
 gD P (Q7 t v) w K := by
 have : (Q7 t v).run P w = .ok (.value (.pointer (some ⟨w.heap.size, 0, none⟩))) (w.alloc (.cells v.cells.toList.toArray t)) := by
  unfold Q7; rw [rT]
  simp [Instr.box, newVar, newRow]
 unfold gD
 rw [this]
 exact hk _ (mP.alloc _ _ _) (jM.alloc _ _ _) (by simp)
theorem EZ {i : TypeInfo} {z : asZ} (hi : P.info? t = some i) (hz : i.zero = some z) {K : asZ -> asY -> Prop}
 (hk : ∀ w', mP w' w.heap.size z.cells.toList -> jM w w' mM -> w'.heap.size = w.heap.size + 1 -> K (.pointer (some ⟨w.heap.size, 0, none⟩)) w') :
 gD P (pY t) w K := by
 have : (pY t).run P w = .ok (.value (.pointer (some ⟨w.heap.size, 0, none⟩))) (w.alloc (.cells z.cells.toList.toArray t)) := by
  unfold pY; rw [rT]
  simp [Instr.alloc, zeroValue, typeInfo, hi, hz, newVar, newRow]
 unfold gD
 rw [this]
 exact hk _ (mP.alloc _ _ _) (jM.alloc _ _ _) (by simp)
end
theorem yN {P : Program} {w : asY} {k : IntKind} {a : Int} {y : Nat} {code : BoundsCode} (h0 : 0 <= a) (h1 : a <= y) : (Instr.sliceBound (.int k a) y code).run P w = .ok a.toNat w := by
 simp [Instr.sliceBound, asIntOf, h0, h1]
section
variable {P : Program} {w : asY} {t e : TypeId} {k k' : IntKind} {lo hi : Int} {i : TypeInfo}
def nM (x : Option Addr) (m l sz : Nat) : Option Addr := if m = l then x else x.map (·.add (l * sz))
theorem YM (hu : P.underlying t = some (.slice e)) (hi' : P.info? e = some i) (x : Option Addr) (n c : Nat) (h0 : 0 <= lo) (h1 : lo <= n) :
 (lR t (.slice x n c) (some (.int k lo)) none none).run P w = .ok (.value (.slice (nM x c lo.toNat i.size) (n - lo.toNat) (c - lo.toNat))) w := by
 simp only [lR, rT, Instr.sliceAt, underlying, hu, Sem.run_bind, run_program, Result.andThen_ok, Sem.run_pure, Instr.slice, Instr.sliceBounds, pure_bind, yN h0 h1, kR hi', nM]
theorem Qz (hu : P.underlying t = some (.slice e)) (hi' : P.info? e = some i) (x : Option Addr) (n c : Nat) (h0 : 0 <= hi) (h1 : hi <= c) :
 (lR t (.slice x n c) none (some (.int k hi)) none).run P w = .ok (.value (.slice (nM x c 0 i.size) (hi.toNat - 0) (c - 0))) w := by
 simp only [lR, rT, Instr.sliceAt, underlying, hu, Sem.run_bind, run_program, Result.andThen_ok, Sem.run_pure, Instr.slice, Instr.sliceBounds, pure_bind, yN h0 h1, kR hi', nM]
theorem WH (hu : P.underlying t = some (.slice e)) (hi' : P.info? e = some i) (x : Option Addr) (n c : Nat) (h0 : 0 <= lo) (h1 : lo <= hi) (h2 : hi <= c) :
 (lR t (.slice x n c) (some (.int k lo)) (some (.int k' hi)) none).run P w = .ok (.value (.slice (nM x c lo.toNat i.size) (hi.toNat - lo.toNat) (c - lo.toNat))) w := by
 have h3 : (0 : Int) <= hi := by omega
 have h4 : lo <= (hi.toNat : Int) := by omega
 simp only [lR, rT, Instr.sliceAt, underlying, hu, Sem.run_bind, run_program, Result.andThen_ok, Sem.run_pure, Instr.slice, Instr.sliceBounds, pure_bind, yN h3 h2, yN h0 h4, kR hi', nM]
def sT (a : Addr) (m l sz : Nat) : Addr := if m = l then a else a.add (l * sz)
theorem Xp {n : Nat} (hu : P.underlying t = some (.array n e)) (hi' : P.info? e = some i) (x : Addr) (h0 : 0 <= lo) (h1 : lo <= n) :
 (lR t (.pointer (some x)) (some (.int k lo)) none none).run P w = .ok (.value (.slice (some (sT x n lo.toNat i.size)) (n - lo.toNat) (n - lo.toNat))) w := by
 simp only [lR, rT, Instr.sliceAt, Instr.sureAddr, underlying, hu, Sem.run_bind, run_program, Result.andThen_ok, Sem.run_pure, Instr.sliceBounds, pure_bind, yN h0 h1, kR hi', sT]
theorem OG {n : Nat} (hu : P.underlying t = some (.array n e)) (hi' : P.info? e = some i) (x : Addr) (h0 : 0 <= hi) (h1 : hi <= n) :
 (lR t (.pointer (some x)) none (some (.int k hi)) none).run P w = .ok (.value (.slice (some (sT x n 0 i.size)) (hi.toNat - 0) (n - 0))) w := by
 simp only [lR, rT, Instr.sliceAt, Instr.sureAddr, underlying, hu, Sem.run_bind, run_program, Result.andThen_ok, Sem.run_pure, Instr.sliceBounds, pure_bind, yN h0 h1, kR hi', sT]
theorem Ec {n : Nat} (hu : P.underlying t = some (.array n e)) (hi' : P.info? e = some i) (x : Addr) :
 (lR t (.pointer (some x)) none none none).run P w = .ok (.value (.slice (some (sT x n 0 i.size)) (n - 0) (n - 0))) w := by
 simp only [lR, rT, Instr.sliceAt, Instr.sureAddr, underlying, hu, Sem.run_bind, run_program, Result.andThen_ok, Sem.run_pure, Instr.sliceBounds, pure_bind, kR hi', sT]
theorem Qu {n : Nat} (hu : P.underlying t = some (.array n e)) (hi' : P.info? e = some i) (x : Addr) (h0 : 0 <= lo) (h1 : lo <= hi) (h2 : hi <= n) :
 (lR t (.pointer (some x)) (some (.int k lo)) (some (.int k' hi)) none).run P w = .ok (.value (.slice (some (sT x n lo.toNat i.size)) (hi.toNat - lo.toNat) (n - lo.toNat))) w := by
 have h3 : (0 : Int) <= hi := by omega
 have h4 : lo <= (hi.toNat : Int) := by omega
 simp only [lR, rT, Instr.sliceAt, Instr.sureAddr, underlying, hu, Sem.run_bind, run_program, Result.andThen_ok, Sem.run_pure, Instr.sliceBounds, pure_bind, yN h3 h2, yN h0 h4, kR hi', sT]
end
def Sl (w : asY) (v : asZ) (l : List asZ) : Prop :=
 ∃ a n c, v = .slice a n c /\ n = l.length /\ n <= c /\ (0 < n -> ∃ b off, a = some ⟨b, off, none⟩ /\ ∀ i, i < n -> w.cell? ⟨b, off + i, none⟩ = l[i]?)
def KZ (v : asZ) (M : Nat -> Prop) : Prop := match v with | .slice (some a) (_ + 1) _ => M a.block | _ => False
theorem Sl.ext {w w' : asY} {v : asZ} {l : List asZ} {M : Nat -> Prop} (h : Sl w v l) (hx : jM w w' M) (hM : ¬ KZ v M) : Sl w' v l := by
 obtain ⟨a, n, c, rfl, hn, hc, h⟩ := h
 refine ⟨a, n, c, rfl, hn, hc, fun h0 => ?_⟩
 obtain ⟨b, off, rfl, h2⟩ := h h0
 refine ⟨b, off, rfl, fun i hi => ?_⟩
 have h1 := h2 i hi
 obtain ⟨v, hv⟩ : ∃ v, l[i]? = some v := ⟨l[i], by simp⟩
 rw [hv] at h1 ⊢
 refine adK h1 hx ?_
 obtain ⟨m, rfl⟩ : ∃ m, n = m + 1 := ⟨n - 1, by omega⟩
 exact hM
theorem Sl.old {w : asY} {v : asZ} {l : List asZ} (h : Sl w v l) : ¬ KZ v (fun b => w.heap.size <= b) := by
 obtain ⟨a, n, c, rfl, hn, hc, h⟩ := h
 unfold KZ
 split
 .rename_i x m _ e
  obtain ⟨rfl, rfl, rfl⟩ : a = some x /\ n = m + 1 /\ c = _ := by simpa using e
  obtain ⟨b, off, e, h2⟩ := h (by omega)
  have e := aoZ e; subst e
  have h1 := h2 0 (by omega)
  obtain ⟨v, hv⟩ : ∃ v, l[0]? = some v := ⟨l[0], by simp⟩
  rw [hv] at h1
  have := World.block_lt_of_cell? _ _ h1
  simp at this ⊢; omega
 .simp
def pB (x : UInt8) : asZ := .int .u8 x.toNat
abbrev Bs (w : asY) (v : asZ) (l : List UInt8) : Prop := Sl w v (l.map pB)
theorem FM (b o n : Nat) : (⟨b, o, none⟩ : Addr).add n = ⟨b, o + n, none⟩ := by
 unfold Addr.add; split
 .rename_i h; subst h; rfl
 .rfl
section
variable {P : Program} {w : asY} {t e : TypeId} {k : IntKind} {a : Int}
theorem Tc {inf : TypeInfo} {sz : Nat} (hz : inf.size = sz) (hu : P.underlying t = some (.slice e)) (hi : P.info? e = some inf) (b o n c : Nat) (h0 : 0 <= a) (h1 : a < n) :
 (jO t (.slice (some ⟨b, o, none⟩) n c) (.int k a)).run P w = .ok (.value (.pointer (some ⟨b, o + a.toNat * sz, none⟩))) w := by
 rw [XX hu hi _ n c h0 h1, FM, hz]
theorem Pd {inf : TypeInfo} (hz : inf.size = 1) (hu : P.underlying t = some (.slice e)) (hi : P.info? e = some inf) (b o n c : Nat) (h0 : 0 <= a) (h1 : a < n) :
 (jO t (.slice (some ⟨b, o, none⟩) n c) (.int k a)).run P w = .ok (.value (.pointer (some ⟨b, o + a.toNat, none⟩))) w := by
 rw [XX hu hi _ n c h0 h1, FM, hz, apT]
theorem abO {inf : TypeInfo} {sz len : Nat} (hz : inf.size = sz) (hu : P.underlying t = some (.array len e)) (hi : P.info? e = some inf) (b o : Nat) (h0 : 0 <= a) (h1 : a < (len : Int)) :
 (jO t (.pointer (some ⟨b, o, none⟩)) (.int k a)).run P w = .ok (.value (.pointer (some ⟨b, o + a.toNat * sz, none⟩))) w := by
 rw [Xg hu hi _ h0 h1, FM, hz]
theorem Ha {inf : TypeInfo} {len : Nat} (hz : inf.size = 1) (hu : P.underlying t = some (.array len e)) (hi : P.info? e = some inf) (b o : Nat) (h0 : 0 <= a) (h1 : a < (len : Int)) :
 (jO t (.pointer (some ⟨b, o, none⟩)) (.int k a)).run P w = .ok (.value (.pointer (some ⟨b, o + a.toNat, none⟩))) w := by
 rw [Xg hu hi _ h0 h1, FM, hz, apT]
end
section
variable {P : Program} {w : asY} {s d e : TypeId}
theorem afS (hs : P.underlying s = some (.slice e)) (hd : P.underlying d = some .string) (he : P.underlying e = some (.int .u8)) {l : List UInt8} {v : asZ} (h : Bs w v l) :
 (nL s d v).run P w = .ok (.value (.string ⟨l.toArray⟩)) w := by
 obtain ⟨a, n, c, rfl, hn, hc, h⟩ := h
 simp only [anV] at hn
 unfold nL
 rw [rT]
 have key : (convert s d (.slice a n c)).run P w = .ok (.string ⟨l.toArray⟩) w := by
  cases a with
  | none =>
    have hl : l = [] := by
     cases l with
     | nil => rfl
     | cons x l => obtain ⟨b, off, e, _⟩ := h (by rw [hn]; simp); cases e
    subst hl
    rw [run_convert_bytes_string w s d e none n c hs he hd]
    rfl
  | some x =>
    subst hn
    refine run_convert_bytes_back w s d e x c l hs he hd fun j hj => ?_
    obtain ⟨b, off, hx, h2⟩ := h (by omega)
    have hx := aoZ hx
    subst hx
    rw [FM, h2 j hj]
    simp [pB, hj]
 rw [key] <;> rfl
end
theorem DE (l : List UInt8) : ∀ x ∈ l.map pB, one x = true := by
 intro x hx
 obtain ⟨c, _, rfl⟩ := apM.1 hx
 rfl
theorem Z3 {b o m l sz : Nat} (h : l ≠ m) : sT ⟨b, o, none⟩ m l sz = ⟨b, o + l * sz, none⟩ := by
 unfold sT; rw [if_neg (fun e => h e.symm), FM]
theorem Rd {b o m l : Nat} (h : l ≠ m) : sT ⟨b, o, none⟩ m l 1 = ⟨b, o + l, none⟩ := by rw [Z3 h, apT]
theorem Sl.drop {w : asY} {b o n c : Nat} {l : List asZ} (h : Sl w (.slice (some ⟨b, o, none⟩) n c) l) {k : Nat} (hk : k <= n) :
 Sl w (.slice (nM (some ⟨b, o, none⟩) c k 1) (n - k) (c - k)) (l.drop k) := by
 obtain ⟨x, m, c', e, hm, hc, hh⟩ := h
 cases e
 refine ⟨_, _, _, rfl, by rw [aoN]; omega, by omega, fun h0 => ?_⟩
 obtain ⟨b', o', e, h2⟩ := hh (by omega)
 cases e
 have hne : ¬ c = k := by omega
 refine ⟨b, o + k, by unfold nM; rw [if_neg hne, aoW, FM, apT], fun i hi => ?_⟩
 rw [aqY, h2 (k + i) (by omega), arH]
theorem Sl.take {w : asY} {b o n c : Nat} {l : List asZ} (h : Sl w (.slice (some ⟨b, o, none⟩) n c) l) {k : Nat} (hk : k <= n) :
 Sl w (.slice (nM (some ⟨b, o, none⟩) c 0 1) (k - 0) (c - 0)) (l.take k) := by
 obtain ⟨x, m, c', e, hm, hc, hh⟩ := h
 cases e
 refine ⟨_, _, _, rfl, by rw [aoL]; omega, by omega, fun h0 => ?_⟩
 obtain ⟨b', o', e, h2⟩ := hh (by omega)
 cases e
 have hne : ¬ c = 0 := by omega
 refine ⟨b, o, by unfold nM; rw [if_neg hne, aoW, FM] <;> rfl, fun i hi => ?_⟩
 rw [h2 i (by omega), apO (by omega)]
theorem aaO {b o n c k : Nat} {M : Nat -> Prop} (h : ¬ KZ (.slice (some ⟨b, o, none⟩) n c) M) (hn : 0 < n) (m : Nat) : ¬ KZ (.slice (nM (some ⟨b, o, none⟩) c k 1) m (c - k)) M := by
 have hb : ¬ M b := by
  obtain ⟨n', rfl⟩ : ∃ n', n = n' + 1 := ⟨n - 1, by omega⟩
  exact h
 unfold KZ nM
 split
 .rename_i x q _ e
  simp only [Value.slice.injEq] at e
  obtain ⟨e, _, _⟩ := e
  split at e
  .cases e; exact hb
  .rw [aoW, FM] at e; cases e; exact hb
 .simp
theorem mP.bs {w : asY} {b off c : Nat} {cs : List asZ} {l : List UInt8} (h : mP w b cs) (hc : l.length <= c) (hl : ∀ i (hi : i < l.length), cs[off + i]? = some (pB l[i])) : Bs w (.slice (some ⟨b, off, none⟩) l.length c) l :=
 ⟨_, _, _, rfl, by simp, hc, fun _ => ⟨b, off, rfl, fun i hi => by rw [h.cell, hl i hi]; simp [hi]⟩⟩
section
variable {P : Program} {w : asY} {t e : TypeId} {k : IntKind} {a : Int}
theorem ajP {len : Nat} {d : TypeDesc} {i : TypeInfo} (hu : P.underlying t = some (.array len e)) (hd : P.underlying e = some d) (ha : VR d = false) (hi : P.info? e = some i) (h1 : i.size = 1)
 (cs : Array asZ) (h0 : 0 <= a) (hl : a < (len : Int)) {v : asZ} (hv : cs[a.toNat]? = some v) : (PU t (.agg cs) (.int k a)).run P w = .ok (.value v) w := by
 unfold PU
 rw [rT]
 simp only [Instr.index, asIntOf, pure_bind, underlying, hu, Sem.run_bind, run_program, Result.andThen_ok, Sem.run_pure, h0, hl, and_self, if_true, kR hi, h1, apT, part, EO hd, ha, anO, if_false, hv]
def aeN (P : Program) (t : TypeId) (cs : Array asZ) (k : IntKind) (a : Int) (w : asY) : Result Next := (PU t (.agg cs) (.int k a)).run P w
theorem WE {len : Nat} {d : TypeDesc} {i : TypeInfo} (hu : P.underlying t = some (.array len e)) (hd : P.underlying e = some d) (ha : VR d = false) (hi : P.info? e = some i) (h1 : i.size = 1)
 (cs : Array asZ) (h0 : 0 <= a) (hl : a < (len : Int)) : (PU t (.agg cs) (.int k a)).run P w = VX cs[a.toNat]? w (aeN P t cs k a w) := by
 cases hv : cs[a.toNat]? with
 | none => rfl
 | some v => exact ajP hu hd ha hi h1 cs h0 hl hv
theorem Sf {b off : Nat} {l : List asZ} (h : ∀ i, i < l.length -> w.cell? ⟨b, off + i, none⟩ = l[i]?) (n : Nat) (hn : n <= l.length) :
 (loadCells ⟨b, off, none⟩ n).run P w = .ok (l.take n).toArray w := by
 have key : ∀ (m i : Nat) (acc : Array asZ), i + m <= l.length -> (loadCellsFrom ⟨b, off, none⟩ i m acc).run P w = .ok (acc ++ ((l.drop i).take m).toArray) w := by
  intro m
  induction m with
  | zero => intro i acc _; simp [loadCellsFrom]
  | succ m ih =>
    intro i acc hm
    have hc := h i (by omega)
    rw [anX (by omega)] at hc
    simp only [loadCellsFrom, Sem.run_bind, run_load, FM, hc, Result.andThen_ok]
    rw [ih (i + 1) _ (by omega), aqA (by omega : i < l.length), List.take_succ_cons]
    simp
 unfold loadCells
 rw [key n 0 #[] (by omega)]
 simp
theorem VQ {sz n : Nat} {v : asZ} {l : List asZ} (h1 : sz = 1) (h : Sl w v l) (hn : n <= l.length) : (Builtin.firstCells sz n v).run P w = .ok (l.take n).toArray w := by
 subst h1
 obtain ⟨x, m, c, rfl, hm, hc, hh⟩ := h
 cases x with
 | none =>
   have : l = [] := by
    cases l with
    | nil => rfl
    | cons y l => obtain ⟨b, off, e, _⟩ := hh (by rw [hm]; simp); cases e
   subst this
   simp [Builtin.firstCells]
 | some x =>
   simp only [Builtin.firstCells, apT]
   by_cases h0 : 0 < m
   .obtain ⟨b, off, e, h2⟩ := hh h0
    have e := aoZ e; subst e
    exact Sf (fun i hi => h2 i (by omega)) n hn
   .have h00 : n = 0 := by omega
    subst h00
    simp [loadCells, loadCellsFrom]
theorem ajC {v : asZ} {l : List asZ} (h : Sl w v l) : (Builtin.lenOf v).run P w = .ok l.length w := by
 obtain ⟨x, m, c, rfl, hm, hc, hh⟩ := h
 simp [Builtin.lenOf, hm]
theorem afK {ty t2 : TypeId} {i : TypeInfo} (hu : P.underlying t = some (.slice e)) (hi : P.info? e = some i) (h1 : i.size = 1) {b off dl c : Nat} {cs : List asZ} (ho : mP w b cs) (hl : off + dl <= cs.length)
 {v : asZ} {l : List asZ} (h : Sl w v l) (hv : ∀ x ∈ l, one x = true) {K : asZ -> asY -> Prop}
 (hk : ∀ w', mP w' b (qM cs off (l.take (min l.length dl))) -> jM w w' (fun x => x = b) -> w'.heap.size = w.heap.size -> K (.int .i64 (min l.length dl : Nat)) w') :
 gD P (oF .copy #[t, t2] ty [.slice (some ⟨b, off, none⟩) dl c, v]) w K := by
 have hlen : (l.take (min l.length dl)).length = min l.length dl := by rw [aoL]; omega
 obtain ⟨w', s1, s2, s3, s4, _⟩ := D5 (P := P) (M := fun x => x = b) rfl (l.take (min l.length dl)) w off 0 cs ho (by rw [hlen]; omega) (fun x hx => hv x (apX hx))
 have : (oF .copy #[t, t2] ty [.slice (some ⟨b, off, none⟩) dl c, v]).run P w = .ok (.value (.int .i64 (min l.length dl : Nat))) w' := by
  unfold oF builtin
  simp only [Builtin.copy_, apR, anM, anN]
  simp only [underlying, Sem.run_bind, run_program, Result.andThen_ok, hu, Sem.run_pure, ajC h, kR hi, h1]
  have := VQ (P := P) (n := min l.length dl) rfl h (Nat.min_le_left _ _)
  rw [show (Nat.min l.length dl) = min l.length dl from rfl, this]
  simp only [Result.andThen_ok, s1, goInt]
 unfold gD
 rw [this]
 exact hk w' (by simpa using s2) s3 s4
theorem Yg {i : TypeInfo} {z : asZ} (hu : P.underlying t = some (.slice e)) (hi : P.info? e = some i) (h1 : i.size = 1) (hz : i.zero = some z) (hz1 : one z = true) {n : Int} (h0 : 0 <= n) (hn : i.bytes * n <= 2 ^ 48) (hn2 : n <= 9223372036854775807)
 {K : asZ -> asY -> Prop}
 (hk : ∀ w', mP w' w.heap.size (List.replicate n.toNat z) -> jM w w' mM -> w'.heap.size = w.heap.size + 1 -> K (.slice (some ⟨w.heap.size, 0, none⟩) n.toNat n.toNat) w') :
 gD P (tW t (.int k n) (.int k n)) w K := by
 have hw : IntKind.i64.wrap n = n := gZ (by omega) hn2
 have hcells : z.cells = #[z] := Wa hz1
 have harr : (Array.range n.toNat).map (fun j => (#[z] : Array asZ)[j % (#[z] : Array asZ).size]!) = (List.replicate n.toNat z).toArray := by
  apply Array.ext
  .simp
  .intro j h1 h2; simp [Nat.mod_one]
 have hz' : (zeroValue e).run P w = .ok z w := by simp [zeroValue, typeInfo, hi, hz]
 have : (tW t (.int k n) (.int k n)).run P w = .ok (.value (.slice (some ⟨w.heap.size, 0, none⟩) n.toNat n.toNat)) (w.alloc (.cells (List.replicate n.toNat z).toArray e)) := by
  unfold tW
  rw [rT]
  have t1 : (decide (n < 0) || decide ((i.bytes : Int) * n > 2 ^ 48) || decide (n < 0) || decide (n > n)) = false := by
   simp only [arU, decide_eq_false_iff_not]; omega
  by_cases hn0 : n.toNat = 0
  .simp only [Instr.makeSlice, underlying, typeInfo, asInt, asIntOf, pure_bind, Sem.run_bind, run_program, Result.andThen_ok, hu, hi, Sem.run_pure, hw, t1, anO, if_false, run_askRoom, kR hi, h1, apT, hn0, if_true, newRow, run_newObj]
   have : (Array.range 0).map (fun x => (#[] : Array asZ)[x % (#[] : Array asZ).size]!) = (List.replicate 0 z).toArray := by simp
   rw [this]
   rfl
  .simp only [Instr.makeSlice, underlying, typeInfo, asInt, asIntOf, pure_bind, Sem.run_bind, run_program, Result.andThen_ok, hu, hi, Sem.run_pure, hw, t1, anO, if_false, run_askRoom, kR hi, h1, apT, hn0, hz', hcells, newRow, run_newObj, harr]
   rfl
 unfold gD
 rw [this]
 exact hk _ (mP.alloc _ _ _) (jM.alloc _ _ _) (by simp)
end
def Cl (w : asY) (sz : Nat) (v : asZ) (n : Nat) (l : List asZ) : Prop :=
 ∃ a c, v = .slice a n c /\ l.length = n * sz /\ (0 < n -> ∃ b off, a = some ⟨b, off, none⟩ /\ ∀ i, i < l.length -> w.cell? ⟨b, off + i, none⟩ = l[i]?)
def xH (w : asY) (base sz : Nat) (v : asZ) (n : Nat) (l : List asZ) : Prop :=
 l.length = n * sz /\ ((v = .slice none 0 0 /\ n = 0) ∨
   ∃ b c rest, v = .slice (some ⟨b, 0, none⟩) n c /\ base <= b /\ mP w b (l ++ rest) /\ (l ++ rest).length = c * sz /\ n <= c)
def LI (w : asY) (S : Nat -> Prop) (sz : Nat) (v : asZ) (n : Nat) (l : List asZ) : Prop :=
 l.length = n * sz /\ ((v = .slice none 0 0 /\ n = 0) ∨
   ∃ b c rest, v = .slice (some ⟨b, 0, none⟩) n c /\ S b /\ mP w b (l ++ rest) /\ (l ++ rest).length = c * sz /\ n <= c)
theorem Sl.cl {w : asY} {v : asZ} {l : List asZ} (h : Sl w v l) : Cl w 1 v l.length l := by
 obtain ⟨a, n, c, rfl, rfl, hc, h⟩ := h
 exact ⟨a, c, rfl, by omega, fun h0 => h h0⟩
theorem mP.cl {w : asY} {b sz n c off : Nat} {cs l : List asZ} (h : mP w b cs) (hl : l.length = n * sz) (hcs : ∀ i, i < l.length -> cs[off + i]? = l[i]?) : Cl w sz (.slice (some ⟨b, off, none⟩) n c) n l :=
 ⟨_, _, rfl, hl, fun _ => ⟨b, off, rfl, fun i hi => by rw [h.cell, hcs i hi]⟩⟩
theorem xH.nil (w : asY) (base sz : Nat) : xH w base sz (.slice none 0 0) 0 [] := ⟨by simp, .inl ⟨rfl, rfl⟩⟩
theorem xH.ext {w w' : asY} {base sz n : Nat} {v : asZ} {l : List asZ} {M : Nat -> Prop} (h : xH w base sz v n l) (hx : jM w w' M) (hM : ∀ b, base <= b -> ¬ M b) : xH w' base sz v n l := by
 refine ⟨h.1, ?_⟩
 rcases h.2 with h2 | ⟨b, c, rest, h1, h2, h3, h4, h5⟩
 .exact .inl h2
 .exact .inr ⟨b, c, rest, h1, h2, h3.ext hx (hM b h2), h4, h5⟩
theorem xH.cl {w : asY} {base sz n : Nat} {v : asZ} {l : List asZ} (h : xH w base sz v n l) : Cl w sz v n l := by
 rcases h.2 with ⟨rfl, rfl⟩ | ⟨b, c, rest, rfl, h2, h3, h4, h5⟩
 .exact ⟨_, _, rfl, h.1, fun h => by omega⟩
 .refine ⟨_, _, rfl, h.1, fun _ => ⟨b, 0, rfl, fun i hi => ?_⟩⟩
  rw [h3.cell, anS, aoI hi]
theorem xH.sl {w : asY} {base n : Nat} {v : asZ} {l : List asZ} (h : xH w base 1 v n l) : Sl w v l := by
 have hl := h.1
 rcases h.2 with ⟨rfl, rfl⟩ | ⟨b, c, rest, rfl, h2, h3, h4, h5⟩
 .exact ⟨_, _, _, rfl, by omega, by omega, fun h => by omega⟩
 .refine ⟨_, _, _, rfl, by omega, h5, fun _ => ⟨b, 0, rfl, fun i hi => ?_⟩⟩
  rw [h3.cell, anS, aoI (by omega)]
section
variable {P : Program} {w : asY} {t e : TypeId}
theorem Ro {b off : Nat} {l : List asZ} (h : ∀ i, i < l.length -> w.cell? ⟨b, off + i, none⟩ = l[i]?) : (loadCells ⟨b, off, none⟩ l.length).run P w = .ok l.toArray w := by
 have := Sf (P := P) h l.length (aoA _)
 rwa [arV] at this
theorem B7 {sz n : Nat} {v : asZ} {l : List asZ} (h : Cl w sz v n l) : (Builtin.firstCells sz n v).run P w = .ok l.toArray w := by
 obtain ⟨x, c, rfl, hl, hh⟩ := h
 cases x with
 | none =>
   have : n = 0 := by
    rcases aqP n with h | h
    .exact h
    .obtain ⟨b, off, e, _⟩ := hh h; cases e
   subst this
   have : l = [] := apE.1 (by omega)
   subst this
   simp [Builtin.firstCells]
 | some x =>
   simp only [Builtin.firstCells]
   rw [<- hl]
   by_cases h0 : 0 < n
   .obtain ⟨b, off, e, h2⟩ := hh h0
    have e := aoZ e; subst e
    exact Ro h2
   .have : n = 0 := by omega
    subst this
    have : l = [] := apE.1 (by omega)
    subst this
    simp [loadCells, loadCellsFrom]
theorem vK (zs : Array asZ) (n : Nat) : (Builtin.zeroCells zs n).size = n * zs.size := by simp [Builtin.zeroCells]
theorem Qw (vs : List asZ) : ∀ (anL rest : List asZ), vs.length <= rest.length -> qM (anL ++ rest) anL.length vs = anL ++ vs ++ rest.drop vs.length := by
 induction vs with
 | nil => intro anL rest _; simp [qM]
 | cons v vs ih =>
   intro anL rest h
   cases rest with
   | nil => simp at h
   | cons r rest =>
     have := ih (anL ++ [v]) rest (by simpa using h)
     simp only [qM, anW, aoG, List.length_nil, aoU, aqM, apL] at this ⊢
     rw [List.drop_succ_cons, <- this, apS _ _ (aoA _), arO, aoK, anS]
theorem X2 {S : Nat -> Prop} {sz n m : Nat} {i : TypeInfo} {z : asZ} {ty t2 e2 : TypeId} (hu : P.underlying t = some (.slice e)) (hu2 : P.underlying t2 = some (.slice e2)) (hi : P.info? e = some i) (hsz : i.size = sz) (hz : i.zero = some z) (hzs : z.cells.size = sz)
 {v x : asZ} {l news : List asZ} (h : LI w S sz v n l) (hx : Cl w sz x m news) (hone : ∀ y ∈ news, one y = true) (hb : ∀ b, w.heap.size <= b -> S b)
 (hn : n + m <= 9223372036854775807) (hbytes : (n + m) * i.bytes <= 140737488355328) (_hpos : i.bytes ≠ 0)
 {K : asZ -> asY -> Prop} (hk : ∀ v' w', LI w' S sz v' (n + m) (l ++ news) -> jM w w' S -> Cl w' sz v n l -> K v' w') : gD P (oF .append #[t, t2] ty [v, x]) w K := by
 have hlx : (Builtin.lenOf x).run P w = .ok m w := by
  obtain ⟨a, c, rfl, _⟩ := hx; simp [Builtin.lenOf]
 have hnl := hx.choose_spec.choose_spec.2.1
 have hfx := B7 (P := P) hx
 have hmax : IntKind.i64.max = 9223372036854775807 := by decide
 have hnot : ¬ (((n + m : Nat) : Int) > IntKind.i64.max /\ (False ∨ i.bytes = 0)) := by rw [hmax]; omega
 have hz' : ∀ w, (zeroValue e).run P w = .ok z w := fun w => by simp [zeroValue, typeInfo, hi, hz]
 have hlen := h.1
 rcases h.2 with ⟨rfl, rfl⟩ | ⟨b, c, rest, rfl, h2, h3, h4, h5⟩
 .
  have hl0 : l = [] := apE.1 (by omega)
  subst hl0
  by_cases hm : m = 0
  .subst hm
   have hn0 : news = [] := apE.1 (by omega)
   subst hn0
   have : (oF .append #[t, t2] ty [.slice none 0 0, x]).run P w = .ok (.value (.slice none 0 0)) w := by
    unfold oF builtin
    simp only [Builtin.append_, apR, anM, anN]
    simp only [underlying, Sem.run_bind, run_program, Result.andThen_ok, hu, hu2, Sem.run_pure, kR hi, hsz, anO, if_false, hlx, aoA, apI, if_true, anT, hfx]
   unfold gD
   rw [this]
   exact hk _ _ ⟨by simp, .inl ⟨rfl, by omega⟩⟩ (jM.refl _ _) ⟨none, 0, rfl, hlen, fun h => absurd h (by omega)⟩
  .have hfit := growslice_fits (need := 0 + m) (old := 0) (bytes := i.bytes) (by omega) (by omega)
   have hfit' : ¬ (Builtin.nextslicecap (0 + m) 0 * i.bytes > 2 ^ 48) := by omega
   have hle : ¬ (0 + m <= 0) := by omega
   have hq : (Question.appendCap (0 + m) 0 e).forced = false := rfl
   obtain ⟨r, hr⟩ : ∃ r, (Question.appendCap (0 + m) 0 e).cut (w.tape w.drawn (.appendCap (0 + m) 0 e)) = m + r :=
    ⟨(w.tape w.drawn (.appendCap (0 + m) 0 e)) % (2 ^ 63 - (0 + m)), by simp only [Question.cut]; omega⟩
   have : (oF .append #[t, t2] ty [.slice none 0 0, x]).run P w = .ok (.value (.slice (some ⟨w.heap.size, 0, none⟩) (0 + m) (m + r))) ((dr w).alloc (.cells (news ++ (Builtin.zeroCells z.cells (m + r - (0 + m))).toList).toArray e)) := by
    have hfx' := B7 (P := P) (w := dr w) hx
    unfold oF builtin
    simp only [Builtin.append_, apR, anM, anN]
    simp only [underlying, typeInfo, Sem.run_bind, run_program, Result.andThen_ok, hu, hu2, hi, Sem.run_pure, kR hi, hsz, anO, if_false, hlx, hle, anT, if_true, hnot, hfit', run_choose, hq, hr, run_askRoom]
    change ((Sem.run P _ (dr w)).andThen _).andThen _ = _
    simp only [Sem.run_bind, hfx', run_firstCells_none, Result.andThen_ok, hz', Sem.run_pure, newRow, run_newObj]
    have e1 : (#[] ++ news.toArray ++ Builtin.zeroCells z.cells (m + r - (0 + m)) : Array asZ) = (news ++ (Builtin.zeroCells z.cells (m + r - (0 + m))).toList).toArray := by
     apply Array.ext'; simp
    rw [e1]
    rfl
   unfold gD
   rw [this]
   refine hk _ _ ⟨by simp only [apL]; rw [hnl, anS], .inr ⟨w.heap.size, m + r, (Builtin.zeroCells z.cells (m + r - (0 + m))).toList, by rw [anS], hb _ (aoA _), mP.alloc (dr w) _ _, ?_, by omega⟩⟩ ((jM.dr w _).seq (jM.alloc _ _ _)) ⟨none, 0, rfl, hlen, fun h => absurd h (by omega)⟩
   simp only [apL, anW, aqU, vK, hzs, hnl]
   rw [show m + r - (0 + m) = r from by omega, apG]
 .by_cases hc : n + m <= c
  .
   have hroom : news.length <= rest.length := by
    rw [anW, hlen] at h4
    have : (n + m) * sz <= c * sz := aoQ _ hc
    rw [apG] at this; omega
   obtain ⟨w', s1, s2, s3, s4, _⟩ := D5 (P := P) (M := S) h2 news w (n * sz) 0 (l ++ rest) h3 (by rw [anW, hlen]; omega) hone
   have : (oF .append #[t, t2] ty [.slice (some ⟨b, 0, none⟩) n c, x]).run P w = .ok (.value (.slice (some ⟨b, 0, none⟩) (n + m) c)) w' := by
    unfold oF builtin
    simp only [Builtin.append_, apR, anM, anN]
    simp only [underlying, Sem.run_bind, run_program, Result.andThen_ok, hu, hu2, Sem.run_pure, kR hi, hsz, anO, if_false, hlx, hc, if_true, anT, hfx, FM, anS, s1]
   unfold gD
   rw [this]
   rw [apI, <- hlen, Qw _ _ _ hroom] at s2
   refine hk _ _ ⟨by rw [anW, hlen, hnl, apG], .inr ⟨b, c, rest.drop news.length, rfl, h2, s2, ?_, hc⟩⟩ s3 ⟨_, _, rfl, hlen, fun _ => ⟨b, 0, rfl, fun i hi => by
    rw [s2.cell, anS, aoU, aoI hi]⟩⟩
   rw [<- h4]; simp; omega
  .
   have hfit := growslice_fits (need := n + m) (old := c) (bytes := i.bytes) (by omega) hbytes
   have hfit' : ¬ (Builtin.nextslicecap (n + m) c * i.bytes > 2 ^ 48) := by omega
   have hq : (Question.appendCap (n + m) c e).forced = false := rfl
   obtain ⟨r, hr⟩ : ∃ r, (Question.appendCap (n + m) c e).cut (w.tape w.drawn (.appendCap (n + m) c e)) = n + m + r :=
    ⟨(w.tape w.drawn (.appendCap (n + m) c e)) % (2 ^ 63 - (n + m)), by simp only [Question.cut]⟩
   have hold : Cl (dr w) sz (.slice (some ⟨b, 0, none⟩) n c) n l := ⟨_, _, rfl, hlen, fun _ => ⟨b, 0, rfl, fun i hi => by
    show w.cell? _ = _
    rw [h3.cell, anS, aoI hi]⟩⟩
   have : (oF .append #[t, t2] ty [.slice (some ⟨b, 0, none⟩) n c, x]).run P w = .ok (.value (.slice (some ⟨w.heap.size, 0, none⟩) (n + m) (n + m + r))) ((dr w).alloc (.cells (l ++ news ++ (Builtin.zeroCells z.cells (n + m + r - (n + m))).toList).toArray e)) := by
    have hfx' := B7 (P := P) (w := dr w) hx
    have hfo := B7 (P := P) hold
    unfold oF builtin
    simp only [Builtin.append_, apR, anM, anN]
    simp only [underlying, typeInfo, Sem.run_bind, run_program, Result.andThen_ok, hu, hu2, hi, Sem.run_pure, kR hi, hsz, anO, if_false, hlx, hc, anT, if_true, hnot, hfit', run_choose, hq, hr, run_askRoom]
    change ((Sem.run P _ (dr w)).andThen _).andThen _ = _
    simp only [Sem.run_bind, hfx', hfo, Result.andThen_ok, hz', Sem.run_pure, newRow, run_newObj]
    have e1 : (l.toArray ++ news.toArray ++ Builtin.zeroCells z.cells (n + m + r - (n + m)) : Array asZ) = (l ++ news ++ (Builtin.zeroCells z.cells (n + m + r - (n + m))).toList).toArray := by
     apply Array.ext'; simp
    rw [e1]
    rfl
   unfold gD
   rw [this]
   refine hk _ _ ⟨by rw [anW, hlen, hnl, apG], .inr ⟨w.heap.size, n + m + r, _, rfl, hb _ (aoA _), mP.alloc (dr w) _ _, ?_, by omega⟩⟩ ((jM.dr w _).seq (jM.alloc _ _ _)) ⟨_, _, rfl, hlen, fun _ => ⟨b, 0, rfl, fun i hi => by
    have o9 := h3.ext ((jM.dr w mM).seq (jM.alloc (dr w) (.cells (l ++ news ++ (Builtin.zeroCells z.cells (n + m + r - (n + m))).toList).toArray e) mM)) (fun h => h)
    rw [o9.cell, anS, aoI hi]⟩⟩
   simp only [anW, aqU, vK, hzs, hnl, hlen]
   rw [show n + m + r - (n + m) = r from by omega, apG, apG]
theorem Aq {S : Nat -> Prop} {sz n m : Nat} {i : TypeInfo} {z : asZ} {ty t2 e2 : TypeId} (hu : P.underlying t = some (.slice e)) (hu2 : P.underlying t2 = some (.slice e2)) (hi : P.info? e = some i) (hsz : i.size = sz) (hz : i.zero = some z) (hzs : z.cells.size = sz)
 {v x : asZ} {l news : List asZ} (h : LI w S sz v n l) (hx : Cl w sz x m news) (hone : ∀ y ∈ news, one y = true) (hb : ∀ b, w.heap.size <= b -> S b)
 (hn : n + m <= 9223372036854775807) (hbytes : (n + m) * i.bytes <= 140737488355328) (_hpos : i.bytes ≠ 0)
 {K : asZ -> asY -> Prop} (hk : ∀ v' w', LI w' S sz v' (n + m) (l ++ news) -> jM w w' S -> K v' w') : gD P (oF .append #[t, t2] ty [v, x]) w K :=
 X2 hu hu2 hi hsz hz hzs h hx hone hb hn hbytes _hpos fun v' w' a b _ => hk v' w' a b
theorem UW {base sz n m : Nat} {i : TypeInfo} {z : asZ} {ty t2 e2 : TypeId} (hu : P.underlying t = some (.slice e)) (hu2 : P.underlying t2 = some (.slice e2)) (hi : P.info? e = some i) (hsz : i.size = sz) (hz : i.zero = some z) (hzs : z.cells.size = sz)
 {v x : asZ} {l news : List asZ} (h : xH w base sz v n l) (hx : Cl w sz x m news) (hone : ∀ y ∈ news, one y = true) (hb : base <= w.heap.size)
 (hn : n + m <= 9223372036854775807) (hbytes : (n + m) * i.bytes <= 140737488355328) (_hpos : i.bytes ≠ 0)
 {K : asZ -> asY -> Prop} (hk : ∀ v' w', xH w' base sz v' (n + m) (l ++ news) -> jM w w' (fun y => base <= y) -> K v' w') : gD P (oF .append #[t, t2] ty [v, x]) w K :=
 Aq (S := fun y => base <= y) hu hu2 hi hsz hz hzs h hx hone (fun _ h => apN hb h) hn hbytes _hpos hk
end
section
variable {P : Program} {w : asY} {t e : TypeId}
theorem QB {i : TypeInfo} {z : asZ} {n : Nat} {ps : List (Nat × asZ)} {cells : Array asZ} (hu : P.underlying t = some (.slice e)) (hi : P.info? e = some i) (hz : i.zero = some z)
 (h1 : ¬ n * i.size > 2 ^ 24) (h0 : ¬ n * i.size = 0) (hf : Instr.fill (fun j => some (j * i.size, i.size)) ((Array.range (n * i.size)).map (z.cells[· % z.cells.size]!)) ps = some cells)
 {K : asZ -> asY -> Prop} (hk : ∀ w', mP w' w.heap.size cells.toList -> jM w w' mM -> w'.heap.size = w.heap.size + 1 -> K (.slice (some ⟨w.heap.size, 0, none⟩) n n) w') :
 gD P (lI t n ps) w K := by
 have hz' : (zeroValue e).run P w = .ok z w := by simp [zeroValue, typeInfo, hi, hz]
 have : (lI t n ps).run P w = .ok (.value (.slice (some ⟨w.heap.size, 0, none⟩) n n)) (w.alloc (.cells cells.toList.toArray e)) := by
  unfold lI; rw [rT]
  simp only [Instr.buildSlice, underlying, pure_bind, Sem.run_bind, run_program, Result.andThen_ok, hu, Sem.run_pure, kR hi, h1, h0, if_false, hz', hf, newRow, run_newObj]
  rfl
 unfold gD
 rw [this]
 exact hk _ (mP.alloc _ _ _) (jM.alloc _ _ _) (by simp)
theorem mP.mark {b : Nat} {cs : List asZ} (h : mP w b cs) : mP (w.freeze ⟨b, cs.length, none⟩ 1) b cs := by
 have hb := h.lt
 obtain ⟨T, lo, hi, h, k⟩ := h
 by_cases hlh : (lo == hi) = true
 .refine ⟨T, cs.length, cs.length + 1, ?_, .inl (aoA _)⟩
  show (w.heap.modify b _)[b]? = _
  rw [aqO, if_pos rfl, h]
  have hlh : lo = hi := by simpa using hlh
  simp [hlh]
 .refine ⟨T, min lo cs.length, max hi (cs.length + 1), ?_, .inl ?_⟩
  .show (w.heap.modify b _)[b]? = _
   rw [aqO, if_pos rfl, h]
   have hlh : ¬ lo = hi := by simpa using hlh
   simp [hlh]
  .rcases k with k | k
   .omega
   .exfalso; apply hlh; rw [k]; simp
theorem jM.mark (w : asY) (a : Addr) : jM w (w.freeze a 1) (fun y => y = a.block) :=
 ⟨rfl, rfl, rfl, by show _ <= (w.heap.modify _ _).size; simp, fun b hb hn => by
  show (w.heap.modify a.block _)[b]? = _
  rw [aqO]
  rw [if_neg (fun h => hn h.symm)]⟩
end
section
variable {P : Program} {w : asY} {t e : TypeId}
theorem Vs {d : TypeDesc} (he : P.underlying e = some d) (hd : VR d = false) {cs : Array asZ} {k : Nat} {v : asZ} (h : cs[k]? = some v) : (part e cs k).run P w = .ok v w := by
 unfold part
 simp only [Sem.run_bind, EO he, hd, Result.andThen_ok, anO, if_false, h, Sem.run_pure]
theorem ZL {a b : UInt8} : (((a.toNat : Int)) == (b.toNat : Int)) = decide (a = b) := by
 rw [Bool.eq_iff_iff]
 simp only [<- UInt8.toNat_inj, beq_iff_eq, decide_eq_true_eq]
 omega
theorem Yz {i : TypeInfo} (m n : Nat) (hu : P.underlying t = some (.array n e)) (he : P.underlying e = some (.int .u8)) (hi : P.info? e = some i) (h1 : i.size = 1) (l l' : List UInt8) (hl : l.length = n) (hl' : l'.length = n) :
 (Op.equalIn (m + 2) t (.agg (l.map pB).toArray) (.agg (l'.map pB).toArray)).run P w = .ok (decide (l = l')) w := by
 unfold Op.equalIn
 simp only [underlying, Sem.run_bind, run_program, Result.andThen_ok, hu, Sem.run_pure, kR hi, Std.Legacy.Range.forIn_eq_forIn_range', Std.Legacy.Range.size, arP, Nat.add_one_sub_one, Nat.div_one, h1, apT]
 have key : ∀ (c k : Nat), k + c = n -> l.take k = l'.take k →
     ∃ r, (forIn (List.range' k c) (none, ()) fun (i : Nat) (_ : Option Bool × Unit) => (do
           let a <- part e (List.map pB l).toArray i
           let b <- part e (List.map pB l').toArray i
           let c <- Op.equalIn (m + 1) e a b
           if (!c) = true then pure (ForInStep.done (some false, ())) else pure (ForInStep.yield (none, ())) : Sem (ForInStep (Option Bool × Unit)))).run P w = .ok (r, ()) w /\ r.getD true = decide (l = l') := by
  intro c
  induction c with
  | zero =>
    intro k hk ht
    refine ⟨none, by simp, ?_⟩
    have : l = l' := by
     rw [aoF (by omega), aoF (by omega)] at ht; exact ht
    simp [this]
  | succ c ih =>
    intro k hk ht
    have g : ∀ (q : List UInt8) (h : k < q.length), (q.map pB).toArray[k]? = some (pB q[k]) := fun q h => by simp [h]
    have hv : (Op.equalIn (m + 1) e (pB (l[k]'(by omega))) (pB (l'[k]'(by omega)))).run P w = .ok (decide (l[k]'(by omega) = l'[k]'(by omega))) w := by
     unfold Op.equalIn pB
     simp only [underlying, Sem.run_bind, run_program, Result.andThen_ok, he, Sem.run_pure, if_true, ZL]
    rw [List.range'_succ]
    simp only [List.forIn_cons, Sem.run_bind, Vs he rfl (g l (by omega)), Vs he rfl (g l' (by omega)), Result.andThen_ok, hv]
    by_cases hx : l[k]'(by omega) = l'[k]'(by omega)
    .simp only [hx, decide_true, anU, anO, if_false, Sem.run_pure, Result.andThen_ok]
     refine ih (k + 1) (by omega) ?_
     rw [arL, arL, ht, anX (by omega), anX (by omega), hx]
    .simp only [hx, decide_false, anT, if_true, Sem.run_pure, Result.andThen_ok]
     refine ⟨some false, rfl, ?_⟩
     have : l ≠ l' := fun h => hx (by subst h; rfl)
     simp [this]
 obtain ⟨r, h1, h2⟩ := key n 0 (by omega) (by simp)
 rw [h1, <- h2]
 cases r <;> simp
structure V1 {κ : Type} [DecidableEq κ] (P : Program) (t : TypeId) (enc : κ -> asZ) : Prop where
 eq : ∀ a b (w : asY), (Op.equal t (enc a) (enc b)).run P w = .ok (decide (a = b)) w
 now : ∃ d, P.underlying t = some d /\ ∀ a b, Instr.sameNow d (enc a) (enc b) = none ∨ Instr.sameNow d (enc a) (enc b) = some (decide (a = b))
 chk : ∀ (e : Bool) a (w : asY), (Instr.checkKey e 10000 t (enc a)).run P w = .ok () w
 stay : ∀ a, Instr.sameBits 10000 (enc a) (enc a) = true
def assoc {κ : Type} [DecidableEq κ] (k : κ) : List (κ × asZ) -> Option asZ
 | [] => none
 | p :: r => if k = p.1 then some p.2 else assoc k r
def Xc {κ : Type} [DecidableEq κ] (k : κ) (v : asZ) : List (κ × asZ) -> List (κ × asZ)
 | [] => [(k, v)]
 | p :: r => if k = p.1 then (k, v) :: r else p :: Xc k v r
theorem acF {κ : Type} [DecidableEq κ] (k j : κ) (v : asZ) : ∀ (l : List (κ × asZ)), assoc j (Xc k v l) = if j = k then some v else assoc j l := by
 intro l
 induction l with
 | nil => simp only [Xc, assoc]
 | cons p r ih =>
   simp only [Xc]
   by_cases h : k = p.1
   .rw [if_pos h]
    simp only [assoc]
    by_cases hj : j = k
    .rw [if_pos hj, if_pos hj]
    .rw [if_neg hj, if_neg hj, if_neg (fun e => hj (e.trans h.symm))]
   .rw [if_neg h]
    simp only [assoc, ih]
    by_cases hj : j = p.1
    .rw [if_pos hj, if_pos hj, if_neg (fun e => h (e.symm.trans hj))]
    .rw [if_neg hj, if_neg hj]
theorem ZJ {κ : Type} [DecidableEq κ] {k : κ} {v : asZ} {l : List (κ × asZ)} {p : κ × asZ} (h : p ∈ Xc k v l) : p = (k, v) ∨ p ∈ l := by
 induction l with
 | nil => simp [Xc] at h; exact .inl h
 | cons q r ih =>
   simp only [Xc] at h
   split at h
   .rcases apK.1 h with h | h
    .exact .inl h
    .exact .inr (aoC _ h)
   .rcases apK.1 h with h | h
    .exact .inr (h ▸ aoV)
    .rcases ih h with h | h
     .exact .inl h
     .exact .inr (aoC _ h)
theorem abG {κ : Type} [DecidableEq κ] {k : κ} {v : asZ} {l : List (κ × asZ)} (h : assoc k l = some v) : (k, v) ∈ l := by
 induction l with
 | nil => simp [assoc] at h
 | cons q r ih =>
   simp only [assoc] at h
   split at h
   .rename_i e; cases h; rw [e]; exact aoV
   .exact aoC _ (ih h)
def Grown (es : Array MapEntry) (clock : Nat) : Prop := (es.toList.map (·.born)).Pairwise (· < ·) /\ ∀ e ∈ es.toList, e.born < clock
def Mp {κ : Type} (w : asY) (m : Nat) (enc : κ -> asZ) (l : List (κ × asZ)) : Prop :=
 ∃ es clock, w.heap[m]? = some (.map es clock) /\ es.toList.map (fun e => (e.key, e.val)) = l.map (fun p => (enc p.1, p.2)) /\ Grown es clock /\ (l.map (·.1)).Nodup
theorem Yy {es : Array MapEntry} {c : Nat} (h : Grown es c) (k v : asZ) : Grown (es.push ⟨k, v, c⟩) (c + 1) := by
 obtain ⟨h1, h2⟩ := h
 refine ⟨?_, ?_⟩
 .rw [Array.toList_push, aoX, List.pairwise_append]
  refine ⟨h1, by simp, fun a ha b hb => ?_⟩
  simp at hb
  subst hb
  obtain ⟨e, he, rfl⟩ := apM.1 ha
  exact h2 e he
 .intro e he
  rw [Array.toList_push] at he
  rcases apV.1 he with he | he
  .have := h2 e he; omega
  .simp at he; subst he; exact Nat.lt_succ_self c
theorem Ys {es es' : Array MapEntry} {c : Nat} (h : Grown es c) (he : es'.toList.map (·.born) = es.toList.map (·.born)) : Grown es' c := by
 refine ⟨by rw [he]; exact h.1, fun e h' => ?_⟩
 have : e.born ∈ es'.toList.map (·.born) := apM.2 ⟨e, h', rfl⟩
 rw [he] at this
 obtain ⟨x, hx, hxe⟩ := apM.1 this
 rw [<- hxe]; exact h.2 x hx
theorem Xt {κ : Type} [DecidableEq κ] {k : κ} {v : asZ} : ∀ {l : List (κ × asZ)}, (l.map (·.1)).Nodup -> ((Xc k v l).map (·.1)).Nodup
 | [], _ => by simp [Xc]
 | p :: r, h => by
   simp only [Xc]
   have h' := h
   rw [aoT, List.nodup_cons] at h
   split
   .rename_i e
    rw [aoT, List.nodup_cons]
    exact ⟨fun hm => h.1 (e ▸ hm), h.2⟩
   .rename_i e
    rw [aoT, List.nodup_cons]
    refine ⟨fun hm => ?_, Xt h.2⟩
    obtain ⟨q, hq, hqe⟩ := apM.1 hm
    rcases ZJ hq with h1 | h1
    .rw [h1] at hqe; exact e hqe
    .exact h.1 (apM.2 ⟨q, h1, hqe⟩)
theorem Mp.lt {κ : Type} {m : Nat} {enc : κ -> asZ} {l : List (κ × asZ)} (h : Mp w m enc l) : m < w.heap.size := by
 obtain ⟨es, c, h, _⟩ := h
 rcases aoE m w.heap.size with h' | h'
 .exact h'
 .rw [apU h'] at h; cases h
theorem Mp.ext {κ : Type} {w w' : asY} {m : Nat} {enc : κ -> asZ} {l : List (κ × asZ)} {M : Nat -> Prop} (h : Mp w m enc l) (hx : jM w w' M) (hM : ¬ M m) : Mp w' m enc l := by
 have := h.lt
 obtain ⟨es, c, h, k⟩ := h
 exact ⟨es, c, by rw [hx.keep m this hM]; exact h, k⟩
theorem Mp.dr {κ : Type} {w : asY} {m : Nat} {enc : κ -> asZ} {l : List (κ × asZ)} (h : Mp w m enc l) : Mp (dr w) m enc l := h
def RH {κ : Type} [DecidableEq κ] (k : κ) : List (κ × asZ) -> Nat -> Option (Nat × asZ)
 | [], _ => none
 | p :: r, i => if k = p.1 then some (i, p.2) else RH k r (i + 1)
theorem YU {κ : Type} [DecidableEq κ] (k : κ) : ∀ (l : List (κ × asZ)) (i : Nat), (RH k l i).map (·.2) = assoc k l := by
 intro l
 induction l with
 | nil => intro i; rfl
 | cons p r ih => intro i; simp only [RH, assoc]; split <;> simp [ih]
variable {κ : Type} [DecidableEq κ] {enc : κ -> asZ}
theorem VE {r : Nat} {es : Array MapEntry} {c : Nat} (hb : w.heap[r]? = some (.map es c)) : (getObj r).run P w = .ok (.map es c) w := by simp [getObj, Sem.run, hb]
theorem Vw {r : Nat} {es : Array MapEntry} {c : Nat} (o : Obj) (hb : w.heap[r]? = some (.map es c)) : (setObj r o).run P w = .ok () { w with heap := w.heap.setIfInBounds r o } := by simp [setObj, Sem.run, hb]
theorem U2 (K : V1 P t enc) (k : κ) : ∀ (es : List MapEntry) (l : List (κ × asZ)) (i : Nat), es.map (fun e => (e.key, e.val)) = l.map (fun p => (enc p.1, p.2)) →
 (Instr.findAsking t (enc k) es i).run P w = .ok (RH k l i) w := by
 intro es
 induction es with
 | nil => intro l i h; cases l with
   | nil => rfl
   | cons p r => simp at h
 | cons x es ih =>
   intro l i h
   cases l with
   | nil => simp at h
   | cons p r =>
     simp only [aoT, List.cons.injEq, Prod.mk.injEq] at h
     obtain ⟨⟨h1, h2⟩, h3⟩ := h
     simp only [Instr.findAsking, Sem.run_bind, h1, K.eq, Result.andThen_ok, RH]
     by_cases hx : k = p.1
     .simp [hx, h2]
     .simp only [hx, decide_false, anO, if_false]
      exact ih r (i + 1) h3
theorem WV {d : TypeDesc} (hn : ∀ a b, Instr.sameNow d (enc a) (enc b) = none ∨ Instr.sameNow d (enc a) (enc b) = some (decide (a = b))) (k : κ) : ∀ (es : List MapEntry) (l : List (κ × asZ)) (i : Nat) (r : Option (Nat × asZ)), es.map (fun e => (e.key, e.val)) = l.map (fun p => (enc p.1, p.2)) →
 Instr.findNow d (enc k) es i = some r -> r = RH k l i := by
 intro es
 induction es with
 | nil => intro l i r h hr; cases l with
   | nil => simp [Instr.findNow] at hr; exact hr.symm
   | cons p r => simp at h
 | cons x es ih =>
   intro l i r h hr
   cases l with
   | nil => simp at h
   | cons p q =>
     simp only [aoT, List.cons.injEq, Prod.mk.injEq] at h
     obtain ⟨⟨h1, h2⟩, h3⟩ := h
     simp only [Instr.findNow, h1] at hr
     rcases hn k p.1 with hh | hh
     .rw [hh] at hr; cases hr
     .rw [hh] at hr
      simp only [RH]
      by_cases hx : k = p.1
      .simp only [hx, decide_true, Option.some.injEq] at hr
       rw [if_pos hx, <- hr, h2]
      .simp only [hx, decide_false] at hr
       rw [if_neg hx]
       exact ih q (i + 1) r h3 hr
theorem Uf (K : V1 P t enc) (k : κ) (es : List MapEntry) (l : List (κ × asZ)) (h : es.map (fun e => (e.key, e.val)) = l.map (fun p => (enc p.1, p.2))) :
 (Instr.findKey t (enc k) es).run P w = .ok (RH k l 0) w := by
 obtain ⟨d, hd, hn⟩ := K.now
 unfold Instr.findKey
 simp only [underlying, Sem.run_bind, run_program, Result.andThen_ok, hd, Sem.run_pure]
 cases hr : Instr.findNow d (enc k) es 0 with
 | none => exact U2 K k es l 0 h
 | some r => rw [WV hn k es l 0 r h hr] <;> rfl
theorem ajE {kt et : TypeId} {i : TypeInfo} {z : asZ} (hu : P.underlying t = some (.map kt et)) (hi : P.info? et = some i) (hz : i.zero = some z) (K : V1 P kt enc) {m : Nat} {l : List (κ × asZ)} (hm : Mp w m enc l) (k : κ) :
 (Xx t (.map (some m)) (enc k) true).run P w = .ok (.value (.tuple #[(assoc k l).getD z, .bool (assoc k l).isSome])) w := by
 obtain ⟨es, c, hb, he, _⟩ := hm
 unfold Xx; rw [rT]
 unfold Instr.lookup
 simp only [underlying, Sem.run_bind, run_program, Result.andThen_ok, hu, Sem.run_pure, VE hb, K.chk, Uf K k es.toList l he, <- YU k l 0]
 cases RH k l 0 with
 | none => simp [zeroValue, typeInfo, hi, hz]
 | some p => simp
omit [DecidableEq κ] in
theorem abE {K : asZ -> asY -> Prop} (enc : κ -> asZ) (hk : ∀ w', Mp w' w.heap.size enc ([] : List (κ × asZ)) -> jM w w' mM -> w'.heap.size = w.heap.size + 1 -> K (.map (some w.heap.size)) w') : gD P (TS t none) w K := by
 have : (TS t none).run P w = .ok (.value (.map (some w.heap.size))) (w.alloc (.map #[] 0)) := by
  unfold TS; rw [rT]
  simp [Instr.makeMap]
 unfold gD
 rw [this]
 exact hk _ ⟨#[], 0, by show (w.heap.push _)[w.heap.size]? = _; simp, rfl, ⟨by simp, by simp⟩, by simp⟩ (jM.alloc _ _ _) (by simp)
theorem acE {kt et : TypeId} (hu : P.underlying t = some (.map kt et)) (Ke : V1 P kt enc) {m : Nat} {l : List (κ × asZ)} (hm : Mp w m enc l) (k : κ) (v : asZ) {K : asZ -> asY -> Prop}
 (hk : ∀ w', Mp w' m enc (Xc k v l) -> jM w w' (fun y => y = m) -> w'.heap.size = w.heap.size -> K undef w') : gD P (UO t (.map (some m)) (enc k) v) w K := by
 have hlt := hm.lt
 obtain ⟨es, c, hb, he, hgr, hnd⟩ := hm
 have hext : ∀ o, jM w { w with heap := w.heap.setIfInBounds m o } (fun y => y = m) := fun o =>
  ⟨rfl, rfl, rfl, by simp, fun b hb hn => by
   show (w.heap.setIfInBounds m o)[b]? = _
   rw [apA (fun e => hn e.symm)]⟩
 have key : ∃ es' c', (UO t (.map (some m)) (enc k) v).run P w = .ok .skip { w with heap := w.heap.setIfInBounds m (.map es' c') } /\ es'.toList.map (fun e => (e.key, e.val)) = ((Xc k v l).map fun p => (enc p.1, p.2)) /\ Grown es' c' := by
  have gen : ∀ (es : List MapEntry) (l : List (κ × asZ)) (i : Nat), es.map (fun e => (e.key, e.val)) = l.map (fun p => (enc p.1, p.2)) →
      (RH k l i = none -> ∀ b, (es ++ [(⟨enc k, v, b⟩ : MapEntry)]).map (fun e => (e.key, e.val)) = (Xc k v l).map fun p => (enc p.1, p.2)) /\
      (∀ j x, RH k l i = some (j, x) -> i <= j /\ ∃ old, es[j - i]? = some old /\ old.key = enc k /\ (es.set (j - i) ({ old with key := enc k, val := v } : MapEntry)).map (fun e => (e.key, e.val)) = (Xc k v l).map fun p => (enc p.1, p.2)) := by
   intro es
   induction es with
   | nil =>
     intro l i h
     cases l with
     | nil => exact ⟨fun _ b => rfl, fun j x h => by simp [RH] at h⟩
     | cons p r => simp at h
   | cons x es ih =>
     intro l i h
     cases l with
     | nil => simp at h
     | cons p r =>
       simp only [aoT, List.cons.injEq, Prod.mk.injEq] at h
       obtain ⟨⟨h1, h2⟩, h3⟩ := h
       simp only [RH, Xc]
       by_cases hx : k = p.1
       .rw [if_pos hx, if_pos hx]
        refine ⟨fun h => by (cases h), fun j y h => ?_⟩
        cases h
        refine ⟨aoA _, x, by simp, by rw [h1, hx], ?_⟩
        simp [h3]
       .rw [if_neg hx, if_neg hx]
        obtain ⟨a, b⟩ := ih r (i + 1) h3
        refine ⟨fun h q => ?_, fun j y h => ?_⟩
        .simp only [aqM, aoT, a h q, h1, h2]
        .obtain ⟨hj, old, o1, o2, o3⟩ := b j y h
         refine ⟨by omega, old, ?_, o2, ?_⟩
         .rw [show j - i = (j - (i + 1)) + 1 from by omega, anN]; exact o1
         .rw [show j - i = (j - (i + 1)) + 1 from by omega, aoM]
          simp only [aoT, o3, h1, h2]
  obtain ⟨g1, g2⟩ := gen es.toList l 0 he
  unfold UO
  rw [akZ]
  unfold Instr.mapUpdate
  simp only [underlying, Sem.run_bind, run_program, Result.andThen_ok, hu, Sem.run_pure, VE hb, Ke.chk, Uf Ke k es.toList l he]
  cases hi : RH k l 0 with
  | none =>
    refine ⟨es.push ⟨enc k, v, c⟩, c + 1, ?_, by simpa using g1 hi c, Yy hgr _ _⟩
    simp only [Vw _ hb, Result.andThen_ok]
  | some q =>
    obtain ⟨j, x⟩ := q
    obtain ⟨_, old, o1, o2, o3⟩ := g2 j x hi
    rw [arP] at o1 o3
    have o1' : es[j]? = some old := by simpa using o1
    refine ⟨es.modify j fun e => { e with key := enc k, val := v }, c, ?_, ?_, Ys hgr ?_⟩
    .simp only [o1', aoW, aqV, o2, Instr.keyThatStays, Ke.stay, if_true, Sem.run_pure, Result.andThen_ok, Vw _ hb, Sem.run_bind]
    .have hj : j < es.toList.length := by
      rcases aoE j es.toList.length with h | h
      .exact h
      .rw [aoD h] at o1; cases o1
     rw [<- o3]
     congr 1
     apply aqI
     intro y
     rw [arN, aqO, List.getElem?_set]
     by_cases hy : j = y
     .subst hy
      have hj' : j < es.size := by simpa using hj
      have e1 : es[j] = old := by rw [aoH hj'] at o1'; exact aoZ o1'
      simp [hj', e1]
     .simp [hy]
    .apply aqI
     intro y
     rw [aoJ, aoJ, arN, arN, aqO]
     split
     .rename_i h; subst h
      cases es[j]? <;> rfl
     .rfl
 obtain ⟨es', c', h1, h2, h3⟩ := key
 unfold gD
 rw [h1]
 refine hk _ ⟨es', c', by show (w.heap.setIfInBounds m _)[m]? = _; rw [aoS hlt], h2, h3, Xt hnd⟩ (hext _) (by simp)
theorem Xi {κ : Type} [DecidableEq κ] {i : TypeInfo} {n : Nat} (hu : P.underlying t = some (.array n e)) (he : P.underlying e = some (.int .u8)) (hi : P.info? e = some i) (h1 : i.size = 1)
 (bs : κ -> List UInt8) (hb : ∀ k, (bs k).length = n) (hinj : ∀ a b, bs a = bs b -> a = b) : V1 P t (fun k => .agg ((bs k).map pB).toArray) := by
 refine ⟨fun a b w => ?_, ⟨_, hu, fun a b => .inl rfl⟩, fun c a w => ?_, fun a => ?_⟩
 .unfold Op.equal Op.maxDepth
  rw [Yz 9998 n hu he hi h1 _ _ (hb a) (hb b)]
  congr 1
  rw [decide_eq_decide]
  exact ⟨hinj a b, fun h => h ▸ rfl⟩
 .unfold Instr.checkKey
  simp only [underlying, Sem.run_bind, run_program, Result.andThen_ok, hu, Sem.run_pure, Std.Legacy.Range.forIn_eq_forIn_range', Std.Legacy.Range.size, arP, Nat.add_one_sub_one, Nat.div_one]
  have key : ∀ (q k : Nat), k + q = n -> (forIn (List.range' k q) () fun (i : Nat) (_ : Unit) => (do
      let z <- sizeOf e
      let x <- part e (List.map pB (bs a)).toArray (i * z)
      Instr.checkKey c 9999 e x
      pure (ForInStep.yield ()) : Sem (ForInStep Unit))).run P w = .ok () w := by
   intro q
   induction q with
   | zero => intro k _; simp
   | succ q ih =>
     intro k hk
     have g : ((bs a).map pB).toArray[k]? = some (pB ((bs a)[k]'(by rw [hb]; omega))) := by
      have : k < (bs a).length := by rw [hb]; omega
      simp [this]
     have hc : ∀ x : UInt8, (Instr.checkKey c 9999 e (pB x)).run P w = .ok () w := fun x => by
      unfold Instr.checkKey pB
      simp only [underlying, Sem.run_bind, run_program, Result.andThen_ok, he, Sem.run_pure]
     rw [List.range'_succ]
     simp only [List.forIn_cons, Sem.run_bind, kR hi, h1, apT, Vs he rfl g, Result.andThen_ok, hc, Sem.run_pure]
     exact ih (k + 1) (by omega)
  have := key n 0 (by omega)
  rw [this] <;> rfl
 .unfold Instr.sameBits
  simp only [beq_self_eq_true, Bool.true_and, aoY]
  intro x hx
  have : ∀ l : List asZ, ∀ x ∈ l.zip l, x.1 = x.2 := by
   intro l
   induction l with
   | nil => simp
   | cons a r ih => intro x hx; simp at hx; rcases hx with rfl | hx; · rfl
                    .exact ih x hx
  have e1 := this _ x hx
  have hm := (List.of_mem_zip hx).1
  obtain ⟨x1, x2⟩ := x
  simp only at e1 hm ⊢
  subst e1
  simp at hm
  obtain ⟨u, _, rfl⟩ := hm
  simp [pB, Instr.sameBits]
abbrev Nw (n : Nat) := { l : List UInt8 // l.length = n }
def Rv {n : Nat} (k : Nw n) : asZ := .agg (k.1.map pB).toArray
theorem Wo {i : TypeInfo} {n : Nat} (hu : P.underlying t = some (.array n e)) (he : P.underlying e = some (.int .u8)) (hi : P.info? e = some i) (h1 : i.size = 1) : V1 P t (Rv (n := n)) :=
 Xi (κ := Nw n) hu he hi h1 (fun k => k.1) (fun k => k.2) (fun _ _ h => Subtype.ext h)
theorem akL {n : Nat} (hu : P.underlying t = some (.array n e)) (x : Option Addr) (m c : Nat) (h : n <= m) : (ahH t (.slice x m c)).run P w = .ok (.value (.pointer x)) w := by
 unfold ahH; rw [rT]
 simp only [Instr.arrayAt, underlying, Sem.run_bind, run_program, Result.andThen_ok, hu, Sem.run_pure, if_neg (Nat.not_lt.2 h)]
theorem ahK {d : TypeDesc} {i : TypeInfo} (hu : P.underlying t = some d) (hd : VR d = true) (hi : P.info? t = some i) {b off : Nat} {l : List asZ} (hl : i.size = l.length) (h : ∀ j, j < l.length -> w.cell? ⟨b, off + j, none⟩ = l[j]?) :
 (jE t (.pointer (some ⟨b, off, none⟩))).run P w = .ok (.value (.agg l.toArray)) w := by
 unfold jE
 rw [rT]
 simp only [Instr.loadAt, Instr.sureAddr, loadVar, pure_bind, Sem.run_bind, EO hu, hd, Result.andThen_ok, if_true, kR hi, hl, Ro h, Sem.run_pure]
end
theorem GI {w : asY} {b : Nat} {cs : List asZ} (h : mP w b cs) : mP (dr w) b cs := h.ext (jM.dr w mM) (fun h => h)
theorem Sl.dr {w : asY} {v : asZ} {l : List asZ} (h : Sl w v l) : Sl (dr w) v l := h
theorem Sl.open {w : asY} {v : asZ} {l : List UInt8} (h : Bs w v l) (h0 : 0 < l.length) : ∃ b off c, v = .slice (some ⟨b, off, none⟩) l.length c /\ l.length <= c /\ ∀ i, (h : i < l.length) -> w.cell? ⟨b, off + i, none⟩ = some (pB l[i]) := by
 obtain ⟨a, n, c, rfl, hn, hc, h⟩ := h
 simp only [anV] at hn
 subst hn
 obtain ⟨b, off, rfl, hh⟩ := h h0
 exact ⟨b, off, c, rfl, hc, fun i hi => by rw [hh i hi]; simp [hi]⟩
theorem Sl.len {w : asY} {v : asZ} {l : List asZ} (h : Sl w v l) : ∃ a c, v = .slice a l.length c /\ l.length <= c := by
 obtain ⟨a, n, c, rfl, rfl, hc, _⟩ := h
 exact ⟨a, c, rfl, hc⟩
theorem kJ (v : asZ) : ¬ KZ v mM := by unfold KZ mM; split <;> simp
theorem Vr {b o m l : Nat} (h : l ≠ m) : nM (some ⟨b, o, none⟩) m l 1 = some ⟨b, o + l, none⟩ := by
 unfold nM; rw [if_neg (fun e => h e.symm)]; simp [FM]
theorem B2 {v : asZ} {M N : Nat -> Prop} (h : KZ v M) (hm : ∀ b, M b -> N b) : KZ v N := by
 unfold KZ at *
 split at h
 .exact hm _ h
 .exact h
theorem xH.len {w : asY} {b sz n : Nat} {v : asZ} {l : List asZ} (h : xH w b sz v n l) : ∃ a c, v = .slice a n c := by
 rcases h.2 with ⟨rfl, rfl⟩ | ⟨x, c, r, rfl, _⟩
 .exact ⟨_, _, rfl⟩
 .exact ⟨_, _, rfl⟩
theorem xH.lower {w : asY} {a b sz n : Nat} {v : asZ} {l : List asZ} (h : xH w b sz v n l) (hab : a <= b) : xH w a sz v n l := by
 refine ⟨h.1, ?_⟩
 rcases h.2 with h | ⟨x, c, r, h1, h2, h3⟩
 .exact .inl h
 .exact .inr ⟨x, c, r, h1, by omega, h3⟩
theorem Sl.nil (w : asY) : Sl w (.slice none 0 0) [] := ⟨none, 0, 0, rfl, rfl, aoA _, fun h => absurd h (by simp)⟩
theorem Sl.take' {w : asY} {a : Option Addr} {n c : Nat} {l : List asZ} (h : Sl w (.slice a n c) l) {k : Nat} (hk : k <= n) : Sl w (.slice (nM a c 0 1) (k - 0) (c - 0)) (l.take k) := by
 have h' := h
 obtain ⟨a', n', c', e, hn, hc, hh⟩ := h'
 cases e
 by_cases h0 : k = 0
 .subst h0
  exact ⟨_, _, _, rfl, by simp, by omega, fun h => by simp at h⟩
 .obtain ⟨b, off, rfl, _⟩ := hh (by omega)
  exact h.take hk
theorem Sl.drop' {w : asY} {a : Option Addr} {n c : Nat} {l : List asZ} (h : Sl w (.slice a n c) l) {k : Nat} (hk : k <= n) : Sl w (.slice (nM a c k 1) (n - k) (c - k)) (l.drop k) := by
 have h' := h
 obtain ⟨a', n', c', e, hn, hc, hh⟩ := h'
 cases e
 by_cases h0 : n = 0
 .exact ⟨_, _, _, rfl, by rw [aoN]; omega, by omega, fun h => by omega⟩
 .obtain ⟨b, off, rfl, _⟩ := hh (by omega)
  exact h.drop hk
theorem Sl.openV {w : asY} {v : asZ} {l : List asZ} (h : Sl w v l) (h0 : 0 < l.length) : ∃ b off c, v = .slice (some ⟨b, off, none⟩) l.length c /\ l.length <= c /\ ∀ i, (h : i < l.length) -> w.cell? ⟨b, off + i, none⟩ = some l[i] := by
 obtain ⟨a, n, c, rfl, hn, hc, h⟩ := h
 subst hn
 obtain ⟨b, off, rfl, hh⟩ := h h0
 exact ⟨b, off, c, rfl, hc, fun i hi => by rw [hh i hi]; simp [hi]⟩
def Kf (n : Nat) (l : List asZ) : List asZ := (List.replicate n l).flatten
theorem SG (n : Nat) (l : List asZ) : (Kf n l).length = n * l.length := by
 unfold Kf; rw [List.length_flatten]; simp
theorem aaS : ∀ (n : Nat) (l : List asZ) (j : Nat) (_ : j < n * l.length) (h0 : 0 < l.length), (Kf n l)[j]? = some (l[j % l.length]'(asU _ h0)) := by
 intro n
 induction n with
 | zero => intro l j h; simp at h
 | succ n ih =>
   intro l j h h0
   unfold Kf
   rw [arZ, asM]
   by_cases hj : j < l.length
   .rw [aoI hj, anX hj]
    simp only [apH hj]
   .rw [aoP (by omega)]
    have := ih l (j - l.length) (by rw [Nat.succ_mul] at h; omega) h0
    unfold Kf at this
    rw [this]
    simp only [<- Nat.mod_eq_sub_mod (show j ≥ l.length by omega)]
theorem aaF {P : Program} {w : asY} {t e : TypeId} {k : IntKind} {i : TypeInfo} {z : asZ} {sz : Nat} (hu : P.underlying t = some (.slice e)) (hi : P.info? e = some i) (h1 : i.size = sz) (hsz : 0 < sz) (hz : i.zero = some z) (hz1 : z.cells.size = sz) {n : Int} (h0 : 0 <= n) (hn : i.bytes * n <= 2 ^ 48) (hn2 : n <= 9223372036854775807)
 {K : asZ -> asY -> Prop}
 (hk : ∀ w', mP w' w.heap.size (Kf n.toNat z.cells.toList) -> jM w w' mM -> w'.heap.size = w.heap.size + 1 -> K (.slice (some ⟨w.heap.size, 0, none⟩) n.toNat n.toNat) w') :
 gD P (tW t (.int k n) (.int k n)) w K := by
 have hw : IntKind.i64.wrap n = n := gZ (by omega) hn2
 have hl : z.cells.toList.length = sz := by simpa using hz1
 have harr : (Array.range (n.toNat * sz)).map (fun j => z.cells[j % z.cells.size]!) = (Kf n.toNat z.cells.toList).toArray := by
  apply Array.ext
  .simp [SG, hz1]
  .intro j h1 h2
   have hj : j < n.toNat * sz := by simpa using h1
   have := aaS n.toNat z.cells.toList j (by rw [hl]; exact hj) (by rw [hl]; exact hsz)
   have hm : j % z.cells.size < z.cells.size := asU _ (by omega)
   simp only [Array.getElem_map, Array.getElem_range, List.getElem_toArray]
   rw [getElem!_pos z.cells _ hm]
   rw [anX (by rw [SG, hl]; exact hj)] at this
   have := aoZ this
   rw [this]
   simp
 have hz' : (zeroValue e).run P w = .ok z w := by simp [zeroValue, typeInfo, hi, hz]
 have : (tW t (.int k n) (.int k n)).run P w = .ok (.value (.slice (some ⟨w.heap.size, 0, none⟩) n.toNat n.toNat)) (w.alloc (.cells (Kf n.toNat z.cells.toList).toArray e)) := by
  unfold tW
  rw [rT]
  have t1 : (decide (n < 0) || decide ((i.bytes : Int) * n > 2 ^ 48) || decide (n < 0) || decide (n > n)) = false := by
   simp only [arU, decide_eq_false_iff_not]; omega
  by_cases hn0 : n.toNat * sz = 0
  .simp only [Instr.makeSlice, underlying, typeInfo, asInt, asIntOf, pure_bind, Sem.run_bind, run_program, Result.andThen_ok, hu, hi, Sem.run_pure, hw, t1, anO, if_false, run_askRoom, kR hi, h1, hn0, if_true, newRow, run_newObj]
   have hn : n.toNat = 0 := by rcases Nat.mul_eq_zero.1 hn0 with h | h <;> omega
   have : (Array.range 0).map (fun x => (#[] : Array asZ)[x % (#[] : Array asZ).size]!) = (Kf n.toNat z.cells.toList).toArray := by rw [hn]; simp [Kf]
   rw [this]
   rfl
  .simp only [Instr.makeSlice, underlying, typeInfo, asInt, asIntOf, pure_bind, Sem.run_bind, run_program, Result.andThen_ok, hu, hi, Sem.run_pure, hw, t1, anO, if_false, run_askRoom, kR hi, h1, hn0, hz', newRow, run_newObj, harr]
   rfl
 unfold gD
 rw [this]
 exact hk _ (mP.alloc _ _ _) (jM.alloc _ _ _) (by simp)
theorem YQ {P : Program} {w : asY} {t e : TypeId} {k k' : IntKind} {hi mx : Int} {i : TypeInfo} (hu : P.underlying t = some (.slice e)) (hi' : P.info? e = some i) (x : Option Addr) (n c : Nat) (h0 : 0 <= hi) (h1 : hi <= mx) (h2 : mx <= c) :
 (lR t (.slice x n c) none (some (.int k hi)) (some (.int k' mx))).run P w = .ok (.value (.slice (nM x mx.toNat 0 i.size) (hi.toNat - 0) (mx.toNat - 0))) w := by
 have h3 : (0 : Int) <= mx := by omega
 have h4 : hi <= (mx.toNat : Int) := by omega
 simp only [lR, rT, Instr.sliceAt, underlying, hu, Sem.run_bind, run_program, Result.andThen_ok, Sem.run_pure, Instr.slice, Instr.sliceBounds, pure_bind, yN h3 h2, yN h0 h4, kR hi', nM]
section
variable {P : Program} {w : asY} {t e : TypeId}
variable {κ : Type} [DecidableEq κ] {enc : κ -> asZ}
def Itr {κ : Type} (w : asY) (it m : Nat) (enc : κ -> asZ) (rest : List (κ × asZ)) : Prop :=
 ∃ es clock seen, w.heap[m]? = some (.map es clock) /\ w.heap[it]? = some (.mapIter (some m) clock seen clock) /\ Grown es clock /\
   (es.toList.filter fun e => !seen.contains e.born).map (fun e => (e.key, e.val)) = rest.map fun p => (enc p.1, p.2)
theorem Itr.ext {κ : Type} {w w' : asY} {it m : Nat} {enc : κ -> asZ} {rest : List (κ × asZ)} {M : Nat -> Prop} (h : Itr w it m enc rest) (hx : jM w w' M) (hm : ¬ M m) (hi : ¬ M it) : Itr w' it m enc rest := by
 obtain ⟨es, c, seen, h1, h2, h3⟩ := h
 have lt : ∀ {b : Nat} {o : Obj}, w.heap[b]? = some o -> b < w.heap.size := fun {b o} h => by
  rcases aoE b w.heap.size with h' | h'
  .exact h'
  .rw [apU h'] at h; cases h
 exact ⟨es, c, seen, by rw [hx.keep m (lt h1) hm]; exact h1, by rw [hx.keep it (lt h2) hi]; exact h2, h3⟩
def Cur {κ : Type} (w : asY) (it m : Nat) (enc : κ -> asZ) (p : κ × asZ) : Prop :=
 ∃ es clock c0 seen e, w.heap[m]? = some (.map es clock) /\ w.heap[it]? = some (.mapIter (some m) c0 seen clock) /\ seen.back? = some e.born /\ es.find? (fun x => x.born == e.born) = some e /\ e.key = enc p.1 /\ e.val = p.2
omit [DecidableEq κ] in
theorem Cur.ext {w w' : asY} {it m : Nat} {p : κ × asZ} {M : Nat -> Prop} (h : Cur w it m enc p) (hx : jM w w' M) (hm : ¬ M m) (hi : ¬ M it) : Cur w' it m enc p := by
 obtain ⟨es, c, c0, seen, e, h1, h2, h3⟩ := h
 have lt : ∀ {b : Nat} {o : Obj}, w.heap[b]? = some o -> b < w.heap.size := fun {b o} h => by
  rcases aoE b w.heap.size with h' | h'
  .exact h'
  .rw [apU h'] at h; cases h
 exact ⟨es, c, c0, seen, e, by rw [hx.keep m (lt h1) hm]; exact h1, by rw [hx.keep it (lt h2) hi]; exact h2, h3⟩
omit [DecidableEq κ] in
end
end Go.En
namespace Go.Proofs.YtoecppploooloaaGreatDoor
open Go Go.En
set_option maxRecDepth 4000
theorem fM {ty : TypeId} (x : Option Addr) (n c : Nat) (w : asY) : (oF .len #[22] ty [.slice x n c]).run pg w = .ok (.value (.int .i64 n)) w := Q9 Tryz.underlying22 x n c
theorem fK {k : IntKind} (a : Int) (w : asY) : (nL 5 3 (.int k a)).run pg w = .ok (.value (.int .i64 (IntKind.i64.wrap a))) w := Bg Tryz.underlying5 Tryz.underlying3
theorem fB {k : IntKind} (a : Int) (w : asY) : (nL 29 3 (.int k a)).run pg w = .ok (.value (.int .i64 (IntKind.i64.wrap a))) w := Bg Tryz.underlying29 Tryz.underlying3
theorem Ih : (pg).info? 5 = some Tryz.t5 := by kernel_rfl
theorem fQ {k : IntKind} {a : Int} (b o n c : Nat) (w : asY) (h0 : 0 <= a) (h1 : a < n) : (jO 22 (.slice (some ⟨b, o, none⟩) n c) (.int k a)).run pg w = .ok (.value (.pointer (some ⟨b, o + a.toNat, none⟩))) w := Pd rfl Tryz.underlying22 Ih b o n c h0 h1
theorem Yn {b off : Nat} {cs : List asZ} {w : asY} {v : asZ} {K : asZ -> asY -> Prop} (ho : mP w b cs) (hv : one v = true) (h : off < cs.length) (hk : ∀ w', mP w' b (cs.set off v) -> jM w w' (fun x => x = b) -> w'.heap.size = w.heap.size -> K undef w') : gD pg (jZ 5 (.pointer (some ⟨b, off, none⟩)) v) w K := C5 Ih rfl ho hv h hk
theorem Re {l : List UInt8} {v : asZ} {w : asY} (h : Bs w v l) : (nL 22 9 v).run pg w = .ok (.value (.string ⟨l.toArray⟩)) w := afS Tryz.underlying22 Tryz.underlying9 Tryz.underlying5 h
theorem cU {k : IntKind} (a : Int) (w : asY) : (nL 38 32 (.int k a)).run pg w = .ok (.value (.int .u64 (IntKind.u64.wrap a))) w := Bg Tryz.underlying38 Tryz.underlying32
theorem eQ {k : IntKind} (a : Int) (w : asY) : (nL 3 32 (.int k a)).run pg w = .ok (.value (.int .u64 (IntKind.u64.wrap a))) w := Bg Tryz.underlying3 Tryz.underlying32
theorem sK {n : Nat} {ps : List (Nat × asZ)} {cells : Array asZ} {w : asY} (h1 : ¬ n * 1 > 2 ^ 24) (h0 : ¬ n * 1 = 0) (hf : Go.Instr.fill (fun j => some (j * 1, 1)) ((Array.range (n * 1)).map ((Tryz.t5.zero.get!).cells[· % (Tryz.t5.zero.get!).cells.size]!)) ps = some cells) {K : asZ -> asY -> Prop} (hk : ∀ w', mP w' w.heap.size cells.toList -> jM w w' mM -> w'.heap.size = w.heap.size + 1 -> K (.slice (some ⟨w.heap.size, 0, none⟩) n n) w') : gD pg (lI 22 n ps) w K := QB (i := Tryz.t5) Tryz.underlying22 Ih rfl h1 h0 hf hk
theorem eE {k : IntKind} {hi : Int} (a : Option Addr) (n c : Nat) (w : asY) (h0 : 0 <= hi) (h1 : hi <= c) : (lR 22 (.slice a n c) none (some (.int k hi)) none).run pg w = .ok (.value (.slice (nM a c (0) 1) (hi.toNat - 0) (c - 0))) w := Qz Tryz.underlying22 Ih _ n c h0 h1
theorem ZQ : (pg).info? 45 = some Tryz.t45 := by kernel_rfl
theorem rM {w : asY} {K : asZ -> asY -> Prop} (hk : ∀ w', mP w' w.heap.size [(.int .u32 0), (.int .u32 0), (.int .u32 0)] -> jM w w' mM -> w'.heap.size = w.heap.size + 1 -> K (.pointer (some ⟨w.heap.size, 0, none⟩)) w') : gD pg (pY 45) w K := EZ (i := Tryz.t45) ZQ rfl hk
theorem pV {b off : Nat} {cs : List asZ} {w : asY} {xs : Array asZ} {K : asZ -> asY -> Prop} (ho : mP w b cs) (hs : xs.size = 3) (hv : ∀ x ∈ xs.toList, one x = true) (h : off + 3 <= cs.length) (hk : ∀ w', mP w' b (qM cs off xs.toList) -> jM w w' (fun x => x = b) -> w'.heap.size = w.heap.size -> K undef w') : gD pg (jZ 45 (.pointer (some ⟨b, off, none⟩)) (.agg xs)) w K := Hb (v := .agg xs) ZQ ho hs hv h hk
theorem A8 {b off : Nat} {cs : List asZ} {w : asY} (ho : mP w b cs) (h : off + 3 <= cs.length) : (jE 45 (.pointer (some ⟨b, off, none⟩))).run pg w = .ok (.value (.agg ((cs.drop off).take 3).toArray)) w := RA Tryz.underlying45 rfl ZQ ho h
theorem mC {base n m : Nat} {ty : TypeId} {w : asY} {v x : asZ} {l news : List asZ} (h : xH w base 1 v n l) (hx : Cl w 1 x m news) (hone : ∀ y ∈ news, one y = true) (hb : base <= w.heap.size) (hbytes : (n + m) * 1 <= 140737488355328) {K : asZ -> asY -> Prop} (hk : ∀ v' w', xH w' base 1 v' (n + m) (l ++ news) -> jM w w' (fun y => base <= y) -> K v' w') : gD pg (oF .append #[22, 22] ty [v, x]) w K := UW (i := Tryz.t5) Tryz.underlying22 Tryz.underlying22 Ih rfl rfl rfl h hx hone hb (by omega) hbytes (by decide) hk
theorem dJ {k : IntKind} (a : Int) (w : asY) : (nL 32 5 (.int k a)).run pg w = .ok (.value (.int .u8 (IntKind.u8.wrap a))) w := Bg Tryz.underlying32 Tryz.underlying5
theorem Rn : (pg).info? 22 = some Tryz.t22 := by kernel_rfl
theorem bJ (b o : Nat) (w : asY) : (jJ 56 (.pointer (some ⟨b, o, none⟩)) 3).run pg w = .ok (.value (.pointer (some ⟨b, o + 3, none⟩))) w := lY (i := 3) Tryz.underlying56 rfl Rn (by decide) _
theorem fR (x : Addr) (w : asY) : (jE 22 (.pointer (some x))).run pg w = VX (w.cell? x) w (Yo pg 22 x w) := TC Tryz.underlying22 rfl x w
theorem fE {k : IntKind} (a : Int) (w : asY) : (nL 32 3 (.int k a)).run pg w = .ok (.value (.int .i64 (IntKind.i64.wrap a))) w := Bg Tryz.underlying32 Tryz.underlying3
theorem Fe {b off : Nat} {cs : List asZ} {w : asY} (ho : mP w b cs) (h : off + 3 <= cs.length) {K : asZ -> Prop} (hk : K (.agg ((cs.drop off).take 3).toArray)) : Um pg 45 (.pointer (some ⟨b, off, none⟩)) w K := WG Tryz.underlying45 rfl ZQ ho h hk
theorem aL (n0 : Int) (n1 : Int) (n2 : Int) (w : asY) : (mK 45 [(0, (.int .u32 n0)), (1, (.int .u32 n1)), (2, (.int .u32 n2))]).run pg w = .ok (.value (.agg #[(.int .u32 n0), (.int .u32 n1), (.int .u32 n2)])) w := by kernel_rfl
theorem dD {k k' : IntKind} {lo hi : Int} (a : Option Addr) (n c : Nat) (w : asY) (h0 : 0 <= lo) (h1 : lo <= hi) (h2 : hi <= c) : (lR 22 (.slice a n c) (some (.int k lo)) (some (.int k' hi)) none).run pg w = .ok (.value (.slice (nM a c (lo.toNat) 1) (hi.toNat - lo.toNat) (c - lo.toNat))) w := WH Tryz.underlying22 Ih _ n c h0 h1 h2
theorem aZ (b0 : Bool) (n1 : Int) (n2 : Int) (w : asY) : (mK 65 [(0, (.bool b0)), (1, (.int .i64 n1)), (2, (.int .i64 n2))]).run pg w = .ok (.value (.agg #[(.bool b0), (.int .i64 n1), (.int .i64 n2)])) w := by kernel_rfl
theorem afF : (pg).info? 65 = some Tryz.t65 := by kernel_rfl
theorem UN {w : asY} {K : asZ -> asY -> Prop} (hk : ∀ w', mP w' w.heap.size [(.bool false), (.int .i64 0), (.int .i64 0)] -> jM w w' mM -> w'.heap.size = w.heap.size + 1 -> K (.pointer (some ⟨w.heap.size, 0, none⟩)) w') : gD pg (pY 65) w K := EZ (i := Tryz.t65) afF rfl hk
theorem Uo {b off : Nat} {cs : List asZ} {w : asY} {xs : Array asZ} {K : asZ -> asY -> Prop} (ho : mP w b cs) (hs : xs.size = 3) (hv : ∀ x ∈ xs.toList, one x = true) (h : off + 3 <= cs.length) (hk : ∀ w', mP w' b (qM cs off xs.toList) -> jM w w' (fun x => x = b) -> w'.heap.size = w.heap.size -> K undef w') : gD pg (jZ 65 (.pointer (some ⟨b, off, none⟩)) (.agg xs)) w K := Hb (v := .agg xs) afF ho hs hv h hk
theorem Et : (pg).info? 3 = some Tryz.t3 := by kernel_rfl
theorem bM (b o : Nat) (w : asY) : (jJ 65 (.pointer (some ⟨b, o, none⟩)) 1).run pg w = .ok (.value (.pointer (some ⟨b, o + 1, none⟩))) w := lY (i := 1) Tryz.underlying65 rfl Et (by decide) _
theorem Mn {b off : Nat} {cs : List asZ} {w : asY} {v : asZ} {K : asZ -> asY -> Prop} (ho : mP w b cs) (hv : one v = true) (h : off < cs.length) (hk : ∀ w', mP w' b (cs.set off v) -> jM w w' (fun x => x = b) -> w'.heap.size = w.heap.size -> K undef w') : gD pg (jZ 3 (.pointer (some ⟨b, off, none⟩)) v) w K := C5 Et rfl ho hv h hk
theorem bP (b o : Nat) (w : asY) : (jJ 65 (.pointer (some ⟨b, o, none⟩)) 2).run pg w = .ok (.value (.pointer (some ⟨b, o + 2, none⟩))) w := lY (i := 2) Tryz.underlying65 rfl Et (by decide) _
theorem Up {b off : Nat} {cs : List asZ} {w : asY} (ho : mP w b cs) (h : off + 3 <= cs.length) : (jE 65 (.pointer (some ⟨b, off, none⟩))).run pg w = .ok (.value (.agg ((cs.drop off).take 3).toArray)) w := RA Tryz.underlying65 rfl afF ho h
theorem aO (p0 : Option Addr) (n1 : Int) (n2 : Int) (w : asY) : (mK 56 [(0, (.pointer p0)), (1, (.int .u64 n1)), (2, (.int .i64 n2))]).run pg w = .ok (.value (.agg #[(.pointer p0), (.int .u64 n1), (.int .i64 n2), (.slice none 0 0), (.int .i64 0), (.int .i64 0)])) w := by kernel_rfl
theorem akQ : (pg).info? 54 = some Tryz.t54 := by kernel_rfl
theorem cQ (b o : Nat) (w : asY) : (jJ 56 (.pointer (some ⟨b, o, none⟩)) 0).run pg w = .ok (.value (.pointer (some ⟨b, o, none⟩))) w := lY (i := 0) Tryz.underlying56 rfl akQ (by decide) _
theorem cF (x : Addr) (w : asY) : (jE 54 (.pointer (some x))).run pg w = VX (w.cell? x) w (Yo pg 54 x w) := TC Tryz.underlying54 rfl x w
theorem eP {ox oy : Operand} (x : Option Addr) (n c : Nat) (w : asY) : (gV .eql 22 ox oy (.slice x n c) (.slice none 0 0)).run pg w = .ok (.value (.bool x.isNone)) w := ahQ Tryz.underlying22 x n c
theorem aF (b o : Nat) (w : asY) : (jJ 56 (.pointer (some ⟨b, o, none⟩)) 4).run pg w = .ok (.value (.pointer (some ⟨b, o + 4, none⟩))) w := lY (i := 4) Tryz.underlying56 rfl Et (by decide) _
theorem gS (x : Addr) (w : asY) : (jE 3 (.pointer (some x))).run pg w = VX (w.cell? x) w (Yo pg 3 x w) := TC Tryz.underlying3 rfl x w
theorem aP (b o : Nat) (w : asY) : (jJ 56 (.pointer (some ⟨b, o, none⟩)) 5).run pg w = .ok (.value (.pointer (some ⟨b, o + 5, none⟩))) w := lY (i := 5) Tryz.underlying56 rfl Et (by decide) _
theorem cK  (w : asY) : (mK 77 []).run pg w = .ok (.value (.agg #[(.slice none 0 0)])) w := by kernel_rfl
theorem aR {ox oy : Operand} (x : Option Addr) (w : asY) : (gV .eql 60 ox oy (.pointer x) (.pointer none)).run pg w = .ok (.value (.bool x.isNone)) w := WX Tryz.underlying60 x
theorem bS (b o : Nat) (w : asY) : (jJ 77 (.pointer (some ⟨b, o, none⟩)) 0).run pg w = .ok (.value (.pointer (some ⟨b, o, none⟩))) w := lY (i := 0) Tryz.underlying77 rfl Rn (by decide) _
theorem fS {k : IntKind} (a : Int) (w : asY) : (nL 3 50 (.int k a)).run pg w = .ok (.value (.int .u64 (IntKind.u64.wrap a))) w := Bg Tryz.underlying3 Tryz.underlying50
theorem uC {b off : Nat} {cs : List asZ} {w : asY} {v : asZ} {K : asZ -> asY -> Prop} (ho : mP w b cs) (hv : one v = true) (h : off < cs.length) (hk : ∀ w', mP w' b (cs.set off v) -> jM w w' (fun x => x = b) -> w'.heap.size = w.heap.size -> K undef w') : gD pg (jZ 22 (.pointer (some ⟨b, off, none⟩)) v) w K := C5 Rn rfl ho hv h hk
theorem cI {ty : TypeId} (x : Option Addr) (n c : Nat) (w : asY) : (oF .len #[80] ty [.slice x n c]).run pg w = .ok (.value (.int .i64 n)) w := Q9 Tryz.underlying80 x n c
theorem aeF : (pg).info? 84 = some Tryz.t84 := by kernel_rfl
theorem cC {k : IntKind} {a : Int} (b o n c : Nat) (w : asY) (h0 : 0 <= a) (h1 : a < n) : (jO 80 (.slice (some ⟨b, o, none⟩) n c) (.int k a)).run pg w = .ok (.value (.pointer (some ⟨b, o + a.toNat * 3, none⟩))) w := Tc rfl Tryz.underlying80 aeF b o n c h0 h1
theorem Jg : (pg).info? 38 = some Tryz.t38 := by kernel_rfl
theorem aB (b o : Nat) (w : asY) : (jJ 84 (.pointer (some ⟨b, o, none⟩)) 0).run pg w = .ok (.value (.pointer (some ⟨b, o, none⟩))) w := lY (i := 0) Tryz.underlying84 rfl Jg (by decide) _
theorem gC (x : Addr) (w : asY) : (jE 38 (.pointer (some x))).run pg w = VX (w.cell? x) w (Yo pg 38 x w) := TC Tryz.underlying38 rfl x w
theorem fA {k : IntKind} (a : Int) (w : asY) : (nL 38 3 (.int k a)).run pg w = .ok (.value (.int .i64 (IntKind.i64.wrap a))) w := Bg Tryz.underlying38 Tryz.underlying3
theorem aI (b o : Nat) (w : asY) : (jJ 84 (.pointer (some ⟨b, o, none⟩)) 1).run pg w = .ok (.value (.pointer (some ⟨b, o + 1, none⟩))) w := lY (i := 1) Tryz.underlying84 rfl Jg (by decide) _
theorem aG (b o : Nat) (w : asY) : (jJ 84 (.pointer (some ⟨b, o, none⟩)) 2).run pg w = .ok (.value (.pointer (some ⟨b, o + 2, none⟩))) w := lY (i := 2) Tryz.underlying84 rfl Jg (by decide) _
theorem abC {b off : Nat} {cs : List asZ} {w : asY} {v : asZ} {K : asZ -> asY -> Prop} (ho : mP w b cs) (hv : one v = true) (h : off < cs.length) (hk : ∀ w', mP w' b (cs.set off v) -> jM w w' (fun x => x = b) -> w'.heap.size = w.heap.size -> K undef w') : gD pg (jZ 38 (.pointer (some ⟨b, off, none⟩)) v) w K := C5 Jg rfl ho hv h hk
theorem O4 {n : Nat} {ps : List (Nat × asZ)} {cells : Array asZ} {w : asY} (h1 : ¬ n * 1 > 2 ^ 24) (h0 : ¬ n * 1 = 0) (hf : Go.Instr.fill (fun j => some (j * 1, 1)) ((Array.range (n * 1)).map ((Tryz.t22.zero.get!).cells[· % (Tryz.t22.zero.get!).cells.size]!)) ps = some cells) {K : asZ -> asY -> Prop} (hk : ∀ w', mP w' w.heap.size cells.toList -> jM w w' mM -> w'.heap.size = w.heap.size + 1 -> K (.slice (some ⟨w.heap.size, 0, none⟩) n n) w') : gD pg (lI 137 n ps) w K := QB (i := Tryz.t22) Tryz.underlying137 Rn rfl h1 h0 hf hk
theorem ajN : (pg).info? 4 = some Tryz.t4 := by kernel_rfl
theorem bN (b o : Nat) (w : asY) : (jJ 65 (.pointer (some ⟨b, o, none⟩)) 0).run pg w = .ok (.value (.pointer (some ⟨b, o, none⟩))) w := lY (i := 0) Tryz.underlying65 rfl ajN (by decide) _
theorem gO (x : Addr) (w : asY) : (jE 4 (.pointer (some x))).run pg w = VX (w.cell? x) w (Yo pg 4 x w) := TC Tryz.underlying4 rfl x w
theorem aN (n0 : Int) (n1 : Int) (n2 : Int) (n3 : Int) (w : asY) : (mK 90 [(0, (.int .u64 n0)), (1, (.int .u64 n1)), (2, (.int .u64 n2)), (3, (.int .u64 n3))]).run pg w = .ok (.value (.agg #[(.int .u64 n0), (.int .u64 n1), (.int .u64 n2), (.int .u64 n3)])) w := by kernel_rfl
theorem eU (aeY afI aeC alA : asZ) (w : asY) : (mK 93 [(0, (.agg #[aeY, afI, aeC, alA]))]).run pg w = .ok (.value (.agg #[aeY, afI, aeC, alA, (.int .u8 0), (.int .u8 0), (.int .u8 0), (.int .u8 0), (.int .u8 0), (.int .u8 0), (.int .u8 0), (.int .u8 0), (.int .u8 0), (.int .u8 0), (.int .u8 0), (.int .u8 0), (.int .u8 0), (.int .u8 0), (.int .u8 0), (.int .u8 0), (.int .u8 0), (.int .u8 0), (.int .u8 0), (.int .u8 0), (.int .u8 0), (.int .u8 0), (.int .u8 0), (.int .u8 0), (.int .u8 0), (.int .u8 0), (.int .u8 0), (.int .u8 0), (.int .u8 0), (.int .u8 0), (.int .u8 0), (.int .u8 0), (.int .i64 0), (.int .u64 0)])) w := by kernel_rfl
theorem dZ {ox oy : Operand} (x : Option Addr) (w : asY) : (gV .eql 68 ox oy (.pointer x) (.pointer none)).run pg w = .ok (.value (.bool x.isNone)) w := WX Tryz.underlying68 x
theorem Vf : (pg).info? 32 = some Tryz.t32 := by kernel_rfl
theorem dV (b o : Nat) (w : asY) : (jJ 93 (.pointer (some ⟨b, o, none⟩)) 3).run pg w = .ok (.value (.pointer (some ⟨b, o + 37, none⟩))) w := lY (i := 3) Tryz.underlying93 rfl Vf (by decide) _
theorem gG (x : Addr) (w : asY) : (jE 32 (.pointer (some x))).run pg w = VX (w.cell? x) w (Yo pg 32 x w) := TC Tryz.underlying32 rfl x w
theorem V9 {b off : Nat} {cs : List asZ} {w : asY} {v : asZ} {K : asZ -> asY -> Prop} (ho : mP w b cs) (hv : one v = true) (h : off < cs.length) (hk : ∀ w', mP w' b (cs.set off v) -> jM w w' (fun x => x = b) -> w'.heap.size = w.heap.size -> K undef w') : gD pg (jZ 32 (.pointer (some ⟨b, off, none⟩)) v) w K := C5 Vf rfl ho hv h hk
theorem akV : (pg).info? 91 = some Tryz.t91 := by kernel_rfl
theorem dH (b o : Nat) (w : asY) : (jJ 93 (.pointer (some ⟨b, o, none⟩)) 1).run pg w = .ok (.value (.pointer (some ⟨b, o + 4, none⟩))) w := lY (i := 1) Tryz.underlying93 rfl akV (by decide) _
theorem fC (b o : Nat) (w : asY) : (jJ 93 (.pointer (some ⟨b, o, none⟩)) 2).run pg w = .ok (.value (.pointer (some ⟨b, o + 36, none⟩))) w := lY (i := 2) Tryz.underlying93 rfl Et (by decide) _
theorem dC {k : IntKind} {lo : Int} (b o : Nat) (w : asY) (h0 : 0 <= lo) (h1 : lo <= 32) : (lR 91 (.pointer (some ⟨b, o, none⟩)) (some (.int k lo)) none none).run pg w = .ok (.value (.slice (some (sT ⟨b, o, none⟩ 32 (lo.toNat) 1)) (32 - lo.toNat) (32 - lo.toNat))) w := Xp Tryz.underlying91 Ih _ h0 (by simpa using h1)
theorem X6 {ty : TypeId} {w : asY} {b off dl c : Nat} {cs : List asZ} (ho : mP w b cs) (hl : off + dl <= cs.length) {v : asZ} {l : List asZ} (h : Sl w v l) (hv : ∀ x ∈ l, one x = true) {K : asZ -> asY -> Prop} (hk : ∀ w', mP w' b (qM cs off (l.take (min l.length dl))) -> jM w w' (fun x => x = b) -> w'.heap.size = w.heap.size -> K (.int .i64 (min l.length dl : Nat)) w') : gD pg (oF .copy #[22, 22] ty [.slice (some ⟨b, off, none⟩) dl c, v]) w K := afK Tryz.underlying22 Ih rfl ho hl h hv hk
theorem eF {k : IntKind} {lo : Int} (a : Option Addr) (n c : Nat) (w : asY) (h0 : 0 <= lo) (h1 : lo <= n) : (lR 22 (.slice a n c) (some (.int k lo)) none none).run pg w = .ok (.value (.slice (nM a c (lo.toNat) 1) (n - lo.toNat) (c - lo.toNat))) w := YM Tryz.underlying22 Ih _ n c h0 h1
theorem aiG : (pg).info? 90 = some Tryz.t90 := by kernel_rfl
theorem eZ (b o : Nat) (w : asY) : (jJ 93 (.pointer (some ⟨b, o, none⟩)) 0).run pg w = .ok (.value (.pointer (some ⟨b, o, none⟩))) w := lY (i := 0) Tryz.underlying93 rfl aiG (by decide) _
theorem eY {k : IntKind} {a : Int} (b o : Nat) (w : asY) (h0 : 0 <= a) (h1 : a < 4) : (jO 90 (.pointer (some ⟨b, o, none⟩)) (.int k a)).run pg w = .ok (.value (.pointer (some ⟨b, o + a.toNat, none⟩))) w := Ha rfl Tryz.underlying90 Vf b o h0 (by simpa using h1)
theorem cB {k k' : IntKind} {lo hi : Int} (b o : Nat) (w : asY) (h0 : 0 <= lo) (h1 : lo <= hi) (h2 : hi <= 32) : (lR 91 (.pointer (some ⟨b, o, none⟩)) (some (.int k lo)) (some (.int k' hi)) none).run pg w = .ok (.value (.slice (some (sT ⟨b, o, none⟩ 32 (lo.toNat) 1)) (hi.toNat - lo.toNat) (32 - lo.toNat))) w := Qu Tryz.underlying91 Ih _ h0 h1 (by simpa using h2)
theorem cY {k : IntKind} {hi : Int} (b o : Nat) (w : asY) (h0 : 0 <= hi) (h1 : hi <= 32) : (lR 91 (.pointer (some ⟨b, o, none⟩)) none (some (.int k hi)) none).run pg w = .ok (.value (.slice (some (sT ⟨b, o, none⟩ 32 (0) 1)) (hi.toNat - 0) (32 - 0))) w := OG Tryz.underlying91 Ih _ h0 (by simpa using h1)
theorem gJ (x : Addr) (w : asY) : (jE 5 (.pointer (some x))).run pg w = VX (w.cell? x) w (Yo pg 5 x w) := TC Tryz.underlying5 rfl x w
theorem eD {k : IntKind} (a : Int) (w : asY) : (nL 5 32 (.int k a)).run pg w = .ok (.value (.int .u64 (IntKind.u64.wrap a))) w := Bg Tryz.underlying5 Tryz.underlying32
theorem bZ (a0 : Option Addr) (l0 c0 : Nat) (w : asY) : (mK 97 [(0, (.slice a0 l0 c0))]).run pg w = .ok (.value (.agg #[(.slice a0 l0 c0), (.int .i64 0)])) w := by kernel_rfl
theorem bF {ox oy : Operand} (x : Option Addr) (w : asY) : (gV .eql 54 ox oy (.pointer x) (.pointer none)).run pg w = .ok (.value (.bool x.isNone)) w := WX Tryz.underlying54 x
theorem bY (b o : Nat) (w : asY) : (jJ 97 (.pointer (some ⟨b, o, none⟩)) 0).run pg w = .ok (.value (.pointer (some ⟨b, o, none⟩))) w := lY (i := 0) Tryz.underlying97 rfl Rn (by decide) _
theorem agB : (pg).info? 24 = some Tryz.t24 := by kernel_rfl
theorem bX (b o : Nat) (w : asY) : (jJ 97 (.pointer (some ⟨b, o, none⟩)) 1).run pg w = .ok (.value (.pointer (some ⟨b, o + 1, none⟩))) w := lY (i := 1) Tryz.underlying97 rfl agB (by decide) _
theorem fO (x : Addr) (w : asY) : (jE 24 (.pointer (some x))).run pg w = VX (w.cell? x) w (Yo pg 24 x w) := TC Tryz.underlying24 rfl x w
theorem aD (b o : Nat) (w : asY) : (jJ 101 (.pointer (some ⟨b, o, none⟩)) 0).run pg w = .ok (.value (.pointer (some ⟨b, o, none⟩))) w := lY (i := 0) Tryz.underlying101 rfl Vf (by decide) _
theorem aE (b o : Nat) (w : asY) : (jJ 56 (.pointer (some ⟨b, o, none⟩)) 1).run pg w = .ok (.value (.pointer (some ⟨b, o + 1, none⟩))) w := lY (i := 1) Tryz.underlying56 rfl Vf (by decide) _
theorem aM (b o : Nat) (w : asY) : (jJ 101 (.pointer (some ⟨b, o, none⟩)) 2).run pg w = .ok (.value (.pointer (some ⟨b, o + 2, none⟩))) w := lY (i := 2) Tryz.underlying101 rfl ajN (by decide) _
theorem aV (b o : Nat) (w : asY) : (jJ 101 (.pointer (some ⟨b, o, none⟩)) 1).run pg w = .ok (.value (.pointer (some ⟨b, o + 1, none⟩))) w := lY (i := 1) Tryz.underlying101 rfl Vf (by decide) _
theorem bE (b o : Nat) (w : asY) : (jJ 56 (.pointer (some ⟨b, o, none⟩)) 2).run pg w = .ok (.value (.pointer (some ⟨b, o + 2, none⟩))) w := lY (i := 2) Tryz.underlying56 rfl Et (by decide) _
theorem cS (aeY afI aeC : asZ) (w : asY) : (mK 110 [(2, (.agg #[aeY, afI, aeC]))]).run pg w = .ok (.value (.agg #[(.slice none 0 0), (.int .i64 0), (.slice none 0 0), (.int .i64 0), (.slice none 0 0), (.int .i64 0), (.slice none 0 0), aeY, afI, aeC])) w := by kernel_rfl
theorem bK (b o : Nat) (w : asY) : (jJ 101 (.pointer (some ⟨b, o, none⟩)) 3).run pg w = .ok (.value (.pointer (some ⟨b, o + 3, none⟩))) w := lY (i := 3) Tryz.underlying101 rfl ajN (by decide) _
theorem Gg {w : asY} {K : asZ -> asY -> Prop} (hk : ∀ w', Mp w' w.heap.size (Rv (n := 4)) ([] : List (Nw 4 × asZ)) -> jM w w' mM -> w'.heap.size = w.heap.size + 1 -> K (.map (some w.heap.size)) w') : gD pg (TS 116 none) w K := abE _ hk
theorem Tm {k : IntKind} {n : Int} {w : asY} {K : asZ -> asY -> Prop} (h0 : 0 <= n) (hn : 8 * n <= 2 ^ 48) (hk : ∀ w', mP w' w.heap.size (List.replicate n.toNat (.int .i64 0)) -> jM w w' mM -> w'.heap.size = w.heap.size + 1 -> K (.slice (some ⟨w.heap.size, 0, none⟩) n.toNat n.toNat) w') : gD pg (tW 117 (.int k n) (.int k n)) w K := Yg (i := Tryz.t3) Tryz.underlying117 Et rfl rfl rfl h0 hn (by omega) hk
theorem aA (a0 : Option Addr) (l0 c0 : Nat) (n1 : Int) (m2 : Option Nat) (a3 : Option Addr) (l3 c3 : Nat) (n4 : Int) (w : asY) : (mK 119 [(0, (.slice a0 l0 c0)), (1, (.int .i64 n1)), (2, (.map m2)), (3, (.slice a3 l3 c3)), (4, (.int .i64 n4))]).run pg w = .ok (.value (.agg #[(.slice a0 l0 c0), (.int .i64 n1), (.map m2), (.slice a3 l3 c3), (.int .i64 n4)])) w := by kernel_rfl
theorem fF {k : IntKind} (a : Int) (w : asY) : (nL 3 38 (.int k a)).run pg w = .ok (.value (.int .u32 (IntKind.u32.wrap a))) w := Bg Tryz.underlying3 Tryz.underlying38
theorem aH (n0 : Int) (n1 : Int) (n2 : Int) (w : asY) : (mK 84 [(0, (.int .u32 n0)), (1, (.int .u32 n1)), (2, (.int .u32 n2))]).run pg w = .ok (.value (.agg #[(.int .u32 n0), (.int .u32 n1), (.int .u32 n2)])) w := by kernel_rfl
theorem Q6 {n : Nat} {ps : List (Nat × asZ)} {cells : Array asZ} {w : asY} (h1 : ¬ n * 3 > 2 ^ 24) (h0 : ¬ n * 3 = 0) (hf : Go.Instr.fill (fun j => some (j * 3, 3)) ((Array.range (n * 3)).map ((Tryz.t84.zero.get!).cells[· % (Tryz.t84.zero.get!).cells.size]!)) ps = some cells) {K : asZ -> asY -> Prop} (hk : ∀ w', mP w' w.heap.size cells.toList -> jM w w' mM -> w'.heap.size = w.heap.size + 1 -> K (.slice (some ⟨w.heap.size, 0, none⟩) n n) w') : gD pg (lI 80 n ps) w K := QB (i := Tryz.t84) Tryz.underlying80 aeF rfl h1 h0 hf hk
theorem CN {base n m : Nat} {ty : TypeId} {w : asY} {v x : asZ} {l news : List asZ} (h : xH w base 3 v n l) (hx : Cl w 3 x m news) (hone : ∀ y ∈ news, one y = true) (hb : base <= w.heap.size) (hbytes : (n + m) * 12 <= 140737488355328) {K : asZ -> asY -> Prop} (hk : ∀ v' w', xH w' base 3 v' (n + m) (l ++ news) -> jM w w' (fun y => base <= y) -> K v' w') : gD pg (oF .append #[80, 80] ty [v, x]) w K := UW (i := Tryz.t84) Tryz.underlying80 Tryz.underlying80 aeF rfl rfl rfl h hx hone hb (by omega) hbytes (by decide) hk
theorem cO (n0 : Int) (w : asY) : (mK 84 [(0, (.int .u32 n0))]).run pg w = .ok (.value (.agg #[(.int .u32 n0), (.int .u32 0), (.int .u32 0)])) w := by kernel_rfl
theorem TV {w : asY} {K : asZ -> asY -> Prop} (hk : ∀ w', mP w' w.heap.size [(.slice none 0 0)] -> jM w w' mM -> w'.heap.size = w.heap.size + 1 -> K (.pointer (some ⟨w.heap.size, 0, none⟩)) w') : gD pg (pY 22) w K := EZ (i := Tryz.t22) Rn rfl hk
theorem WT {k : IntKind} {n : Int} {w : asY} {K : asZ -> asY -> Prop} (h0 : 0 <= n) (hn : 4 * n <= 2 ^ 48) (hk : ∀ w', mP w' w.heap.size (List.replicate n.toNat (.int .u32 0)) -> jM w w' mM -> w'.heap.size = w.heap.size + 1 -> K (.slice (some ⟨w.heap.size, 0, none⟩) n.toNat n.toNat) w') : gD pg (tW 128 (.int k n) (.int k n)) w K := Yg (i := Tryz.t38) Tryz.underlying128 Jg rfl rfl rfl h0 hn (by omega) hk
theorem fI {k : IntKind} {a : Int} (b o n c : Nat) (w : asY) (h0 : 0 <= a) (h1 : a < n) : (jO 128 (.slice (some ⟨b, o, none⟩) n c) (.int k a)).run pg w = .ok (.value (.pointer (some ⟨b, o + a.toNat, none⟩))) w := Pd rfl Tryz.underlying128 Jg b o n c h0 h1
theorem YX : (pg).info? 117 = some Tryz.t117 := by kernel_rfl
theorem eT {k : IntKind} {a : Int} (b o : Nat) (w : asY) (h0 : 0 <= a) (h1 : a < 3) : (jO 131 (.pointer (some ⟨b, o, none⟩)) (.int k a)).run pg w = .ok (.value (.pointer (some ⟨b, o + a.toNat, none⟩))) w := Ha rfl Tryz.underlying131 YX b o h0 (by simpa using h1)
theorem gH (x : Addr) (w : asY) : (jE 117 (.pointer (some x))).run pg w = VX (w.cell? x) w (Yo pg 117 x w) := TC Tryz.underlying117 rfl x w
theorem ajR : (pg).info? 106 = some Tryz.t106 := by kernel_rfl
theorem bO {k : IntKind} {a : Int} (b o : Nat) (w : asY) (h0 : 0 <= a) (h1 : a < 3) : (jO 108 (.pointer (some ⟨b, o, none⟩)) (.int k a)).run pg w = .ok (.value (.pointer (some ⟨b, o + a.toNat * 2, none⟩))) w := abO rfl Tryz.underlying108 ajR b o h0 (by simpa using h1)
theorem eM {ty : TypeId} (x : Option Addr) (n c : Nat) (w : asY) : (oF .len #[137] ty [.slice x n c]).run pg w = .ok (.value (.int .i64 n)) w := Q9 Tryz.underlying137 x n c
theorem eK {k : IntKind} {a : Int} (b o n c : Nat) (w : asY) (h0 : 0 <= a) (h1 : a < n) : (jO 137 (.slice (some ⟨b, o, none⟩) n c) (.int k a)).run pg w = .ok (.value (.pointer (some ⟨b, o + a.toNat, none⟩))) w := Pd rfl Tryz.underlying137 Rn b o n c h0 h1
theorem bW (n0 : Int) (n1 : Int) (n2 : Int) (n3 : Int) (w : asY) : (mK 139 [(0, (.int .i64 n0)), (1, (.int .i64 n1)), (2, (.int .i64 n2)), (3, (.int .i64 n3))]).run pg w = .ok (.value (.agg #[(.int .i64 n0), (.int .i64 n1), (.int .i64 n2), (.int .i64 n3)])) w := by kernel_rfl
theorem fW {k : IntKind} {a : Int} (cs : Array asZ) (w : asY) (h0 : 0 <= a) (h1 : a < 4) : (PU 139 (.agg cs) (.int k a)).run pg w = VX cs[a.toNat]? w (aeN pg 139 cs k a w) := WE Tryz.underlying139 Tryz.underlying3 rfl Et rfl cs h0 (by simpa using h1)
theorem Vo {b off : Nat} {cs : List asZ} {w : asY} (ho : mP w b cs) (h : off + 4 <= cs.length) : (jE 90 (.pointer (some ⟨b, off, none⟩))).run pg w = .ok (.value (.agg ((cs.drop off).take 4).toArray)) w := RA Tryz.underlying90 rfl aiG ho h
theorem eS {k : IntKind} {a : Int} (cs : Array asZ) (w : asY) (h0 : 0 <= a) (h1 : a < 4) : (PU 90 (.agg cs) (.int k a)).run pg w = VX cs[a.toNat]? w (aeN pg 90 cs k a w) := WE Tryz.underlying90 Tryz.underlying32 rfl Vf rfl cs h0 (by simpa using h1)
theorem Lq {b off : Nat} {cs : List asZ} {w : asY} {v : asZ} {K : asZ -> asY -> Prop} (ho : mP w b cs) (hv : one v = true) (h : off < cs.length) (hk : ∀ w', mP w' b (cs.set off v) -> jM w w' (fun x => x = b) -> w'.heap.size = w.heap.size -> K undef w') : gD pg (jZ 24 (.pointer (some ⟨b, off, none⟩)) v) w K := C5 agB rfl ho hv h hk
theorem eI {k k' : IntKind} {hi mx : Int} (a : Option Addr) (n c : Nat) (w : asY) (h0 : 0 <= hi) (h1 : hi <= mx) (h2 : mx <= c) : (lR 22 (.slice a n c) none (some (.int k hi)) (some (.int k' mx))).run pg w = .ok (.value (.slice (nM a mx.toNat 0 1) (hi.toNat - 0) (mx.toNat - 0))) w := YQ Tryz.underlying22 Ih a n c h0 h1 h2
theorem cZ  (w : asY) : (mK 101 []).run pg w = .ok (.value (.agg #[(.int .u64 0), (.int .u64 0), (.bool false), (.bool false)])) w := by kernel_rfl
theorem cL (b0 : Bool) (w : asY) : (mK 101 [(3, (.bool b0))]).run pg w = .ok (.value (.agg #[(.int .u64 0), (.int .u64 0), (.bool false), (.bool b0)])) w := by kernel_rfl
theorem dF  (w : asY) : (mK 110 []).run pg w = .ok (.value (.agg #[(.slice none 0 0), (.int .i64 0), (.slice none 0 0), (.int .i64 0), (.slice none 0 0), (.int .i64 0), (.slice none 0 0), (.int .u32 0), (.int .u32 0), (.int .u32 0)])) w := by kernel_rfl
theorem UQ : (pg).info? 146 = some Tryz.t146 := by kernel_rfl
theorem Lj {w : asY} {K : asZ -> asY -> Prop} (hk : ∀ w', mP w' w.heap.size [(.int .u8 0), (.int .u8 0), (.int .u8 0), (.int .u8 0)] -> jM w w' mM -> w'.heap.size = w.heap.size + 1 -> K (.pointer (some ⟨w.heap.size, 0, none⟩)) w') : gD pg (pY 146) w K := EZ (i := Tryz.t146) UQ rfl hk
theorem F2 {b off : Nat} {cs : List asZ} {w : asY} {xs : Array asZ} {K : asZ -> asY -> Prop} (ho : mP w b cs) (hs : xs.size = 4) (hv : ∀ x ∈ xs.toList, one x = true) (h : off + 4 <= cs.length) (hk : ∀ w', mP w' b (qM cs off xs.toList) -> jM w w' (fun x => x = b) -> w'.heap.size = w.heap.size -> K undef w') : gD pg (jZ 146 (.pointer (some ⟨b, off, none⟩)) (.agg xs)) w K := Hb (v := .agg xs) UQ ho hs hv h hk
theorem ajK : (pg).info? 116 = some Tryz.t116 := by kernel_rfl
theorem aX (b o : Nat) (w : asY) : (jJ 119 (.pointer (some ⟨b, o, none⟩)) 2).run pg w = .ok (.value (.pointer (some ⟨b, o + 2, none⟩))) w := lY (i := 2) Tryz.underlying119 rfl ajK (by decide) _
theorem bD (x : Addr) (w : asY) : (jE 116 (.pointer (some x))).run pg w = VX (w.cell? x) w (Yo pg 116 x w) := TC Tryz.underlying116 rfl x w
theorem VN {b off : Nat} {l : List asZ} {w : asY} (hl : l.length = 4) (h : ∀ j, j < l.length -> w.cell? ⟨b, off + j, none⟩ = l[j]?) : (jE 146 (.pointer (some ⟨b, off, none⟩))).run pg w = .ok (.value (.agg l.toArray)) w := ahK Tryz.underlying146 rfl UQ hl.symm h
theorem JB {b off : Nat} {cs : List asZ} {w : asY} (ho : mP w b cs) (h : off + 4 <= cs.length) : (jE 146 (.pointer (some ⟨b, off, none⟩))).run pg w = .ok (.value (.agg ((cs.drop off).take 4).toArray)) w := RA Tryz.underlying146 rfl UQ ho h
theorem Gl {w : asY} {m : Nat} {l : List (Nw 4 × asZ)} (hm : Mp w m (Rv (n := 4)) l) (k : Nw 4) : (Xx 116 (.map (some m)) ((Rv (n := 4)) k) true).run pg w = .ok (.value (.tuple #[(assoc k l).getD (.int .i64 0), .bool (assoc k l).isSome])) w := ajE Tryz.underlying116 Et rfl (Wo (n := 4) Tryz.underlying146 Tryz.underlying5 Ih rfl) hm k
theorem aQ (b o : Nat) (w : asY) : (jJ 119 (.pointer (some ⟨b, o, none⟩)) 3).run pg w = .ok (.value (.pointer (some ⟨b, o + 3, none⟩))) w := lY (i := 3) Tryz.underlying119 rfl YX (by decide) _
theorem gA {k : IntKind} {a : Int} (b o n c : Nat) (w : asY) (h0 : 0 <= a) (h1 : a < n) : (jO 117 (.slice (some ⟨b, o, none⟩) n c) (.int k a)).run pg w = .ok (.value (.pointer (some ⟨b, o + a.toNat, none⟩))) w := Pd rfl Tryz.underlying117 Et b o n c h0 h1
theorem OO {w : asY} {m : Nat} {l : List (Nw 4 × asZ)} (hm : Mp w m (Rv (n := 4)) l) (k : Nw 4) (v : asZ) {K : asZ -> asY -> Prop} (hk : ∀ w', Mp w' m (Rv (n := 4)) (Xc k v l) -> jM w w' (fun y => y = m) -> w'.heap.size = w.heap.size -> K undef w') : gD pg (UO 116 (.map (some m)) ((Rv (n := 4)) k) v) w K := acE Tryz.underlying116 (Wo (n := 4) Tryz.underlying146 Tryz.underlying5 Ih rfl) hm k v hk
theorem aJ (b o : Nat) (w : asY) : (jJ 119 (.pointer (some ⟨b, o, none⟩)) 4).run pg w = .ok (.value (.pointer (some ⟨b, o + 4, none⟩))) w := lY (i := 4) Tryz.underlying119 rfl Et (by decide) _
theorem dB  (w : asY) : (mK 45 []).run pg w = .ok (.value (.agg #[(.int .u32 0), (.int .u32 0), (.int .u32 0)])) w := by kernel_rfl
theorem dY {k : IntKind} {a : Int} (b o : Nat) (w : asY) (h0 : 0 <= a) (h1 : a < 3) : (jO 45 (.pointer (some ⟨b, o, none⟩)) (.int k a)).run pg w = .ok (.value (.pointer (some ⟨b, o + a.toNat, none⟩))) w := Ha rfl Tryz.underlying45 Jg b o h0 (by simpa using h1)
theorem bB {k k' : IntKind} {lo hi : Int} (b o : Nat) (w : asY) (h0 : 0 <= lo) (h1 : lo <= hi) (h2 : hi <= 3) : (lR 45 (.pointer (some ⟨b, o, none⟩)) (some (.int k lo)) (some (.int k' hi)) none).run pg w = .ok (.value (.slice (some (sT ⟨b, o, none⟩ 3 (lo.toNat) 1)) (hi.toNat - lo.toNat) (3 - lo.toNat))) w := Qu Tryz.underlying45 Jg _ h0 h1 (by simpa using h2)
theorem cH {k : IntKind} {hi : Int} (b o : Nat) (w : asY) (h0 : 0 <= hi) (h1 : hi <= 3) : (lR 45 (.pointer (some ⟨b, o, none⟩)) none (some (.int k hi)) none).run pg w = .ok (.value (.slice (some (sT ⟨b, o, none⟩ 3 (0) 1)) (hi.toNat - 0) (3 - 0))) w := OG Tryz.underlying45 Jg _ h0 (by simpa using h1)
theorem fJ {ty : TypeId} (x : Option Addr) (n c : Nat) (w : asY) : (oF .len #[128] ty [.slice x n c]).run pg w = .ok (.value (.int .i64 n)) w := Q9 Tryz.underlying128 x n c
theorem dK {k : IntKind} {hi : Int} (a : Option Addr) (n c : Nat) (w : asY) (h0 : 0 <= hi) (h1 : hi <= c) : (lR 128 (.slice a n c) none (some (.int k hi)) none).run pg w = .ok (.value (.slice (nM a c (0) 1) (hi.toNat - 0) (c - 0))) w := Qz Tryz.underlying128 Jg _ n c h0 h1
theorem gE {ty : TypeId} (x : Option Addr) (n c : Nat) (w : asY) : (oF .len #[117] ty [.slice x n c]).run pg w = .ok (.value (.int .i64 n)) w := Q9 Tryz.underlying117 x n c
theorem fL {k : IntKind} (a : Int) (w : asY) : (nL 3 5 (.int k a)).run pg w = .ok (.value (.int .u8 (IntKind.u8.wrap a))) w := Bg Tryz.underlying3 Tryz.underlying5
theorem fH {k : IntKind} {a : Int} (cs : Array asZ) (w : asY) (h0 : 0 <= a) (h1 : a < 3) : (PU 44 (.agg cs) (.int k a)).run pg w = VX cs[a.toNat]? w (aeN pg 44 cs k a w) := WE Tryz.underlying44 Tryz.underlying38 rfl Jg rfl cs h0 (by simpa using h1)
theorem fG  (w : asY) : (mK 106 []).run pg w = .ok (.value (.agg #[(.int .i64 0), (.slice none 0 0)])) w := by kernel_rfl
theorem dS {k : IntKind} {a : Int} (b o : Nat) (w : asY) (h0 : 0 <= a) (h1 : a < 256) : (jO 160 (.pointer (some ⟨b, o, none⟩)) (.int k a)).run pg w = .ok (.value (.pointer (some ⟨b, o + a.toNat, none⟩))) w := Ha rfl Tryz.underlying160 Jg b o h0 (by simpa using h1)
theorem aK (b o : Nat) (w : asY) : (jJ 162 (.pointer (some ⟨b, o, none⟩)) 1).run pg w = .ok (.value (.pointer (some ⟨b, o + 1, none⟩))) w := lY (i := 1) Tryz.underlying162 rfl YX (by decide) _
theorem cG {k : IntKind} {hi : Int} (b o : Nat) (w : asY) (h0 : 0 <= hi) (h1 : hi <= 256) : (lR 160 (.pointer (some ⟨b, o, none⟩)) none (some (.int k hi)) none).run pg w = .ok (.value (.slice (some (sT ⟨b, o, none⟩ 256 (0) 1)) (hi.toNat - 0) (256 - 0))) w := OG Tryz.underlying160 Jg _ h0 (by simpa using h1)
theorem dG (n0 : Int) (n1 : Int) (n2 : Int) (w : asY) : (mK 172 [(0, (.int .i64 n0)), (1, (.int .i64 n1)), (2, (.int .i64 n2))]).run pg w = .ok (.value (.agg #[(.int .i64 n0), (.int .i64 n1), (.int .i64 n2)])) w := by kernel_rfl
theorem fX {k : IntKind} {a : Int} (cs : Array asZ) (w : asY) (h0 : 0 <= a) (h1 : a < 3) : (PU 172 (.agg cs) (.int k a)).run pg w = VX cs[a.toNat]? w (aeN pg 172 cs k a w) := WE Tryz.underlying172 Tryz.underlying3 rfl Et rfl cs h0 (by simpa using h1)
theorem fY {k : IntKind} {a : Int} (b o : Nat) (w : asY) (h0 : 0 <= a) (h1 : a < 3) : (jO 172 (.pointer (some ⟨b, o, none⟩)) (.int k a)).run pg w = .ok (.value (.pointer (some ⟨b, o + a.toNat, none⟩))) w := Ha rfl Tryz.underlying172 Et b o h0 (by simpa using h1)
theorem fD {k : IntKind} {a : Int} (b o : Nat) (w : asY) (h0 : 0 <= a) (h1 : a < 3) : (jO 44 (.pointer (some ⟨b, o, none⟩)) (.int k a)).run pg w = .ok (.value (.pointer (some ⟨b, o + a.toNat, none⟩))) w := Ha rfl Tryz.underlying44 Jg b o h0 (by simpa using h1)
theorem dE (b o : Nat) (w : asY) : (jJ 106 (.pointer (some ⟨b, o, none⟩)) 0).run pg w = .ok (.value (.pointer (some ⟨b, o, none⟩))) w := lY (i := 0) Tryz.underlying106 rfl Et (by decide) _
theorem aT {ox oy : Operand} (x : Option Addr) (w : asY) : (gV .neq 60 ox oy (.pointer x) (.pointer none)).run pg w = .ok (.value (.bool (!x.isNone))) w := ajD Tryz.underlying60 x
theorem dT  (w : asY) : (mK 65 []).run pg w = .ok (.value (.agg #[(.bool false), (.int .i64 0), (.int .i64 0)])) w := by kernel_rfl
theorem fV {k : IntKind} (a : Int) (w : asY) : (nL 50 3 (.int k a)).run pg w = .ok (.value (.int .i64 (IntKind.i64.wrap a))) w := Bg Tryz.underlying50 Tryz.underlying3
theorem Qr {b off : Nat} {cs : List asZ} {w : asY} (ho : mP w b cs) (h : off + 4 <= cs.length) {K : asZ -> Prop} (hk : K (.agg ((cs.drop off).take 4).toArray)) : Um pg 146 (.pointer (some ⟨b, off, none⟩)) w K := WG Tryz.underlying146 rfl UQ ho h hk
theorem cP (b o : Nat) (w : asY) : (jJ 119 (.pointer (some ⟨b, o, none⟩)) 0).run pg w = .ok (.value (.pointer (some ⟨b, o, none⟩))) w := lY (i := 0) Tryz.underlying119 rfl Rn (by decide) _
theorem eX  (w : asY) : (mK 146 []).run pg w = .ok (.value (.agg #[(.int .u8 0), (.int .u8 0), (.int .u8 0), (.int .u8 0)])) w := by kernel_rfl
theorem fN {w : asY} (x : Option Addr) (n c : Nat) (h : 4 <= n) : (ahH 146 (.slice x n c)).run pg w = .ok (.value (.pointer x)) w := akL Tryz.underlying146 x n c h
theorem cD (b o : Nat) (w : asY) : (jJ 119 (.pointer (some ⟨b, o, none⟩)) 1).run pg w = .ok (.value (.pointer (some ⟨b, o + 1, none⟩))) w := lY (i := 1) Tryz.underlying119 rfl Et (by decide) _
theorem bL (n0 : Int) (n1 : Int) (n2 : Int) (w : asY) : (mK 44 [(0, (.int .u32 n0)), (1, (.int .u32 n1)), (2, (.int .u32 n2))]).run pg w = .ok (.value (.agg #[(.int .u32 n0), (.int .u32 n1), (.int .u32 n2)])) w := by kernel_rfl
theorem dP  (b o : Nat) (w : asY)  : (lR 190 (.pointer (some ⟨b, o, none⟩)) none none none).run pg w = .ok (.value (.slice (some (sT ⟨b, o, none⟩ 36 (0) 1)) (36 - 0) (36 - 0))) w := Ec Tryz.underlying190 Et _
theorem aW (n0 : Int) (a1 : Option Addr) (l1 c1 : Nat) (w : asY) : (mK 162 [(0, (.int .i64 n0)), (1, (.slice a1 l1 c1))]).run pg w = .ok (.value (.agg #[(.int .i64 n0), (.slice a1 l1 c1)])) w := by kernel_rfl
theorem dX  (b o : Nat) (w : asY)  : (lR 191 (.pointer (some ⟨b, o, none⟩)) none none none).run pg w = .ok (.value (.slice (some (sT ⟨b, o, none⟩ 29 (0) 1)) (29 - 0) (29 - 0))) w := Ec Tryz.underlying191 Et _
theorem dR  (b o : Nat) (w : asY)  : (lR 192 (.pointer (some ⟨b, o, none⟩)) none none none).run pg w = .ok (.value (.slice (some (sT ⟨b, o, none⟩ 53 (0) 1)) (53 - 0) (53 - 0))) w := Ec Tryz.underlying192 Et _
theorem cN  (w : asY) : (mK 162 []).run pg w = .ok (.value (.agg #[(.int .i64 0), (.slice none 0 0)])) w := by kernel_rfl
theorem eN (n0 : Int) (w : asY) : (mK 194 [(0, (.int .u8 n0))]).run pg w = .ok (.value (.agg #[(.int .u8 n0), (.int .i64 0), (.int .i64 0)])) w := by kernel_rfl
theorem ajU : (pg).info? 194 = some Tryz.t194 := by kernel_rfl
theorem eL (a0 : Option Addr) (l0 c0 : Nat) (w : asY) : (mK 106 [(1, (.slice a0 l0 c0))]).run pg w = .ok (.value (.agg #[(.int .i64 0), (.slice a0 l0 c0)])) w := by kernel_rfl
theorem aY (b o : Nat) (w : asY) : (jJ 162 (.pointer (some ⟨b, o, none⟩)) 0).run pg w = .ok (.value (.pointer (some ⟨b, o, none⟩))) w := lY (i := 0) Tryz.underlying162 rfl Et (by decide) _
theorem dI (n0 : Int) (a1 : Option Addr) (l1 c1 : Nat) (w : asY) : (mK 106 [(0, (.int .i64 n0)), (1, (.slice a1 l1 c1))]).run pg w = .ok (.value (.agg #[(.int .i64 n0), (.slice a1 l1 c1)])) w := by kernel_rfl
theorem aiV : (pg).info? 104 = some Tryz.t104 := by kernel_rfl
theorem bA (b o : Nat) (w : asY) : (jJ 106 (.pointer (some ⟨b, o, none⟩)) 1).run pg w = .ok (.value (.pointer (some ⟨b, o + 1, none⟩))) w := lY (i := 1) Tryz.underlying106 rfl aiV (by decide) _
theorem dO (x : Addr) (w : asY) : (jE 104 (.pointer (some x))).run pg w = VX (w.cell? x) w (Yo pg 104 x w) := TC Tryz.underlying104 rfl x w
theorem dW {ty : TypeId} (x : Option Addr) (n c : Nat) (w : asY) : (oF .len #[104] ty [.slice x n c]).run pg w = .ok (.value (.int .i64 n)) w := Q9 Tryz.underlying104 x n c
theorem dN {k : IntKind} {a : Int} (b o n c : Nat) (w : asY) (h0 : 0 <= a) (h1 : a < n) : (jO 104 (.slice (some ⟨b, o, none⟩) n c) (.int k a)).run pg w = .ok (.value (.pointer (some ⟨b, o + a.toNat * 3, none⟩))) w := Tc rfl Tryz.underlying104 ajU b o n c h0 h1
theorem bH (b o : Nat) (w : asY) : (jJ 194 (.pointer (some ⟨b, o, none⟩)) 0).run pg w = .ok (.value (.pointer (some ⟨b, o, none⟩))) w := lY (i := 0) Tryz.underlying194 rfl Ih (by decide) _
theorem cR (b o : Nat) (w : asY) : (jJ 194 (.pointer (some ⟨b, o, none⟩)) 1).run pg w = .ok (.value (.pointer (some ⟨b, o + 1, none⟩))) w := lY (i := 1) Tryz.underlying194 rfl Et (by decide) _
theorem cM (b o : Nat) (w : asY) : (jJ 194 (.pointer (some ⟨b, o, none⟩)) 2).run pg w = .ok (.value (.pointer (some ⟨b, o + 2, none⟩))) w := lY (i := 2) Tryz.underlying194 rfl Et (by decide) _
theorem dM  (w : asY) : (mK 201 []).run pg w = .ok (.value (.agg #[(.slice none 0 0), (.int .i64 0)])) w := by kernel_rfl
theorem bR {ox oy : Operand} (x : Option Addr) (w : asY) : (gV .eql 170 ox oy (.pointer x) (.pointer none)).run pg w = .ok (.value (.bool x.isNone)) w := WX Tryz.underlying170 x
theorem cW (b o : Nat) (w : asY) : (jJ 201 (.pointer (some ⟨b, o, none⟩)) 1).run pg w = .ok (.value (.pointer (some ⟨b, o + 1, none⟩))) w := lY (i := 1) Tryz.underlying201 rfl Et (by decide) _
theorem cV (b o : Nat) (w : asY) : (jJ 201 (.pointer (some ⟨b, o, none⟩)) 0).run pg w = .ok (.value (.pointer (some ⟨b, o, none⟩))) w := lY (i := 0) Tryz.underlying201 rfl Rn (by decide) _
theorem fP {k : IntKind} {hi : Int} (a : Option Addr) (n c : Nat) (w : asY) (h0 : 0 <= hi) (h1 : hi <= c) : (lR 117 (.slice a n c) none (some (.int k hi)) none).run pg w = .ok (.value (.slice (nM a c (0) 1) (hi.toNat - 0) (c - 0))) w := Qz Tryz.underlying117 Et _ n c h0 h1
theorem bV (a0 : Option Addr) (l0 c0 : Nat) (n1 : Int) (w : asY) : (mK 201 [(0, (.slice a0 l0 c0)), (1, (.int .i64 n1))]).run pg w = .ok (.value (.agg #[(.slice a0 l0 c0), (.int .i64 n1)])) w := by kernel_rfl
theorem eH {k : IntKind} (a : Int) (w : asY) : (nL 50 38 (.int k a)).run pg w = .ok (.value (.int .u32 (IntKind.u32.wrap a))) w := Bg Tryz.underlying50 Tryz.underlying38
theorem eJ {k : IntKind} (a : Int) (w : asY) : (nL 38 50 (.int k a)).run pg w = .ok (.value (.int .u64 (IntKind.u64.wrap a))) w := Bg Tryz.underlying38 Tryz.underlying50
theorem gF {k : IntKind} {a : Int} (x : ByteArray) (w : asY) (h0 : 0 <= a) (h1 : a.toNat < x.size) : (PU 9 (.string x) (.int k a)).run pg w = .ok (.value (.int .u8 (x[a.toNat]'h1).toNat)) w := aiM Tryz.underlying9 x h0 h1
theorem W7 : (pg).info? 139 = some Tryz.t139 := by kernel_rfl
theorem UM {w : asY} {K : asZ -> asY -> Prop} (hk : ∀ w', mP w' w.heap.size [(.int .i64 0), (.int .i64 0), (.int .i64 0), (.int .i64 0)] -> jM w w' mM -> w'.heap.size = w.heap.size + 1 -> K (.pointer (some ⟨w.heap.size, 0, none⟩)) w') : gD pg (pY 139) w K := EZ (i := Tryz.t139) W7 rfl hk
theorem TZ {b off : Nat} {cs : List asZ} {w : asY} {xs : Array asZ} {K : asZ -> asY -> Prop} (ho : mP w b cs) (hs : xs.size = 4) (hv : ∀ x ∈ xs.toList, one x = true) (h : off + 4 <= cs.length) (hk : ∀ w', mP w' b (qM cs off xs.toList) -> jM w w' (fun x => x = b) -> w'.heap.size = w.heap.size -> K undef w') : gD pg (jZ 139 (.pointer (some ⟨b, off, none⟩)) (.agg xs)) w K := Hb (v := .agg xs) W7 ho hs hv h hk
theorem Yk {b off : Nat} {cs : List asZ} {w : asY} (ho : mP w b cs) (h : off + 4 <= cs.length) : (jE 139 (.pointer (some ⟨b, off, none⟩))).run pg w = .ok (.value (.agg ((cs.drop off).take 4).toArray)) w := RA Tryz.underlying139 rfl W7 ho h
theorem dU  (b o : Nat) (w : asY)  : (lR 231 (.pointer (some ⟨b, o, none⟩)) none none none).run pg w = .ok (.value (.slice (some (sT ⟨b, o, none⟩ 20 (0) 1)) (20 - 0) (20 - 0))) w := Ec Tryz.underlying231 Et _
theorem dQ  (b o : Nat) (w : asY)  : (lR 232 (.pointer (some ⟨b, o, none⟩)) none none none).run pg w = .ok (.value (.slice (some (sT ⟨b, o, none⟩ 21 (0) 1)) (21 - 0) (21 - 0))) w := Ec Tryz.underlying232 Et _
theorem dL {k : IntKind} (a : Int) (w : asY) : (nL 38 5 (.int k a)).run pg w = .ok (.value (.int .u8 (IntKind.u8.wrap a))) w := Bg Tryz.underlying38 Tryz.underlying5
theorem dA {k : IntKind} (a : Int) (w : asY) : (nL 32 38 (.int k a)).run pg w = .ok (.value (.int .u32 (IntKind.u32.wrap a))) w := Bg Tryz.underlying32 Tryz.underlying38
theorem Zf : (pg).info? 241 = some Tryz.t241 := by kernel_rfl
theorem P0 {k : IntKind} {n : Int} {w : asY} {K : asZ -> asY -> Prop} (h0 : 0 <= n) (hn : 16 * n <= 2 ^ 48) (hk : ∀ w', mP w' w.heap.size (Kf n.toNat [(.int .i64 0), (.int .i64 0)]) -> jM w w' mM -> w'.heap.size = w.heap.size + 1 -> K (.slice (some ⟨w.heap.size, 0, none⟩) n.toNat n.toNat) w') : gD pg (tW 225 (.int k n) (.int k n)) w K := aaF (i := Tryz.t241) Tryz.underlying225 Zf rfl (by decide) rfl rfl h0 hn (by omega) hk
theorem bG (n0 : Int) (n1 : Int) (w : asY) : (mK 241 [(0, (.int .i64 n0)), (1, (.int .i64 n1))]).run pg w = .ok (.value (.agg #[(.int .i64 n0), (.int .i64 n1)])) w := by kernel_rfl
theorem bQ {k : IntKind} {a : Int} (b o n c : Nat) (w : asY) (h0 : 0 <= a) (h1 : a < n) : (jO 225 (.slice (some ⟨b, o, none⟩) n c) (.int k a)).run pg w = .ok (.value (.pointer (some ⟨b, o + a.toNat * 2, none⟩))) w := Tc rfl Tryz.underlying225 Zf b o n c h0 h1
theorem TP {b off : Nat} {cs : List asZ} {w : asY} {xs : Array asZ} {K : asZ -> asY -> Prop} (ho : mP w b cs) (hs : xs.size = 2) (hv : ∀ x ∈ xs.toList, one x = true) (h : off + 2 <= cs.length) (hk : ∀ w', mP w' b (qM cs off xs.toList) -> jM w w' (fun x => x = b) -> w'.heap.size = w.heap.size -> K undef w') : gD pg (jZ 241 (.pointer (some ⟨b, off, none⟩)) (.agg xs)) w K := Hb (v := .agg xs) Zf ho hs hv h hk
theorem Sd {b off : Nat} {cs : List asZ} {w : asY} (ho : mP w b cs) {v : asZ} (h : cs[off]? = some v) {K : asZ -> Prop} (hk : K v) : Um pg 22 (.pointer (some ⟨b, off, none⟩)) w K := ZH Tryz.underlying22 rfl ho h hk
theorem Qq {b off : Nat} {cs : List asZ} {w : asY} (ho : mP w b cs) {v : asZ} (h : cs[off]? = some v) {K : asZ -> Prop} (hk : K v) : Um pg 24 (.pointer (some ⟨b, off, none⟩)) w K := ZH Tryz.underlying24 rfl ho h hk
theorem WR {w : asY} {K : asZ -> asY -> Prop} (hk : ∀ w', mP w' w.heap.size [(.int .i64 0)] -> jM w w' mM -> w'.heap.size = w.heap.size + 1 -> K (.pointer (some ⟨w.heap.size, 0, none⟩)) w') : gD pg (pY 24) w K := EZ (i := Tryz.t24) agB rfl hk
theorem adR : (pg).info? 170 = some Tryz.t170 := by kernel_rfl
theorem Tf {w : asY} {K : asZ -> asY -> Prop} (hk : ∀ w', mP w' w.heap.size [(.pointer none)] -> jM w w' mM -> w'.heap.size = w.heap.size + 1 -> K (.pointer (some ⟨w.heap.size, 0, none⟩)) w') : gD pg (pY 170) w K := EZ (i := Tryz.t170) adR rfl hk
theorem TH {b off : Nat} {cs : List asZ} {w : asY} {v : asZ} {K : asZ -> asY -> Prop} (ho : mP w b cs) (hv : one v = true) (h : off < cs.length) (hk : ∀ w', mP w' b (cs.set off v) -> jM w w' (fun x => x = b) -> w'.heap.size = w.heap.size -> K undef w') : gD pg (jZ 170 (.pointer (some ⟨b, off, none⟩)) v) w K := C5 adR rfl ho hv h hk
theorem bU (x : Addr) (w : asY) : (jE 225 (.pointer (some x))).run pg w = VX (w.cell? x) w (Yo pg 225 x w) := TC Tryz.underlying225 rfl x w
theorem bT {ty : TypeId} (x : Option Addr) (n c : Nat) (w : asY) : (oF .len #[225] ty [.slice x n c]).run pg w = .ok (.value (.int .i64 n)) w := Q9 Tryz.underlying225 x n c
theorem aS (b o : Nat) (w : asY) : (jJ 241 (.pointer (some ⟨b, o, none⟩)) 0).run pg w = .ok (.value (.pointer (some ⟨b, o, none⟩))) w := lY (i := 0) Tryz.underlying241 rfl Et (by decide) _
theorem cX (x : Addr) (w : asY) : (jE 170 (.pointer (some x))).run pg w = VX (w.cell? x) w (Yo pg 170 x w) := TC Tryz.underlying170 rfl x w
theorem aU (b o : Nat) (w : asY) : (jJ 241 (.pointer (some ⟨b, o, none⟩)) 1).run pg w = .ok (.value (.pointer (some ⟨b, o + 1, none⟩))) w := lY (i := 1) Tryz.underlying241 rfl Et (by decide) _
theorem XQ {b off : Nat} {cs : List asZ} {w : asY} (ho : mP w b cs) (h : off + 4 <= cs.length) {K : asZ -> Prop} (hk : K (.agg ((cs.drop off).take 4).toArray)) : Um pg 139 (.pointer (some ⟨b, off, none⟩)) w K := WG Tryz.underlying139 rfl W7 ho h hk
end Go.Proofs.YtoecppploooloaaGreatDoor
namespace Go.Pu
def QU (p : Int) : Int := if p < 0 then 1 else p
def fits : Int -> List Int -> Bool
 | left, [] => left == 0
 | left, p :: r => if p < -1 ∨ left < QU p then false else fits (left - QU p) r
def X8 (ps : List Int) : Int := (ps.map QU).sum
def aiI (log : Int) (ps : List Int) : Bool := decide (5 <= log /\ log <= 15 /\ 1 <= ps.length /\ ps.length <= 256 /\ ps.getLast? ≠ some 0)
def akK (log : Int) (ps : List Int) : Bool := aiI log ps && fits (2 ^ log.toNat) ps
theorem Wl (p : Int) (ps : List Int) : X8 (p :: ps) = QU p + X8 ps := by simp [X8]
theorem VT {p : Int} (h : -1 <= p) : 0 <= QU p := by unfold QU; split <;> omega
theorem Yf {ps : List Int} (h : ∀ p ∈ ps, -1 <= p) : 0 <= X8 ps := by
 induction ps with
 | nil => simp [X8]
 | cons p r ih =>
   rw [Wl]
   have := VT (h p (by simp))
   have := ih fun q hq => h q (aoC _ hq)
   omega
theorem Xf : ∀ {ps : List Int} {left : Int}, fits left ps = true ↔ (∀ p ∈ ps, -1 <= p) /\ X8 ps = left
 | [], left => by simp [fits, X8]; constructor <;> intro h <;> omega
 | p :: r, left => by
   rw [fits, Wl]
   by_cases h : p < -1 ∨ left < QU p
   .rw [if_pos h]
    constructor
    .intro h; cases h
    .rintro ⟨h1, h2⟩
     have hp := h1 p (by simp)
     have := Yf (ps := r) fun q hq => h1 q (aoC _ hq)
     omega
   .rw [if_neg h, Xf]
    constructor
    .rintro ⟨h1, h2⟩
     exact ⟨fun q hq => by rcases apK.1 hq with rfl | hq; · omega
                           .exact h1 q hq, by omega⟩
    .rintro ⟨h1, h2⟩
     exact ⟨fun q hq => h1 q (aoC _ hq), by omega⟩
structure May (log : Nat) (ps : List Int) : Prop where
 log5 : 5 <= log
 log15 : log <= 15
 len1 : 1 <= ps.length
 len256 : ps.length <= 256
 last : ps.getLast? ≠ some 0
 low : ∀ p ∈ ps, -1 <= p
 sum : X8 ps = 2 ^ log
theorem May.b {log : Nat} {ps : List Int} (h : May log ps) : akK log ps = true := by
 unfold akK aiI
 simp only [aoB, decide_eq_true_eq]
 have h1 := h.log5
 have h2 := h.log15
 refine ⟨⟨by omega, by omega, h.len1, h.len256, h.last⟩, ?_⟩
 rw [Xf, anP]
 exact ⟨h.low, h.sum⟩
def pos (n j : Nat) : Nat := (j * (n / 2 + n / 8 + 3)) % n
def bl (k : Nat) : Nat := if k = 0 then 0 else k.log2 + 1
theorem afC (k : Nat) : k < 2 ^ bl k := by
 unfold bl
 split
 .subst_vars; simp
 .exact Nat.lt_log2_self
theorem afE {k : Nat} (h : k ≠ 0) : 2 ^ (bl k - 1) <= k := by
 unfold bl
 rw [if_neg h, arI]
 exact Nat.log2_self_le h
theorem adM {k : Nat} (h : k ≠ 0) : 1 <= bl k := by unfold bl; rw [if_neg h]; omega
theorem O1 {k n : Nat} (h : k < 2 ^ n) : bl k <= n := by
 by_cases h0 : k = 0
 .subst h0; simp [bl]
 .rcases aoE n (bl k) with hh | hh
  .have h1 := afE h0
   have := aoO (n := 2) (by omega) (show n <= bl k - 1 by omega)
   omega
  .exact hh
theorem alK {k n : Nat} (h1 : 2 ^ n <= k) (h2 : k < 2 ^ (n + 1)) : bl k = n + 1 := by
 have h0 : k ≠ 0 := by have := apC n; omega
 have a := O1 h2
 have b := afC k
 rcases aoE (bl k) (n + 1) with h | h
 .have := aoO (n := 2) (by omega) (show bl k <= n by omega)
  omega
 .omega
end Go.Pu
namespace Go.En
open Go
section
variable {P : Program} {w : asY} {t e : TypeId}
theorem XH {i : TypeInfo} (hu : P.underlying t = some (.slice e)) (hi : P.info? e = some i)
 {K : asZ -> asY -> Prop} (hk : ∀ w', mP w' w.heap.size [] -> jM w w' mM -> w'.heap.size = w.heap.size + 1 -> K (.slice (some ⟨w.heap.size, 0, none⟩) 0 0) w') :
 gD P (lI t 0 []) w K := by
 have : (lI t 0 []).run P w = .ok (.value (.slice (some ⟨w.heap.size, 0, none⟩) 0 0)) (w.alloc (.cells ([] : List asZ).toArray e)) := by
  unfold lI; rw [rT]
  have h1 : ¬ (0 > 2 ^ 24) := by omega
  have e : ∀ f : Nat -> asZ, Array.map f (Array.range 0) = #[] := fun f => by simp
  simp only [Instr.buildSlice, underlying, pure_bind, Sem.run_bind, run_program, Result.andThen_ok, hu, Sem.run_pure, kR hi, arQ, h1, if_false, if_true, newRow, run_newObj, Instr.fill, e]
  rfl
 unfold gD
 rw [this]
 exact hk _ (mP.alloc _ _ _) (jM.alloc _ _ _) (by simp)
def At (v : asZ) (b : Nat) : Prop := ∀ M : Nat -> Prop, ¬ M b -> ¬ KZ v M
theorem At.nil (c b : Nat) (a : Option Addr) : At (.slice a 0 c) b := fun M h => by unfold KZ; split <;> simp_all
theorem At.at (b o n c : Nat) : At (.slice (some ⟨b, o, none⟩) n c) b := fun M h => by
 unfold KZ; split
 .rename_i x m _ e
  obtain ⟨rfl, _⟩ : (⟨b, o, none⟩ : Addr) = x /\ _ := by simpa using e
  exact h
 .simp
theorem xH.at' {w : asY} {base sz n : Nat} {v : asZ} {l : List asZ} (h : xH w base sz v n l) (hb : base < w.heap.size) : ∃ b, base <= b /\ b < w.heap.size /\ At v b := by
 rcases h.2 with ⟨rfl, rfl⟩ | ⟨b, c, rest, rfl, h2, h3, h4, h5⟩
 .exact ⟨base, aoA _, hb, At.nil _ _ _⟩
 .exact ⟨b, h2, h3.lt, At.at _ _ _ _⟩
end
end Go.En
namespace Go.Proofs.YtoecppploooloaaGreatDoor
open Go Go.En Go.Pu
set_option maxRecDepth 4000
def YN : ByteArray := ⟨#[0, 1, 2, 2, 3, 3, 3, 3, 4, 4, 4, 4, 4, 4, 4, 4, 5, 5, 5, 5, 5, 5, 5, 5, 5, 5, 5, 5, 5, 5, 5, 5, 6, 6, 6, 6, 6, 6, 6, 6, 6, 6, 6, 6, 6, 6, 6, 6, 6, 6, 6, 6, 6, 6, 6, 6, 6, 6, 6, 6, 6, 6, 6, 6, 7, 7, 7, 7, 7, 7, 7, 7, 7, 7, 7, 7, 7, 7, 7, 7, 7, 7, 7, 7, 7, 7, 7, 7, 7, 7, 7, 7, 7, 7, 7, 7, 7, 7, 7, 7, 7, 7, 7, 7, 7, 7, 7, 7, 7, 7, 7, 7, 7, 7, 7, 7, 7, 7, 7, 7, 7, 7, 7, 7, 7, 7, 7, 7, 8, 8, 8, 8, 8, 8, 8, 8, 8, 8, 8, 8, 8, 8, 8, 8, 8, 8, 8, 8, 8, 8, 8, 8, 8, 8, 8, 8, 8, 8, 8, 8, 8, 8, 8, 8, 8, 8, 8, 8, 8, 8, 8, 8, 8, 8, 8, 8, 8, 8, 8, 8, 8, 8, 8, 8, 8, 8, 8, 8, 8, 8, 8, 8, 8, 8, 8, 8, 8, 8, 8, 8, 8, 8, 8, 8, 8, 8, 8, 8, 8, 8, 8, 8, 8, 8, 8, 8, 8, 8, 8, 8, 8, 8, 8, 8, 8, 8, 8, 8, 8, 8, 8, 8, 8, 8, 8, 8, 8, 8, 8, 8, 8, 8, 8, 8, 8, 8, 8, 8, 8, 8, 8, 8, 8, 8, 8, 8]⟩
theorem Tl : YN.size = 256 := by decide
set_option maxRecDepth 100000 in
theorem afA (x : Nat) (h : x < 256) : (YN[x]'(by rw [Tl]; exact h)).toNat = bl x := by
 have : ∀ k : Fin 256, (YN.data[k.val]!).toNat = bl k.val := by decide +kernel
 have h2 := this ⟨x, h⟩
 simp only at h2
 rw [<- h2]
 have hs : x < YN.data.size := by have := Tl; exact (show YN.data.size = 256 from this) ▸ h
 rw [getElem!_pos YN.data x hs]
 rfl
theorem Vu {x j : Nat} (h : 2 ^ j <= x) : bl x = bl (x / 2 ^ j) + j := by
 have hp := apC j
 have h0 : x / 2 ^ j ≠ 0 := by
  have := Nat.div_pos h hp
  omega
 have a := afE h0
 have b := afC (x / 2 ^ j)
 have c := adM h0
 obtain ⟨m, hm⟩ : ∃ m, bl (x / 2 ^ j) = m + 1 := ⟨bl (x / 2 ^ j) - 1, by omega⟩
 rw [hm, arI] at a
 rw [hm] at b ⊢
 have h1 : 2 ^ (m + j) <= x := by
  rw [apY]
  exact apN (aoQ _ a) (Nat.div_mul_le_self _ _)
 have h2 : x < 2 ^ (m + j + 1) := by
  rw [show m + j + 1 = (m + 1) + j from by omega, apY]
  exact (arR hp).1 b
 rw [alK h1 h2]; omega
theorem XY {x n : Nat} (hx : x < 256) (hn : n <= 1000) (R : asZ -> asY -> Prop) (w : asY) (h : R (.int .i64 ((n + bl x : Nat) : Int)) w) :
 sQ R (.int .u64 x) (.int .i64 n) w := by
 have hg := afA x hx
 have hs := Tl
 have hb : bl x <= 8 := O1 (n := 8) (by omega)
 unfold sQ
 change gD pg _ w fun t21 w => gD pg (PU 9 (.string YN) t21) w _
 simp (disch := omega) only [gD, dJ, jG, cJ, gF, anP, hg, fK, gZ, hO]
 rw [Int.natCast_add] at h
 exact h
theorem aeS (a b : Nat) : ((a : Int)).fdiv (b : Int) = ((a / b : Nat) : Int) := by rw [aqL _ (by omega)] <;> rfl
theorem Pe (x j : Nat) (hj : j <= 64) : ((x : Int)).fdiv (2 ^ (min (j : Nat) IntKind.u64.bits)) = ((x / 2 ^ j : Nat) : Int) := by
 have e : min j IntKind.u64.bits = j := by simp only [IntKind.bits]; omega
 rw [e, <- aeS]; simp
theorem Zx (x : Nat) (hx : x < 18446744073709551616) (w : asY) : jD pg tM #[.int .u64 x] w (fun r w' => r = .int .i64 (bl x : Nat) /\ w' = w) := by
 refine Oi ?_
 unfold Mu CJ CF
 have Zv : ∀ (y n : Nat), y < 65536 -> n <= 64 -> n + bl y = bl x -> xV (fun r w' => r = .int .i64 (bl x : Nat) /\ w' = w) (.int .u64 y) (.int .i64 n) w := by
  intro y n hy hn e
  unfold xV Cu
  by_cases h : 256 <= y
  .have d : decide ((256 : Int) <= (y : Int)) = true := by simp; omega
   have sh := Pe y 8 (by omega)
   have hq : y / 2 ^ 8 < 256 := by omega
   have := Vu (x := y) (j := 8) (by omega)
   have e2 : (n : Int) + 8 = ((n + 8 : Nat) : Int) := by omega
   simp (disch := omega) only [gD, iE, d, iF, hO, e2, gZ, cJ, fZ]
   rw [show (8 : Int).toNat = 8 from rfl, sh]
   exact XY hq (by omega) _ _ ⟨by rw [<- e, this]; congr 2; omega, rfl⟩
  .have d : decide ((256 : Int) <= (y : Int)) = false := by simp; omega
   simp (disch := omega) only [gD, iE, d, iF, hO, gZ, cJ, fT]
   exact XY (by omega) (by omega) _ _ ⟨by rw [e], rfl⟩
 have step16 : ∀ (y n : Nat), y < 4294967296 -> n <= 32 -> n + bl y = bl x -> xE (fun r w' => r = .int .i64 (bl x : Nat) /\ w' = w) (.int .u64 y) (.int .i64 n) w := by
  intro y n hy hn e
  unfold xE C8
  by_cases h : 65536 <= y
  .have d : decide ((65536 : Int) <= (y : Int)) = true := by simp; omega
   have sh := Pe y 16 (by omega)
   have hq : y / 2 ^ 16 < 65536 := by omega
   have := Vu (x := y) (j := 16) (by omega)
   have e2 : (n : Int) + 16 = ((n + 16 : Nat) : Int) := by omega
   simp (disch := omega) only [gD, iE, d, iF, hO, e2, gZ, cJ, fZ]
   rw [show (16 : Int).toNat = 16 from rfl, sh]
   exact Zv _ _ hq (by omega) (by rw [<- e, this]; omega)
  .have d : decide ((65536 : Int) <= (y : Int)) = false := by simp; omega
   simp (disch := omega) only [gD, iE, d, iF, hO, gZ, cJ, fT]
   exact Zv _ _ (by omega) (by omega) e
 by_cases h : 4294967296 <= x
 .have d : decide ((4294967296 : Int) <= (x : Int)) = true := by simp; omega
  have sh := Pe x 32 (by omega)
  have hq : x / 2 ^ 32 < 4294967296 := by omega
  have := Vu (x := x) (j := 32) (by omega)
  simp (disch := omega) only [gD, iE, d, iF, cJ, fZ]
  rw [show (32 : Int).toNat = 32 from rfl, sh]
  exact step16 _ 32 hq (by omega) (by rw [this]; omega)
 .have d : decide ((4294967296 : Int) <= (x : Int)) = false := by simp; omega
  simp (disch := omega) only [gD, iE, d, iF, cJ, fT]
  exact step16 _ 0 (by omega) (by omega) (by omega)
theorem akN (x : Nat) (hx : x < 18446744073709551616) (w : asY) : jD pg Cd #[.int .u64 x] w (fun r w' => r = .int .i64 (bl x : Nat) /\ w' = w) := by
 refine QG ?_
 simp (disch := omega) only [Qj, Fb, gD, eH, cJ, fT]
 exact Zx x hx w
theorem aaM {n : Nat} (h : n <= 20) : IntKind.i64.wrap (1 * 2 ^ (min n IntKind.i64.bits)) = ((2 ^ n : Nat) : Int) := by
 have : ∀ k : Fin 21, IntKind.i64.wrap (1 * 2 ^ (min k.val IntKind.i64.bits)) = ((2 ^ k.val : Nat) : Int) := by decide
 exact this ⟨n, by omega⟩
theorem Vp {w : asY} {v : asZ} {l : List UInt8} (h : Bs w v l) (h0 : 0 < l.length) : ∃ b off c, v = .slice (some ⟨b, off, none⟩) l.length c /\ l.length <= c /\ ∀ i, (h : i < l.length) -> w.cell? ⟨b, off + i, none⟩ = some (.int .u8 (l[i].toNat : Nat)) := by
 obtain ⟨b, off, c, rfl, hc, hcell⟩ := h.openV (by simpa using h0)
 refine ⟨b, off, c, by rw [anV], by simpa using hc, fun i hi => ?_⟩
 have := hcell i (by simpa using hi)
 simpa [pB] using this
theorem UH {v : asZ} {l : List UInt8} {w : asY} (h : Bs w v l) (hl : l.length <= 1000000000) :
 jD pg pG #[v] w (fun r w' => xH w' w.heap.size 1 r l.length (l.map pB) /\ jM w w' mM) := by
 refine LB ?_
 have h1 := h
 obtain ⟨a, n, c, rfl, hn, hc, hh⟩ := h
 rw [anV] at hn
 unfold Jf Af
 cases a with
 | none =>
   have h0 : l = [] := by
    cases l with
    | nil => rfl
    | cons x l => obtain ⟨b, off, h, _⟩ := hh (by simp at hn; omega); cases h
   subst h0
   simp (disch := omega) only [gD, eP, anR, cJ, fZ]
   exact ⟨xH.nil _ _ _, jM.refl _ _⟩
 | some x =>
   simp (disch := omega) only [gD, eP, anQ, cJ, fT]
   refine XH Tryz.underlying22 Ih fun w1 o1 x1 s1 => ?_
   have hcl1 := (h1.ext x1 (kJ _)).cl
   rw [anV] at hcl1
   have hos : xH w1 w.heap.size 1 (.slice (some ⟨w.heap.size, 0, none⟩) 0 0) 0 [] := ⟨rfl, .inr ⟨_, 0, [], rfl, aoA _, o1, rfl, aoA _⟩⟩
   refine mC hos hcl1 (DE _) x1.size (by omega) fun v3 w3 o3 x3 => ?_
   rw [anS, apL] at o3
   exact ⟨o3, x1.trans x3 fun b hb h => Nat.not_le_of_lt hb h⟩
def AtI (v : asZ) (lo hi : Nat) : Prop := ∀ M : Nat -> Prop, (∀ b, lo <= b -> b < hi -> ¬ M b) -> ¬ KZ v M
theorem xH.atI {w : asY} {base sz n : Nat} {v : asZ} {l : List asZ} (h : xH w base sz v n l) : AtI v base w.heap.size := by
 intro M hM
 rcases h.2 with ⟨rfl, rfl⟩ | ⟨b, c, rest, rfl, h2, h3, h4, h5⟩
 .exact fun h => h
 .exact At.at b 0 n c M (hM b h2 h3.lt)
theorem ajL {w : asY} {a : Option Addr} {n c : Nat} {l : List asZ} (h : Sl w (.slice a n c) l) {k : Nat} (hk : k <= n) : Sl w (.slice a k c) (l.take k) := by
 obtain ⟨a', n', c', e, hn, hc, hh⟩ := h
 cases e
 refine ⟨a, k, c, rfl, by rw [aoL]; omega, by omega, fun h0 => ?_⟩
 obtain ⟨b, off, ha, hcell⟩ := hh (by omega)
 refine ⟨b, off, ha, fun i hi => ?_⟩
 rw [hcell i (by omega), apO (by omega)]
theorem slA {w : asY} {a : Option Addr} {n c : Nat} {l : List asZ} (h : Sl w (.slice a n c) l) (h0 : 0 < n) : ∃ b off, a = some ⟨b, off, none⟩ /\ ∀ i, i < n -> w.cell? ⟨b, off + i, none⟩ = l[i]? := by
 obtain ⟨a', n', c', e, hn, hc, hh⟩ := h
 cases e
 exact hh h0
end Go.Proofs.YtoecppploooloaaGreatDoor
namespace Go.Pu
open Go Go.En
def MG (c : UInt8) : List Bool := (List.range 8).map c.toNat.testBit
def tH : List UInt8 -> List Bool
 | [] => []
 | c :: l => MG c ++ tH l
def OE : List Bool -> Nat
 | [] => 0
 | b :: l => b.toNat + 2 * OE l
theorem AJ (c : UInt8) : (MG c).length = 8 := by simp [MG]
theorem SP : ∀ a b : List UInt8, tH (a ++ b) = tH a ++ tH b
 | [], b => rfl
 | c :: a, b => by rw [aqM, tH, tH, SP a b, aoU]
theorem Z6 (c : UInt8) {k : Nat} (h : k < 8) : (MG c)[k]? = some (c.toNat.testBit k) := by
 unfold MG
 rw [aoJ, asA h] <;> rfl
theorem KO : ∀ (l : List UInt8) (i : Nat) (h : i < 8 * l.length), (tH l)[i]? = some ((l[i / 8]'(by omega)).toNat.testBit (i % 8))
 | [], i, h => by simp at h
 | c :: l, i, h => by
   rw [tH]
   rcases aoE i 8 with h8 | h8
   .rw [aoI (by rw [AJ]; exact h8), Z6 c h8]
    have e : i / 8 = 0 := by omega
    have e2 : i % 8 = i := by omega
    simp [e, e2]
   .rw [aoP (by rw [AJ]; exact h8), AJ, KO l (i - 8) (by simp at h; omega)]
    have e : i / 8 = (i - 8) / 8 + 1 := by omega
    have e2 : (i - 8) % 8 = i % 8 := by omega
    simp [e, e2]
theorem ZW : ∀ l : List Bool, OE l < 2 ^ l.length
 | [] => by simp [OE]
 | b :: l => by
   have := ZW l
   rw [OE, aoG, arS]
   have : b.toNat <= 1 := Bool.toNat_le b
   omega
theorem T0 : ∀ a b : List Bool, OE (a ++ b) = OE a + 2 ^ a.length * OE b
 | [], b => by simp [OE]
 | x :: a, b => by
   rw [aqM, OE, OE, T0 a b, aoG, arS, arC, <- Nat.mul_assoc, <- aqY, apJ 2 (2 ^ a.length)]
def zG (x : Nat) (n : Nat) : List Bool := (List.range n).map x.testBit
theorem Dl (x n : Nat) : (zG x n).length = n := by simp [zG]
theorem L9 (x : Nat) : zG x 0 = [] := rfl
theorem US (x n : Nat) : zG x (n + 1) = zG x n ++ [x.testBit n] := by
 unfold zG; rw [List.range_succ, aoX] <;> rfl
theorem Za (x n : Nat) : zG x (n + 1) = x.testBit 0 :: zG (x / 2) n := by
 unfold zG
 rw [List.range_succ_eq_map, aoT, List.map_map]
 congr 1
 apply apZ
 intro k _
 simp [Nat.testBit_succ]
theorem Vt : ∀ (n x : Nat), OE (zG x n) = x % 2 ^ n
 | 0, x => by simp [zG, OE, Nat.mod_one]
 | n + 1, x => by
   rw [Za, OE, Vt n (x / 2), arS, apJ (2 ^ n) 2, Nat.mod_mul]
   congr 1
   rw [Nat.testBit_zero]
   have : x % 2 = 0 ∨ x % 2 = 1 := by omega
   rcases this with h | h <;> simp [h]
theorem aeD {x i : Nat} (h : x < 2 ^ i) (b : Nat) : x ||| (b * 2 ^ i) = x + 2 ^ i * b := by
 rw [Nat.or_comm, apJ b, <- Nat.two_pow_add_eq_or_of_lt h b, Nat.add_comm]
theorem ahS {a b : Nat} (ha : a < 2 ^ 64) (hb : b < 2 ^ 64) : UI .u64 (a : Int) (b : Int) = ((a ||| b : Nat) : Int) := by
 have h := Nat.or_lt_two_pow ha hb
 unfold UI
 have e : IntKind.u64.bits = 64 := rfl
 rw [e, BitVec.ofInt_natCast, BitVec.ofInt_natCast, BitVec.toNat_or, BitVec.toNat_ofNat, BitVec.toNat_ofNat, apH ha, apH hb]
 exact hZ (by omega) (by have : ((a ||| b : Nat) : Int) < ((2 ^ 64 : Nat) : Int) := by exact_mod_cast h
                         omega)
theorem UP {a b : Nat} (ha : a < 2 ^ 8) (hb : b < 2 ^ 8) : UI .u8 (a : Int) (b : Int) = ((a ||| b : Nat) : Int) := by
 have h := Nat.or_lt_two_pow ha hb
 unfold UI
 have e : IntKind.u8.bits = 8 := rfl
 rw [e, BitVec.ofInt_natCast, BitVec.ofInt_natCast, BitVec.toNat_or, BitVec.toNat_ofNat, BitVec.toNat_ofNat, apH ha, apH hb]
 exact jG (by omega) (by have : ((a ||| b : Nat) : Int) < ((2 ^ 8 : Nat) : Int) := by exact_mod_cast h
                         omega)
theorem Xn {a : Nat} (h : a < 2 ^ 64) : YG .u64 (a : Int) 1 = ((a % 2 : Nat) : Int) := by
 unfold YG
 have e : IntKind.u64.bits = 64 := rfl
 rw [e, BitVec.ofInt_natCast, show (BitVec.ofInt 64 1) = BitVec.ofNat 64 1 from rfl, BitVec.toNat_and, BitVec.toNat_ofNat, BitVec.toNat_ofNat, apH h, show 1 % 2 ^ 64 = 1 from rfl, Nat.and_one_is_mod]
 exact hZ (by omega) (by omega)
theorem Wj (x k : Nat) : (x.testBit k).toNat = x / 2 ^ k % 2 := by
 rw [Nat.testBit_eq_decide_div_mod_eq]
 have : x / 2 ^ k % 2 = 0 ∨ x / 2 ^ k % 2 = 1 := by omega
 rcases this with h | h <;> simp [h]
def V7 (L : List Bool) (n : Nat) : Nat := OE (L.drop (L.length - min n L.length)) * 2 ^ (n - min n L.length)
theorem afH (L : List Bool) (n : Nat) : V7 L n < 2 ^ n := by
 unfold V7
 have h := ZW (L.drop (L.length - min n L.length))
 rw [aoN, show L.length - (L.length - min n L.length) = min n L.length from by omega] at h
 calc _ < 2 ^ min n L.length * 2 ^ (n - min n L.length) := Nat.mul_lt_mul_of_pos_right h (apC _)
  _ = 2 ^ n := by rw [<- apY]; congr 1; omega
def YV (l : List UInt8) : Option Nat := match l.getLast? with
 | none => none
 | some c => if c.toNat = 0 then none else some (8 * (l.length - 1) + bl c.toNat - 1)
theorem Wh {l : List UInt8} (h : 0 < l.length) : YV l = if (l[l.length - 1]'(by omega)).toNat = 0 then none else some (8 * (l.length - 1) + bl (l[l.length - 1]'(by omega)).toNat - 1) := by
 unfold YV
 rw [asD, anX (by omega)]
theorem abJ {l : List UInt8} {k : Nat} (h : YV l = some k) : 0 < l.length /\ k < 8 * l.length /\ 8 * (l.length - 1) <= k /\ (tH l)[k]? = some true /\ ∀ j, k < j -> j < 8 * l.length -> (tH l)[j]? = some false := by
 have h0 : 0 < l.length := by
  cases l with
  | nil => simp [YV] at h
  | cons x l => simp
 rw [Wh h0] at h
 generalize hc : l[l.length - 1]'(by omega) = c at h
 split at h
 .cases h
 .rename_i hne
  have hk := aoZ h
  have h1 := adM hne
  have h2 : bl c.toNat <= 8 := O1 (by have : c.toNat < 256 := aqG c
                                      omega)
  have h3 := afE hne
  have h4 := afC c.toNat
  refine ⟨h0, by omega, by omega, ?_, ?_⟩
  .rw [KO l k (by omega)]
   have e : k / 8 = l.length - 1 := by omega
   have e2 : k % 8 = bl c.toNat - 1 := by omega
   simp only [e, hc, e2]
   rw [Nat.testBit_eq_decide_div_mod_eq]
   obtain ⟨m, hm⟩ : ∃ m, bl c.toNat = m + 1 := ⟨bl c.toNat - 1, by omega⟩
   rw [hm, arI] at h3 ⊢
   rw [hm, arS] at h4
   have : c.toNat / 2 ^ m = 1 := by
    have hp := apC m
    have := (Nat.le_div_iff_mul_le hp).2 (show 1 * 2 ^ m <= c.toNat by omega)
    have := (arR hp).2 (show c.toNat < 2 * 2 ^ m by omega)
    omega
   simp [this]
  .intro j h5 h6
   rw [KO l j h6]
   have e : j / 8 = l.length - 1 := by omega
   simp only [e, hc]
   rw [Nat.testBit_lt_two_pow]
   exact aqW h4 (aoO (by omega) (by omega))
end Go.Pu
namespace Go.Proofs.YtoecppploooloaaGreatDoor
open Go Go.En Go.Pu
set_option maxRecDepth 4000
def Fwd (w : asY) (lo hi : Nat) (l : List UInt8) (st : Nat) : Prop := ∃ v, mP w hi [v, .int .i64 st] /\ Bs w v l /\ AtI v lo hi
theorem Fwd.ext {w w' : asY} {lo hi st : Nat} {l : List UInt8} {M : Nat -> Prop} (h : Fwd w lo hi l st) (hx : jM w w' M) (hM : ∀ b, lo <= b -> b <= hi -> ¬ M b) (hlh : lo <= hi) : Fwd w' lo hi l st := by
 obtain ⟨v, h1, h2, h3⟩ := h
 exact ⟨v, h1.ext hx (hM _ hlh (aoA _)), h2.ext hx (h3 M fun b hb hh => hM b hb (by omega)), h3⟩
theorem AtI.sub {a : Option Addr} {n c m c' k sz lo hi : Nat} (h : AtI (.slice a n c) lo hi) (hm : m <= n) : AtI (.slice (nM a c k sz) m c') lo hi := by
 intro M hM hin
 cases m with
 | zero => unfold KZ at hin; split at hin <;> simp_all
 | succ m =>
   obtain ⟨n', rfl⟩ : ∃ n', n = n' + 1 := ⟨n - 1, by omega⟩
   have h1 := h M hM
   cases a with
   | none => unfold nM at hin; split at hin <;> exact hin
   | some x =>
     unfold nM at hin
     have h2 : M x.block := by
      split at hin
      .exact hin
      .rw [aoW] at hin
       have e : (x.add (k * sz)).block = x.block := by unfold Addr.add; split <;> rfl
       have h3 : M (x.add (k * sz)).block := hin
       rwa [e] at h3
     exact h1 h2
end Go.Proofs.YtoecppploooloaaGreatDoor
namespace Go.Pu
def Ye : List UInt8 -> Nat
 | [] => 0
 | c :: l => c.toNat + 256 * Ye l
theorem aiU (i : Nat) : 256 ^ i = 2 ^ (8 * i) := by rw [Nat.pow_mul]
def pD (x : Nat) : Nat -> List UInt8
 | 0 => []
 | n + 1 => UInt8.ofNat (x % 256) :: pD (x / 256) n
theorem mE : ∀ (n x : Nat), (pD x n).length = n
 | 0, _ => rfl
 | n + 1, x => by rw [pD, aoG, mE n]
theorem VY : ∀ (n x : Nat), Ye (pD x n) = x % 256 ^ n
 | 0, x => by simp [pD, Ye, Nat.mod_one]
 | n + 1, x => by
   rw [pD, Ye, VY n, arS, apJ (256 ^ n) 256, Nat.mod_mul]
   have : (UInt8.ofNat (x % 256)).toNat = x % 256 := by
    rw [UInt8.toNat_ofNat']; omega
   rw [this]
theorem Wg : ∀ (n x : Nat), pD x (n + 1) = pD x n ++ [UInt8.ofNat (x / 256 ^ n % 256)]
 | 0, x => by simp [pD]
 | n + 1, x => by
   rw [pD, Wg n (x / 256), pD, aqM, aqJ, arS, apJ (256 ^ n) 256]
end Go.Pu
namespace Go.Proofs.YtoecppploooloaaGreatDoor
open Go Go.En Go.Pu
set_option maxRecDepth 4000
def AtS (v : asZ) (S : Nat -> Prop) : Prop := ∀ M : Nat -> Prop, (∀ b, S b -> ¬ M b) -> ¬ KZ v M
theorem AtS.mono {v : asZ} {S T : Nat -> Prop} (h : AtS v S) (hT : ∀ b, S b -> T b) : AtS v T := fun M hM => h M fun b hb => hM b (hT b hb)
theorem AtS.nil (S : Nat -> Prop) : AtS (.slice none 0 0) S := fun M _ h => h
theorem AtS.sub {a : Option Addr} {n c m c' k mx sz : Nat} {S : Nat -> Prop} (h : AtS (.slice a n c) S) (hm : m <= n) : AtS (.slice (nM a mx k sz) m c') S := by
 intro M hM hin
 cases m with
 | zero => unfold KZ at hin; split at hin <;> simp_all
 | succ m =>
   obtain ⟨n', rfl⟩ : ∃ n', n = n' + 1 := ⟨n - 1, by omega⟩
   have h1 := h M hM
   cases a with
   | none => unfold nM at hin; split at hin <;> exact hin
   | some x =>
     unfold nM at hin
     have h2 : M x.block := by
      split at hin
      .exact hin
      .rw [aoW] at hin
       have e : (x.add (k * sz)).block = x.block := by unfold Addr.add; split <;> rfl
       have h3 : M (x.add (k * sz)).block := hin
       rwa [e] at h3
     exact h1 h2
def Rdr (w : asY) (lo hi p : Nat) (l : List UInt8) (e : Int) : Prop := lo <= p /\ p < hi /\ ∃ v, mP w p [v, .int .i64 e] /\ Bs w v l /\ AtS v (fun b => lo <= b /\ b < hi /\ b ≠ p)
theorem Rdr.ext {w w' : asY} {lo hi p : Nat} {l : List UInt8} {e : Int} {M : Nat -> Prop} (h : Rdr w lo hi p l e) (x : jM w w' M) (hM : ∀ b, lo <= b -> b < hi -> ¬ M b) : Rdr w' lo hi p l e := by
 obtain ⟨h0, h0', v, h1, h2, h3⟩ := h
 exact ⟨h0, h0', v, h1.ext x (hM _ h0 h0'), h2.ext x (h3 M fun b hb => hM b hb.1 hb.2.1), h3⟩
theorem Rdr.lt {w : asY} {lo hi p : Nat} {l : List UInt8} {e : Int} (h : Rdr w lo hi p l e) : p < w.heap.size := by
 obtain ⟨_, _, v, h1, _⟩ := h; exact h1.lt
def tkR (l : List UInt8) (e : Int) (n : Nat) : List UInt8 × List UInt8 × Int := if e ≠ 0 then ([], l, e) else if l.length < n then ([], l, 10) else (l.take n, l.drop n, 0)
end Go.Proofs.YtoecppploooloaaGreatDoor
namespace Go.Pu
open Go Go.En
structure Ut (B : List Bool) (l : List UInt8) : Prop where
 len : l.length = (B.length + 7) / 8
 bits : tH l = B ++ List.replicate (8 * l.length - B.length) false
theorem adD : Ut [] [] := ⟨rfl, rfl⟩
theorem YA : MG 0 = List.replicate 8 false := by decide
theorem V2 {B : List Bool} {l : List UInt8} (h : Ut B l) (h8 : B.length % 8 = 0) : tH (l ++ [0]) = B ++ List.replicate (8 * (l.length + 1) - B.length) false /\ (l ++ [(0 : UInt8)]).length = (B.length + 1 + 7) / 8 := by
 have hl := h.len
 refine ⟨?_, by rw [anW, apD]; omega⟩
 rw [SP, h.bits, tH, tH, YA, aqC, aoU]
 congr 1
 rw [show 8 * l.length - B.length = 0 from by omega, show 8 * (l.length + 1) - B.length = 8 from by omega]
 rfl
theorem aeL (c : UInt8) (r : Nat) (hr : r < 8) (y : Bool) (h : c.toNat.testBit r = false) : MG (UInt8.ofNat (c.toNat + 2 ^ r * y.toNat)) = (MG c).set r y /\ c.toNat + 2 ^ r * y.toNat < 256 /\ c.toNat ||| (y.toNat * 2 ^ r) = c.toNat + 2 ^ r * y.toNat := by
 have key : ∀ (c : Fin 256) (r : Fin 8) (y : Bool), c.val.testBit r.val = false -> MG (UInt8.ofNat (c.val + 2 ^ r.val * y.toNat)) = (MG (UInt8.ofNat c.val)).set r.val y /\ c.val + 2 ^ r.val * y.toNat < 256 /\ c.val ||| (y.toNat * 2 ^ r.val) = c.val + 2 ^ r.val * y.toNat := by decide +kernel
 have := key ⟨c.toNat, aqG c⟩ ⟨r, hr⟩ y h
 simpa using this
theorem V0 : ∀ (l : List UInt8) (i r : Nat) (c : UInt8) (y : Bool) (hi : i < l.length), r < 8 -> MG c = (MG l[i]).set r y -> tH (l.set i c) = (tH l).set (8 * i + r) y
 | [], i, r, c, y, hi, hr, h => by simp at hi
 | x :: l, 0, r, c, y, hi, hr, h => by
   rw [aoK, tH, tH, h, arB _ _ (by rw [AJ]; omega)]
   simp
 | x :: l, i + 1, r, c, y, hi, hr, h => by
   rw [aoM, tH, tH, apS _ _ (by rw [AJ]; omega), AJ, V0 l i r c y (by simpa using hi) hr (by simpa using h)]
   congr 2
   omega
theorem XK {B : List Bool} {l : List UInt8} {y : Bool} (hb : tH l = B ++ List.replicate (8 * l.length - B.length) false) (hl : l.length = (B.length + 1 + 7) / 8) :
 ∃ hi : B.length / 8 < l.length, Ut (B ++ [y]) (l.set (B.length / 8) (UInt8.ofNat ((l[B.length / 8]'hi).toNat + 2 ^ (B.length % 8) * y.toNat))) /\
   (l[B.length / 8]'hi).toNat + 2 ^ (B.length % 8) * y.toNat < 256 /\ (l[B.length / 8]'hi).toNat ||| (y.toNat * 2 ^ (B.length % 8)) = (l[B.length / 8]'hi).toNat + 2 ^ (B.length % 8) * y.toNat := by
 have hi : B.length / 8 < l.length := by omega
 have hbit := KO l B.length (by omega)
 rw [hb, aoP (aoA _), arO, arE, if_pos (by omega)] at hbit
 have hbit := (aoZ hbit).symm
 obtain ⟨h1, h2, h3⟩ := aeL _ (B.length % 8) (by omega) y hbit
 refine ⟨hi, ⟨?_, ?_⟩, h2, h3⟩
 .rw [aqT, anW, apD]; exact hl
 .rw [V0 l _ (B.length % 8) _ y hi (by omega) h1, hb, show 8 * (B.length / 8) + B.length % 8 = B.length from by omega, apS _ _ (aoA _), arO, aqT, anW, apD, aoU]
  congr 1
  rw [show 8 * l.length - B.length = (8 * l.length - (B.length + 1)) + 1 from by omega, arZ, aoK]
  rfl
theorem aeM {B : List Bool} {l : List UInt8} (h : Ut (B ++ [true]) l) : YV l = some B.length /\ (tH l).take B.length = B := by
 have hl := h.len
 have hb := h.bits
 rw [anW, apD] at hl hb
 have h0 : 0 < l.length := by omega
 have htop : (tH l)[B.length]? = some true := by
  rw [hb, aoU, aoP (aoA _), arO] <;> rfl
 have hoff : ∀ j, B.length < j -> j < 8 * l.length -> (tH l)[j]? = some false := by
  intro j h1 h2
  rw [hb, aoU, aoP (by omega), List.singleton_append, List.getElem?_cons, if_neg (by omega), arE, if_pos (by omega)]
 refine ⟨?_, by rw [hb, aoU, asE] <;> rfl⟩
 cases he : YV l with
 | none =>
   rw [Wh h0] at he
   split at he
   .rename_i hz
    rw [KO l _ (by omega)] at htop
    have e : B.length / 8 = l.length - 1 := by omega
    simp only [e, hz] at htop
    simp at htop
   .cases he
 | some k =>
   obtain ⟨_, h1, _, h2, h3⟩ := abJ he
   rcases asL k B.length with h | h | h
   .rw [h3 _ h (by omega)] at htop; simp at htop
   .rw [h]
   .rw [hoff _ h h1] at h2; simp at h2
theorem adZ {x n : Nat} (h : x < 2 ^ n) : OE (zG x n) = x := by rw [Vt, apH h]
theorem Y3 {B : List Bool} {x n : Nat} (h : x < 2 ^ n) : V7 (B ++ zG x n) n = x := by
 unfold V7
 rw [anW, Dl, show min n (B.length + n) = n from by omega, arO, arI, List.drop_left, adZ h]; simp
end Go.Pu
namespace Go.Proofs.YtoecppploooloaaGreatDoor
open Go Go.En Go.Pu
set_option maxRecDepth 4000
theorem Gz {w w' : asY} {S M : Nat -> Prop} {sz n : Nat} {v : asZ} {l : List asZ} (h : LI w S sz v n l) (hx : jM w w' M) (hM : ∀ b, S b -> ¬ M b) : LI w' S sz v n l := by
 refine ⟨h.1, ?_⟩
 rcases h.2 with h2 | ⟨b, c, rest, h1, h2, h3, h4, h5⟩
 .exact .inl h2
 .exact .inr ⟨b, c, rest, h1, h2, h3.ext hx (hM b h2), h4, h5⟩
def Wr (w : asY) (lo p : Nat) (B : List Bool) : Prop := lo <= p /\ ∃ v bytes, mP w p [v, .int .i64 B.length] /\ LI w (fun b => lo <= b /\ b ≠ p) 1 v bytes.length (bytes.map pB) /\ Ut B bytes
def Rm (w : asY) (lo p : Nat) (B : List Bool) : Prop := lo <= p /\ ∃ v bytes, mP w p [v, .int .i64 B.length] /\ LI w (fun b => lo <= b /\ b ≠ p) 1 v bytes.length (bytes.map pB) /\
 tH bytes = B ++ List.replicate (8 * bytes.length - B.length) false /\ bytes.length = (B.length + 1 + 7) / 8
theorem Wr.ext {w w' : asY} {lo p : Nat} {B : List Bool} {M : Nat -> Prop} (h : Wr w lo p B) (hx : jM w w' M) (hM : ∀ b, lo <= b -> ¬ M b) : Wr w' lo p B := by
 obtain ⟨h0, v, bytes, h1, h2, h3⟩ := h
 exact ⟨h0, v, bytes, h1.ext hx (hM _ h0), Gz h2 hx fun b hb => hM b hb.1, h3⟩
theorem aiJ {lo p x i : Nat} {B : List Bool} {t17 : asZ} {w : asY} (h : Rm w lo p B) (hx : x < 2 ^ 64) (hi : i <= 60) (hB : B.length <= 1000000000)
 {kn : asZ -> asZ -> asZ -> asZ -> asY -> Prop} (hR : ∀ w', Wr w' lo p (B ++ [x.testBit i]) -> jM w w' (fun y => lo <= y) -> kn (.pointer (some ⟨p, 0, none⟩)) (.int .u64 x) t17 (.int .i64 i) w') :
 oM kn (.pointer (some ⟨p, 0, none⟩)) (.int .u64 x) (.int .i64 i) t17 (.int .i64 i) w := by
 obtain ⟨h0, v, bytes, o, os, hbits, hlen⟩ := h
 obtain ⟨hlt, hheld, hval, hor⟩ := XK (y := x.testBit i) hbits hlen
 rcases os.2 with ⟨rfl, hz⟩ | ⟨b, c, rest, rfl, hS, ob, hc, hn⟩
 .rw [hlen] at hz; omega
 generalize hq : B.length = q at *
 have hcell : (bytes.map pB ++ rest)[q / 8]? = some (.int .u8 ((bytes[q / 8]'hlt).toNat : Nat)) := by
  rw [aoI (by rw [anV]; exact hlt), aoJ, anX hlt] <;> rfl
 have hcl : (bytes[q / 8]'hlt).toNat < 2 ^ 8 := aqG _
 have hset : (bytes.map pB ++ rest).set (q / 8) (.int .u8 (((bytes[q / 8]'hlt).toNat + 2 ^ (q % 8) * (x.testBit i).toNat : Nat))) = (bytes.set (q / 8) (UInt8.ofNat ((bytes[q / 8]'hlt).toNat + 2 ^ (q % 8) * (x.testBit i).toNat))).map pB ++ rest := by
  rw [arB _ _ (by rw [anV]; exact hlt), arT, pB, asG (by simpa using hval)]
 have hbl : (bytes.set (q / 8) (UInt8.ofNat ((bytes[q / 8]'hlt).toNat + 2 ^ (q % 8) * (x.testBit i).toNat))).length = bytes.length := aqT
 generalize bytes.set (q / 8) (UInt8.ofNat ((bytes[q / 8]'hlt).toNat + 2 ^ (q % 8) * (x.testBit i).toNat)) = bytes' at *
 generalize (bytes[q / 8]'hlt).toNat = y at *
 have e1 : (q : Int).tdiv 8 = ((q / 8 : Nat) : Int) := by rw [aqZ (by omega)]; omega
 have e2 : (q : Int).tmod 8 = ((q % 8 : Nat) : Int) := by rw [arA (by omega)]; omega
 have e3 := Pe x i (by omega)
 have hxl : x / 2 ^ i < 2 ^ 64 := by have := asF x (2 ^ i); omega
 have e4 := Xn hxl
 rw [<- Wj] at e4
 have hbt : (x.testBit i).toNat <= 1 := Bool.toNat_le _
 have hp8 : 2 ^ (q % 8) <= 2 ^ 7 := aoO (by omega) (by omega)
 have hm : (x.testBit i).toNat * 2 ^ (q % 8) <= 2 ^ (q % 8) := by
  have := aoQ (2 ^ (q % 8)) hbt
  omega
 have e5 : IntKind.u8.wrap (((x.testBit i).toNat : Int) * 2 ^ (min (q % 8) IntKind.u8.bits)) = (((x.testBit i).toNat * 2 ^ (q % 8) : Nat) : Int) := by
  rw [show min (q % 8) IntKind.u8.bits = q % 8 from aqD (by have h8 : IntKind.u8.bits = 8 := rfl; omega)]
  have e : ((x.testBit i).toNat : Int) * 2 ^ (q % 8) = (((x.testBit i).toNat * 2 ^ (q % 8) : Nat) : Int) := by simp
  rw [e]
  exact jG (by omega) (by omega)
 have e6 := UP (a := y) (b := (x.testBit i).toNat * 2 ^ (q % 8)) hcl (by omega)
 rw [hor] at e6
 have e7 : (q : Int) + 1 = ((q + 1 : Nat) : Int) := by omega
 have od := GI o
 have obd := GI ob
 have c0 := od.cell (off := 0)
 have c1 := od.cell (off := 1)
 have g := obd.cell (off := q / 8)
 rw [hcell] at g
 simp only [anM, anN] at c0 c1
 unfold oM
 simp (disch := omega) only [gD, iG, fS, hZ, cJ, cW, anS, gS, c1, gB, iK, e2, true_and, iF, anP, e3, iO, e4, dJ, jG, iC, e5, iN, e1, gZ, cV, fR, c0, fQ, gJ, g, jI, e6]
 refine Yn obd rfl (by rw [anW, anV]; omega) fun w2 o2 x2 s2 => ?_
 rw [hset] at o2
 have op2 := od.ext x2 (fun h => hS.2 h.symm)
 have c12 := op2.cell (off := 1)
 simp only [anM, anN] at c12
 simp (disch := omega) only [c12, gB, cJ, hO, e7, gZ]
 refine Mn op2 rfl (by simp) fun w3 o3 x3 s3 => ?_
 simp only [aoK, aoM] at o3
 have hBl : (B ++ [x.testBit i]).length = q + 1 := by rw [anW, hq] <;> rfl
 refine hR _ ⟨h0, _, bytes', by rw [hBl]; exact o3, ⟨by simp, .inr ⟨b, c, rest, by rw [hbl], hS, o2.ext x3 hS.2, ?_, by rw [hbl]; exact hn⟩⟩, hheld⟩ ?_
 .rw [anW, anV] at hc ⊢; rw [hbl]; exact hc
 .exact ((jM.dr _ _).seq (x2.mono fun z _ h => by omega)).seq (x3.mono fun z _ h => by omega)
theorem akH {lo p x i n : Nat} {B : List Bool} {w : asY} (hw : Wr w lo p B) (hx : x < 2 ^ 64) (hi : i <= 60) (hB : B.length <= 1000000000)
 {kn : asZ -> asZ -> asZ -> asZ -> asY -> Prop} (hR : ∀ w', Wr w' lo p (B ++ [x.testBit i]) -> jM w w' (fun y => lo <= y) -> kn (.pointer (some ⟨p, 0, none⟩)) (.int .u64 x) (.int .i64 n) (.int .i64 i) w') :
 qX kn (.pointer (some ⟨p, 0, none⟩)) (.int .u64 x) (.int .i64 n) (.int .i64 i) w := by
 unfold qX uA
 obtain ⟨h0, v, bytes, o, os, hh⟩ := hw
 have c1 := o.cell (off := 1)
 have c0 := o.cell (off := 0)
 simp only [anM, anN] at c0 c1
 have e2 : (B.length : Int).tmod 8 = ((B.length % 8 : Nat) : Int) := by rw [arA (by omega)]; omega
 by_cases h8 : B.length % 8 = 0
 .have d4 : (((B.length % 8 : Nat) : Int) == 0) = true := by rw [h8] <;> rfl
  obtain ⟨hr1, hr2⟩ := V2 hh h8
  have hl2 := hh.len
  have lp := o.lt
  simp (disch := omega) only [gD, iG, cJ, cV, fR, cW, anS, gS, c1, gB, iK, e2, iD, d4, c0, fZ]
  refine sK (cells := #[.int .u8 0]) (by decide) (by decide) (by kernel_rfl) fun w2 o2 x2 s2 => ?_
  refine Aq (m := 1) (news := [pB 0]) (i := Tryz.t5) Tryz.underlying22 Tryz.underlying22 Ih rfl rfl rfl (Gz os x2 (fun _ _ h => h)) (o2.cl (off := 0) (l := [pB 0]) (n := 1) rfl (fun i hi => by rw [anS] <;> rfl)) (by simp [one, pB]) (fun b hb => ⟨by omega, by omega⟩) (by omega) (by rw [show Tryz.t5.bytes = 1 from rfl]; omega) (by decide) fun v3 w3 o3 x3 => ?_
  have x13 : jM w w3 (fun y => lo <= y /\ y ≠ p) := (x2.mono fun _ _ h => h.elim).seq x3
  have op3 := o.ext x13 (fun h => h.2 rfl)
  have hv3 : ∃ a n c, v3 = .slice a n c := by
   rcases o3.2 with ⟨rfl, _⟩ | ⟨b, c, rest, rfl, _⟩
   .exact ⟨_, _, _, rfl⟩
   .exact ⟨_, _, _, rfl⟩
  obtain ⟨a3, n3, c3, rfl⟩ := hv3
  refine uC op3 rfl (by simp) fun w4 o4 x4 s4 => ?_
  simp only [aoK, aoM] at o4
  have x14 : jM w w4 (fun y => lo <= y) := (x13.mono fun y _ h => h.1).seq (x4.mono fun y _ h => by omega)
  refine aiJ (w := w4) ⟨h0, _, bytes ++ [0], o4, ?_, ?_, hr2⟩ hx hi hB fun w5 h5 x5 => hR w5 h5 (x14.seq x5)
  .have := Gz o3 x4 (fun b hb h => hb.2 h)
   rw [anW, aoX]
   exact this
  .rw [anW]; exact hr1
 .have d4 : (((B.length % 8 : Nat) : Int) == 0) = false := by simp; omega
  simp (disch := omega) only [gD, iG, cJ, cV, fR, cW, anS, gS, c1, gB, iK, e2, iD, d4, fT]
  refine aiJ (w := w) ⟨h0, v, bytes, o, os, hh.bits, ?_⟩ hx hi hB fun w5 h5 x5 => hR w5 h5 x5
  rw [hh.len]; omega
theorem agP {lo p x n : Nat} {B : List Bool} {w : asY} (h : Wr w lo p B) (hx : x < 2 ^ 64) (hn : n <= 56) (hB : B.length <= 100000000) :
 jD pg qG #[.pointer (some ⟨p, 0, none⟩), .int .u64 x, .int .i64 n] w (fun r w' => r = .tuple #[] /\ Wr w' lo p (B ++ zG x n) /\ jM w w' (fun y => lo <= y)) := by
 refine DM ?_
 unfold Eg tG sY
 by_cases hn0 : n = 0
 .subst hn0
  have d1 : decide (((0 : Nat) : Int) < 1) = true := rfl
  simp (disch := omega) only [gD, bR, anQ, true_and, cJ, gT, gQ, anO, if_false, gM, hJ, d1, gU, if_true, fZ, gI]
  exact ⟨by rw [L9, aqC]; exact h, jM.refl _ _⟩
 have d1 : decide ((n : Int) < 1) = false := by simp; omega
 have d2 : decide ((56 : Int) < (n : Int)) = false := by simp; omega
 simp (disch := omega) only [gD, bR, anQ, true_and, cJ, gT, gQ, anO, if_false, gM, hJ, d1, hU, d2, fT]
 unfold sZ tT
 refine kE.rule (fun m (t : asZ) w' => ∃ i : Nat, m = n - i /\ t = .int .i64 i /\ i <= n /\ Wr w' lo p (B ++ zG x i) /\ jM w w' (fun y => lo <= y)) n
  ⟨0, rfl, rfl, by omega, by rw [L9, aqC]; exact h, jM.refl _ _⟩ ?_
 rintro m t w1 ⟨i, rfl, rfl, hi, hw, x1⟩
 unfold qY uD
 by_cases hlt : i < n
 .have d3 : decide ((i : Int) < (n : Int)) = true := by simp; omega
  simp (disch := omega) only [gD, hJ, d3, cJ, fZ]
  unfold uB tR
  refine akH hw hx (by omega) (by rw [anW, Dl]; omega) fun w3 hw3 x3 => ?_
  unfold rH
  simp (disch := omega) only [gD, hO, gZ, cJ]
  refine ⟨n - (i + 1), by omega, i + 1, rfl, rfl, by omega, ?_, x1.seq x3⟩
  rw [US, <- aoU]
  exact hw3
 .have d3 : decide ((i : Int) < (n : Int)) = false := by simp; omega
  obtain rfl : i = n := by omega
  simp (disch := omega) only [gD, hJ, d3, cJ, fT]
  exact ⟨hw, x1⟩
def Cw (w : asY) (p : Nat) (S : Nat -> Prop) (l : List UInt8) : Prop := ¬ S p /\ ∃ v, mP w p [v] /\ LI w S 1 v l.length (l.map pB)
theorem Cw.ext {w w' : asY} {p : Nat} {S M : Nat -> Prop} {l : List UInt8} (h : Cw w p S l) (x : jM w w' M) (hp : ¬ M p) (hM : ∀ b, S b -> ¬ M b) : Cw w' p S l := by
 obtain ⟨h0, v, h1, h2⟩ := h
 exact ⟨h0, v, h1.ext x hp, Gz h2 x hM⟩
theorem Cw.lt {w : asY} {p : Nat} {S : Nat -> Prop} {l : List UInt8} (h : Cw w p S l) : p < w.heap.size := by
 obtain ⟨_, v, h1, _⟩ := h; exact h1.lt
theorem Cw.turn {w : asY} {p : Nat} {S T : Nat -> Prop} {l : List UInt8} (h : Cw w p S l) (hT : ∀ b, S b -> b < w.heap.size -> T b) (hp : ¬ T p) : Cw w p T l := by
 obtain ⟨h0, v, h1, h2, h3⟩ := h
 refine ⟨hp, v, h1, h2, ?_⟩
 rcases h3 with h3 | ⟨b, c, rest, g1, g2, g3, g4, g5⟩
 .exact .inl h3
 .exact .inr ⟨b, c, rest, g1, hT b g2 g3.lt, g3, g4, g5⟩
theorem J6 {w : asY} {S : Nat -> Prop} {sz n : Nat} {v : asZ} {l : List asZ} (o3 : LI w S sz v n l) : ∃ a c, v = .slice a n c := by
 rcases o3.2 with ⟨rfl, rfl⟩ | ⟨b, c, rest, rfl, _⟩
 .exact ⟨_, _, rfl⟩
 .exact ⟨_, _, rfl⟩
theorem acO {w : asY} {S : Nat -> Prop} {n : Nat} {v : asZ} {l : List asZ} (o3 : LI w S 1 v n l) : Sl w v l := by
 have : xH w 0 1 v n l := ⟨o3.1, by
  rcases o3.2 with h | ⟨b, c, rest, g1, g2, g3⟩
  .exact .inl h
  .exact .inr ⟨b, c, rest, g1, by omega, g3⟩⟩
 exact this.sl
theorem FH (w : asY) : jD pg nU #[] w (fun r w' => r = .pointer (some ⟨w.heap.size, 0, none⟩) /\ w.heap.size < w'.heap.size /\ Cw w' w.heap.size (fun b => w.heap.size < b) [] /\ jM w w' mM) := by
 refine Nf ?_
 unfold KN Bh
 simp (disch := omega) only [gD, cK, cJ]
 refine Ce fun w1 o1 x1 s1 => ?_
 simp only [Value.cells] at o1
 exact ⟨rfl, by omega, ⟨by omega, _, o1, ⟨rfl, .inl ⟨rfl, rfl⟩⟩⟩, x1⟩
theorem U5 {p : Nat} {S : Nat -> Prop} {l m : List UInt8} {v : asZ} {w : asY} (h : Cw w p S l) (hS : ∀ b, w.heap.size <= b -> S b) (hv : Bs w v m) (hl : l.length + m.length <= 1000000000) :
 jD pg oB #[.pointer (some ⟨p, 0, none⟩), v] w (fun r w' => r = .tuple #[] /\ Cw w' p S (l ++ m) /\ jM w w' (fun y => y = p ∨ S y)) := by
 refine JP ?_
 unfold GQ wS
 obtain ⟨h0, v0, o, os⟩ := h
 obtain ⟨va, vc, rfl⟩ := J6 os
 have c0 := o.cell (off := 0)
 simp only [anM, anN] at c0
 have lp := o.lt
 simp (disch := omega) only [gD, aT, anQ, anT, iG, true_and, cJ, bS, fR, c0, gB, fZ]
 have hcl := hv.cl
 rw [anV] at hcl
 refine Aq (m := m.length) (news := m.map pB) (i := Tryz.t5) Tryz.underlying22 Tryz.underlying22 Ih rfl rfl rfl os hcl (DE _) (fun b hb => hS b hb) (by omega) (by rw [show Tryz.t5.bytes = 1 from rfl]; omega) (by decide) fun v3 w3 o3 x3 => ?_
 have op3 := o.ext x3 h0
 obtain ⟨a3, c3, rfl⟩ := J6 o3
 refine uC op3 rfl (by simp) fun w4 o4 x4 s4 => ?_
 simp only [aoK, aoM] at o4
 refine ⟨⟨h0, _, o4, ?_⟩, (x3.mono fun y _ h => .inr h).seq (x4.mono fun y _ h => .inl h)⟩
 have := Gz o3 x4 (fun b hb h => h0 (h ▸ hb))
 rw [anW, aoX]
 exact this
theorem Ar {p x n : Nat} {S : Nat -> Prop} {l : List UInt8} {w : asY} (h : Cw w p S l) (hS : ∀ b, w.heap.size <= b -> S b) (hx : x < 2 ^ 64) (hn : 1 <= n /\ n <= 8) (hl : l.length <= 100000000) :
 jD pg jL #[.pointer (some ⟨p, 0, none⟩), .int .u64 x, .int .i64 n] w (fun r w' => r = .tuple #[] /\ Cw w' p S (l ++ pD x n) /\ jM w w' (fun y => y = p ∨ S y)) := by
 refine IJ ?_
 unfold Ga vZ vO
 have d1 : decide ((n : Int) < 1) = false := by simp; omega
 have d2 : decide ((8 : Int) < (n : Int)) = false := by simp; omega
 simp (disch := omega) only [gD, aR, anQ, true_and, cJ, gT, gQ, anO, if_false, gM, hJ, d1, hU, d2, fT]
 unfold wF vU
 refine kE.rule (fun m (t : asZ) w' => ∃ i : Nat, m = n - i /\ t = .int .i64 i /\ i <= n /\ Cw w' p S (l ++ pD x i) /\ jM w w' (fun y => y = p ∨ S y)) n
  ⟨0, rfl, rfl, by omega, by rw [pD, aqC]; exact h, jM.refl _ _⟩ ?_
 rintro m t w1 ⟨i, rfl, rfl, hi, hw, x1⟩
 unfold rJ
 by_cases hlt : i < n
 .have d3 : decide ((i : Int) < (n : Int)) = true := by simp; omega
  have e0 : ((8 : Int) * (i : Int)) = ((8 * i : Nat) : Int) := by omega
  have e1 : (x : Int).fdiv (2 ^ (min (8 * i) IntKind.u64.bits)) = ((x / 256 ^ i : Nat) : Int) := by
   rw [aiU]; exact Pe x (8 * i) (by omega)
  have e2 : IntKind.u8.wrap ((x / 256 ^ i : Nat) : Int) = (((UInt8.ofNat (x / 256 ^ i % 256)).toNat : Nat) : Int) := by
   rw [UInt8.toNat_ofNat']
   generalize x / 256 ^ i = y
   rw [show IntKind.u8.wrap (y : Int) = (y : Int) % 256 from rfl]
   omega
  obtain ⟨c, hc⟩ : ∃ c, c = UInt8.ofNat (x / 256 ^ i % 256) := ⟨_, rfl⟩
  rw [<- hc] at e2
  obtain ⟨h0, v0, o, os⟩ := hw
  obtain ⟨va, vc, rfl⟩ := J6 os
  have c0 := o.cell (off := 0)
  simp only [anM, anN] at c0
  have lp := o.lt
  have hsz := x1.size
  have hpl := mE i x
  rw [anW, hpl] at os
  rw [anW, hpl] at c0
  simp (disch := omega) only [gD, hJ, d3, iG, iP, e0, gZ, hO, cJ, bS, fS, hZ, iF, anP, e1, dJ, e2, fR, c0, gB, fZ]
  refine sK (cells := #[.int .u8 c.toNat]) (by decide) (by decide) (by kernel_rfl) fun w2 o2 x2 s2 => ?_
  refine Aq (m := 1) (news := [pB c]) (i := Tryz.t5) Tryz.underlying22 Tryz.underlying22 Ih rfl rfl rfl (Gz os x2 (fun _ _ h => h)) (o2.cl (off := 0) (l := [pB c]) (n := 1) rfl (fun i hi => by rw [anS] <;> rfl)) (by simp [one, pB]) (fun b hb => hS b (by omega)) (by omega) (by rw [show Tryz.t5.bytes = 1 from rfl]; omega) (by decide) fun v3 w3 o3 x3 => ?_
  have x13 : jM w1 w3 S := (x2.mono fun _ _ h => h.elim).seq x3
  have op3 := o.ext x13 h0
  obtain ⟨a3, c3, rfl⟩ := J6 o3
  refine uC op3 rfl (by simp) fun w4 o4 x4 s4 => ?_
  simp only [aoK, aoM] at o4
  have x14 : jM w1 w4 (fun y => y = p ∨ S y) := (x13.mono fun y _ h => .inr h).seq (x4.mono fun y _ h => .inl h)
  refine ⟨n - (i + 1), by omega, i + 1, rfl, rfl, by omega, ⟨h0, _, o4, ?_⟩, x1.seq x14⟩
  have := Gz o3 x4 (fun b hb h => h0 (h ▸ hb))
  rw [Wg, <- hc, <- aoU, aoX, anW, anW, mE]
  exact this
 .have d3 : decide ((i : Int) < (n : Int)) = false := by simp; omega
  obtain rfl : i = n := by omega
  simp (disch := omega) only [gD, hJ, d3, iG, iP, gZ, hO, cJ, bS, fS, hZ, iF, dJ, fR, fT]
  exact ⟨hw, x1⟩
theorem OZ {p : Nat} {S : Nat -> Prop} {l : List UInt8} {w : asY} (h : Cw w p S l) (hl : l.length <= 1000000000) :
 jD pg nD #[.pointer (some ⟨p, 0, none⟩)] w (fun r w' => xH w' w.heap.size 1 r l.length (l.map pB) /\ jM w w' mM) := by
 refine Mi ?_
 unfold I5 Ag
 obtain ⟨h0, v0, o, os⟩ := h
 obtain ⟨va, vc, rfl⟩ := J6 os
 have c0 := o.cell (off := 0)
 simp only [anM, anN] at c0
 simp (disch := omega) only [gD, aR, anQ, iG, cJ, bS, fR, c0, gB, fT]
 exact UH (acO os) hl
end Go.Proofs.YtoecppploooloaaGreatDoor
namespace Go.En
open Go
theorem LI.ext {w w' : asY} {S M : Nat -> Prop} {sz n : Nat} {v : asZ} {l : List asZ} (h : LI w S sz v n l) (hx : jM w w' M) (hM : ∀ b, S b -> ¬ M b) : LI w' S sz v n l := by
 refine ⟨h.1, ?_⟩
 rcases h.2 with h2 | ⟨b, c, rest, h1, h2, h3, h4, h5⟩
 .exact .inl h2
 .exact .inr ⟨b, c, rest, h1, h2, h3.ext hx (hM b h2), h4, h5⟩
theorem xH.ne {w : asY} {base p sz n : Nat} {v : asZ} {l : List asZ} (h : xH w base sz v n l) (hp : w.heap.size <= p) : LI w (fun b => base <= b /\ b ≠ p) sz v n l := by
 refine ⟨h.1, ?_⟩
 rcases h.2 with h2 | ⟨b, c, rest, h1, h2, h3, h4, h5⟩
 .exact .inl h2
 .have := h3.lt
  exact .inr ⟨b, c, rest, h1, ⟨h2, by omega⟩, h3, h4, h5⟩
theorem LI.len {w : asY} {S : Nat -> Prop} {sz n : Nat} {v : asZ} {l : List asZ} (h : LI w S sz v n l) : ∃ a c, v = .slice a n c := by
 rcases h.2 with ⟨h1, rfl⟩ | ⟨b, c, rest, h1, _⟩
 .exact ⟨_, _, h1⟩
 .exact ⟨_, _, h1⟩
end Go.En
namespace Go.Proofs.YtoecppploooloaaGreatDoor
open Go Go.En Go.Pu
set_option maxRecDepth 4000
theorem apB {S : Nat -> Prop} {v x : asZ} {l m : List UInt8} {w : asY} (h : LI w S 1 v l.length (l.map pB)) (hx : Bs w x m) (hb : ∀ b, w.heap.size <= b -> S b) (hn : l.length + m.length <= 100000000) {K : asZ -> asY -> Prop}
 (hk : ∀ v' w', LI w' S 1 v' (l ++ m).length ((l ++ m).map pB) -> jM w w' S -> K v' w') : gD pg (oF .append #[22, 22] 22 [v, x]) w K := by
 have hcl : Cl w 1 x m.length (m.map pB) := by have := hx.cl; rwa [anV] at this
 refine Aq (m := m.length) (news := m.map pB) (i := Tryz.t5) Tryz.underlying22 Tryz.underlying22 Ih rfl rfl rfl h hcl (DE _) hb (by omega) (by rw [show Tryz.t5.bytes = 1 from rfl]; omega) (by decide) fun v3 w3 o3 x3 => ?_
 refine hk v3 w3 ?_ x3
 rw [anW, aoX]
 exact o3
end Go.Proofs.YtoecppploooloaaGreatDoor
namespace Go.Proofs.YtoecppploooloaaGreatDoor
open Go Go.En
set_option maxRecDepth 4000
def Zb (x : Int) (k : Nat) : Int := UI .u64 (IntKind.u64.wrap (x * 2 ^ k)) (x.fdiv (2 ^ (64 - k)))
def acC (v x : Int) : Int := IntKind.u64.wrap (Zb (IntKind.u64.wrap (v + IntKind.u64.wrap (x * 14029467366897019727))) 31 * 11400714785074694791)
theorem alE : ∀ k : Fin 64, YG .u64 (k.val : Int) 63 = (k.val : Int) := by decide
theorem akX : ∀ k : Fin 64, IntKind.u64.wrap (64 - (k.val : Int)) = 64 - (k.val : Int) := by decide
theorem SR (x : Int) (k : Nat) (hk : k < 64) (w : asY) :
 jD pg mD #[.int .u64 x, .int .i64 (k : Int)] w (fun v w' => v = .int .u64 (Zb x k) /\ w' = w) := by
 refine G7 ?_
 have h1 := alE ⟨k, hk⟩
 have h2 := akX ⟨k, hk⟩
 simp only at h1 h2
 have e1 : min k IntKind.u64.bits = k := by simp only [IntKind.bits]; omega
 have e2 : min (64 - (k : Int)).toNat IntKind.u64.bits = 64 - k := by simp only [IntKind.bits]; omega
 simp (disch := omega) only [DH, tI, gD, jF, cJ, stepR_skip, hO, iB, iP, iN, iK, iO, jI, iV, gK, iC, iF, iD, iH, hJ, iM, hU, iE, iW, iS, iJ, gQ, iR, iQ, iG, kU, kV, lF, lC, lH, lE, lJ, lG, lD, gB, Result.ok.injEq, Next.value.injEq, true_and, and_true, gZ, hZ, iX, iT, iU, jG, anP, gW, gU, gX, gT, gM, gI, gN, gL, fZ, fT, if_true, if_false, anO, anS, anQ, anR, anU, anT, anN, anM, fM, fK, fB, fQ, cU, eQ, eE, dJ, bJ, fR, fE, aL, dD, aZ, bM, bP, aO, cQ, cF, eP, aF, gS, aP, cK, aR, bS, fS, cI, cC, aB, gC, fA, aI, aG, bN, gO, aN, eU, dZ, dV, gG, dH, fC, dC, eF, eZ, eY, cB, cY, gJ, eD, bZ, bF, bY, bX, fO, aD, aE, aM, aV, bE, cS, bK, aA, fF, aH, cO, fI, eT, gH, bO, eM, eK, bW, fW, eS, eI, cZ, cL, dF, aX, bD, aQ, gA, aJ, dB, dY, bB, cH, fJ, dK, gE, fL, fH, fG, dS, aK, cG, dG, fX, fY, fD, dE, aT, dT, fV, cP, eX, fN, cD, bL, dP, aW, dX, dR, cN, eN, eL, aY, dI, bA, dO, dW, dN, bH, cR, cM, dM, bR, cW, cV, fP, bV, eH, eJ, gF, dU, dQ, dL, dA, bG, bQ, bU, bT, aS, cX, aU, h1, h2, e1, e2, Zb]
theorem To (v x : Int) (w : asY) :
 jD pg C9 #[.int .u64 v, .int .u64 x] w (fun r w' => r = .int .u64 (acC v x) /\ w' = w) := by
 refine U0 ?_
 simp (disch := omega) only [Wn, Lh, gD, jF, cJ, stepR_skip, hO, iB, iP, iN, iK, iO, jI, iV, gK, iC, iF, iD, iH, hJ, iM, hU, iE, iW, iS, iJ, gQ, iR, iQ, iG, kU, kV, lF, lC, lH, lE, lJ, lG, lD, gB, Result.ok.injEq, Next.value.injEq, true_and, and_true, gZ, hZ, iX, iT, iU, jG, anP, gW, gU, gX, gT, gM, gI, gN, gL, fZ, fT, if_true, if_false, anO, anS, anQ, anR, anU, anT, anN, anM, fM, fK, fB, fQ, cU, eQ, eE, dJ, bJ, fR, fE, aL, dD, aZ, bM, bP, aO, cQ, cF, eP, aF, gS, aP, cK, aR, bS, fS, cI, cC, aB, gC, fA, aI, aG, bN, gO, aN, eU, dZ, dV, gG, dH, fC, dC, eF, eZ, eY, cB, cY, gJ, eD, bZ, bF, bY, bX, fO, aD, aE, aM, aV, bE, cS, bK, aA, fF, aH, cO, fI, eT, gH, bO, eM, eK, bW, fW, eS, eI, cZ, cL, dF, aX, bD, aQ, gA, aJ, dB, dY, bB, cH, fJ, dK, gE, fL, fH, fG, dS, aK, cG, dG, fX, fY, fD, dE, aT, dT, fV, cP, eX, fN, cD, bL, dP, aW, dX, dR, cN, eN, eL, aY, dI, bA, dO, dW, dN, bH, cR, cM, dM, bR, cW, cV, fP, bV, eH, eJ, gF, dU, dQ, dL, dA, bG, bQ, bU, bT, aS, cX, aU]
 refine (SR _ 31 (by omega) w).mono ?_
 rintro r w' ⟨rfl, rfl⟩
 simp (disch := omega) only [gD, jF, cJ, stepR_skip, hO, iB, iP, iN, iK, iO, jI, iV, gK, iC, iF, iD, iH, hJ, iM, hU, iE, iW, iS, iJ, gQ, iR, iQ, iG, kU, kV, lF, lC, lH, lE, lJ, lG, lD, gB, Result.ok.injEq, Next.value.injEq, true_and, and_true, gZ, hZ, iX, iT, iU, jG, anP, gW, gU, gX, gT, gM, gI, gN, gL, fZ, fT, if_true, if_false, anO, anS, anQ, anR, anU, anT, anN, anM, fM, fK, fB, fQ, cU, eQ, eE, dJ, bJ, fR, fE, aL, dD, aZ, bM, bP, aO, cQ, cF, eP, aF, gS, aP, cK, aR, bS, fS, cI, cC, aB, gC, fA, aI, aG, bN, gO, aN, eU, dZ, dV, gG, dH, fC, dC, eF, eZ, eY, cB, cY, gJ, eD, bZ, bF, bY, bX, fO, aD, aE, aM, aV, bE, cS, bK, aA, fF, aH, cO, fI, eT, gH, bO, eM, eK, bW, fW, eS, eI, cZ, cL, dF, aX, bD, aQ, gA, aJ, dB, dY, bB, cH, fJ, dK, gE, fL, fH, fG, dS, aK, cG, dG, fX, fY, fD, dE, aT, dT, fV, cP, eX, fN, cD, bL, dP, aW, dX, dR, cN, eN, eL, aY, dI, bA, dO, dW, dN, bH, cR, cM, dM, bR, cW, cV, fP, bV, eH, eJ, gF, dU, dQ, dL, dA, bG, bQ, bU, bT, aS, cX, aU, acC]
def EI : List UInt8 -> Int
 | [] => 0
 | c :: l => (c.toNat : Int) + 256 * EI l
theorem SI : ∀ l, 0 <= EI l
 | [] => by simp [EI]
 | c :: l => by have := SI l; simp only [EI]; omega
theorem YE (l : List UInt8) (c : UInt8) : EI (l ++ [c]) = EI l + (c.toNat : Int) * 256 ^ l.length := by
 induction l with
 | nil => simp [EI]
 | cons a l ih => simp only [aqM, EI, ih, aoG, Int.pow_succ, Int.mul_add]; rw [Int.mul_comm (256 : Int) (_ * _), Int.mul_assoc]; omega
theorem X3 : ∀ l : List UInt8, EI l < 256 ^ l.length
 | [] => by simp [EI]
 | c :: l => by
   have := X3 l
   have hc : c.toNat < 256 := c.toNat_lt
   simp only [EI, aoG, Int.pow_succ]; omega
theorem Uq {α : Type} {l : List α} {k : Nat} (h : k < l.length) : l.take (k + 1) = l.take k ++ [l[k]] := by
 rw [List.take_succ_eq_append_getElem h]
theorem acX {x : Int} {c k : Nat} (hk : k < 8) (hx0 : 0 <= x) (hx : x < 256 ^ k) (hc : c < 256) :
 UI .u64 x (IntKind.u64.wrap ((c : Int) * 2 ^ (8 * k))) = x + (c : Int) * 256 ^ k := by
 obtain ⟨m, rfl⟩ := Int.eq_ofNat_of_zero_le hx0
 have e256 : (256 : Nat) ^ k = 2 ^ (8 * k) := by rw [show (256 : Nat) = 2 ^ 8 from rfl, <- Nat.pow_mul]
 have hm : m < 2 ^ (8 * k) := by rw [<- e256]; exact_mod_cast hx
 have hle : c * 2 ^ (8 * k) + 2 ^ (8 * k) <= 2 ^ 64 := by
  have h1 : (c + 1) * 2 ^ (8 * k) <= 256 * 2 ^ (8 * k) := aoQ _ (by omega)
  have h2 : (256 : Nat) * 2 ^ (8 * k) = 2 ^ (8 * k + 8) := by rw [apY, apJ]
  have h3 : (2 : Nat) ^ (8 * k + 8) <= 2 ^ 64 := aoO (by omega) (by omega)
  rw [apG] at h1; omega
 have hpos : 0 < 2 ^ (8 * k) := Nat.pow_pos (by omega)
 have w : IntKind.u64.wrap ((c : Int) * 2 ^ (8 * k)) = ((c * 2 ^ (8 * k) : Nat) : Int) := by
  have : ((c : Int) * 2 ^ (8 * k)) = ((c * 2 ^ (8 * k) : Nat) : Int) := by push_cast; rfl
  rw [this]; exact hZ (by omega) (by omega)
 rw [w]
 have b1 : (BitVec.ofInt 64 (m : Int) ||| BitVec.ofInt 64 ((c * 2 ^ (8 * k) : Nat) : Int)).toNat = m + c * 2 ^ (8 * k) := by
  rw [BitVec.toNat_or]
  simp only [BitVec.toNat_ofInt]
  have e1 : (((m : Int) % ((2 ^ 64 : Nat) : Int)).toNat) = m := by omega
  have e2 : ((((c * 2 ^ (8 * k) : Nat) : Int) % ((2 ^ 64 : Nat) : Int)).toNat) = c * 2 ^ (8 * k) := by omega
  rw [e1, e2, Nat.or_comm, apJ c, <- Nat.two_pow_add_eq_or_of_lt hm]
  omega
 show IntKind.u64.wrap ((BitVec.ofInt 64 (m : Int) ||| BitVec.ofInt 64 ((c * 2 ^ (8 * k) : Nat) : Int)).toNat : Int) = _
 rw [b1]
 have : ((m + c * 2 ^ (8 * k) : Nat) : Int) = (m : Int) + (c : Int) * 256 ^ k := by
  rw [<- e256]; push_cast; rfl
 rw [<- this]
 exact hZ (by omega) (by omega)
theorem Rh (v : asZ) (l : List UInt8) (w : asY) (h : Bs w v l) (hl : l.length <= 8) :
 jD pg AH #[v] w (fun r w' => r = .int .u64 (EI l) /\ w' = w) := by
 obtain ⟨a, n, c, rfl, hn, hc, hcell⟩ := h
 rw [anV] at hn
 subst hn
 refine Uu ?_
 simp (disch := omega) only [UU, F4, JV, JK, Jp, JX, JQ, JG, JF, gD, jF, cJ, stepR_skip, hO, iB, iP, iN, iK, iO, jI, iV, gK, iC, iF, iD, iH, hJ, iM, hU, iE, iW, iS, iJ, gQ, iR, iQ, iG, kU, kV, lF, lC, lH, lE, lJ, lG, lD, gB, Result.ok.injEq, Next.value.injEq, true_and, and_true, gZ, hZ, iX, iT, iU, jG, anP, gW, gU, gX, gT, gM, gI, gN, gL, fZ, fT, if_true, if_false, anO, anS, anQ, anR, anU, anT, anN, anM, fM, fK, fB, fQ, cU, eQ, eE, dJ, bJ, fR, fE, aL, dD, aZ, bM, bP, aO, cQ, cF, eP, aF, gS, aP, cK, aR, bS, fS, cI, cC, aB, gC, fA, aI, aG, bN, gO, aN, eU, dZ, dV, gG, dH, fC, dC, eF, eZ, eY, cB, cY, gJ, eD, bZ, bF, bY, bX, fO, aD, aE, aM, aV, bE, cS, bK, aA, fF, aH, cO, fI, eT, gH, bO, eM, eK, bW, fW, eS, eI, cZ, cL, dF, aX, bD, aQ, gA, aJ, dB, dY, bB, cH, fJ, dK, gE, fL, fH, fG, dS, aK, cG, dG, fX, fY, fD, dE, aT, dT, fV, cP, eX, fN, cD, bL, dP, aW, dX, dR, cN, eN, eL, aY, dI, bA, dO, dW, dN, bH, cR, cM, dM, bR, cW, cV, fP, bV, eH, eJ, gF, dU, dQ, dL, dA, bG, bQ, bU, bT, aS, cX, aU]
 refine kE.rule (fun n t w' => ∃ k : Nat, n = l.length - k /\ k <= l.length /\ t = (.int .u64 (EI (l.take k)), .int .i64 (k : Int)) /\ w' = w) l.length ⟨0, rfl, asN _, rfl, rfl⟩ ?_
 rintro n t w' ⟨k, rfl, hk, rfl, rfl⟩
 by_cases hlt : k < l.length
 .obtain ⟨b, off, rfl, hcell'⟩ := hcell (by omega)
  have hcl := hcell' k hlt
  rw [aoJ, anX hlt, aoW] at hcl
  have hb : (l[k].toNat) < 256 := l[k].toNat_lt
  have hd : decide ((k : Int) < (l.length : Int)) = true := by simpa using hlt
  have e1 : min (8 * (k : Int)).toNat IntKind.u64.bits = 8 * k := by simp only [IntKind.bits]; omega
  simp (disch := omega) only [B5, gD, jF, cJ, stepR_skip, hO, iB, iP, iN, iK, iO, jI, iV, gK, iC, iF, iD, iH, hJ, iM, hU, iE, iW, iS, iJ, gQ, iR, iQ, iG, kU, kV, lF, lC, lH, lE, lJ, lG, lD, gB, Result.ok.injEq, Next.value.injEq, true_and, and_true, gZ, hZ, iX, iT, iU, jG, anP, gW, gU, gX, gT, gM, gI, gN, gL, fZ, fT, if_true, if_false, anO, anS, anQ, anR, anU, anT, anN, anM, fM, fK, fB, fQ, cU, eQ, eE, dJ, bJ, fR, fE, aL, dD, aZ, bM, bP, aO, cQ, cF, eP, aF, gS, aP, cK, aR, bS, fS, cI, cC, aB, gC, fA, aI, aG, bN, gO, aN, eU, dZ, dV, gG, dH, fC, dC, eF, eZ, eY, cB, cY, gJ, eD, bZ, bF, bY, bX, fO, aD, aE, aM, aV, bE, cS, bK, aA, fF, aH, cO, fI, eT, gH, bO, eM, eK, bW, fW, eS, eI, cZ, cL, dF, aX, bD, aQ, gA, aJ, dB, dY, bB, cH, fJ, dK, gE, fL, fH, fG, dS, aK, cG, dG, fX, fY, fD, dE, aT, dT, fV, cP, eX, fN, cD, bL, dP, aW, dX, dR, cN, eN, eL, aY, dI, bA, dO, dW, dN, bH, cR, cM, dM, bR, cW, cV, fP, bV, eH, eJ, gF, dU, dQ, dL, dA, bG, bQ, bU, bT, aS, cX, aU, hd, fZ, hcl, pB, e1]
  have hlen : (l.take k).length = k := by simp; omega
  have hx := X3 (l.take k)
  rw [hlen] at hx
  refine ⟨l.length - (k + 1), by omega, k + 1, rfl, by omega, ?_⟩
  rw [acX (by omega) (SI _) hx hb, Uq hlt, YE, hlen]
  rfl
 .have hd : decide ((k : Int) < (l.length : Int)) = false := by simpa using hlt
  simp (disch := omega) only [B5, gD, jF, cJ, stepR_skip, hO, iB, iP, iN, iK, iO, jI, iV, gK, iC, iF, iD, iH, hJ, iM, hU, iE, iW, iS, iJ, gQ, iR, iQ, iG, kU, kV, lF, lC, lH, lE, lJ, lG, lD, gB, Result.ok.injEq, Next.value.injEq, true_and, and_true, gZ, hZ, iX, iT, iU, jG, anP, gW, gU, gX, gT, gM, gI, gN, gL, fZ, fT, if_true, if_false, anO, anS, anQ, anR, anU, anT, anN, anM, fM, fK, fB, fQ, cU, eQ, eE, dJ, bJ, fR, fE, aL, dD, aZ, bM, bP, aO, cQ, cF, eP, aF, gS, aP, cK, aR, bS, fS, cI, cC, aB, gC, fA, aI, aG, bN, gO, aN, eU, dZ, dV, gG, dH, fC, dC, eF, eZ, eY, cB, cY, gJ, eD, bZ, bF, bY, bX, fO, aD, aE, aM, aV, bE, cS, bK, aA, fF, aH, cO, fI, eT, gH, bO, eM, eK, bW, fW, eS, eI, cZ, cL, dF, aX, bD, aQ, gA, aJ, dB, dY, bB, cH, fJ, dK, gE, fL, fH, fG, dS, aK, cG, dG, fX, fY, fD, dE, aT, dT, fV, cP, eX, fN, cD, bL, dP, aW, dX, dR, cN, eN, eL, aY, dI, bA, dO, dW, dN, bH, cR, cM, dM, bR, cW, cV, fP, bV, eH, eJ, gF, dU, dQ, dL, dA, bG, bQ, bU, bT, aS, cX, aU, hd, fT]
  rw [aoF (by omega)]
end Go.Proofs.YtoecppploooloaaGreatDoor

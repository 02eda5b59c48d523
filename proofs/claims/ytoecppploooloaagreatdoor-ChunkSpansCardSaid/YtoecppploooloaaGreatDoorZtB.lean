/- Parts of the proof of ChunkSpans: merged and given short names by a program of ours. -/
import Derived.Laws.IdiomStrings
import Derived.Test.YtoecppploooloaaGreatDoorZtA
set_option linter.unusedVariables false
set_option linter.unusedSimpArgs false
open Array renaming getElem?_eq_getElem → aoW, getElem?_setIfInBounds_self_of_lt → apI, getElem?_setIfInBounds_ne → apQ, getElem?_eq_none → aqI, getElem?_modify → arD, length_toList → arJ, getElem?_toList → asC
open Bool renaming false_eq_true → aoD, not_false → aoI, not_true → aoJ, and_eq_true → aoQ, or_eq_false_iff → asJ
open Int renaming toNat_natCast → aoE, fdiv_eq_ediv_of_nonneg → arA, tdiv_eq_ediv_of_nonneg → arO, tmod_eq_emod_of_nonneg → arP
open List renaming getElem?_cons_zero → aoB, getElem?_cons_succ → aoC, length_map → aoK, length_append → aoL, getElem?_eq_getElem → aoM, mem_cons_of_mem → aoR, getElem?_eq_none → aoS, take_of_length_le → aoU, length_cons → aoV, getElem?_append_left → aoX, getElem?_map → aoY, set_cons_zero → aoZ, length_take → apA, set_cons_succ → apC, length_drop → apD, getElem?_append_right → apF, map_cons → apJ, append_assoc → apK, mem_cons_self → apL, map_append → apN, all_eq_true → apO, length_singleton → apS, length_eq_zero_iff → apT, mem_cons → apZ, nil_append → aqA, mem_map → aqB, getElem?_take_of_lt → aqD, getElem?_toArray → aqG, set_append_right → aqH, mem_append → aqJ, mem_of_mem_take → aqM, map_congr_left → aqO, drop_eq_getElem_cons → aqP, append_nil → aqR, ext_getElem? → aqW, cons_append → arB, length_set → arI, set_append_left → arQ, getElem?_replicate → arS, getElem?_drop → arV, take_add_one → arZ, map_set → asI, take_length → asK, replicate_succ → asP, getElem?_range → asR, getLast?_eq_getElem? → asT, take_left' → asU, flatten_cons → atC
open Nat renaming zero_add → aoH, le_refl → aoP, lt_or_ge → aoT, pow_le_pow_right → apE, mul_le_mul_right → apG, two_pow_pos → apR, mul_comm → apU, add_mul → apW, mod_eq_of_lt → apX, add_zero → apY, le_trans → aqC, mul_one → aqK, pow_add → aqN, min_eq_left → aqX, div_div_eq_div_mul → aqY, eq_zero_or_pos → arE, lt_of_lt_of_le → arL, add_assoc → arN, add_sub_cancel → arW, sub_self → asD, sub_zero → asE, zero_mul → asF, div_lt_iff_lt_mul → asG, pow_succ → asH, mul_add → asO, div_le_self → asV, lt_trichotomy → atB, zero_le → atD, mod_lt → atK
open Option renaming isNone_some → aoF, isNone_none → aoG, map_some → apM, getD_some → arK
open Option.some renaming inj → apP
open UInt8 renaming toNat_lt → aqU, toNat_ofNat_of_lt' → asW
namespace Go.Proofs.YtoecppploooloaaGreatDoor
open Go Go.En
set_option maxRecDepth 20000
attribute [local irreducible] Go.En.jK
variable (Q : Exit -> Env -> atO -> Prop) (g : Env) (w : atO)
def C5 : FA := ⟨nZ, fun i => .leaf ([], []) []⟩
def Mj : List ResultVar := []
noncomputable def B2 : Code := kB Tryz.f72
def xS (kn : K0) (yC wP : atP) (w : atO) : Prop :=
 gE pg (gW .neq 60 (.tmp 4) (.const (.pointer none)) yC (.pointer none)) w fun b5 w =>
 mX b5
  (gE pg (rN yC) w fun b8 w =>
  gE pg (jJ 77 b8 0) w fun b9 w =>
  gE pg (jF 22 b9) w fun c0 w =>
  gE pg (oD .append #[22, 22] 22 [c0, wP]) w fun c2 w =>
  gE pg (rN yC) w fun c3 w =>
  gE pg (jJ 77 c3 0) w fun c4 w =>
  gE pg (kA 22 c4 c2) w fun _u w =>
  kn w)
  (kn w)
theorem IT (kn : K0) (hn : N0 Q kn) (h : xS kn (g 0) (g 1) w) : jK pg C5 B2 Q g w :=
 lM (kr := no) (l := []) h hn mH trivial
def GO (a0 a1 : atP) (w : atO) (R : K1) : Prop :=
 xS (fun  w => R (.tuple #[]) w) a0 a1 w
theorem JV {a0 a1 : atP} {w : atO} {R : K1} (h : GO a0 a1 w R) : jD pg nZ #[a0, a1] w R := by
 refine Bp (ann := C5) Tryz.f72 B2 [a0, a1] Mj 15 TryzM.mixed Tryz.func72 ?_
 exact (IT _ _ _ (fun  w => R (.tuple #[]) w) (fun _ _ h => h) h)
def qY : FA := ⟨wU, fun i => .leaf ([], []) []⟩
def Bk : List ResultVar := [.tmp 4]
noncomputable def qN : Code := kB Tryz.f73
def vH (R : K1) (EB : atP) (w : atO) : Prop :=
 R EB w
theorem L4 (R : K1) (hr : HR Bk R Q) (h : vH R (g 0) w) : jK pg qY (fV 1 (fV 2 qN)) Q g w :=
 lM (kn := no) (l := []) h mH hr trivial
def Be (kn : K1) (EB UK : atP) (w : atO) : Prop :=
 gE pg (oD .cap #[22] 3 [EB]) w fun c0 w =>
 gE pg (oD .len #[22] 3 [EB]) w fun c2 w =>
 gE pg (gW .sub 3 iK iK c0 c2) w fun c3 w =>
 gE pg (gW .sub 3 iK iK UK c3) w fun c4 w =>
 gE pg (gW .gtr 3 iK iK c4 (atQ 0)) w fun c6 w =>
 mX c6
  (gE pg (oD .cap #[22] 3 [EB]) w fun c9 w =>
  gE pg (lR 22 EB none (some c9) none) w fun d0 w =>
  gE pg (oD .append #[22, 3] 22 [d0, c4]) w fun d2 w =>
  gE pg (oD .len #[22] 3 [EB]) w fun d4 w =>
  gE pg (lR 22 d2 none (some d4) none) w fun d5 w =>
  kn d5 w)
  (kn EB w)
theorem Lv (kn : K1) (hn : N1 Q kn 0) (h : Be kn (g 0) (g 1) w) : jK pg qY (gS 1 (fV 2 qN)) Q g w :=
 lM (kr := no) (l := []) h hn mH trivial
def BA (R : K1) (EB UK : atP) (w : atO) : Prop :=
 Be (fun EB w => vH R EB w) EB UK w
def Br (kn : K2) (EB UK : atP) (w : atO) : Prop :=
 gE pg (gW .lss 3 iK iK UK (atQ 0)) w fun b6 w =>
 mX b6
  (gE pg (Vt 9 (.string ⟨#[99, 97, 110, 110, 111, 116, 32, 98, 101, 32, 110, 101, 103, 97, 116, 105, 118, 101]⟩)) w fun b7 w =>
  gE pg (V (Instr.panic b7)) w fun _u w =>
  kn EB UK w)
  (kn EB UK w)
theorem Lj (kn : K2) (hn : N2 Q kn 0 1) (h : Br kn (g 0) (g 1) w) : jK pg qY (gS 2 qN) Q g w :=
 lM (kr := no) (l := []) h hn mH trivial
def Bw (R : K1) (EB UK : atP) (w : atO) : Prop :=
 Br (fun EB UK w => BA R EB UK w) EB UK w
theorem LB (R : K1) (hr : HR Bk R Q) (h : Bw R (g 0) (g 1) w) : jK pg qY qN Q g w :=
 oB 2 (Lj _ g w (BA R) (fun g w h => iB (oB 1 (Lv _ g w (vH R) (fun g w h => iB (L4 _ g w R hr h)) h))) h)
def KM (a0 a1 : atP) (w : atO) (R : K1) : Prop :=
 Bw R a0 a1 w
theorem Nd {a0 a1 : atP} {w : atO} {R : K1} (h : KM a0 a1 w R) : jD pg wU #[a0, a1] w R := by
 refine Bp (ann := qY) Tryz.f73 qN [a0, a1] Bk 27 TryzM.mixed Tryz.func73 ?_
 exact (LB _ _ _ R (fun _ _ h => h) h)
def Dd : FA := ⟨qX, fun i => .leaf ([], []) []⟩
def Ep : List ResultVar := [.cell 4 146, .tmp 5]
noncomputable def C4 : Code := kB Tryz.f79
def yX (R : K1) (rL nG : atP) (w : atO) : Prop :=
 gE pg (pX 146) w fun b4 w =>
 gE pg (gW .add 3 iK iK nG (atQ 4)) w fun b7 w =>
 gE pg (rN rL) w fun b9 w =>
 gE pg (jJ 119 b9 0) w fun c0 w =>
 gE pg (jF 22 c0) w fun c1 w =>
 gE pg (oD .len #[22] 3 [c1]) w fun c2 w =>
 gE pg (gW .gtr 3 iK iK b7 c2) w fun c3 w =>
 mX c3
  (gE pg (mL 146 []) w fun c4 w =>
  gE pg (kA 146 b4 c4) w fun _u w =>
  UE pg 146 b4 w fun r0 => R (.tuple #[r0, (.bool false)]) w)
  (gE pg (rN rL) w fun c6 w =>
  gE pg (jJ 119 c6 0) w fun c7 w =>
  gE pg (jF 22 c7) w fun c8 w =>
  gE pg (gW .add 3 iK iK nG (atQ 4)) w fun d1 w =>
  gE pg (lR 22 c8 (some nG) (some d1) none) w fun d2 w =>
  gE pg (ahW 146 d2) w fun d3 w =>
  gE pg (jF 146 d3) w fun d4 w =>
  gE pg (kA 146 b4 d4) w fun _u w =>
  UE pg 146 b4 w fun r0 => R (.tuple #[r0, (.bool true)]) w)
theorem JQ (R : K1) (hr : HR Ep R Q) (h : yX R (g 0) (g 1) w) : jK pg Dd C4 Q g w :=
 lM (kn := no) (l := []) h mH hr trivial
def Hm (a0 a1 : atP) (w : atO) (R : K1) : Prop :=
 yX R a0 a1 w
theorem Kg {a0 a1 : atP} {w : atO} {R : K1} (h : Hm a0 a1 w R) : jD pg qX #[a0, a1] w R := by
 refine Bp (ann := Dd) Tryz.f79 C4 [a0, a1] Ep 25 TryzM.mixed Tryz.func79 ?_
 exact (JQ _ _ _ R (fun _ _ h => h) h)
def oA : FA := ⟨uU, fun i => match Nat.beq i 2 with | true => .leaf ([], []) [(false, []), (false, []), (false, []), (false, []), (false, []), (false, []), (false, []), (false, []), (false, []), (false, []), (false, []), (false, []), (false, []), (false, []), (false, []), (false, []), (false, []), (false, []), (false, []), (false, []), (false, []), (false, []), (false, []), (false, []), (false, []), (false, []), (false, []), (false, []), (false, []), (false, []), (false, []), (false, []), (false, [])] | false => .leaf ([], []) []⟩
def As : List ResultVar := [.tmp 6]
noncomputable def nQ : Code := kB Tryz.f80
def uC (R : K1) (S9 : atP) (w : atO) : Prop :=
 R S9 w
theorem Kv (R : K1) (hr : HR As R Q) (h : uC R (g 7) w) : jK pg oA (fV 1 (fV 2 nQ)) Q g w :=
 lM (kn := no) (l := []) h mH hr trivial
def oM (kn : K4) (k0 : K1) (rL GL O0 S9 : atP) (w : atO) : Prop :=
 (dr w) = (dr w) /\
 (dr w) = (dr w) /\
 gE pg (gW .add 3 iK iK O0 S9) (dr w) fun c0 w_ => w_ = (dr w) /\
 (dr w) = (dr w) /\
 gE pg (rN rL) (dr w) fun c2 w_ => w_ = (dr w) /\
 gE pg (jJ 119 c2 1) (dr w) fun c3 w_ => w_ = (dr w) /\
 gE pg (jF 3 c3) (dr w) fun c4 w_ => w_ = (dr w) /\
 gE pg (gW .lss 3 iK iK c0 c4) (dr w) fun c5 w_ => w_ = (dr w) /\
 (dr w) = (dr w) /\
 Gd (kP c5 true) (fun K => K S9 (dr w)) (dr w) fun c7 w_ => w_ = (dr w) /\
 Gd (kP c5 true) (fun K => gE pg (gW .lss 3 iK iK c7 (atQ 131074)) (dr w) K) (dr w) fun c8 w_ => w_ = (dr w) /\
 gE pg (mJ c5 c8 (.bool false)) (dr w) fun c9 w_ => w_ = (dr w) /\
 (dr w) = (dr w) /\
 Gd (kP c9 true) (fun K => K rL (dr w)) (dr w) fun d1 w_ => w_ = (dr w) /\
 Gd (kP c9 true) (fun K => gE pg (rN d1) (dr w) K) (dr w) fun d2 w_ => w_ = (dr w) /\
 Gd (kP c9 true) (fun K => gE pg (jJ 119 d2 0) (dr w) K) (dr w) fun d3 w_ => w_ = (dr w) /\
 Gd (kP c9 true) (fun K => gE pg (jF 22 d3) (dr w) K) (dr w) fun d4 w_ => w_ = (dr w) /\
 Gd (kP c9 true) (fun K => K GL (dr w)) (dr w) fun d5 w_ => w_ = (dr w) /\
 Gd (kP c9 true) (fun K => K S9 (dr w)) (dr w) fun d6 w_ => w_ = (dr w) /\
 Gd (kP c9 true) (fun K => gE pg (gW .add 3 iK iK d5 d6) (dr w) K) (dr w) fun d7 w_ => w_ = (dr w) /\
 Gd (kP c9 true) (fun K => gE pg (jO 22 d4 d7) (dr w) K) (dr w) fun d8 w_ => w_ = (dr w) /\
 Gd (kP c9 true) (fun K => gE pg (jF 5 d8) (dr w) K) (dr w) fun d9 w_ => w_ = (dr w) /\
 Gd (kP c9 true) (fun K => K rL (dr w)) (dr w) fun e0 w_ => w_ = (dr w) /\
 Gd (kP c9 true) (fun K => gE pg (rN e0) (dr w) K) (dr w) fun e1 w_ => w_ = (dr w) /\
 Gd (kP c9 true) (fun K => gE pg (jJ 119 e1 0) (dr w) K) (dr w) fun e2 w_ => w_ = (dr w) /\
 Gd (kP c9 true) (fun K => gE pg (jF 22 e2) (dr w) K) (dr w) fun e3 w_ => w_ = (dr w) /\
 Gd (kP c9 true) (fun K => K O0 (dr w)) (dr w) fun e4 w_ => w_ = (dr w) /\
 Gd (kP c9 true) (fun K => K S9 (dr w)) (dr w) fun e5 w_ => w_ = (dr w) /\
 Gd (kP c9 true) (fun K => gE pg (gW .add 3 iK iK e4 e5) (dr w) K) (dr w) fun e6 w_ => w_ = (dr w) /\
 Gd (kP c9 true) (fun K => gE pg (jO 22 e3 e6) (dr w) K) (dr w) fun e7 w_ => w_ = (dr w) /\
 Gd (kP c9 true) (fun K => gE pg (jF 5 e7) (dr w) K) (dr w) fun e8 w_ => w_ = (dr w) /\
 Gd (kP c9 true) (fun K => gE pg (gW .eql 5 (.tmp 29) (.tmp 38) d9 e8) (dr w) K) (dr w) fun e9 w_ => w_ = (dr w) /\
 gE pg (mJ c9 e9 (.bool false)) (dr w) fun f0 w_ => w_ = (dr w) /\
 mX f0
  (gE pg (gW .add 3 iK iK S9 (atQ 1)) (dr w) fun f2 w =>
  kn rL GL O0 f2 w)
  (k0 S9 (dr w))
theorem KC (kn : K4) (k0 : K1) (hn : N4 Q kn 0 1 2 7) (h0 : E1 Q k0 0 7) (h : oM kn k0 (g 0) (g 1) (g 2) (g 7) w) : jK pg oA (bI (bI (gS 1 (fV 2 nQ)))) Q g w :=
 lM (kr := no) (l := [(0, fun g w => k0 (g 7) w)]) h hn mH ⟨h0, trivial⟩
def Ah (k0 : K1) (rL GL O0 S9 : atP) (w : atO) : Prop :=
 kE (fun (X : atP -> K0) (t : atP) (w : atO) => oM (fun _ _ _ S9 w => X S9 w) k0 rL GL O0 t w) S9 w
theorem KB (k0 : K1) (h0 : E1 Q k0 0 7) (h : Ah k0 (g 0) (g 1) (g 2) (g 7) w) : jK pg oA (bI (gS 1 (fV 2 nQ))) Q g w := by
 refine MG (fun g : Env => g 7) (fun X t w => oM (fun _ _ _ S9 w => X S9 w) k0 (g 0) (g 1) (g 2) t w) h (fun X g1 w1 ha hL => ?_)
 rw [<- qO 0 ha, <- qO 1 ha, <- qO 2 ha] at hL
 exact (KC _ g1 w1 (fun _ _ _ S9 w => X S9 w) k0 (fun _ _ h => h) h0 hL)
def Ag (kn : K1) (rL GL O0 S9 : atP) (w : atO) : Prop :=
 Ah kn rL GL O0 S9 w
def Ad (R : K1) (rL GL O0 S9 : atP) (w : atO) : Prop :=
 Ag (fun S9 w => uC R S9 w) rL GL O0 S9 w
theorem Kc (kn : K1) (hn : N1 Q kn 7) (h : Ag kn (g 0) (g 1) (g 2) (g 7) w) : jK pg oA (gS 1 (fV 2 nQ)) Q g w :=
 GV 0 (KB _ g w kn hn h)
def Ay (kn : K4) (rL GL O0 : atP) (w : atO) : Prop :=
 kn rL GL O0 (atQ 0) w
theorem KA (kn : K4) (hn : N4 Q kn 0 1 2 7) (h : Ay kn (g 0) (g 1) (g 2) w) : jK pg oA (gS 2 nQ) Q g w :=
 lM (kr := no) (l := []) h hn mH trivial
def AB (R : K1) (rL GL O0 : atP) (w : atO) : Prop :=
 Ay (fun rL GL O0 S9 w => Ad R rL GL O0 S9 w) rL GL O0 w
theorem KO (R : K1) (hr : HR As R Q) (h : AB R (g 0) (g 1) (g 2) w) : jK pg oA nQ Q g w :=
 oB 2 (KA _ g w (Ad R) (fun g w h => iB (oB 1 (Kc _ g w (uC R) (fun g w h => iB (Kv _ g w R hr h)) h))) h)
def Jl (a0 a1 a2 : atP) (w : atO) (R : K1) : Prop :=
 AB R a0 a1 a2 w
theorem LH {a0 a1 a2 : atP} {w : atO} {R : K1} (h : Jl a0 a1 a2 w R) : jD pg uU #[a0, a1, a2] w R := by
 refine Bp (ann := oA) Tryz.f80 nQ [a0, a1, a2] As 44 TryzM.mixed Tryz.func80 ?_
 exact (KO _ _ _ R (fun _ _ h => h) h)
def xV : FA := ⟨vU, fun i => .leaf ([], []) []⟩
def Ec : List ResultVar := [.tmp 4]
noncomputable def vG : Code := kB Tryz.f81
def uD (R : K1) (w_5 : atP) (w : atO) : Prop :=
 jD pg nE #[w_5] w fun e7 w =>
 R e7 w
theorem OJ (R : K1) (hr : HR Ec R Q) (h : uD R (g 5) w) : jK pg xV (fV 3 vG) Q g w :=
 lM (kn := no) (l := []) h mH hr trivial
def DM (kn : K1) (NH UK : atP) (w : atO) : Prop :=
 jD pg nR #[] w fun b6 w =>
 gE pg (gW .lss 3 iK iK UK (atQ 32)) w fun c7 w =>
 mX c7
  (gE pg (gW .shl 3 iK iK UK (.int .u64 3)) w fun d0 w =>
  gE pg (gW .or 3 iK iK d0 NH) w fun d2 w =>
  gE pg (nS 3 32 d2) w fun d3 w =>
  jD pg jL #[b6, d3, (atQ 1)] w fun d4 w =>
  kn b6 w)
  (gE pg (gW .lss 3 iK iK UK (atQ 4096)) w fun d7 w =>
  mX d7
   (gE pg (gW .shl 3 iK iK UK (.int .u64 4)) w fun e0 w =>
   gE pg (gW .or 3 iK iK e0 (atQ 4)) w fun e1 w =>
   gE pg (gW .or 3 iK iK e1 NH) w fun e3 w =>
   gE pg (nS 3 32 e3) w fun e4 w =>
   jD pg jL #[b6, e4, (atQ 2)] w fun e5 w =>
   kn b6 w)
   (gE pg (gW .shl 3 iK iK UK (.int .u64 4)) w fun b9 w =>
   gE pg (gW .or 3 iK iK b9 (atQ 12)) w fun c0 w =>
   gE pg (gW .or 3 iK iK c0 NH) w fun c2 w =>
   gE pg (nS 3 32 c2) w fun c3 w =>
   jD pg jL #[b6, c3, (atQ 3)] w fun c4 w =>
   kn b6 w))
theorem NI (kn : K1) (hn : N1 Q kn 5) (h : DM kn (g 0) (g 1) w) : jK pg xV (gS 3 vG) Q g w :=
 lM (kr := no) (l := []) h hn mH trivial
def Ds (R : K1) (NH UK : atP) (w : atO) : Prop :=
 DM (fun w_5 w => uD R w_5 w) NH UK w
theorem Of (R : K1) (hr : HR Ec R Q) (h : Ds R (g 0) (g 1) w) : jK pg xV vG Q g w :=
 oB 3 (NI _ g w (uD R) (fun g w h => iB (OJ _ g w R hr h)) h)
def NO (a0 a1 : atP) (w : atO) (R : K1) : Prop :=
 Ds R a0 a1 w
theorem Pl {a0 a1 : atP} {w : atO} {R : K1} (h : NO a0 a1 w R) : jD pg vU #[a0, a1] w R := by
 refine Bp (ann := xV) Tryz.f81 vG [a0, a1] Ec 38 TryzM.mixed Tryz.func81 ?_
 exact (Of _ _ _ R (fun _ _ h => h) h)
def kN : FA := ⟨yY, fun i => .leaf ([], []) []⟩
def wK : List ResultVar := [.tmp 4]
noncomputable def kI : Code := kB Tryz.f82
def sE (R : K1) (KJ : atP) (w : atO) : Prop :=
 R KJ w
theorem IM (R : K1) (hr : HR wK R Q) (h : sE R (g 5) w) : jK pg kN (fV 1 (fV 1 (fV 2 kI))) Q g w :=
 lM (kn := no) (l := []) h mH hr trivial
def rX (kn : K4) (nM pK KJ wJ : atP) (w : atO) : Prop :=
 gE pg (gW .add 3 iK iK wJ (atQ 1)) w fun c9 w =>
 kn nM pK KJ c9 w
theorem I2 (kn : K4) (hn : N4 Q kn 0 1 5 6) (h : rX kn (g 0) (g 1) (g 5) (g 6) w) : jK pg kN (fV 2 (bI (bI (fV 1 (gS 1 (fV 1 (fV 2 kI))))))) Q g w :=
 lM (kr := no) (l := []) h hn mH trivial
def sC (kn : K4) (k0 : K1) (nM pK KJ wJ : atP) (w : atO) : Prop :=
 gE pg (oD .len #[137] 3 [nM]) w fun c6 w =>
 gE pg (gW .lss 3 iK iK wJ c6) w fun c7 w =>
 mX c7
  (gE pg (jO 137 nM wJ) w fun d3 w =>
  gE pg (jF 22 d3) w fun d4 w =>
  gE pg (Cq pK [d4, KJ]) w fun d6 w =>
  gE pg (gW .lss 3 iK iK d6 (atQ 0)) w fun d7 w =>
  mX d7
   (gE pg (jO 137 nM wJ) w fun e0 w =>
   gE pg (jF 22 e0) w fun e1 w =>
   kn nM pK e1 wJ w)
   (kn nM pK KJ wJ w))
  (k0 KJ w)
theorem IG (kn : K4) (k0 : K1) (hn : N4 Q kn 0 1 5 6) (h0 : E1 Q k0 0 5) (h : sC kn k0 (g 0) (g 1) (g 5) (g 6) w) : jK pg kN (gS 2 (bI (bI (fV 1 (gS 1 (fV 1 (fV 2 kI))))))) Q g w :=
 lM (kr := no) (l := [(0, fun g w => k0 (g 5) w)]) h hn mH ⟨h0, trivial⟩
def qA (kn : K4) (k0 : K1) (nM pK KJ wJ : atP) (w : atO) : Prop :=
 sC (fun nM pK KJ wJ w => rX kn nM pK KJ wJ w) k0 nM pK KJ wJ w
def wL (k0 : K1) (nM pK KJ wJ : atP) (w : atO) : Prop :=
 kE (fun (X : (atP × atP) -> K0) (t : atP × atP) (w : atO) => qA (fun _ _ KJ wJ w => X (KJ, wJ) w) k0 nM pK t.1 t.2 w) (KJ, wJ) w
theorem IN (kn : K4) (k0 : K1) (hn : N4 Q kn 0 1 5 6) (h0 : E1 Q k0 0 5) (h : qA kn k0 (g 0) (g 1) (g 5) (g 6) w) : jK pg kN (bI (bI (fV 1 (gS 1 (fV 1 (fV 2 kI)))))) Q g w :=
 oB 2 (IG _ g w (rX kn) k0 (fun g w h => iB (I2 _ g w kn hn h)) h0 h)
theorem IK (k0 : K1) (h0 : E1 Q k0 0 5) (h : wL k0 (g 0) (g 1) (g 5) (g 6) w) : jK pg kN (bI (fV 1 (gS 1 (fV 1 (fV 2 kI))))) Q g w := by
 refine MG (fun g : Env => (g 5, g 6)) (fun X t w => qA (fun _ _ KJ wJ w => X (KJ, wJ) w) k0 (g 0) (g 1) t.1 t.2 w) h (fun X g1 w1 ha hL => ?_)
 rw [<- qO 0 ha, <- qO 1 ha] at hL
 exact (IN _ g1 w1 (fun _ _ KJ wJ w => X (KJ, wJ) w) k0 (fun _ _ h => h) h0 hL)
def wY (kn : K1) (nM pK KJ wJ : atP) (w : atO) : Prop :=
 wL kn nM pK KJ wJ w
def xA (kn : K4) (nM pK KJ : atP) (w : atO) : Prop :=
 kn nM pK KJ (atQ 1) w
theorem IJ (kn : K4) (hn : N4 Q kn 0 1 5 6) (h : xA kn (g 0) (g 1) (g 5) w) : jK pg kN (gS 1 (gS 1 (fV 1 (fV 2 kI)))) Q g w :=
 lM (kr := no) (l := []) h hn mH trivial
def wR (kn : K1) (nM pK KJ : atP) (w : atO) : Prop :=
 xA (fun nM pK KJ wJ w => wY kn nM pK KJ wJ w) nM pK KJ w
def xU (R : K1) (nM pK KJ : atP) (w : atO) : Prop :=
 wR (fun KJ w => sE R KJ w) nM pK KJ w
theorem IQ (kn : K1) (hn : N1 Q kn 5) (h : wR kn (g 0) (g 1) (g 5) w) : jK pg kN (gS 1 (fV 1 (fV 2 kI))) Q g w :=
 oB 1 (IJ _ g w (wY kn) (fun g w h => iB (GV 0 (IK _ g w kn hn h))) h)
def vZ (kn : K3) (nM pK : atP) (w : atO) : Prop :=
 gE pg (jO 137 nM (atQ 0)) w fun c2 w =>
 gE pg (jF 22 c2) w fun c3 w =>
 kn nM pK c3 w
theorem HY (kn : K3) (hn : N3 Q kn 0 1 5) (h : vZ kn (g 0) (g 1) w) : jK pg kN (gS 1 (fV 2 kI)) Q g w :=
 lM (kr := no) (l := []) h hn mH trivial
def wD (R : K1) (nM pK : atP) (w : atO) : Prop :=
 vZ (fun nM pK KJ w => xU R nM pK KJ w) nM pK w
def vX (kn : K2) (nM pK : atP) (w : atO) : Prop :=
 gE pg (oD .len #[137] 3 [nM]) w fun b8 w =>
 gE pg (gW .lss 3 iK iK b8 (atQ 1)) w fun b9 w =>
 mX b9
  (gE pg (Vt 9 (.string ⟨#[115, 108, 105, 99, 101, 115, 46, 77, 105, 110, 70, 117, 110, 99, 58, 32, 101, 109, 112, 116, 121, 32, 108, 105, 115, 116]⟩)) w fun c0 w =>
  gE pg (V (Instr.panic c0)) w fun _u w =>
  kn nM pK w)
  (kn nM pK w)
theorem Iv (kn : K2) (hn : N2 Q kn 0 1) (h : vX kn (g 0) (g 1) w) : jK pg kN (gS 2 kI) Q g w :=
 lM (kr := no) (l := []) h hn mH trivial
def vV (R : K1) (nM pK : atP) (w : atO) : Prop :=
 vX (fun nM pK w => wD R nM pK w) nM pK w
theorem Hs (R : K1) (hr : HR wK R Q) (h : vV R (g 0) (g 1) w) : jK pg kN kI Q g w :=
 oB 2 (Iv _ g w (wD R) (fun g w h => iB (oB 1 (HY _ g w (xU R) (fun g w h => iB (oB 1 (IQ _ g w (sE R) (fun g w h => iB (IM _ g w R hr h)) h))) h))) h)
def GQ (a0 a1 : atP) (w : atO) (R : K1) : Prop :=
 vV R a0 a1 w
theorem JG {a0 a1 : atP} {w : atO} {R : K1} (h : GQ a0 a1 w R) : jD pg yY #[a0, a1] w R := by
 refine Bp (ann := kN) Tryz.f82 kI [a0, a1] wK 33 TryzM.mixed Tryz.func82 ?_
 exact (Hs _ _ _ R (fun _ _ h => h) h)
def Eo : FA := ⟨uP, fun i => .leaf ([], []) []⟩
def Gj : List ResultVar := [.tmp 4]
noncomputable def Ef : Code := kB Tryz.f83
def Av (R : K1) (a_0 wP : atP) (w : atO) : Prop :=
 gE pg (oD .len #[22] 3 [a_0]) w fun b6 w =>
 gE pg (oD .len #[22] 3 [wP]) w fun b8 w =>
 gE pg (gW .sub 3 iK iK b6 b8) w fun b9 w =>
 R b9 w
theorem Lb (R : K1) (hr : HR Gj R Q) (h : Av R (g 0) (g 1) w) : jK pg Eo Ef Q g w :=
 lM (kn := no) (l := []) h mH hr trivial
def Jn (a0 a1 : atP) (w : atO) (R : K1) : Prop :=
 Av R a0 a1 w
theorem L2 {a0 a1 : atP} {w : atO} {R : K1} (h : Jn a0 a1 w R) : jD pg uP #[a0, a1] w R := by
 refine Bp (ann := Eo) Tryz.f83 Ef [a0, a1] Gj 10 TryzM.mixed Tryz.func83 ?_
 exact (Lb _ _ _ R (fun _ _ h => h) h)
def jC : FA := ⟨zH, fun i => match Nat.beq i 15 with | true => .leaf ([], []) [(false, []), (false, []), (false, []), (false, []), (false, []), (false, []), (false, []), (false, []), (false, []), (false, []), (false, []), (false, []), (false, []), (false, []), (false, []), (false, []), (false, []), (false, []), (false, []), (false, []), (false, []), (false, []), (false, []), (false, []), (false, []), (false, []), (false, []), (false, []), (false, []), (false, []), (false, []), (false, []), (false, []), (false, []), (false, []), (false, []), (false, []), (false, []), (false, []), (false, []), (false, []), (false, []), (false, [])] | false => match Nat.beq i 25 with | true => .leaf ([], []) [(false, []), (false, []), (false, []), (false, []), (false, []), (false, []), (false, []), (false, []), (false, []), (false, []), (false, []), (false, []), (false, []), (false, []), (false, []), (false, []), (false, []), (false, []), (false, []), (false, []), (false, []), (false, []), (false, []), (false, []), (false, []), (false, []), (false, []), (false, []), (false, []), (false, []), (false, []), (false, []), (false, []), (false, []), (false, []), (false, []), (false, []), (false, []), (false, []), (false, []), (false, []), (false, []), (false, []), (false, []), (false, []), (false, [])] | false => .leaf ([], []) []⟩
def CT : List ResultVar := [.tmp 4]
noncomputable def iY : Code := kB Tryz.f84
def xR (R : K1) (gZ : atP) (w : atO) : Prop :=
 R gZ w
theorem Nq (R : K1) (hr : HR CT R Q) (h : xR R (g 5) w) : jK pg jC (fV 1 (fV 1 (fV 1 (fV 3 iY)))) Q g w :=
 lM (kn := no) (l := []) h mH hr trivial
def wX (kn : K3) (gP gZ iX pA : atP) (w : atO) : Prop :=
 gE pg (jO 117 gZ pA) w fun y6 w =>
 gE pg (jF 3 y6) w fun y7 w =>
 gE pg (gW .sub 3 iK iK (atQ 11) y7) w fun y8 w =>
 gE pg (gW .shl 3 iK iK (atQ 1) y8) w fun y9 w =>
 gE pg (gW .sub 3 iK iK iX y9) w fun z0 w =>
 gE pg (jO 117 gZ pA) w fun z3 w =>
 gE pg (jF 3 z3) w fun z4 w =>
 gE pg (gW .sub 3 iK iK z4 (atQ 1)) w fun z5 w =>
 gE pg (jO 117 gZ pA) w fun z6 w =>
 gE pg (kA 3 z6 z5) w fun _u w =>
 kn gP gZ z0 w
theorem MW (kn : K3) (hn : N3 Q kn 0 5 6) (h : wX kn (g 0) (g 5) (g 6) (g 12) w) : jK pg jC (fV 1 (fV 1 (bI (fV 1 (bI (bI (gS 1 (fV 1 (fV 1 (fV 3 iY)))))))))) Q g w :=
 lM (kr := no) (l := []) h hn mH trivial
def xZ (kn : K7) (gP gZ iX pA p8 p9 q0 : atP) (w : atO) : Prop :=
 gE pg (gW .add 3 iK iK q0 (atQ 1)) w fun y2 w =>
 kn gP gZ iX pA p8 p9 y2 w
theorem Ng (kn : K7) (hn : N7 Q kn 0 5 6 12 118 119 120) (h : xZ kn (g 0) (g 5) (g 6) (g 12) (g 118) (g 119) (g 120) w) : jK pg jC (fV 3 (bI (bI (fV 1 (gS 1 (fV 1 (bI (fV 1 (bI (bI (gS 1 (fV 1 (fV 1 (fV 3 iY)))))))))))))) Q g w :=
 lM (kr := no) (l := []) h hn mH trivial
def CQ (kn : K7) (k8 : K4) (gP gZ iX pA p8 p9 q0 : atP) (w : atO) : Prop :=
 gE pg (gW .lss 3 iK iK q0 p9) w fun q1 w =>
 mX q1
  (gE pg (jO 128 p8 q0) w fun q3 w =>
  gE pg (jF 38 q3) w fun q4 w =>
  (dr w) = (dr w) /\
  gE pg (gW .gtr 38 iK iK q4 (.int .u32 0)) (dr w) fun q6 w_ => w_ = (dr w) /\
  (dr w) = (dr w) /\
  Gd (kP q6 true) (fun K => K gZ (dr w)) (dr w) fun q8 w_ => w_ = (dr w) /\
  Gd (kP q6 true) (fun K => K q0 (dr w)) (dr w) fun q9 w_ => w_ = (dr w) /\
  Gd (kP q6 true) (fun K => gE pg (jO 117 q8 q9) (dr w) K) (dr w) fun s0 w_ => w_ = (dr w) /\
  Gd (kP q6 true) (fun K => gE pg (jF 3 s0) (dr w) K) (dr w) fun s1 w_ => w_ = (dr w) /\
  Gd (kP q6 true) (fun K => gE pg (gW .sub 3 iK iK (atQ 11) s1) (dr w) K) (dr w) fun s2 w_ => w_ = (dr w) /\
  Gd (kP q6 true) (fun K => gE pg (gW .shl 3 iK iK (atQ 1) s2) (dr w) K) (dr w) fun s3 w_ => w_ = (dr w) /\
  Gd (kP q6 true) (fun K => K iX (dr w)) (dr w) fun s4 w_ => w_ = (dr w) /\
  Gd (kP q6 true) (fun K => gE pg (gW .leq 3 iK iK s3 s4) (dr w) K) (dr w) fun s5 w_ => w_ = (dr w) /\
  gE pg (mJ q6 s5 (.bool false)) (dr w) fun s6 w_ => w_ = (dr w) /\
  (dr w) = (dr w) /\
  Gd (kP s6 true) (fun K => K pA (dr w)) (dr w) fun s8 w_ => w_ = (dr w) /\
  Gd (kP s6 true) (fun K => gE pg (gW .lss 3 iK iK s8 (atQ 0)) (dr w) K) (dr w) fun s9 w_ => w_ = (dr w) /\
  Gd (kP s6 true) (fun K => K s9 (dr w)) (dr w) fun u0 w_ => w_ = (dr w) /\
  Gd (kP u0 false) (fun K => K gZ (dr w)) (dr w) fun u1 w_ => w_ = (dr w) /\
  Gd (kP u0 false) (fun K => K q0 (dr w)) (dr w) fun u2 w_ => w_ = (dr w) /\
  Gd (kP u0 false) (fun K => gE pg (jO 117 u1 u2) (dr w) K) (dr w) fun u3 w_ => w_ = (dr w) /\
  Gd (kP u0 false) (fun K => gE pg (jF 3 u3) (dr w) K) (dr w) fun u4 w_ => w_ = (dr w) /\
  Gd (kP u0 false) (fun K => K gZ (dr w)) (dr w) fun u5 w_ => w_ = (dr w) /\
  Gd (kP u0 false) (fun K => K pA (dr w)) (dr w) fun u6 w_ => w_ = (dr w) /\
  Gd (kP u0 false) (fun K => gE pg (jO 117 u5 u6) (dr w) K) (dr w) fun u7 w_ => w_ = (dr w) /\
  Gd (kP u0 false) (fun K => gE pg (jF 3 u7) (dr w) K) (dr w) fun u8 w_ => w_ = (dr w) /\
  Gd (kP u0 false) (fun K => gE pg (gW .gtr 3 iK iK u4 u8) (dr w) K) (dr w) fun u9 w_ => w_ = (dr w) /\
  Gd (kP s6 true) (fun K => gE pg (mJ u0 (.bool true) u9) (dr w) K) (dr w) fun v0 w_ => w_ = (dr w) /\
  Gd (kP s6 true) (fun K => K v0 (dr w)) (dr w) fun v1 w_ => w_ = (dr w) /\
  Gd (kP v1 false) (fun K => K gZ (dr w)) (dr w) fun v2 w_ => w_ = (dr w) /\
  Gd (kP v1 false) (fun K => K q0 (dr w)) (dr w) fun v3 w_ => w_ = (dr w) /\
  Gd (kP v1 false) (fun K => gE pg (jO 117 v2 v3) (dr w) K) (dr w) fun v4 w_ => w_ = (dr w) /\
  Gd (kP v1 false) (fun K => gE pg (jF 3 v4) (dr w) K) (dr w) fun v5 w_ => w_ = (dr w) /\
  Gd (kP v1 false) (fun K => K gZ (dr w)) (dr w) fun v6 w_ => w_ = (dr w) /\
  Gd (kP v1 false) (fun K => K pA (dr w)) (dr w) fun v7 w_ => w_ = (dr w) /\
  Gd (kP v1 false) (fun K => gE pg (jO 117 v6 v7) (dr w) K) (dr w) fun v8 w_ => w_ = (dr w) /\
  Gd (kP v1 false) (fun K => gE pg (jF 3 v8) (dr w) K) (dr w) fun v9 w_ => w_ = (dr w) /\
  Gd (kP v1 false) (fun K => gE pg (gW .eql 3 (.tmp 155) (.tmp 159) v5 v9) (dr w) K) (dr w) fun x0 w_ => w_ = (dr w) /\
  Gd (kP v1 false) (fun K => K x0 (dr w)) (dr w) fun x1 w_ => w_ = (dr w) /\
  Gd (kP x1 true) (fun K => K q4 (dr w)) (dr w) fun x2 w_ => w_ = (dr w) /\
  Gd (kP x1 true) (fun K => K gP (dr w)) (dr w) fun x3 w_ => w_ = (dr w) /\
  Gd (kP x1 true) (fun K => K pA (dr w)) (dr w) fun x4 w_ => w_ = (dr w) /\
  Gd (kP x1 true) (fun K => gE pg (jO 128 x3 x4) (dr w) K) (dr w) fun x5 w_ => w_ = (dr w) /\
  Gd (kP x1 true) (fun K => gE pg (jF 38 x5) (dr w) K) (dr w) fun x6 w_ => w_ = (dr w) /\
  Gd (kP x1 true) (fun K => gE pg (gW .gtr 38 iK iK x2 x6) (dr w) K) (dr w) fun x7 w_ => w_ = (dr w) /\
  Gd (kP v1 false) (fun K => gE pg (mJ x1 x7 (.bool false)) (dr w) K) (dr w) fun x8 w_ => w_ = (dr w) /\
  Gd (kP s6 true) (fun K => gE pg (mJ v1 (.bool true) x8) (dr w) K) (dr w) fun x9 w_ => w_ = (dr w) /\
  gE pg (mJ s6 x9 (.bool false)) (dr w) fun y0 w_ => w_ = (dr w) /\
  mX y0
   (kn gP gZ iX q0 p8 p9 q0 (dr w))
   (kn gP gZ iX pA p8 p9 q0 (dr w)))
  (k8 gP gZ iX pA w)
theorem MZ (kn : K7) (k8 : K4) (hn : N7 Q kn 0 5 6 12 118 119 120) (h8 : E4 Q k8 8 0 5 6 12) (h : CQ kn k8 (g 0) (g 5) (g 6) (g 12) (g 118) (g 119) (g 120) w) : jK pg jC (gS 3 (bI (bI (fV 1 (gS 1 (fV 1 (bI (fV 1 (bI (bI (gS 1 (fV 1 (fV 1 (fV 3 iY)))))))))))))) Q g w :=
 lM (kr := no) (l := [(8, fun g w => k8 (g 0) (g 5) (g 6) (g 12) w)]) h hn mH ⟨h8, trivial⟩
def wQ (kn : K7) (k8 : K4) (gP gZ iX pA p8 p9 q0 : atP) (w : atO) : Prop :=
 CQ (fun gP gZ iX pA p8 p9 q0 w => xZ kn gP gZ iX pA p8 p9 q0 w) k8 gP gZ iX pA p8 p9 q0 w
def CK (k8 : K4) (gP gZ iX pA p8 p9 q0 : atP) (w : atO) : Prop :=
 kE (fun (X : (atP × atP) -> K0) (t : atP × atP) (w : atO) => wQ (fun _ _ _ pA _ _ q0 w => X (pA, q0) w) k8 gP gZ iX t.1 p8 p9 t.2 w) (pA, q0) w
theorem Nk (kn : K7) (k8 : K4) (hn : N7 Q kn 0 5 6 12 118 119 120) (h8 : E4 Q k8 8 0 5 6 12) (h : wQ kn k8 (g 0) (g 5) (g 6) (g 12) (g 118) (g 119) (g 120) w) : jK pg jC (bI (bI (fV 1 (gS 1 (fV 1 (bI (fV 1 (bI (bI (gS 1 (fV 1 (fV 1 (fV 3 iY))))))))))))) Q g w :=
 oB 3 (MZ _ g w (xZ kn) k8 (fun g w h => iB (Ng _ g w kn hn h)) h8 h)
theorem M8 (k8 : K4) (h8 : E4 Q k8 8 0 5 6 12) (h : CK k8 (g 0) (g 5) (g 6) (g 12) (g 118) (g 119) (g 120) w) : jK pg jC (bI (fV 1 (gS 1 (fV 1 (bI (fV 1 (bI (bI (gS 1 (fV 1 (fV 1 (fV 3 iY)))))))))))) Q g w := by
 refine MG (fun g : Env => (g 12, g 120)) (fun X t w => wQ (fun _ _ _ pA _ _ q0 w => X (pA, q0) w) k8 (g 0) (g 5) (g 6) t.1 (g 118) (g 119) t.2 w) h (fun X g1 w1 ha hL => ?_)
 rw [<- qO 0 ha, <- qO 5 ha, <- qO 6 ha, <- qO 118 ha, <- qO 119 ha] at hL
 exact (Nk _ g1 w1 (fun _ _ _ pA _ _ q0 w => X (pA, q0) w) k8 (fun _ _ h => h) h8 hL)
def Cp (kn : K4) (gP gZ iX pA p8 p9 q0 : atP) (w : atO) : Prop :=
 CK kn gP gZ iX pA p8 p9 q0 w
def CV (kn : K7) (gP gZ iX pA : atP) (w : atO) : Prop :=
 gE pg (oD .len #[128] 3 [gP]) w fun p9 w =>
 kn gP gZ iX pA gP p9 (atQ 0) w
theorem M9 (kn : K7) (hn : N7 Q kn 0 5 6 12 118 119 120) (h : CV kn (g 0) (g 5) (g 6) (g 12) w) : jK pg jC (gS 1 (gS 1 (fV 1 (bI (fV 1 (bI (bI (gS 1 (fV 1 (fV 1 (fV 3 iY))))))))))) Q g w :=
 lM (kr := no) (l := []) h hn mH trivial
def wV (kn : K4) (gP gZ iX pA : atP) (w : atO) : Prop :=
 CV (fun gP gZ iX pA p8 p9 q0 w => Cp kn gP gZ iX pA p8 p9 q0 w) gP gZ iX pA w
def Bj (kn : K3) (gP gZ iX pA : atP) (w : atO) : Prop :=
 wV (fun gP gZ iX pA w => wX kn gP gZ iX pA w) gP gZ iX pA w
theorem MT (kn : K4) (hn : N4 Q kn 0 5 6 12) (h : wV kn (g 0) (g 5) (g 6) (g 12) w) : jK pg jC (gS 1 (fV 1 (bI (fV 1 (bI (bI (gS 1 (fV 1 (fV 1 (fV 3 iY)))))))))) Q g w :=
 oB 1 (M9 _ g w (Cp kn) (fun g w h => iB (GV 8 (M8 _ g w kn hn h))) h)
def Bb (kn : K4) (gP gZ iX : atP) (w : atO) : Prop :=
 kn gP gZ iX (atQ (-1)) w
theorem L5 (kn : K4) (hn : N4 Q kn 0 5 6 12) (h : Bb kn (g 0) (g 5) (g 6) w) : jK pg jC (gS 1 (bI (fV 1 (bI (bI (gS 1 (fV 1 (fV 1 (fV 3 iY))))))))) Q g w :=
 lM (kr := no) (l := []) h hn mH trivial
def GP (kn : K3) (gP gZ iX : atP) (w : atO) : Prop :=
 Bb (fun gP gZ iX pA w => Bj kn gP gZ iX pA w) gP gZ iX w
def BF (kn : K3) (gP gZ iX : atP) (w : atO) : Prop :=
 GP kn gP gZ iX w
def Bg (kn : K3) (k6 : K1) (gP gZ iX : atP) (w : atO) : Prop :=
 gE pg (gW .gtr 3 iK iK iX (atQ 0)) w fun p7 w =>
 mX p7
  (kn gP gZ iX w)
  (k6 gZ w)
theorem L3 (kn : K3) (k6 : K1) (hn : N3 Q kn 0 5 6) (h6 : E1 Q k6 6 5) (h : Bg kn k6 (g 0) (g 5) (g 6) w) : jK pg jC (gS 1 (bI (bI (gS 1 (fV 1 (fV 1 (fV 3 iY))))))) Q g w :=
 lM (kr := no) (l := [(6, fun g w => k6 (g 5) w)]) h hn mH ⟨h6, trivial⟩
def uZ (kn : K3) (k6 : K1) (gP gZ iX : atP) (w : atO) : Prop :=
 Bg (fun gP gZ iX w => BF kn gP gZ iX w) k6 gP gZ iX w
def BI (k6 : K1) (gP gZ iX : atP) (w : atO) : Prop :=
 kE (fun (X : atP -> K0) (t : atP) (w : atO) => uZ (fun _ _ iX w => X iX w) k6 gP gZ t w) iX w
theorem Mf (kn : K3) (k6 : K1) (hn : N3 Q kn 0 5 6) (h6 : E1 Q k6 6 5) (h : uZ kn k6 (g 0) (g 5) (g 6) w) : jK pg jC (bI (bI (gS 1 (fV 1 (fV 1 (fV 3 iY)))))) Q g w :=
 oB 1 (L3 _ g w (BF kn) k6 (fun g w h => iB (GV 7 (oB 1 (L5 _ g w (Bj kn) (fun g w h => iB (oB 1 (MT _ g w (wX kn) (fun g w h => iB (MW _ g w kn hn h)) h))) h)))) h6 h)
theorem L7 (k6 : K1) (h6 : E1 Q k6 6 5) (h : BI k6 (g 0) (g 5) (g 6) w) : jK pg jC (bI (gS 1 (fV 1 (fV 1 (fV 3 iY))))) Q g w := by
 refine MG (fun g : Env => g 6) (fun X t w => uZ (fun _ _ iX w => X iX w) k6 (g 0) (g 5) t w) h (fun X g1 w1 ha hL => ?_)
 rw [<- qO 0 ha, <- qO 5 ha] at hL
 exact (Mf _ g1 w1 (fun _ _ iX w => X iX w) k6 (fun _ _ h => h) h6 hL)
def Bo (kn : K1) (gP gZ iX : atP) (w : atO) : Prop :=
 BI kn gP gZ iX w
def rP (R : K1) (gP gZ iX : atP) (w : atO) : Prop :=
 Bo (fun gZ w => xR R gZ w) gP gZ iX w
theorem Lh (kn : K1) (hn : N1 Q kn 5) (h : Bo kn (g 0) (g 5) (g 6) w) : jK pg jC (gS 1 (fV 1 (fV 1 (fV 3 iY)))) Q g w :=
 GV 6 (L7 _ g w kn hn h)
def uT (kn : K3) (gP gZ iX tH : atP) (w : atO) : Prop :=
 gE pg (jO 117 gZ tH) w fun o4 w =>
 gE pg (jF 3 o4) w fun o5 w =>
 gE pg (gW .sub 3 iK iK (atQ 11) o5) w fun o6 w =>
 gE pg (gW .sub 3 iK iK o6 (atQ 1)) w fun o7 w =>
 gE pg (gW .shl 3 iK iK (atQ 1) o7) w fun o8 w =>
 gE pg (gW .add 3 iK iK iX o8) w fun o9 w =>
 gE pg (jO 117 gZ tH) w fun p2 w =>
 gE pg (jF 3 p2) w fun p3 w =>
 gE pg (gW .add 3 iK iK p3 (atQ 1)) w fun p4 w =>
 gE pg (jO 117 gZ tH) w fun p5 w =>
 gE pg (kA 3 p5 p4) w fun _u w =>
 kn gP gZ o9 w
theorem LX (kn : K3) (hn : N3 Q kn 0 5 6) (h : uT kn (g 0) (g 5) (g 6) (g 9) w) : jK pg jC (fV 1 (fV 1 (bI (fV 1 (bI (bI (gS 1 (fV 1 (fV 3 iY))))))))) Q g w :=
 lM (kr := no) (l := []) h hn mH trivial
def uY (kn : K7) (gP gZ iX tH f9 i0 i1 : atP) (w : atO) : Prop :=
 gE pg (gW .add 3 iK iK i1 (atQ 1)) w fun o0 w =>
 kn gP gZ iX tH f9 i0 o0 w
theorem LW (kn : K7) (hn : N7 Q kn 0 5 6 9 49 50 51) (h : uY kn (g 0) (g 5) (g 6) (g 9) (g 49) (g 50) (g 51) w) : jK pg jC (fV 3 (bI (bI (fV 1 (gS 1 (fV 1 (bI (fV 1 (bI (bI (gS 1 (fV 1 (fV 3 iY))))))))))))) Q g w :=
 lM (kr := no) (l := []) h hn mH trivial
def Bx (kn : K7) (k4 : K4) (gP gZ iX tH f9 i0 i1 : atP) (w : atO) : Prop :=
 gE pg (gW .lss 3 iK iK i1 i0) w fun i2 w =>
 mX i2
  (gE pg (jO 128 f9 i1) w fun i4 w =>
  gE pg (jF 38 i4) w fun i5 w =>
  (dr w) = (dr w) /\
  gE pg (gW .gtr 38 iK iK i5 (.int .u32 0)) (dr w) fun i7 w_ => w_ = (dr w) /\
  (dr w) = (dr w) /\
  Gd (kP i7 true) (fun K => K gZ (dr w)) (dr w) fun i9 w_ => w_ = (dr w) /\
  Gd (kP i7 true) (fun K => K i1 (dr w)) (dr w) fun j0 w_ => w_ = (dr w) /\
  Gd (kP i7 true) (fun K => gE pg (jO 117 i9 j0) (dr w) K) (dr w) fun j1 w_ => w_ = (dr w) /\
  Gd (kP i7 true) (fun K => gE pg (jF 3 j1) (dr w) K) (dr w) fun j2 w_ => w_ = (dr w) /\
  Gd (kP i7 true) (fun K => gE pg (gW .lss 3 iK iK j2 (atQ 11)) (dr w) K) (dr w) fun j3 w_ => w_ = (dr w) /\
  gE pg (mJ i7 j3 (.bool false)) (dr w) fun j4 w_ => w_ = (dr w) /\
  (dr w) = (dr w) /\
  Gd (kP j4 true) (fun K => K tH (dr w)) (dr w) fun j6 w_ => w_ = (dr w) /\
  Gd (kP j4 true) (fun K => gE pg (gW .lss 3 iK iK j6 (atQ 0)) (dr w) K) (dr w) fun j7 w_ => w_ = (dr w) /\
  Gd (kP j4 true) (fun K => K j7 (dr w)) (dr w) fun j8 w_ => w_ = (dr w) /\
  Gd (kP j8 false) (fun K => K gZ (dr w)) (dr w) fun j9 w_ => w_ = (dr w) /\
  Gd (kP j8 false) (fun K => K i1 (dr w)) (dr w) fun l0 w_ => w_ = (dr w) /\
  Gd (kP j8 false) (fun K => gE pg (jO 117 j9 l0) (dr w) K) (dr w) fun l1 w_ => w_ = (dr w) /\
  Gd (kP j8 false) (fun K => gE pg (jF 3 l1) (dr w) K) (dr w) fun l2 w_ => w_ = (dr w) /\
  Gd (kP j8 false) (fun K => K gZ (dr w)) (dr w) fun l3 w_ => w_ = (dr w) /\
  Gd (kP j8 false) (fun K => K tH (dr w)) (dr w) fun l4 w_ => w_ = (dr w) /\
  Gd (kP j8 false) (fun K => gE pg (jO 117 l3 l4) (dr w) K) (dr w) fun l5 w_ => w_ = (dr w) /\
  Gd (kP j8 false) (fun K => gE pg (jF 3 l5) (dr w) K) (dr w) fun l6 w_ => w_ = (dr w) /\
  Gd (kP j8 false) (fun K => gE pg (gW .gtr 3 iK iK l2 l6) (dr w) K) (dr w) fun l7 w_ => w_ = (dr w) /\
  Gd (kP j4 true) (fun K => gE pg (mJ j8 (.bool true) l7) (dr w) K) (dr w) fun l8 w_ => w_ = (dr w) /\
  Gd (kP j4 true) (fun K => K l8 (dr w)) (dr w) fun l9 w_ => w_ = (dr w) /\
  Gd (kP l9 false) (fun K => K gZ (dr w)) (dr w) fun m0 w_ => w_ = (dr w) /\
  Gd (kP l9 false) (fun K => K i1 (dr w)) (dr w) fun m1 w_ => w_ = (dr w) /\
  Gd (kP l9 false) (fun K => gE pg (jO 117 m0 m1) (dr w) K) (dr w) fun m2 w_ => w_ = (dr w) /\
  Gd (kP l9 false) (fun K => gE pg (jF 3 m2) (dr w) K) (dr w) fun m3 w_ => w_ = (dr w) /\
  Gd (kP l9 false) (fun K => K gZ (dr w)) (dr w) fun m4 w_ => w_ = (dr w) /\
  Gd (kP l9 false) (fun K => K tH (dr w)) (dr w) fun m5 w_ => w_ = (dr w) /\
  Gd (kP l9 false) (fun K => gE pg (jO 117 m4 m5) (dr w) K) (dr w) fun m6 w_ => w_ = (dr w) /\
  Gd (kP l9 false) (fun K => gE pg (jF 3 m6) (dr w) K) (dr w) fun m7 w_ => w_ = (dr w) /\
  Gd (kP l9 false) (fun K => gE pg (gW .eql 3 (.tmp 83) (.tmp 87) m3 m7) (dr w) K) (dr w) fun m8 w_ => w_ = (dr w) /\
  Gd (kP l9 false) (fun K => K m8 (dr w)) (dr w) fun m9 w_ => w_ = (dr w) /\
  Gd (kP m9 true) (fun K => K i5 (dr w)) (dr w) fun n0 w_ => w_ = (dr w) /\
  Gd (kP m9 true) (fun K => K gP (dr w)) (dr w) fun n1 w_ => w_ = (dr w) /\
  Gd (kP m9 true) (fun K => K tH (dr w)) (dr w) fun n2 w_ => w_ = (dr w) /\
  Gd (kP m9 true) (fun K => gE pg (jO 128 n1 n2) (dr w) K) (dr w) fun n3 w_ => w_ = (dr w) /\
  Gd (kP m9 true) (fun K => gE pg (jF 38 n3) (dr w) K) (dr w) fun n4 w_ => w_ = (dr w) /\
  Gd (kP m9 true) (fun K => gE pg (gW .lss 38 iK iK n0 n4) (dr w) K) (dr w) fun n5 w_ => w_ = (dr w) /\
  Gd (kP l9 false) (fun K => gE pg (mJ m9 n5 (.bool false)) (dr w) K) (dr w) fun n6 w_ => w_ = (dr w) /\
  Gd (kP j4 true) (fun K => gE pg (mJ l9 (.bool true) n6) (dr w) K) (dr w) fun n7 w_ => w_ = (dr w) /\
  gE pg (mJ j4 n7 (.bool false)) (dr w) fun n8 w_ => w_ = (dr w) /\
  mX n8
   (kn gP gZ iX i1 f9 i0 i1 (dr w))
   (kn gP gZ iX tH f9 i0 i1 (dr w)))
  (k4 gP gZ iX tH w)
theorem Lo (kn : K7) (k4 : K4) (hn : N7 Q kn 0 5 6 9 49 50 51) (h4 : E4 Q k4 4 0 5 6 9) (h : Bx kn k4 (g 0) (g 5) (g 6) (g 9) (g 49) (g 50) (g 51) w) : jK pg jC (gS 3 (bI (bI (fV 1 (gS 1 (fV 1 (bI (fV 1 (bI (bI (gS 1 (fV 1 (fV 3 iY))))))))))))) Q g w :=
 lM (kr := no) (l := [(4, fun g w => k4 (g 0) (g 5) (g 6) (g 9) w)]) h hn mH ⟨h4, trivial⟩
def uX (kn : K7) (k4 : K4) (gP gZ iX tH f9 i0 i1 : atP) (w : atO) : Prop :=
 Bx (fun gP gZ iX tH f9 i0 i1 w => uY kn gP gZ iX tH f9 i0 i1 w) k4 gP gZ iX tH f9 i0 i1 w
def BE (k4 : K4) (gP gZ iX tH f9 i0 i1 : atP) (w : atO) : Prop :=
 kE (fun (X : (atP × atP) -> K0) (t : atP × atP) (w : atO) => uX (fun _ _ _ tH _ _ i1 w => X (tH, i1) w) k4 gP gZ iX t.1 f9 i0 t.2 w) (tH, i1) w
theorem Lx (kn : K7) (k4 : K4) (hn : N7 Q kn 0 5 6 9 49 50 51) (h4 : E4 Q k4 4 0 5 6 9) (h : uX kn k4 (g 0) (g 5) (g 6) (g 9) (g 49) (g 50) (g 51) w) : jK pg jC (bI (bI (fV 1 (gS 1 (fV 1 (bI (fV 1 (bI (bI (gS 1 (fV 1 (fV 3 iY)))))))))))) Q g w :=
 oB 3 (Lo _ g w (uY kn) k4 (fun g w h => iB (LW _ g w kn hn h)) h4 h)
theorem LV (k4 : K4) (h4 : E4 Q k4 4 0 5 6 9) (h : BE k4 (g 0) (g 5) (g 6) (g 9) (g 49) (g 50) (g 51) w) : jK pg jC (bI (fV 1 (gS 1 (fV 1 (bI (fV 1 (bI (bI (gS 1 (fV 1 (fV 3 iY))))))))))) Q g w := by
 refine MG (fun g : Env => (g 9, g 51)) (fun X t w => uX (fun _ _ _ tH _ _ i1 w => X (tH, i1) w) k4 (g 0) (g 5) (g 6) t.1 (g 49) (g 50) t.2 w) h (fun X g1 w1 ha hL => ?_)
 rw [<- qO 0 ha, <- qO 5 ha, <- qO 6 ha, <- qO 49 ha, <- qO 50 ha] at hL
 exact (Lx _ g1 w1 (fun _ _ _ tH _ _ i1 w => X (tH, i1) w) k4 (fun _ _ h => h) h4 hL)
def Bd (kn : K4) (gP gZ iX tH f9 i0 i1 : atP) (w : atO) : Prop :=
 BE kn gP gZ iX tH f9 i0 i1 w
def BP (kn : K7) (gP gZ iX tH : atP) (w : atO) : Prop :=
 gE pg (oD .len #[128] 3 [gP]) w fun i0 w =>
 kn gP gZ iX tH gP i0 (atQ 0) w
theorem L8 (kn : K7) (hn : N7 Q kn 0 5 6 9 49 50 51) (h : BP kn (g 0) (g 5) (g 6) (g 9) w) : jK pg jC (gS 1 (gS 1 (fV 1 (bI (fV 1 (bI (bI (gS 1 (fV 1 (fV 3 iY)))))))))) Q g w :=
 lM (kr := no) (l := []) h hn mH trivial
def vD (kn : K4) (gP gZ iX tH : atP) (w : atO) : Prop :=
 BP (fun gP gZ iX tH f9 i0 i1 w => Bd kn gP gZ iX tH f9 i0 i1 w) gP gZ iX tH w
def BD (kn : K3) (gP gZ iX tH : atP) (w : atO) : Prop :=
 vD (fun gP gZ iX tH w => uT kn gP gZ iX tH w) gP gZ iX tH w
theorem LA (kn : K4) (hn : N4 Q kn 0 5 6 9) (h : vD kn (g 0) (g 5) (g 6) (g 9) w) : jK pg jC (gS 1 (fV 1 (bI (fV 1 (bI (bI (gS 1 (fV 1 (fV 3 iY))))))))) Q g w :=
 oB 1 (L8 _ g w (Bd kn) (fun g w h => iB (GV 4 (LV _ g w kn hn h))) h)
def Bq (kn : K4) (gP gZ iX : atP) (w : atO) : Prop :=
 kn gP gZ iX (atQ (-1)) w
theorem Ly (kn : K4) (hn : N4 Q kn 0 5 6 9) (h : Bq kn (g 0) (g 5) (g 6) w) : jK pg jC (gS 1 (bI (fV 1 (bI (bI (gS 1 (fV 1 (fV 3 iY)))))))) Q g w :=
 lM (kr := no) (l := []) h hn mH trivial
def GJ (kn : K3) (gP gZ iX : atP) (w : atO) : Prop :=
 Bq (fun gP gZ iX tH w => BD kn gP gZ iX tH w) gP gZ iX w
def Bc (kn : K3) (gP gZ iX : atP) (w : atO) : Prop :=
 GJ kn gP gZ iX w
def Bn (kn : K3) (k2 : K3) (gP gZ iX : atP) (w : atO) : Prop :=
 gE pg (gW .lss 3 iK iK iX (atQ 0)) w fun f8 w =>
 mX f8
  (kn gP gZ iX w)
  (k2 gP gZ iX w)
theorem Ma (kn : K3) (k2 : K3) (hn : N3 Q kn 0 5 6) (h2 : E3 Q k2 2 0 5 6) (h : Bn kn k2 (g 0) (g 5) (g 6) w) : jK pg jC (gS 1 (bI (bI (gS 1 (fV 1 (fV 3 iY)))))) Q g w :=
 lM (kr := no) (l := [(2, fun g w => k2 (g 0) (g 5) (g 6) w)]) h hn mH ⟨h2, trivial⟩
def uS (kn : K3) (k2 : K3) (gP gZ iX : atP) (w : atO) : Prop :=
 Bn (fun gP gZ iX w => Bc kn gP gZ iX w) k2 gP gZ iX w
def Bt (k2 : K3) (gP gZ iX : atP) (w : atO) : Prop :=
 kE (fun (X : atP -> K0) (t : atP) (w : atO) => uS (fun _ _ iX w => X iX w) k2 gP gZ t w) iX w
theorem LP (kn : K3) (k2 : K3) (hn : N3 Q kn 0 5 6) (h2 : E3 Q k2 2 0 5 6) (h : uS kn k2 (g 0) (g 5) (g 6) w) : jK pg jC (bI (bI (gS 1 (fV 1 (fV 3 iY))))) Q g w :=
 oB 1 (Ma _ g w (Bc kn) k2 (fun g w h => iB (GV 3 (oB 1 (Ly _ g w (BD kn) (fun g w h => iB (oB 1 (LA _ g w (uT kn) (fun g w h => iB (LX _ g w kn hn h)) h))) h)))) h2 h)
theorem L1 (k2 : K3) (h2 : E3 Q k2 2 0 5 6) (h : Bt k2 (g 0) (g 5) (g 6) w) : jK pg jC (bI (gS 1 (fV 1 (fV 3 iY)))) Q g w := by
 refine MG (fun g : Env => g 6) (fun X t w => uS (fun _ _ iX w => X iX w) k2 (g 0) (g 5) t w) h (fun X g1 w1 ha hL => ?_)
 rw [<- qO 0 ha, <- qO 5 ha] at hL
 exact (LP _ g1 w1 (fun _ _ iX w => X iX w) k2 (fun _ _ h => h) h2 hL)
def By (kn : K3) (gP gZ iX : atP) (w : atO) : Prop :=
 Bt kn gP gZ iX w
def rR (R : K1) (gP gZ iX : atP) (w : atO) : Prop :=
 By (fun gP gZ iX w => rP R gP gZ iX w) gP gZ iX w
theorem LS (kn : K3) (hn : N3 Q kn 0 5 6) (h : By kn (g 0) (g 5) (g 6) w) : jK pg jC (gS 1 (fV 1 (fV 3 iY))) Q g w :=
 GV 2 (L1 _ g w kn hn h)
def vE (kn : K7) (gP oF gZ iX c8 c9 d0 : atP) (w : atO) : Prop :=
 gE pg (gW .add 3 iK iK d0 (atQ 1)) w fun f6 w =>
 kn gP oF gZ iX c8 c9 f6 w
theorem Mc (kn : K7) (hn : N7 Q kn 0 1 5 6 18 19 20) (h : vE kn (g 0) (g 1) (g 5) (g 6) (g 18) (g 19) (g 20) w) : jK pg jC (fV 3 (bI (bI (fV 1 (gS 1 (fV 3 iY)))))) Q g w :=
 lM (kr := no) (l := []) h hn mH trivial
def BG (kn : K7) (k0 : K3) (gP oF gZ iX c8 c9 d0 : atP) (w : atO) : Prop :=
 gE pg (gW .lss 3 iK iK d0 c9) w fun d1 w =>
 mX d1
  (gE pg (jO 128 c8 d0) w fun d3 w =>
  gE pg (jF 38 d3) w fun d4 w =>
  gE pg (gW .gtr 38 iK iK d4 (.int .u32 0)) w fun d6 w =>
  mX d6
   (gE pg (gW .sub 32 iK iK oF (.int .u64 1)) w fun e0 w =>
   gE pg (nS 38 32 d4) w fun e2 w =>
   gE pg (gW .quo 32 iK iK e0 e2) w fun e3 w =>
   jD pg uB #[e3] w fun e4 w =>
   gE pg (oD .max #[3, 3] 3 [e4, (atQ 1)]) w fun e5 w =>
   gE pg (oD .min #[3, 3] 3 [e5, (atQ 11)]) w fun e6 w =>
   gE pg (jO 117 gZ d0) w fun e7 w =>
   gE pg (kA 3 e7 e6) w fun _u w =>
   gE pg (jO 117 gZ d0) w fun f1 w =>
   gE pg (jF 3 f1) w fun f2 w =>
   gE pg (gW .sub 3 iK iK (atQ 11) f2) w fun f3 w =>
   gE pg (gW .shl 3 iK iK (atQ 1) f3) w fun f4 w =>
   gE pg (gW .sub 3 iK iK iX f4) w fun f5 w =>
   kn gP oF gZ f5 c8 c9 d0 w)
   (kn gP oF gZ iX c8 c9 d0 w))
  (k0 gP gZ iX w)
theorem Lz (kn : K7) (k0 : K3) (hn : N7 Q kn 0 1 5 6 18 19 20) (h0 : E3 Q k0 0 0 5 6) (h : BG kn k0 (g 0) (g 1) (g 5) (g 6) (g 18) (g 19) (g 20) w) : jK pg jC (gS 3 (bI (bI (fV 1 (gS 1 (fV 3 iY)))))) Q g w :=
 lM (kr := no) (l := [(0, fun g w => k0 (g 0) (g 5) (g 6) w)]) h hn mH ⟨h0, trivial⟩
def uQ (kn : K7) (k0 : K3) (gP oF gZ iX c8 c9 d0 : atP) (w : atO) : Prop :=
 BG (fun gP oF gZ iX c8 c9 d0 w => vE kn gP oF gZ iX c8 c9 d0 w) k0 gP oF gZ iX c8 c9 d0 w
def BS (k0 : K3) (gP oF gZ iX c8 c9 d0 : atP) (w : atO) : Prop :=
 kE (fun (X : (atP × atP) -> K0) (t : atP × atP) (w : atO) => uQ (fun _ _ _ iX _ _ d0 w => X (iX, d0) w) k0 gP oF gZ t.1 c8 c9 t.2 w) (iX, d0) w
theorem Lr (kn : K7) (k0 : K3) (hn : N7 Q kn 0 1 5 6 18 19 20) (h0 : E3 Q k0 0 0 5 6) (h : uQ kn k0 (g 0) (g 1) (g 5) (g 6) (g 18) (g 19) (g 20) w) : jK pg jC (bI (bI (fV 1 (gS 1 (fV 3 iY))))) Q g w :=
 oB 3 (Lz _ g w (vE kn) k0 (fun g w h => iB (Mc _ g w kn hn h)) h0 h)
theorem Mi (k0 : K3) (h0 : E3 Q k0 0 0 5 6) (h : BS k0 (g 0) (g 1) (g 5) (g 6) (g 18) (g 19) (g 20) w) : jK pg jC (bI (fV 1 (gS 1 (fV 3 iY)))) Q g w := by
 refine MG (fun g : Env => (g 6, g 20)) (fun X t w => uQ (fun _ _ _ iX _ _ d0 w => X (iX, d0) w) k0 (g 0) (g 1) (g 5) t.1 (g 18) (g 19) t.2 w) h (fun X g1 w1 ha hL => ?_)
 rw [<- qO 0 ha, <- qO 1 ha, <- qO 5 ha, <- qO 18 ha, <- qO 19 ha] at hL
 exact (Lr _ g1 w1 (fun _ _ _ iX _ _ d0 w => X (iX, d0) w) k0 (fun _ _ h => h) h0 hL)
def BB (kn : K3) (gP oF gZ iX c8 c9 d0 : atP) (w : atO) : Prop :=
 BS kn gP oF gZ iX c8 c9 d0 w
def BJ (kn : K7) (gP oF gZ iX : atP) (w : atO) : Prop :=
 gE pg (oD .len #[128] 3 [gP]) w fun c9 w =>
 kn gP oF gZ iX gP c9 (atQ 0) w
theorem LY (kn : K7) (hn : N7 Q kn 0 1 5 6 18 19 20) (h : BJ kn (g 0) (g 1) (g 5) (g 6) w) : jK pg jC (gS 1 (gS 1 (fV 3 iY))) Q g w :=
 lM (kr := no) (l := []) h hn mH trivial
def Bf (kn : K3) (gP oF gZ iX : atP) (w : atO) : Prop :=
 BJ (fun gP oF gZ iX c8 c9 d0 w => BB kn gP oF gZ iX c8 c9 d0 w) gP oF gZ iX w
def uW (R : K1) (gP oF gZ iX : atP) (w : atO) : Prop :=
 Bf (fun gP gZ iX w => rR R gP gZ iX w) gP oF gZ iX w
theorem LU (kn : K3) (hn : N3 Q kn 0 5 6) (h : Bf kn (g 0) (g 1) (g 5) (g 6) w) : jK pg jC (gS 1 (fV 3 iY)) Q g w :=
 oB 1 (LY _ g w (BB kn) (fun g w h => iB (GV 0 (Mi _ g w kn hn h))) h)
def BQ (kn : K4) (gP oF : atP) (w : atO) : Prop :=
 gE pg (oD .len #[128] 3 [gP]) w fun c6 w =>
 gE pg (uF 117 c6 c6) w fun c7 w =>
 kn gP oF c7 (atQ 2048) w
theorem LJ (kn : K4) (hn : N4 Q kn 0 1 5 6) (h : BQ kn (g 0) (g 1) w) : jK pg jC (gS 3 iY) Q g w :=
 lM (kr := no) (l := []) h hn mH trivial
def BH (R : K1) (gP oF : atP) (w : atO) : Prop :=
 BQ (fun gP oF gZ iX w => uW R gP oF gZ iX w) gP oF w
theorem Mm (R : K1) (hr : HR CT R Q) (h : BH R (g 0) (g 1) w) : jK pg jC iY Q g w :=
 oB 3 (LJ _ g w (uW R) (fun g w h => iB (oB 1 (LU _ g w (rR R) (fun g w h => iB (oB 1 (LS _ g w (rP R) (fun g w h => iB (oB 1 (Lh _ g w (xR R) (fun g w h => iB (Nq _ g w R hr h)) h))) h))) h))) h)
def Mt (a0 a1 : atP) (w : atO) (R : K1) : Prop :=
 BH R a0 a1 w
theorem OB {a0 a1 : atP} {w : atO} {R : K1} (h : Mt a0 a1 w R) : jD pg zH #[a0, a1] w R := by
 refine Bp (ann := jC) Tryz.f84 iY [a0, a1] CT 188 TryzM.mixed Tryz.func84 ?_
 exact (Mm _ _ _ R (fun _ _ h => h) h)
def nF : FA := ⟨zT, fun i => .leaf ([], []) []⟩
def Cs : List ResultVar := [.tmp 2]
noncomputable def mP : Code := kB Tryz.f85
def yA (R : K1) (B6 : atP) (w : atO) : Prop :=
 R B6 w
theorem MN (R : K1) (hr : HR Cs R Q) (h : yA R (g 3) w) : jK pg nF (fV 1 (fV 1 (fV 2 mP))) Q g w :=
 lM (kn := no) (l := []) h mH hr trivial
def xH (kn : K3) (k0 : K1) (nM B6 O9 : atP) (w : atO) : Prop :=
 gE pg (oD .len #[117] 3 [nM]) w fun c4 w =>
 gE pg (gW .lss 3 iK iK O9 c4) w fun c5 w =>
 mX c5
  (gE pg (jO 117 nM O9) w fun d1 w =>
  gE pg (jF 3 d1) w fun d2 w =>
  gE pg (oD .max #[3, 3] 3 [B6, d2]) w fun d3 w =>
  gE pg (gW .add 3 iK iK O9 (atQ 1)) w fun c7 w =>
  kn nM d3 c7 w)
  (k0 B6 w)
theorem Nt (kn : K3) (k0 : K1) (hn : N3 Q kn 0 3 4) (h0 : E1 Q k0 0 3) (h : xH kn k0 (g 0) (g 3) (g 4) w) : jK pg nF (bI (bI (fV 1 (gS 1 (fV 1 (fV 2 mP)))))) Q g w :=
 lM (kr := no) (l := [(0, fun g w => k0 (g 3) w)]) h hn mH ⟨h0, trivial⟩
def CF (k0 : K1) (nM B6 O9 : atP) (w : atO) : Prop :=
 kE (fun (X : (atP × atP) -> K0) (t : atP × atP) (w : atO) => xH (fun _ B6 O9 w => X (B6, O9) w) k0 nM t.1 t.2 w) (B6, O9) w
theorem MO (k0 : K1) (h0 : E1 Q k0 0 3) (h : CF k0 (g 0) (g 3) (g 4) w) : jK pg nF (bI (fV 1 (gS 1 (fV 1 (fV 2 mP))))) Q g w := by
 refine MG (fun g : Env => (g 3, g 4)) (fun X t w => xH (fun _ B6 O9 w => X (B6, O9) w) k0 (g 0) t.1 t.2 w) h (fun X g1 w1 ha hL => ?_)
 rw [<- qO 0 ha] at hL
 exact (Nt _ g1 w1 (fun _ B6 O9 w => X (B6, O9) w) k0 (fun _ _ h => h) h0 hL)
def CS (kn : K1) (nM B6 O9 : atP) (w : atO) : Prop :=
 CF kn nM B6 O9 w
def CJ (kn : K3) (nM B6 : atP) (w : atO) : Prop :=
 kn nM B6 (atQ 1) w
theorem M5 (kn : K3) (hn : N3 Q kn 0 3 4) (h : CJ kn (g 0) (g 3) w) : jK pg nF (gS 1 (gS 1 (fV 1 (fV 2 mP)))) Q g w :=
 lM (kr := no) (l := []) h hn mH trivial
def C2 (kn : K1) (nM B6 : atP) (w : atO) : Prop :=
 CJ (fun nM B6 O9 w => CS kn nM B6 O9 w) nM B6 w
def CY (R : K1) (nM B6 : atP) (w : atO) : Prop :=
 C2 (fun B6 w => yA R B6 w) nM B6 w
theorem Nr (kn : K1) (hn : N1 Q kn 3) (h : C2 kn (g 0) (g 3) w) : jK pg nF (gS 1 (fV 1 (fV 2 mP))) Q g w :=
 oB 1 (M5 _ g w (CS kn) (fun g w h => iB (GV 0 (MO _ g w kn hn h))) h)
def CX (kn : K2) (nM : atP) (w : atO) : Prop :=
 gE pg (jO 117 nM (atQ 0)) w fun c0 w =>
 gE pg (jF 3 c0) w fun c1 w =>
 kn nM c1 w
theorem MS (kn : K2) (hn : N2 Q kn 0 3) (h : CX kn (g 0) w) : jK pg nF (gS 1 (fV 2 mP)) Q g w :=
 lM (kr := no) (l := []) h hn mH trivial
def CU (R : K1) (nM : atP) (w : atO) : Prop :=
 CX (fun nM B6 w => CY R nM B6 w) nM w
def Bl (kn : K1) (nM : atP) (w : atO) : Prop :=
 gE pg (oD .len #[117] 3 [nM]) w fun b6 w =>
 gE pg (gW .lss 3 iK iK b6 (atQ 1)) w fun b7 w =>
 mX b7
  (gE pg (Vt 9 (.string ⟨#[115, 108, 105, 99, 101, 115, 46, 77, 97, 120, 58, 32, 101, 109, 112, 116, 121, 32, 108, 105, 115, 116]⟩)) w fun b8 w =>
  gE pg (V (Instr.panic b8)) w fun _u w =>
  kn nM w)
  (kn nM w)
theorem LZ (kn : K1) (hn : N1 Q kn 0) (h : Bl kn (g 0) w) : jK pg nF (gS 2 mP) Q g w :=
 lM (kr := no) (l := []) h hn mH trivial
def BR (R : K1) (nM : atP) (w : atO) : Prop :=
 Bl (fun nM w => CU R nM w) nM w
theorem Ll (R : K1) (hr : HR Cs R Q) (h : BR R (g 0) w) : jK pg nF mP Q g w :=
 oB 2 (LZ _ g w (CU R) (fun g w h => iB (oB 1 (MS _ g w (CY R) (fun g w h => iB (oB 1 (Nr _ g w (yA R) (fun g w h => iB (MN _ g w R hr h)) h))) h))) h)
def Mq (a0 : atP) (w : atO) (R : K1) : Prop :=
 BR R a0 w
theorem NQ {a0 : atP} {w : atO} {R : K1} (h : Mq a0 w R) : jD pg zT #[a0] w R := by
 refine Bp (ann := nF) Tryz.f85 mP [a0] Cs 25 TryzM.mixed Tryz.func85 ?_
 exact (Ll _ _ _ R (fun _ _ h => h) h)
def lU : FA := ⟨yK, fun i => .leaf ([], []) []⟩
def AM : List ResultVar := [.tmp 2, .tmp 3]
noncomputable def lK : Code := kB Tryz.f86
def AN (R : K1) (gZ : atP) (w : atO) : Prop :=
 R (.tuple #[gZ, (atQ 0)]) w
theorem PD (R : K1) (hr : HR AM R Q) (h : AN R (g 5) w) : jK pg lU (fV 1 (fV 4 lK)) Q g w :=
 lM (kn := no) (l := []) h mH hr trivial
def vJ (kn : K4) (kV F4 gZ wJ : atP) (w : atO) : Prop :=
 gE pg (gW .add 3 iK iK wJ (atQ 2)) w fun d7 w =>
 kn kV F4 gZ d7 w
theorem PU (kn : K4) (hn : N4 Q kn 0 4 5 6) (h : vJ kn (g 0) (g 4) (g 5) (g 6) w) : jK pg lU (fV 1 (fV 1 (bI (bI (fV 1 (gS 1 (fV 4 lK))))))) Q g w :=
 lM (kr := no) (l := []) h hn mH trivial
def vQ (kn : K4) (kV F4 gZ wJ c_7 : atP) (w : atO) : Prop :=
 gE pg (lJ 22 1 [(0, c_7)]) w fun f6 w =>
 gE pg (oD .append #[22, 22] 22 [gZ, f6]) w fun f7 w =>
 kn kV F4 f7 wJ w
theorem P9 (kn : K4) (hn : N4 Q kn 0 4 5 6) (h : vQ kn (g 0) (g 4) (g 5) (g 6) (g 7) w) : jK pg lU (fV 2 (bI (gS 1 (fV 1 (bI (bI (fV 1 (gS 1 (fV 4 lK))))))))) Q g w :=
 lM (kr := no) (l := []) h hn mH trivial
def FH (kn : K5) (kV F4 gZ wJ : atP) (w : atO) : Prop :=
 gE pg (jO 22 kV wJ) w fun e0 w =>
 gE pg (jF 5 e0) w fun e1 w =>
 gE pg (gW .shl 5 iK iK e1 (.int .u64 4)) w fun e2 w =>
 gE pg (gW .add 3 iK iK wJ (atQ 1)) w fun e4 w =>
 gE pg (gW .lss 3 iK iK e4 F4) w fun e6 w =>
 mX e6
  (gE pg (gW .add 3 iK iK wJ (atQ 1)) w fun f0 w =>
  gE pg (jO 22 kV f0) w fun f1 w =>
  gE pg (jF 5 f1) w fun f2 w =>
  gE pg (gW .or 5 iK iK e2 f2) w fun f3 w =>
  kn kV F4 gZ wJ f3 w)
  (kn kV F4 gZ wJ e2 w)
theorem Qf (kn : K5) (hn : N5 Q kn 0 4 5 6 7) (h : FH kn (g 0) (g 4) (g 5) (g 6) w) : jK pg lU (gS 2 (bI (gS 1 (fV 1 (bI (bI (fV 1 (gS 1 (fV 4 lK))))))))) Q g w :=
 lM (kr := no) (l := []) h hn mH trivial
def Kr (kn : K4) (kV F4 gZ wJ : atP) (w : atO) : Prop :=
 FH (fun kV F4 gZ wJ c_7 w => vQ kn kV F4 gZ wJ c_7 w) kV F4 gZ wJ w
def ES (kn : K4) (kV F4 gZ wJ : atP) (w : atO) : Prop :=
 Kr kn kV F4 gZ wJ w
def FG (kn : K4) (kV F4 gZ wJ : atP) (w : atO) : Prop :=
 ES (fun kV F4 gZ wJ w => vJ kn kV F4 gZ wJ w) kV F4 gZ wJ w
theorem P6 (kn : K4) (hn : N4 Q kn 0 4 5 6) (h : ES kn (g 0) (g 4) (g 5) (g 6) w) : jK pg lU (gS 1 (fV 1 (bI (bI (fV 1 (gS 1 (fV 4 lK))))))) Q g w :=
 GV 2 (oB 2 (Qf _ g w (vQ kn) (fun g w h => iB (P9 _ g w kn hn h)) h))
def Ft (kn : K4) (k1 : K1) (kV F4 gZ wJ : atP) (w : atO) : Prop :=
 gE pg (gW .lss 3 iK iK wJ F4) w fun d5 w =>
 mX d5
  (kn kV F4 gZ wJ w)
  (k1 gZ w)
theorem Qe (kn : K4) (k1 : K1) (hn : N4 Q kn 0 4 5 6) (h1 : E1 Q k1 1 5) (h : Ft kn k1 (g 0) (g 4) (g 5) (g 6) w) : jK pg lU (gS 1 (bI (bI (fV 1 (gS 1 (fV 4 lK)))))) Q g w :=
 lM (kr := no) (l := [(1, fun g w => k1 (g 5) w)]) h hn mH ⟨h1, trivial⟩
def AR (kn : K4) (k1 : K1) (kV F4 gZ wJ : atP) (w : atO) : Prop :=
 Ft (fun kV F4 gZ wJ w => FG kn kV F4 gZ wJ w) k1 kV F4 gZ wJ w
def DX (k1 : K1) (kV F4 gZ wJ : atP) (w : atO) : Prop :=
 kE (fun (X : (atP × atP) -> K0) (t : atP × atP) (w : atO) => AR (fun _ _ gZ wJ w => X (gZ, wJ) w) k1 kV F4 t.1 t.2 w) (gZ, wJ) w
theorem PC (kn : K4) (k1 : K1) (hn : N4 Q kn 0 4 5 6) (h1 : E1 Q k1 1 5) (h : AR kn k1 (g 0) (g 4) (g 5) (g 6) w) : jK pg lU (bI (bI (fV 1 (gS 1 (fV 4 lK))))) Q g w :=
 oB 1 (Qe _ g w (FG kn) k1 (fun g w h => iB (oB 1 (P6 _ g w (vJ kn) (fun g w h => iB (PU _ g w kn hn h)) h))) h1 h)
theorem O5 (k1 : K1) (h1 : E1 Q k1 1 5) (h : DX k1 (g 0) (g 4) (g 5) (g 6) w) : jK pg lU (bI (fV 1 (gS 1 (fV 4 lK)))) Q g w := by
 refine MG (fun g : Env => (g 5, g 6)) (fun X t w => AR (fun _ _ gZ wJ w => X (gZ, wJ) w) k1 (g 0) (g 4) t.1 t.2 w) h (fun X g1 w1 ha hL => ?_)
 rw [<- qO 0 ha, <- qO 4 ha] at hL
 exact (PC _ g1 w1 (fun _ _ gZ wJ w => X (gZ, wJ) w) k1 (fun _ _ h => h) h1 hL)
def D8 (kn : K1) (kV F4 gZ wJ : atP) (w : atO) : Prop :=
 DX kn kV F4 gZ wJ w
def Ea (kn : K4) (kV F4 gZ : atP) (w : atO) : Prop :=
 kn kV F4 gZ (atQ 0) w
theorem NK (kn : K4) (hn : N4 Q kn 0 4 5 6) (h : Ea kn (g 0) (g 4) (g 5) w) : jK pg lU (gS 1 (gS 1 (fV 4 lK))) Q g w :=
 lM (kr := no) (l := []) h hn mH trivial
def D4 (kn : K1) (kV F4 gZ : atP) (w : atO) : Prop :=
 Ea (fun kV F4 gZ wJ w => D8 kn kV F4 gZ wJ w) kV F4 gZ w
def Dx (R : K1) (kV F4 gZ : atP) (w : atO) : Prop :=
 D4 (fun gZ w => AN R gZ w) kV F4 gZ w
theorem Ol (kn : K1) (hn : N1 Q kn 5) (h : D4 kn (g 0) (g 4) (g 5) w) : jK pg lU (gS 1 (fV 4 lK)) Q g w :=
 oB 1 (NK _ g w (D8 kn) (fun g w h => iB (GV 1 (O5 _ g w kn hn h))) h)
def zQ (kn : K3) (R : K1) (kV : atP) (w : atO) : Prop :=
 jD pg yH #[kV] w fun c0 w =>
 gE pg (gW .eql 3 (.tmp 10) (.const (atQ 0)) c0 (atQ 0)) w fun c1 w =>
 mX c1
  (R (.tuple #[(.slice none 0 0), (atQ 1)]) w)
  (gE pg (oD .len #[22] 3 [kV]) w fun c4 w =>
  gE pg (gW .gtr 3 iK iK c4 (atQ 129)) w fun c5 w =>
  mX c5
   (R (.tuple #[(.slice none 0 0), (atQ 12)]) w)
   (gE pg (oD .len #[22] 3 [kV]) w fun c7 w =>
   gE pg (gW .sub 3 iK iK c7 (atQ 1)) w fun c8 w =>
   gE pg (gW .add 3 iK iK (atQ 127) c8) w fun d0 w =>
   gE pg (nS 3 5 d0) w fun d1 w =>
   gE pg (lJ 22 1 [(0, d1)]) w fun d2 w =>
   kn kV c8 d2 w))
theorem NM (kn : K3) (R : K1) (hn : N3 Q kn 0 4 5) (hr : HR AM R Q) (h : zQ kn R (g 0) w) : jK pg lU (gS 4 lK) Q g w :=
 lM (l := []) h hn hr trivial
def zO (R : K1) (kV : atP) (w : atO) : Prop :=
 zQ (fun kV F4 gZ w => Dx R kV F4 gZ w) R kV w
theorem OE (R : K1) (hr : HR AM R Q) (h : zO R (g 0) w) : jK pg lU lK Q g w :=
 oB 4 (NM _ g w (Dx R) R (fun g w h => iB (oB 1 (Ol _ g w (AN R) (fun g w h => iB (PD _ g w R hr h)) h))) hr h)
def JM (a0 : atP) (w : atO) (R : K1) : Prop :=
 zO R a0 w
theorem HK {a0 : atP} {w : atO} {R : K1} (h : JM a0 w R) : jD pg yK #[a0] w R := by
 refine Bp (ann := lU) Tryz.f86 lK [a0] AM 49 TryzM.mixed Tryz.func86 ?_
 exact (OE _ _ _ R (fun _ _ h => h) h)
def EC : FA := ⟨vC, fun i => .leaf ([], []) []⟩
def Ge : List ResultVar := [.tmp 4, .tmp 5]
noncomputable def DC : Code := kB Tryz.f87
def Aj (R : K1) (kV jI : atP) (w : atO) : Prop :=
 gE pg (oD .len #[22] 3 [jI]) w fun b7 w =>
 gE pg (gW .lss 3 iK iK b7 (atQ 256)) w fun b8 w =>
 mX b8
  (jD pg F1 #[kV, jI] w fun c1 w =>
  gE pg (jU c1 0) w fun c2 w =>
  gE pg (jU c1 1) w fun c3 w =>
  R (.tuple #[c2, c3]) w)
  (jD pg Dj #[kV, jI] w fun c6 w =>
  gE pg (jU c6 0) w fun c7 w =>
  gE pg (jU c6 1) w fun c8 w =>
  R (.tuple #[c7, c8]) w)
theorem Le (R : K1) (hr : HR Ge R Q) (h : Aj R (g 0) (g 1) w) : jK pg EC DC Q g w :=
 lM (kn := no) (l := []) h mH hr trivial
def Jm (a0 a1 : atP) (w : atO) (R : K1) : Prop :=
 Aj R a0 a1 w
theorem LK {a0 a1 : atP} {w : atO} {R : K1} (h : Jm a0 a1 w R) : jD pg vC #[a0, a1] w R := by
 refine Bp (ann := EC) Tryz.f87 DC [a0, a1] Ge 19 TryzM.mixed Tryz.func87 ?_
 exact (Le _ _ _ R (fun _ _ h => h) h)
def Ia : FA := ⟨AT, fun i => .leaf ([], []) []⟩
def Jd : List ResultVar := [.tmp 0]
noncomputable def GM : Code := kB Tryz.f97
def D9 (R : K1)  (w : atO) : Prop :=
 gE pg (mL 201 []) w fun b1 w =>
 gE pg (QM 201 b1) w fun b2 w =>
 R b2 w
theorem OW (R : K1) (hr : HR Jd R Q) (h : D9 R w) : jK pg Ia GM Q g w :=
 lM (kn := no) (l := []) h mH hr trivial
def OH (w : atO) (R : K1) : Prop :=
 D9 R w
theorem Pk {w : atO} {R : K1} (h : OH w R) : jD pg AT #[] w R := by
 refine Bp (ann := Ia) Tryz.f97 GM [] Jd 3 TryzM.mixed Tryz.func97 ?_
 exact (OW _ _ _ R (fun _ _ h => h) h)
def lW : FA := ⟨qE, fun i => match Nat.beq i 6 with | true => .leaf ([25], []) [(false, []), (false, []), (false, []), (false, []), (false, []), (false, []), (false, []), (false, []), (false, []), (false, []), (false, []), (false, []), (false, []), (false, []), (false, []), (false, []), (false, []), (false, []), (false, []), (false, []), (false, []), (false, []), (false, []), (false, []), (false, []), (true, [])] | false => .leaf ([], []) []⟩
def Az : List ResultVar := []
noncomputable def lP : Code := kB Tryz.f100
def rF (kn : K4) (yC BT c7 c8 : atP) (w : atO) : Prop :=
 gE pg (gW .add 3 iK iK c8 (atQ 1)) w fun j8 w =>
 kn yC BT c7 j8 w
theorem Kb (kn : K4) (hn : N4 Q kn 0 1 17 18) (h : rF kn (g 0) (g 1) (g 17) (g 18) w) : jK pg lW (fV 1 (fV 2 (bI (bI (fV 2 lP))))) Q g w :=
 lM (kr := no) (l := []) h hn mH trivial
def oY (kn : K4) (yC BT wJ c7 c8 : atP) (w : atO) : Prop :=
 (dr w) = (dr w) /\
 gE pg (rN yC) (dr w) fun e7 w_ => w_ = (dr w) /\
 gE pg (jJ 201 e7 0) (dr w) fun e8 w_ => w_ = (dr w) /\
 gE pg (jF 22 e8) (dr w) fun e9 w_ => w_ = (dr w) /\
 (dr w) = (dr w) /\
 gE pg (rN yC) (dr w) fun f1 w_ => w_ = (dr w) /\
 gE pg (jJ 201 f1 1) (dr w) fun f2 w_ => w_ = (dr w) /\
 gE pg (jF 3 f2) (dr w) fun f3 w_ => w_ = (dr w) /\
 gE pg (gW .quo 3 iK iK f3 (atQ 8)) (dr w) fun f4 w_ => w_ = (dr w) /\
 gE pg (jO 22 e9 f4) (dr w) fun f5 w_ => w_ = (dr w) /\
 gE pg (jF 5 f5) (dr w) fun f6 w_ => w_ = (dr w) /\
 (dr w) = (dr w) /\
 (dr w) = (dr w) /\
 gE pg (nS 3 50 wJ) (dr w) fun f9 w_ => w_ = (dr w) /\
 gE pg (gW .shr 32 iK iK BT f9) (dr w) fun i0 w_ => w_ = (dr w) /\
 gE pg (gW .and 32 iK iK i0 (.int .u64 1)) (dr w) fun i1 w_ => w_ = (dr w) /\
 gE pg (nS 32 5 i1) (dr w) fun i2 w_ => w_ = (dr w) /\
 (dr w) = (dr w) /\
 gE pg (rN yC) (dr w) fun i4 w_ => w_ = (dr w) /\
 gE pg (jJ 201 i4 1) (dr w) fun i5 w_ => w_ = (dr w) /\
 gE pg (jF 3 i5) (dr w) fun i6 w_ => w_ = (dr w) /\
 gE pg (gW .rem 3 iK iK i6 (atQ 8)) (dr w) fun i7 w_ => w_ = (dr w) /\
 gE pg (gW .shl 5 iK iK i2 i7) (dr w) fun i8 w_ => w_ = (dr w) /\
 gE pg (gW .or 5 iK iK f6 i8) (dr w) fun i9 w_ => w_ = (dr w) /\
 gE pg (jO 22 e9 f4) (dr w) fun j0 w_ => w_ = (dr w) /\
 gE pg (kA 5 j0 i9) (dr w) fun _u25 alQ =>
 gE pg (rN yC) alQ fun j2 w =>
 gE pg (jJ 201 j2 1) w fun j3 w =>
 gE pg (jF 3 j3) w fun j4 w =>
 gE pg (gW .add 3 iK iK j4 (atQ 1)) w fun j5 w =>
 gE pg (rN yC) w fun j6 w =>
 gE pg (jJ 201 j6 1) w fun j7 w =>
 gE pg (kA 3 j7 j5) w fun _u w =>
 kn yC BT c7 c8 w
theorem Ka (kn : K4) (hn : N4 Q kn 0 1 17 18) (h : oY kn (g 0) (g 1) (g 6) (g 17) (g 18) w) : jK pg lW (fV 2 (bI (gS 1 (fV 2 (bI (bI (fV 2 lP))))))) Q g w :=
 lM (kr := no) (l := []) h hn mH trivial
def tU (kn : K5) (yC BT c7 c8 : atP) (w : atO) : Prop :=
 gE pg (rN yC) w fun d2 w =>
 gE pg (jJ 201 d2 1) w fun d3 w =>
 gE pg (jF 3 d3) w fun d4 w =>
 gE pg (gW .rem 3 iK iK d4 (atQ 8)) w fun d5 w =>
 gE pg (gW .eql 3 (.tmp 25) (.const (atQ 0)) d5 (atQ 0)) w fun d6 w =>
 mX d6
  (gE pg (rN yC) w fun d9 w =>
  gE pg (jJ 201 d9 0) w fun e0 w =>
  gE pg (jF 22 e0) w fun e1 w =>
  gE pg (lJ 22 1 [(0, (.int .u8 0))]) w fun e2 w =>
  gE pg (oD .append #[22, 22] 22 [e1, e2]) w fun e3 w =>
  gE pg (rN yC) w fun e4 w =>
  gE pg (jJ 201 e4 0) w fun e5 w =>
  gE pg (kA 22 e5 e3) w fun _u w =>
  kn yC BT c8 c7 c8 w)
  (kn yC BT c8 c7 c8 w)
theorem KI (kn : K5) (hn : N5 Q kn 0 1 6 17 18) (h : tU kn (g 0) (g 1) (g 17) (g 18) w) : jK pg lW (gS 2 (bI (gS 1 (fV 2 (bI (bI (fV 2 lP))))))) Q g w :=
 lM (kr := no) (l := []) h hn mH trivial
def rD (kn : K4) (yC BT c7 c8 : atP) (w : atO) : Prop :=
 tU (fun yC BT wJ c7 c8 w => oY kn yC BT wJ c7 c8 w) yC BT c7 c8 w
def uA (kn : K4) (yC BT c7 c8 : atP) (w : atO) : Prop :=
 rD kn yC BT c7 c8 w
def tZ (kn : K4) (yC BT c7 c8 : atP) (w : atO) : Prop :=
 uA (fun yC BT c7 c8 w => rF kn yC BT c7 c8 w) yC BT c7 c8 w
theorem Kt (kn : K4) (hn : N4 Q kn 0 1 17 18) (h : uA kn (g 0) (g 1) (g 17) (g 18) w) : jK pg lW (gS 1 (fV 2 (bI (bI (fV 2 lP))))) Q g w :=
 GV 1 (oB 2 (KI _ g w (oY kn) (fun g w h => iB (Ka _ g w kn hn h)) h))
def tW (kn : K4) (k0 : K0) (yC BT c7 c8 : atP) (w : atO) : Prop :=
 gE pg (gW .lss 3 iK iK c8 c7) w fun c9 w =>
 mX c9
  (kn yC BT c7 c8 w)
  (k0 w)
theorem Ld (kn : K4) (k0 : K0) (hn : N4 Q kn 0 1 17 18) (h0 : E0 Q k0 0) (h : tW kn k0 (g 0) (g 1) (g 17) (g 18) w) : jK pg lW (gS 2 (bI (bI (fV 2 lP)))) Q g w :=
 lM (kr := no) (l := [(0, fun g w => k0 w)]) h hn mH ⟨h0, trivial⟩
def rA (kn : K4) (k0 : K0) (yC BT c7 c8 : atP) (w : atO) : Prop :=
 tW (fun yC BT c7 c8 w => tZ kn yC BT c7 c8 w) k0 yC BT c7 c8 w
def tP (k0 : K0) (yC BT c7 c8 : atP) (w : atO) : Prop :=
 kE (fun (X : atP -> K0) (t : atP) (w : atO) => rA (fun _ _ _ c8 w => X c8 w) k0 yC BT c7 t w) c8 w
theorem Kf (kn : K4) (k0 : K0) (hn : N4 Q kn 0 1 17 18) (h0 : E0 Q k0 0) (h : rA kn k0 (g 0) (g 1) (g 17) (g 18) w) : jK pg lW (bI (bI (fV 2 lP))) Q g w :=
 oB 2 (Ld _ g w (tZ kn) k0 (fun g w h => iB (oB 1 (Kt _ g w (rF kn) (fun g w h => iB (Kb _ g w kn hn h)) h))) h0 h)
theorem KT (k0 : K0) (h0 : E0 Q k0 0) (h : tP k0 (g 0) (g 1) (g 17) (g 18) w) : jK pg lW (bI (fV 2 lP)) Q g w := by
 refine MG (fun g : Env => g 18) (fun X t w => rA (fun _ _ _ c8 w => X c8 w) k0 (g 0) (g 1) (g 17) t w) h (fun X g1 w1 ha hL => ?_)
 rw [<- qO 0 ha, <- qO 1 ha, <- qO 17 ha] at hL
 exact (Kf _ g1 w1 (fun _ _ _ c8 w => X c8 w) k0 (fun _ _ h => h) h0 hL)
def tD (kn : K0) (yC BT c7 c8 : atP) (w : atO) : Prop :=
 tP kn yC BT c7 c8 w
def sZ (kn : K4) (R : K1) (yC BT O1 : atP) (w : atO) : Prop :=
 gE pg (gW .eql 170 (.tmp 7) (.const (.pointer none)) yC (.pointer none)) w fun b8 w =>
 Gd (kP b8 false) (fun K => K O1 w) w fun c0 w =>
 Gd (kP b8 false) (fun K => gE pg (gW .lss 3 iK iK c0 (atQ 1)) w K) w fun c1 w =>
 gE pg (mJ b8 (.bool true) c1) w fun c2 w =>
 Gd (kP c2 false) (fun K => K O1 w) w fun c4 w =>
 Gd (kP c2 false) (fun K => gE pg (gW .gtr 3 iK iK c4 (atQ 56)) w K) w fun c5 w =>
 gE pg (mJ c2 (.bool true) c5) w fun c6 w =>
 mX c6
  (R (.tuple #[]) w)
  (kn yC BT O1 (atQ 0) w)
theorem JU (kn : K4) (R : K1) (hn : N4 Q kn 0 1 17 18) (hr : HR Az R Q) (h : sZ kn R (g 0) (g 1) (g 2) w) : jK pg lW (gS 2 lP) Q g w :=
 lM (l := []) h hn hr trivial
def tG (kn : K0) (R : K1) (yC BT O1 : atP) (w : atO) : Prop :=
 sZ (fun yC BT c7 c8 w => tD kn yC BT c7 c8 w) R yC BT O1 w
theorem J4 (kn : K0) (R : K1) (hn : N0 Q kn) (hr : HR Az R Q) (h : tG kn R (g 0) (g 1) (g 2) w) : jK pg lW lP Q g w :=
 oB 2 (JU _ g w (tD kn) R (fun g w h => iB (GV 0 (KT _ g w kn hn h))) hr h)
def Dw (a0 a1 a2 : atP) (w : atO) (R : K1) : Prop :=
 tG (fun  w => R (.tuple #[]) w) R a0 a1 a2 w
theorem Eb {a0 a1 a2 : atP} {w : atO} {R : K1} (h : Dw a0 a1 a2 w R) : jD pg qE #[a0, a1, a2] w R := by
 refine Bp (ann := lW) Tryz.f100 lP [a0, a1, a2] Az 69 TryzM.mixed Tryz.func100 ?_
 exact (J4 _ _ _ (fun  w => R (.tuple #[]) w) R (fun _ _ h => h) (fun _ _ h => h) h)
def DE : FA := ⟨tO, fun i => match Nat.beq i 3 with | true => .leaf ([4, 10], [(4, 6), (4, 7), (4, 8)]) [(false, []), (false, []), (false, []), (false, []), (true, []), (false, []), (false, [1]), (false, [2]), (false, [3]), (false, []), (true, []), (false, [])] | false => .leaf ([], []) []⟩
def Ew : List ResultVar := [.tmp 2]
noncomputable def C8 : Code := kB Tryz.f102
def zE (R : K1) (yC : atP) (w : atO) : Prop :=
 gE pg (gW .eql 170 (.tmp 4) (.const (.pointer none)) yC (.pointer none)) w fun b5 w =>
 mX b5
  (R (.slice none 0 0) w)
  ((dr w) = (dr w) /\
  gE pg (rN yC) (dr w) fun b7 w_ => w_ = (dr w) /\
  gE pg (jJ 201 b7 0) (dr w) fun b8 w_ => w_ = (dr w) /\
  gE pg (jF 22 b8) (dr w) fun b9 w_ => w_ = (dr w) /\
  jD pg pE #[b9] (dr w) fun c0 VL =>
  VL = VL /\
  gE pg (rN yC) VL fun c2 w_ => w_ = VL /\
  (jE pg (rN yC) c2 (dr w) /\ True) /\
  gE pg (jJ 201 c2 1) VL fun c3 w_ => w_ = VL /\
  (jE pg (jJ 201 c2 1) c3 (dr w) /\ True) /\
  gE pg (jF 3 c3) VL fun c4 w_ => w_ = VL /\
  (jE pg (jF 3 c3) c4 (dr w) /\ True) /\
  gE pg (mL 201 [(0, c0), (1, c4)]) VL fun c5 w_ => w_ = VL /\
  gE pg (QM 201 c5) VL fun c6 aeI =>
  aeI = aeI /\
  jD pg qE #[c6, (.int .u64 1), (atQ 1)] aeI fun c8 w =>
  gE pg (rN c6) w fun d0 w =>
  gE pg (jJ 201 d0 0) w fun d1 w =>
  gE pg (jF 22 d1) w fun d2 w =>
  R d2 w)
theorem J1 (R : K1) (hr : HR Ew R Q) (h : zE R (g 0) w) : jK pg DE C8 Q g w :=
 lM (kn := no) (l := []) h mH hr trivial
def H0 (a0 : atP) (w : atO) (R : K1) : Prop :=
 zE R a0 w
theorem KZ {a0 : atP} {w : atO} {R : K1} (h : H0 a0 w R) : jD pg tO #[a0] w R := by
 refine Bp (ann := DE) Tryz.f102 C8 [a0] Ew 23 TryzM.mixed Tryz.func102 ?_
 exact (J1 _ _ _ R (fun _ _ h => h) h)
def qF : FA := ⟨uB, fun i => .leaf ([], []) []⟩
def CP : List ResultVar := [.tmp 2]
noncomputable def pQ : Code := kB Tryz.f107
def sP (R : K1) (nM O1 : atP) (w : atO) : Prop :=
 gE pg (nS 32 5 nM) w fun d1 w =>
 gE pg (P8 9 (.string ⟨#[0, 1, 2, 2, 3, 3, 3, 3, 4, 4, 4, 4, 4, 4, 4, 4, 5, 5, 5, 5, 5, 5, 5, 5, 5, 5, 5, 5, 5, 5, 5, 5, 6, 6, 6, 6, 6, 6, 6, 6, 6, 6, 6, 6, 6, 6, 6, 6, 6, 6, 6, 6, 6, 6, 6, 6, 6, 6, 6, 6, 6, 6, 6, 6, 7, 7, 7, 7, 7, 7, 7, 7, 7, 7, 7, 7, 7, 7, 7, 7, 7, 7, 7, 7, 7, 7, 7, 7, 7, 7, 7, 7, 7, 7, 7, 7, 7, 7, 7, 7, 7, 7, 7, 7, 7, 7, 7, 7, 7, 7, 7, 7, 7, 7, 7, 7, 7, 7, 7, 7, 7, 7, 7, 7, 7, 7, 7, 7, 8, 8, 8, 8, 8, 8, 8, 8, 8, 8, 8, 8, 8, 8, 8, 8, 8, 8, 8, 8, 8, 8, 8, 8, 8, 8, 8, 8, 8, 8, 8, 8, 8, 8, 8, 8, 8, 8, 8, 8, 8, 8, 8, 8, 8, 8, 8, 8, 8, 8, 8, 8, 8, 8, 8, 8, 8, 8, 8, 8, 8, 8, 8, 8, 8, 8, 8, 8, 8, 8, 8, 8, 8, 8, 8, 8, 8, 8, 8, 8, 8, 8, 8, 8, 8, 8, 8, 8, 8, 8, 8, 8, 8, 8, 8, 8, 8, 8, 8, 8, 8, 8, 8, 8, 8, 8, 8, 8, 8, 8, 8, 8, 8, 8, 8, 8, 8, 8, 8, 8, 8, 8, 8, 8, 8, 8, 8, 8]⟩) d1) w fun d2 w =>
 gE pg (nS 5 3 d2) w fun d3 w =>
 gE pg (gW .add 3 iK iK O1 d3) w fun d4 w =>
 R d4 w
theorem Nh (R : K1) (hr : HR CP R Q) (h : sP R (g 0) (g 2) w) : jK pg qF (fV 1 (fV 1 (fV 2 pQ))) Q g w :=
 lM (kn := no) (l := []) h mH hr trivial
def Cv (kn : K2) (nM O1 : atP) (w : atO) : Prop :=
 gE pg (gW .geq 32 iK iK nM (.int .u64 256)) w fun c4 w =>
 mX c4
  (gE pg (gW .shr 32 iK iK nM (.int .u64 8)) w fun c6 w =>
  gE pg (gW .add 3 iK iK O1 (atQ 8)) w fun c8 w =>
  kn c6 c8 w)
  (kn nM O1 w)
theorem NB (kn : K2) (hn : N2 Q kn 0 2) (h : Cv kn (g 0) (g 2) w) : jK pg qF (gS 1 (fV 1 (fV 2 pQ))) Q g w :=
 lM (kr := no) (l := []) h hn mH trivial
def xG (R : K1) (nM O1 : atP) (w : atO) : Prop :=
 Cv (fun nM O1 w => sP R nM O1 w) nM O1 w
def CG (kn : K2) (nM O1 : atP) (w : atO) : Prop :=
 gE pg (gW .geq 32 iK iK nM (.int .u64 65536)) w fun b8 w =>
 mX b8
  (gE pg (gW .shr 32 iK iK nM (.int .u64 16)) w fun c0 w =>
  gE pg (gW .add 3 iK iK O1 (atQ 16)) w fun c2 w =>
  kn c0 c2 w)
  (kn nM O1 w)
theorem Nm (kn : K2) (hn : N2 Q kn 0 2) (h : CG kn (g 0) (g 2) w) : jK pg qF (gS 1 (fV 2 pQ)) Q g w :=
 lM (kr := no) (l := []) h hn mH trivial
def wW (R : K1) (nM O1 : atP) (w : atO) : Prop :=
 CG (fun nM O1 w => xG R nM O1 w) nM O1 w
def CA (kn : K2) (nM : atP) (w : atO) : Prop :=
 gE pg (gW .geq 32 iK iK nM (.int .u64 4294967296)) w fun b4 w =>
 mX b4
  (gE pg (gW .shr 32 iK iK nM (.int .u64 32)) w fun b6 w =>
  kn b6 (atQ 32) w)
  (kn nM (atQ 0) w)
theorem MQ (kn : K2) (hn : N2 Q kn 0 2) (h : CA kn (g 0) w) : jK pg qF (gS 2 pQ) Q g w :=
 lM (kr := no) (l := []) h hn mH trivial
def CN (R : K1) (nM : atP) (w : atO) : Prop :=
 CA (fun nM O1 w => wW R nM O1 w) nM w
theorem Nl (R : K1) (hr : HR CP R Q) (h : CN R (g 0) w) : jK pg qF pQ Q g w :=
 oB 2 (MQ _ g w (wW R) (fun g w h => iB (oB 1 (Nm _ g w (xG R) (fun g w h => iB (oB 1 (NB _ g w (sP R) (fun g w h => iB (Nh _ g w R hr h)) h))) h))) h)
def MD (a0 : atP) (w : atO) (R : K1) : Prop :=
 CN R a0 w
theorem Ob {a0 : atP} {w : atO} {R : K1} (h : MD a0 w R) : jD pg uB #[a0] w R := by
 refine Bp (ann := qF) Tryz.f107 pQ [a0] CP 25 TryzM.mixed Tryz.func107 ?_
 exact (Nl _ _ _ R (fun _ _ h => h) h)
def Jc : FA := ⟨yH, fun i => .leaf ([], []) []⟩
def Kp : List ResultVar := [.tmp 2]
noncomputable def HJ : Code := kB Tryz.f108
def EP (R : K1) (kV : atP) (w : atO) : Prop :=
 jD pg Cj #[kV] w fun b8 w =>
 gE pg (jU b8 0) w fun b9 w =>
 gE pg (jU b8 1) w fun c0 w =>
 gE pg (YG .not c0) w fun c2 w =>
 Gd (kP c2 false) (fun K => K kV w) w fun c4 w =>
 Gd (kP c2 false) (fun K => gE pg (oD .len #[22] 3 [c4]) w K) w fun c5 w =>
 Gd (kP c2 false) (fun K => gE pg (gW .lss 3 iK iK c5 (atQ 2)) w K) w fun c6 w =>
 gE pg (mJ c2 (.bool true) c6) w fun c7 w =>
 Gd (kP c7 false) (fun K => K kV w) w fun c9 w =>
 Gd (kP c7 false) (fun K => gE pg (oD .len #[22] 3 [c9]) w K) w fun d0 w =>
 Gd (kP c7 false) (fun K => gE pg (gW .gtr 3 iK iK d0 (atQ 256)) w K) w fun d1 w =>
 gE pg (mJ c7 (.bool true) d1) w fun d2 w =>
 Gd (kP d2 false) (fun K => K kV w) w fun d4 w =>
 Gd (kP d2 false) (fun K => K kV w) w fun d5 w =>
 Gd (kP d2 false) (fun K => gE pg (oD .len #[22] 3 [d5]) w K) w fun d6 w =>
 Gd (kP d2 false) (fun K => gE pg (gW .sub 3 iK iK d6 (atQ 1)) w K) w fun d7 w =>
 Gd (kP d2 false) (fun K => gE pg (jO 22 d4 d7) w K) w fun d8 w =>
 Gd (kP d2 false) (fun K => gE pg (jF 5 d8) w K) w fun d9 w =>
 Gd (kP d2 false) (fun K => gE pg (gW .eql 5 (.tmp 29) (.const (.int .u8 0)) d9 (.int .u8 0)) w K) w fun e0 w =>
 gE pg (mJ d2 (.bool true) e0) w fun e1 w =>
 Gd (kP e1 false) (fun K => K b9 w) w fun e3 w =>
 Gd (kP e1 false) (fun K => K b9 w) w fun e4 w =>
 Gd (kP e1 false) (fun K => gE pg (gW .sub 3 iK iK e4 (atQ 1)) w K) w fun e5 w =>
 Gd (kP e1 false) (fun K => gE pg (gW .and 3 iK iK e3 e5) w K) w fun e6 w =>
 Gd (kP e1 false) (fun K => gE pg (gW .neq 3 (.tmp 36) (.const (atQ 0)) e6 (atQ 0)) w K) w fun e7 w =>
 gE pg (mJ e1 (.bool true) e7) w fun e8 w =>
 mX e8
  (R (atQ 0) w)
  (gE pg (nS 3 50 b9) w fun f0 w =>
  jD pg Cf #[f0] w fun f1 w =>
  gE pg (gW .sub 3 iK iK f1 (atQ 1)) w fun f2 w =>
  gE pg (gW .gtr 3 iK iK f2 (atQ 11)) w fun f4 w =>
  Gd (kP f4 false) (fun K => K kV w) w fun f6 w =>
  Gd (kP f4 false) (fun K => jD pg tE #[f6] w K) w fun f7 w =>
  Gd (kP f4 false) (fun K => gE pg (nS 5 3 f7) w K) w fun f8 w =>
  Gd (kP f4 false) (fun K => K f2 w) w fun f9 w =>
  Gd (kP f4 false) (fun K => gE pg (gW .gtr 3 iK iK f8 f9) w K) w fun i0 w =>
  gE pg (mJ f4 (.bool true) i0) w fun i1 w =>
  mX i1
   (R (atQ 0) w)
   (R f2 w))
theorem Pt (R : K1) (hr : HR Kp R Q) (h : EP R (g 0) w) : jK pg Jc HJ Q g w :=
 lM (kn := no) (l := []) h mH hr trivial
def Qs (a0 : atP) (w : atO) (R : K1) : Prop :=
 EP R a0 w
theorem Q7 {a0 : atP} {w : atO} {R : K1} (h : Qs a0 w R) : jD pg yH #[a0] w R := by
 refine Bp (ann := Jc) Tryz.f108 HJ [a0] Kp 53 TryzM.mixed Tryz.func108 ?_
 exact (Pt _ _ _ R (fun _ _ h => h) h)
def Mr : FA := ⟨F1, fun i => .leaf ([], []) []⟩
def O3 : List ResultVar := [.tmp 4, .tmp 5]
noncomputable def KE : Code := kB Tryz.f109
def Hn (R : K1) (kV jI : atP) (w : atO) : Prop :=
 jD pg tL #[kV] w fun c0 w =>
 gE pg (jU c0 0) w fun c1 w =>
 gE pg (jU c0 1) w fun c2 w =>
 gE pg (gW .neq 24 (.tmp 14) (.const (atQ 0)) c2 (atQ 0)) w fun c5 w =>
 mX c5
  (R (.tuple #[(.slice none 0 0), c2]) w)
  (gE pg (oD .len #[22] 3 [jI]) w fun c9 w =>
  gE pg (gW .gtr 3 iK iK c9 (atQ 131072)) w fun d0 w =>
  mX d0
   (R (.tuple #[(.slice none 0 0), (atQ 1)]) w)
   (jD pg nI #[c1, jI] w fun d3 w =>
   gE pg (jU d3 0) w fun d4 w =>
   gE pg (jU d3 1) w fun d5 w =>
   R (.tuple #[d4, d5]) w))
theorem S6 (R : K1) (hr : HR O3 R Q) (h : Hn R (g 0) (g 1) w) : jK pg Mr KE Q g w :=
 lM (kn := no) (l := []) h mH hr trivial
def Ud (a0 a1 : atP) (w : atO) (R : K1) : Prop :=
 Hn R a0 a1 w
theorem Tg {a0 a1 : atP} {w : atO} {R : K1} (h : Ud a0 a1 w R) : jD pg F1 #[a0, a1] w R := by
 refine Bp (ann := Mr) Tryz.f109 KE [a0, a1] O3 26 TryzM.mixed Tryz.func109 ?_
 exact (S6 _ _ _ R (fun _ _ h => h) h)
def mE : FA := ⟨Dj, fun i => .leaf ([], []) []⟩
def pJ : List ResultVar := [.tmp 4, .tmp 5]
noncomputable def lT : Code := kB Tryz.f110
def yD (R : K1) (qK kT : atP) (w : atO) : Prop :=
 jD pg nZ #[qK, kT] w fun l3 w =>
 jD pg nE #[qK] w fun l5 w =>
 R (.tuple #[l5, (atQ 0)]) w
theorem QP (R : K1) (hr : HR pJ R Q) (h : yD R (g 10) (g 11) w) : jK pg mE (fV 1 (fV 7 lT)) Q g w :=
 lM (kn := no) (l := []) h mH hr trivial
def yI (kn : K6) (jI kX qK kT e8 e9 : atP) (w : atO) : Prop :=
 gE pg (gW .add 3 iK iK e9 (atQ 1)) w fun l0 w =>
 kn jI kX qK kT e8 l0 w
theorem Rn (kn : K6) (hn : N6 Q kn 1 6 10 11 38 39) (h : yI kn (g 1) (g 6) (g 10) (g 11) (g 38) (g 39) w) : jK pg mE (fV 1 (fV 2 (bI (bI (fV 1 (gS 1 (fV 7 lT))))))) Q g w :=
 lM (kr := no) (l := []) h hn mH trivial
def yE (kn : K6) (jI kX qK kT afR e8 e9 : atP) (w : atO) : Prop :=
 gE pg (oD .append #[22, 22] 22 [kT, afR]) w fun j9 w =>
 kn jI kX qK j9 e8 e9 w
theorem QC (kn : K6) (hn : N6 Q kn 1 6 10 11 38 39) (h : yE kn (g 1) (g 6) (g 10) (g 11) (g 14) (g 38) (g 39) w) : jK pg mE (fV 5 (bI (gS 1 (fV 2 (bI (bI (fV 1 (gS 1 (fV 7 lT))))))))) Q g w :=
 lM (kr := no) (l := []) h hn mH trivial
def Gx (kn : K7) (R : K1) (jI kX qK kT e8 e9 : atP) (w : atO) : Prop :=
 gE pg (P8 139 e8 e9) w fun f2 w =>
 gE pg (lR 22 jI none (some f2) none) w fun f7 w =>
 jD pg nI #[kX, f7] w fun f8 w =>
 gE pg (jU f8 0) w fun f9 w =>
 gE pg (jU f8 1) w fun i0 w =>
 gE pg (gW .neq 24 (.tmp 51) (.const (atQ 0)) i0 (atQ 0)) w fun i2 w =>
 mX i2
  (R (.tuple #[(.slice none 0 0), i0]) w)
  (gE pg (lR 22 jI (some f2) none none) w fun i6 w =>
  gE pg (gW .lss 3 iK iK e9 (atQ 3)) w fun i8 w =>
  mX i8
   (gE pg (oD .len #[22] 3 [f9]) w fun j0 w =>
   gE pg (gW .geq 3 iK iK j0 (atQ 65536)) w fun j1 w =>
   mX j1
    (R (.tuple #[(.slice none 0 0), (atQ 1)]) w)
    (gE pg (oD .len #[22] 3 [f9]) w fun j4 w =>
    gE pg (nS 3 32 j4) w fun j5 w =>
    jD pg jL #[qK, j5, (atQ 2)] w fun j6 w =>
    kn i6 kX qK kT f9 e8 e9 w))
   (kn i6 kX qK kT f9 e8 e9 w))
theorem Q6 (kn : K7) (R : K1) (hn : N7 Q kn 1 6 10 11 14 38 39) (hr : HR pJ R Q) (h : Gx kn R (g 1) (g 6) (g 10) (g 11) (g 38) (g 39) w) : jK pg mE (gS 5 (bI (gS 1 (fV 2 (bI (bI (fV 1 (gS 1 (fV 7 lT))))))))) Q g w :=
 lM (l := []) h hn hr trivial
def Mw (kn : K6) (R : K1) (jI kX qK kT e8 e9 : atP) (w : atO) : Prop :=
 Gx (fun jI kX qK kT afR e8 e9 w => yE kn jI kX qK kT afR e8 e9 w) R jI kX qK kT e8 e9 w
def Gw (kn : K6) (R : K1) (jI kX qK kT e8 e9 : atP) (w : atO) : Prop :=
 Mw kn R jI kX qK kT e8 e9 w
def Gp (kn : K6) (R : K1) (jI kX qK kT e8 e9 : atP) (w : atO) : Prop :=
 Gw (fun jI kX qK kT e8 e9 w => yI kn jI kX qK kT e8 e9 w) R jI kX qK kT e8 e9 w
theorem Q9 (kn : K6) (R : K1) (hn : N6 Q kn 1 6 10 11 38 39) (hr : HR pJ R Q) (h : Gw kn R (g 1) (g 6) (g 10) (g 11) (g 38) (g 39) w) : jK pg mE (gS 1 (fV 2 (bI (bI (fV 1 (gS 1 (fV 7 lT))))))) Q g w :=
 GV 1 (oB 5 (Q6 _ g w (yE kn) R (fun g w h => iB (QC _ g w kn hn h)) hr h))
def Gv (kn : K6) (k0 : K2) (jI kX qK kT e8 e9 : atP) (w : atO) : Prop :=
 gE pg (gW .lss 3 iK iK e9 (atQ 4)) w fun f0 w =>
 mX f0
  (kn jI kX qK kT e8 e9 w)
  (k0 qK kT w)
theorem QV (kn : K6) (k0 : K2) (hn : N6 Q kn 1 6 10 11 38 39) (h0 : E2 Q k0 0 10 11) (h : Gv kn k0 (g 1) (g 6) (g 10) (g 11) (g 38) (g 39) w) : jK pg mE (gS 2 (bI (bI (fV 1 (gS 1 (fV 7 lT)))))) Q g w :=
 lM (kr := no) (l := [(0, fun g w => k0 (g 10) (g 11) w)]) h hn mH ⟨h0, trivial⟩
def Ci (kn : K6) (k0 : K2) (R : K1) (jI kX qK kT e8 e9 : atP) (w : atO) : Prop :=
 Gv (fun jI kX qK kT e8 e9 w => Gp kn R jI kX qK kT e8 e9 w) k0 jI kX qK kT e8 e9 w
def Fo (k0 : K2) (R : K1) (jI kX qK kT e8 e9 : atP) (w : atO) : Prop :=
 kE (fun (X : (atP × atP × atP) -> K0) (t : atP × atP × atP) (w : atO) => Ci (fun jI _ _ kT _ e9 w => X (jI, kT, e9) w) k0 R t.1 kX qK t.2.1 e8 t.2.2 w) (jI, kT, e9) w
theorem Rl (kn : K6) (k0 : K2) (R : K1) (hn : N6 Q kn 1 6 10 11 38 39) (h0 : E2 Q k0 0 10 11) (hr : HR pJ R Q) (h : Ci kn k0 R (g 1) (g 6) (g 10) (g 11) (g 38) (g 39) w) : jK pg mE (bI (bI (fV 1 (gS 1 (fV 7 lT))))) Q g w :=
 oB 2 (QV _ g w (Gp kn R) k0 (fun g w h => iB (oB 1 (Q9 _ g w (yI kn) R (fun g w h => iB (Rn _ g w kn hn h)) hr h))) h0 h)
theorem PE (k0 : K2) (R : K1) (h0 : E2 Q k0 0 10 11) (hr : HR pJ R Q) (h : Fo k0 R (g 1) (g 6) (g 10) (g 11) (g 38) (g 39) w) : jK pg mE (bI (fV 1 (gS 1 (fV 7 lT)))) Q g w := by
 refine MG (fun g : Env => (g 1, g 11, g 39)) (fun X t w => Ci (fun jI _ _ kT _ e9 w => X (jI, kT, e9) w) k0 R t.1 (g 6) (g 10) t.2.1 (g 38) t.2.2 w) h (fun X g1 w1 ha hL => ?_)
 rw [<- qO 6 ha, <- qO 10 ha, <- qO 38 ha] at hL
 exact (Rl _ g1 w1 (fun jI _ _ kT _ e9 w => X (jI, kT, e9) w) k0 R (fun _ _ h => h) h0 hr hL)
def AZ (kn : K2) (R : K1) (jI kX qK kT e8 e9 : atP) (w : atO) : Prop :=
 Fo kn R jI kX qK kT e8 e9 w
def Fw (kn : K6) (jI kX Gz qK kT : atP) (w : atO) : Prop :=
 gE pg (jF 139 Gz) w fun e8 w =>
 kn jI kX qK kT e8 (atQ 0) w
theorem Ph (kn : K6) (hn : N6 Q kn 1 6 10 11 38 39) (h : Fw kn (g 1) (g 6) (g 8) (g 10) (g 11) w) : jK pg mE (gS 1 (gS 1 (fV 7 lT))) Q g w :=
 lM (kr := no) (l := []) h hn mH trivial
def Fh (kn : K2) (R : K1) (jI kX Gz qK kT : atP) (w : atO) : Prop :=
 Fw (fun jI kX qK kT e8 e9 w => AZ kn R jI kX qK kT e8 e9 w) jI kX Gz qK kT w
def EU (R : K1) (jI kX Gz qK kT : atP) (w : atO) : Prop :=
 Fh (fun qK kT w => yD R qK kT w) R jI kX Gz qK kT w
theorem PH (kn : K2) (R : K1) (hn : N2 Q kn 10 11) (hr : HR pJ R Q) (h : Fh kn R (g 1) (g 6) (g 8) (g 10) (g 11) w) : jK pg mE (gS 1 (fV 7 lT)) Q g w :=
 oB 1 (Ph _ g w (AZ kn R) (fun g w h => iB (GV 0 (PE _ g w kn R hn hr h))) h)
def Fx (kn : K5) (R : K1) (kV jI : atP) (w : atO) : Prop :=
 jD pg tL #[kV] w fun c8 w =>
 gE pg (jU c8 0) w fun c9 w =>
 gE pg (jU c8 1) w fun d0 w =>
 gE pg (gW .neq 24 (.tmp 21) (.const (atQ 0)) d0 (atQ 0)) w fun d2 w =>
 mX d2
  (R (.tuple #[(.slice none 0 0), d0]) w)
  (gE pg (oD .len #[22] 3 [jI]) w fun d6 w =>
  jD pg G1 #[d6] w fun d7 w =>
  gE pg (jU d7 0) w fun d8 w =>
  gE pg (jU d7 1) w fun d9 w =>
  gE pg (pX 139) w fun Gz w =>
  gE pg (kA 139 Gz d8) w fun _u w =>
  gE pg (YG .not d9) w fun e1 w =>
  Gd (kP e1 false) (fun K => K jI w) w fun e3 w =>
  Gd (kP e1 false) (fun K => gE pg (oD .len #[22] 3 [e3]) w K) w fun e4 w =>
  Gd (kP e1 false) (fun K => gE pg (gW .gtr 3 iK iK e4 (atQ 131072)) w K) w fun e5 w =>
  gE pg (mJ e1 (.bool true) e5) w fun e6 w =>
  mX e6
   (R (.tuple #[(.slice none 0 0), (atQ 1)]) w)
   (jD pg nR #[] w fun e7 w =>
   kn jI c9 Gz e7 (.slice none 0 0) w))
theorem PY (kn : K5) (R : K1) (hn : N5 Q kn 1 6 8 10 11) (hr : HR pJ R Q) (h : Fx kn R (g 0) (g 1) w) : jK pg mE (gS 7 lT) Q g w :=
 lM (l := []) h hn hr trivial
def EW (R : K1) (kV jI : atP) (w : atO) : Prop :=
 Fx (fun jI kX Gz qK kT w => EU R jI kX Gz qK kT w) R kV jI w
theorem Po (R : K1) (hr : HR pJ R Q) (h : EW R (g 0) (g 1) w) : jK pg mE lT Q g w :=
 oB 7 (PY _ g w (EU R) R (fun g w h => iB (oB 1 (PH _ g w (yD R) R (fun g w h => iB (QP _ g w R hr h)) hr h))) hr h)
def SN (a0 a1 : atP) (w : atO) (R : K1) : Prop :=
 EW R a0 a1 w
theorem Sh {a0 a1 : atP} {w : atO} {R : K1} (h : SN a0 a1 w R) : jD pg Dj #[a0, a1] w R := by
 refine Bp (ann := mE) Tryz.f110 lT [a0, a1] pJ 76 TryzM.mixed Tryz.func110 ?_
 exact (Po _ _ _ R (fun _ _ h => h) h)
def Jb : FA := ⟨Cf, fun i => .leaf ([], []) []⟩
def Kj : List ResultVar := [.tmp 2]
noncomputable def H7 : Code := kB Tryz.f115
def FJ (R : K1) (nM : atP) (w : atO) : Prop :=
 mX (.bool false)
  (gE pg (nS 50 38 nM) w fun b4 w =>
  jD pg SZ #[b4] w fun b5 w =>
  R b5 w)
  (jD pg uB #[nM] w fun b7 w =>
  R b7 w)
theorem Pv (R : K1) (hr : HR Kj R Q) (h : FJ R (g 0) w) : jK pg Jb H7 Q g w :=
 lM (kn := no) (l := []) h mH hr trivial
def Ql (a0 : atP) (w : atO) (R : K1) : Prop :=
 FJ R a0 w
theorem QJ {a0 : atP} {w : atO} {R : K1} (h : Ql a0 w R) : jD pg Cf #[a0] w R := by
 refine Bp (ann := Jb) Tryz.f115 H7 [a0] Kj 8 TryzM.mixed Tryz.func115 ?_
 exact (Pv _ _ _ R (fun _ _ h => h) h)
def nH : FA := ⟨Cj, fun i => .leaf ([], []) []⟩
def qS : List ResultVar := [.tmp 2, .tmp 3]
noncomputable def mS : Code := kB Tryz.f132
def A7 (R : K1) (kK : atP) (w : atO) : Prop :=
 R (.tuple #[kK, (.bool true)]) w
theorem PL (R : K1) (hr : HR qS R Q) (h : A7 R (g 4) w) : jK pg nH (fV 1 (fV 2 mS)) Q g w :=
 lM (kn := no) (l := []) h mH hr trivial
def AO (kn : K4) (kK b7 b8 b9 : atP) (w : atO) : Prop :=
 gE pg (gW .add 3 iK iK b9 (atQ 1)) w fun d2 w =>
 kn kK b7 b8 d2 w
theorem Pj (kn : K4) (hn : N4 Q kn 4 7 8 9) (h : AO kn (g 4) (g 7) (g 8) (g 9) w) : jK pg nH (fV 3 (bI (bI (fV 1 (gS 1 (fV 2 mS)))))) Q g w :=
 lM (kr := no) (l := []) h hn mH trivial
def Fp (kn : K4) (k0 : K1) (R : K1) (kK b7 b8 b9 : atP) (w : atO) : Prop :=
 gE pg (gW .lss 3 iK iK b9 b8) w fun c0 w =>
 mX c0
  (gE pg (jO 22 b7 b9) w fun c1 w =>
  gE pg (jF 5 c1) w fun c2 w =>
  gE pg (gW .gtr 5 iK iK c2 (.int .u8 11)) w fun c4 w =>
  mX c4
   (R (.tuple #[(atQ 0), (.bool false)]) w)
   (gE pg (gW .gtr 5 iK iK c2 (.int .u8 0)) w fun c6 w =>
   mX c6
    (gE pg (gW .sub 5 iK iK c2 (.int .u8 1)) w fun c9 w =>
    gE pg (gW .shl 3 iK iK (atQ 1) c9) w fun d0 w =>
    gE pg (gW .add 3 iK iK kK d0) w fun d1 w =>
    kn d1 b7 b8 b9 w)
    (kn kK b7 b8 b9 w)))
  (k0 kK w)
theorem PJ (kn : K4) (k0 : K1) (R : K1) (hn : N4 Q kn 4 7 8 9) (h0 : E1 Q k0 0 4) (hr : HR qS R Q) (h : Fp kn k0 R (g 4) (g 7) (g 8) (g 9) w) : jK pg nH (gS 3 (bI (bI (fV 1 (gS 1 (fV 2 mS)))))) Q g w :=
 lM (l := [(0, fun g w => k0 (g 4) w)]) h hn hr ⟨h0, trivial⟩
def A4 (kn : K4) (k0 : K1) (R : K1) (kK b7 b8 b9 : atP) (w : atO) : Prop :=
 Fp (fun kK b7 b8 b9 w => AO kn kK b7 b8 b9 w) k0 R kK b7 b8 b9 w
def Ff (k0 : K1) (R : K1) (kK b7 b8 b9 : atP) (w : atO) : Prop :=
 kE (fun (X : (atP × atP) -> K0) (t : atP × atP) (w : atO) => A4 (fun kK _ _ b9 w => X (kK, b9) w) k0 R t.1 b7 b8 t.2 w) (kK, b9) w
theorem Px (kn : K4) (k0 : K1) (R : K1) (hn : N4 Q kn 4 7 8 9) (h0 : E1 Q k0 0 4) (hr : HR qS R Q) (h : A4 kn k0 R (g 4) (g 7) (g 8) (g 9) w) : jK pg nH (bI (bI (fV 1 (gS 1 (fV 2 mS))))) Q g w :=
 oB 3 (PJ _ g w (AO kn) k0 R (fun g w h => iB (Pj _ g w kn hn h)) h0 hr h)
theorem P1 (k0 : K1) (R : K1) (h0 : E1 Q k0 0 4) (hr : HR qS R Q) (h : Ff k0 R (g 4) (g 7) (g 8) (g 9) w) : jK pg nH (bI (fV 1 (gS 1 (fV 2 mS)))) Q g w := by
 refine MG (fun g : Env => (g 4, g 9)) (fun X t w => A4 (fun kK _ _ b9 w => X (kK, b9) w) k0 R t.1 (g 7) (g 8) t.2 w) h (fun X g1 w1 ha hL => ?_)
 rw [<- qO 7 ha, <- qO 8 ha] at hL
 exact (Px _ g1 w1 (fun kK _ _ b9 w => X (kK, b9) w) k0 R (fun _ _ h => h) h0 hr hL)
def EI (kn : K1) (R : K1) (kK b7 b8 b9 : atP) (w : atO) : Prop :=
 Ff kn R kK b7 b8 b9 w
def FN (kn : K4) (kV kK : atP) (w : atO) : Prop :=
 gE pg (oD .len #[22] 3 [kV]) w fun b8 w =>
 kn kK kV b8 (atQ 0) w
theorem Qd (kn : K4) (hn : N4 Q kn 4 7 8 9) (h : FN kn (g 0) (g 4) w) : jK pg nH (gS 1 (gS 1 (fV 2 mS))) Q g w :=
 lM (kr := no) (l := []) h hn mH trivial
def Fu (kn : K1) (R : K1) (kV kK : atP) (w : atO) : Prop :=
 FN (fun kK b7 b8 b9 w => EI kn R kK b7 b8 b9 w) kV kK w
def Fq (R : K1) (kV kK : atP) (w : atO) : Prop :=
 Fu (fun kK w => A7 R kK w) R kV kK w
theorem PB (kn : K1) (R : K1) (hn : N1 Q kn 4) (hr : HR qS R Q) (h : Fu kn R (g 0) (g 4) w) : jK pg nH (gS 1 (fV 2 mS)) Q g w :=
 oB 1 (Qd _ g w (EI kn R) (fun g w h => iB (GV 0 (P1 _ g w kn R hn hr h))) h)
def DU (kn : K2) (kV : atP) (w : atO) : Prop :=
 kn kV (atQ 0) w
theorem OP (kn : K2) (hn : N2 Q kn 0 4) (h : DU kn (g 0) w) : jK pg nH (gS 2 mS) Q g w :=
 lM (kr := no) (l := []) h hn mH trivial
def Dq (R : K1) (kV : atP) (w : atO) : Prop :=
 DU (fun kV kK w => Fq R kV kK w) kV w
theorem OZ (R : K1) (hr : HR qS R Q) (h : Dq R (g 0) w) : jK pg nH mS Q g w :=
 oB 2 (OP _ g w (Fq R) (fun g w h => iB (oB 1 (PB _ g w (A7 R) R (fun g w h => iB (PL _ g w R hr h)) hr h))) h)
def Qp (a0 : atP) (w : atO) (R : K1) : Prop :=
 Dq R a0 w
theorem Rb {a0 : atP} {w : atO} {R : K1} (h : Qp a0 w R) : jD pg Cj #[a0] w R := by
 refine Bp (ann := nH) Tryz.f132 mS [a0] qS 24 TryzM.mixed Tryz.func132 ?_
 exact (OZ _ _ _ R (fun _ _ h => h) h)
def lV : FA := ⟨tE, fun i => .leaf ([], []) []⟩
def wM : List ResultVar := [.tmp 2]
noncomputable def lO : Code := kB Tryz.f133
def rW (R : K1) (B6 : atP) (w : atO) : Prop :=
 R B6 w
theorem IV (R : K1) (hr : HR wM R Q) (h : rW R (g 3) w) : jK pg lV (fV 1 (fV 1 (fV 2 lO))) Q g w :=
 lM (kn := no) (l := []) h mH hr trivial
def rY (kn : K3) (k0 : K1) (nM B6 O9 : atP) (w : atO) : Prop :=
 gE pg (oD .len #[22] 3 [nM]) w fun c4 w =>
 gE pg (gW .lss 3 iK iK O9 c4) w fun c5 w =>
 mX c5
  (gE pg (jO 22 nM O9) w fun d1 w =>
  gE pg (jF 5 d1) w fun d2 w =>
  gE pg (oD .max #[5, 5] 5 [B6, d2]) w fun d3 w =>
  gE pg (gW .add 3 iK iK O9 (atQ 1)) w fun c7 w =>
  kn nM d3 c7 w)
  (k0 B6 w)
theorem IX (kn : K3) (k0 : K1) (hn : N3 Q kn 0 3 4) (h0 : E1 Q k0 0 3) (h : rY kn k0 (g 0) (g 3) (g 4) w) : jK pg lV (bI (bI (fV 1 (gS 1 (fV 1 (fV 2 lO)))))) Q g w :=
 lM (kr := no) (l := [(0, fun g w => k0 (g 3) w)]) h hn mH ⟨h0, trivial⟩
def wO (k0 : K1) (nM B6 O9 : atP) (w : atO) : Prop :=
 kE (fun (X : (atP × atP) -> K0) (t : atP × atP) (w : atO) => rY (fun _ B6 O9 w => X (B6, O9) w) k0 nM t.1 t.2 w) (B6, O9) w
theorem IZ (k0 : K1) (h0 : E1 Q k0 0 3) (h : wO k0 (g 0) (g 3) (g 4) w) : jK pg lV (bI (fV 1 (gS 1 (fV 1 (fV 2 lO))))) Q g w := by
 refine MG (fun g : Env => (g 3, g 4)) (fun X t w => rY (fun _ B6 O9 w => X (B6, O9) w) k0 (g 0) t.1 t.2 w) h (fun X g1 w1 ha hL => ?_)
 rw [<- qO 0 ha] at hL
 exact (IX _ g1 w1 (fun _ B6 O9 w => X (B6, O9) w) k0 (fun _ _ h => h) h0 hL)
def xF (kn : K1) (nM B6 O9 : atP) (w : atO) : Prop :=
 wO kn nM B6 O9 w
def wS (kn : K3) (nM B6 : atP) (w : atO) : Prop :=
 kn nM B6 (atQ 1) w
theorem I1 (kn : K3) (hn : N3 Q kn 0 3 4) (h : wS kn (g 0) (g 3) w) : jK pg lV (gS 1 (gS 1 (fV 1 (fV 2 lO)))) Q g w :=
 lM (kr := no) (l := []) h hn mH trivial
def xN (kn : K1) (nM B6 : atP) (w : atO) : Prop :=
 wS (fun nM B6 O9 w => xF kn nM B6 O9 w) nM B6 w
def xL (R : K1) (nM B6 : atP) (w : atO) : Prop :=
 xN (fun B6 w => rW R B6 w) nM B6 w
theorem IE (kn : K1) (hn : N1 Q kn 3) (h : xN kn (g 0) (g 3) w) : jK pg lV (gS 1 (fV 1 (fV 2 lO))) Q g w :=
 oB 1 (I1 _ g w (xF kn) (fun g w h => iB (GV 0 (IZ _ g w kn hn h))) h)
def xX (kn : K2) (nM : atP) (w : atO) : Prop :=
 gE pg (jO 22 nM (atQ 0)) w fun c0 w =>
 gE pg (jF 5 c0) w fun c1 w =>
 kn nM c1 w
theorem I4 (kn : K2) (hn : N2 Q kn 0 3) (h : xX kn (g 0) w) : jK pg lV (gS 1 (fV 2 lO)) Q g w :=
 lM (kr := no) (l := []) h hn mH trivial
def xQ (R : K1) (nM : atP) (w : atO) : Prop :=
 xX (fun nM B6 w => xL R nM B6 w) nM w
def vS (kn : K1) (nM : atP) (w : atO) : Prop :=
 gE pg (oD .len #[22] 3 [nM]) w fun b6 w =>
 gE pg (gW .lss 3 iK iK b6 (atQ 1)) w fun b7 w =>
 mX b7
  (gE pg (Vt 9 (.string ⟨#[115, 108, 105, 99, 101, 115, 46, 77, 97, 120, 58, 32, 101, 109, 112, 116, 121, 32, 108, 105, 115, 116]⟩)) w fun b8 w =>
  gE pg (V (Instr.panic b8)) w fun _u w =>
  kn nM w)
  (kn nM w)
theorem Ih (kn : K1) (hn : N1 Q kn 0) (h : vS kn (g 0) w) : jK pg lV (gS 2 lO) Q g w :=
 lM (kr := no) (l := []) h hn mH trivial
def vL (R : K1) (nM : atP) (w : atO) : Prop :=
 vS (fun nM w => xQ R nM w) nM w
theorem H8 (R : K1) (hr : HR wM R Q) (h : vL R (g 0) w) : jK pg lV lO Q g w :=
 oB 2 (Ih _ g w (xQ R) (fun g w h => iB (oB 1 (I4 _ g w (xL R) (fun g w h => iB (oB 1 (IE _ g w (rW R) (fun g w h => iB (IV _ g w R hr h)) h))) h))) h)
def GU (a0 : atP) (w : atO) (R : K1) : Prop :=
 vL R a0 w
theorem JT {a0 : atP} {w : atO} {R : K1} (h : GU a0 w R) : jD pg tE #[a0] w R := by
 refine Bp (ann := lV) Tryz.f133 lO [a0] wM 25 TryzM.mixed Tryz.func133 ?_
 exact (H8 _ _ _ R (fun _ _ h => h) h)
def kM : FA := ⟨tL, fun i => .leaf ([], []) []⟩
def AP : List ResultVar := [.tmp 2, .tmp 3]
noncomputable def kD : Code := kB Tryz.f134
def AI (R : K1) (gZ : atP) (w : atO) : Prop :=
 R (.tuple #[gZ, (atQ 0)]) w
theorem P7 (R : K1) (hr : HR AP R Q) (h : AI R (g 5) w) : jK pg kM (fV 1 (fV 5 kD)) Q g w :=
 lM (kn := no) (l := []) h mH hr trivial
def AL (kn : K5) (kV Da gZ oH Dc : atP) (w : atO) : Prop :=
 gE pg (gW .add 3 iK iK Dc (atQ 1)) w fun d0 w =>
 kn kV Da gZ oH d0 w
theorem PA (kn : K5) (hn : N5 Q kn 0 4 5 6 7) (h : AL kn (g 0) (g 4) (g 5) (g 6) (g 7) w) : jK pg kM (fV 1 (fV 1 (bI (bI (fV 1 (gS 1 (fV 5 kD))))))) Q g w :=
 lM (kr := no) (l := []) h hn mH trivial
def AH (kn : K7) (kV Da gZ oH Dc d2 d3 : atP) (w : atO) : Prop :=
 gE pg (gW .add 3 iK iK d3 (atQ 1)) w fun i0 w =>
 kn kV Da gZ oH Dc d2 i0 w
theorem PK (kn : K7) (hn : N7 Q kn 0 4 5 6 7 22 23) (h : AH kn (g 0) (g 4) (g 5) (g 6) (g 7) (g 22) (g 23) w) : jK pg kM (fV 3 (bI (bI (fV 1 (bI (gS 1 (fV 1 (bI (bI (fV 1 (gS 1 (fV 5 kD)))))))))))) Q g w :=
 lM (kr := no) (l := []) h hn mH trivial
def FO (kn : K7) (k2 : K5) (kV Da gZ oH Dc d2 d3 : atP) (w : atO) : Prop :=
 gE pg (gW .lss 3 iK iK d3 d2) w fun d4 w =>
 mX d4
  (gE pg (jO 22 kV d3) w fun d8 w =>
  gE pg (jF 5 d8) w fun d9 w =>
  gE pg (nS 5 3 d9) w fun e0 w =>
  gE pg (gW .neq 3 (.tmp 30) (.tmp 31) e0 Dc) w fun e2 w =>
  mX e2
   (kn kV Da gZ oH Dc d2 d3 w)
   (gE pg (gW .add 3 iK iK Da (atQ 1)) w fun e6 w =>
   gE pg (gW .sub 3 iK iK e6 Dc) w fun e8 w =>
   gE pg (gW .sub 3 iK iK Dc (atQ 1)) w fun f1 w =>
   gE pg (gW .shr 3 iK iK oH f1) w fun f2 w =>
   gE pg (mL 241 [(0, e8), (1, f2)]) w fun f3 w =>
   gE pg (jO 225 gZ d3) w fun f4 w =>
   gE pg (kA 241 f4 f3) w fun _u w =>
   gE pg (gW .sub 3 iK iK Dc (atQ 1)) w fun f7 w =>
   gE pg (gW .shl 3 iK iK (atQ 1) f7) w fun f8 w =>
   gE pg (gW .add 3 iK iK oH f8) w fun f9 w =>
   kn kV Da gZ f9 Dc d2 d3 w))
  (k2 kV Da gZ oH Dc w)
theorem Pn (kn : K7) (k2 : K5) (hn : N7 Q kn 0 4 5 6 7 22 23) (h2 : E5 Q k2 2 0 4 5 6 7) (h : FO kn k2 (g 0) (g 4) (g 5) (g 6) (g 7) (g 22) (g 23) w) : jK pg kM (gS 3 (bI (bI (fV 1 (bI (gS 1 (fV 1 (bI (bI (fV 1 (gS 1 (fV 5 kD)))))))))))) Q g w :=
 lM (kr := no) (l := [(2, fun g w => k2 (g 0) (g 4) (g 5) (g 6) (g 7) w)]) h hn mH ⟨h2, trivial⟩
def AY (kn : K7) (k2 : K5) (kV Da gZ oH Dc d2 d3 : atP) (w : atO) : Prop :=
 FO (fun kV Da gZ oH Dc d2 d3 w => AH kn kV Da gZ oH Dc d2 d3 w) k2 kV Da gZ oH Dc d2 d3 w
def EY (k2 : K5) (kV Da gZ oH Dc d2 d3 : atP) (w : atO) : Prop :=
 kE (fun (X : (atP × atP) -> K0) (t : atP × atP) (w : atO) => AY (fun _ _ _ oH _ _ d3 w => X (oH, d3) w) k2 kV Da gZ t.1 Dc d2 t.2 w) (oH, d3) w
theorem Qc (kn : K7) (k2 : K5) (hn : N7 Q kn 0 4 5 6 7 22 23) (h2 : E5 Q k2 2 0 4 5 6 7) (h : AY kn k2 (g 0) (g 4) (g 5) (g 6) (g 7) (g 22) (g 23) w) : jK pg kM (bI (bI (fV 1 (bI (gS 1 (fV 1 (bI (bI (fV 1 (gS 1 (fV 5 kD))))))))))) Q g w :=
 oB 3 (Pn _ g w (AH kn) k2 (fun g w h => iB (PK _ g w kn hn h)) h2 h)
theorem PI (k2 : K5) (h2 : E5 Q k2 2 0 4 5 6 7) (h : EY k2 (g 0) (g 4) (g 5) (g 6) (g 7) (g 22) (g 23) w) : jK pg kM (bI (fV 1 (bI (gS 1 (fV 1 (bI (bI (fV 1 (gS 1 (fV 5 kD)))))))))) Q g w := by
 refine MG (fun g : Env => (g 6, g 23)) (fun X t w => AY (fun _ _ _ oH _ _ d3 w => X (oH, d3) w) k2 (g 0) (g 4) (g 5) t.1 (g 7) (g 22) t.2 w) h (fun X g1 w1 ha hL => ?_)
 rw [<- qO 0 ha, <- qO 4 ha, <- qO 5 ha, <- qO 7 ha, <- qO 22 ha] at hL
 exact (Qc _ g1 w1 (fun _ _ _ oH _ _ d3 w => X (oH, d3) w) k2 (fun _ _ h => h) h2 hL)
def Fz (kn : K5) (kV Da gZ oH Dc d2 d3 : atP) (w : atO) : Prop :=
 EY kn kV Da gZ oH Dc d2 d3 w
def Fi (kn : K7) (kV Da gZ oH Dc : atP) (w : atO) : Prop :=
 gE pg (oD .len #[22] 3 [kV]) w fun d2 w =>
 kn kV Da gZ oH Dc d2 (atQ 0) w
theorem PZ (kn : K7) (hn : N7 Q kn 0 4 5 6 7 22 23) (h : Fi kn (g 0) (g 4) (g 5) (g 6) (g 7) w) : jK pg kM (gS 1 (bI (gS 1 (fV 1 (bI (bI (fV 1 (gS 1 (fV 5 kD))))))))) Q g w :=
 lM (kr := no) (l := []) h hn mH trivial
def Kw (kn : K5) (kV Da gZ oH Dc : atP) (w : atO) : Prop :=
 Fi (fun kV Da gZ oH Dc d2 d3 w => Fz kn kV Da gZ oH Dc d2 d3 w) kV Da gZ oH Dc w
def DG (kn : K5) (kV Da gZ oH Dc : atP) (w : atO) : Prop :=
 Kw kn kV Da gZ oH Dc w
def DB (kn : K5) (kV Da gZ oH Dc : atP) (w : atO) : Prop :=
 DG (fun kV Da gZ oH Dc w => AL kn kV Da gZ oH Dc w) kV Da gZ oH Dc w
theorem OC (kn : K5) (hn : N5 Q kn 0 4 5 6 7) (h : DG kn (g 0) (g 4) (g 5) (g 6) (g 7) w) : jK pg kM (gS 1 (fV 1 (bI (bI (fV 1 (gS 1 (fV 5 kD))))))) Q g w :=
 GV 1 (oB 1 (PZ _ g w (Fz kn) (fun g w h => iB (GV 2 (PI _ g w kn hn h))) h))
def Dl (kn : K5) (k0 : K1) (kV Da gZ oH Dc : atP) (w : atO) : Prop :=
 gE pg (gW .leq 3 iK iK Dc Da) w fun c8 w =>
 mX c8
  (kn kV Da gZ oH Dc w)
  (k0 gZ w)
theorem OI (kn : K5) (k0 : K1) (hn : N5 Q kn 0 4 5 6 7) (h0 : E1 Q k0 0 5) (h : Dl kn k0 (g 0) (g 4) (g 5) (g 6) (g 7) w) : jK pg kM (gS 1 (bI (bI (fV 1 (gS 1 (fV 5 kD)))))) Q g w :=
 lM (kr := no) (l := [(0, fun g w => k0 (g 5) w)]) h hn mH ⟨h0, trivial⟩
def zJ (kn : K5) (k0 : K1) (kV Da gZ oH Dc : atP) (w : atO) : Prop :=
 Dl (fun kV Da gZ oH Dc w => DB kn kV Da gZ oH Dc w) k0 kV Da gZ oH Dc w
def DY (k0 : K1) (kV Da gZ oH Dc : atP) (w : atO) : Prop :=
 kE (fun (X : (atP × atP) -> K0) (t : atP × atP) (w : atO) => zJ (fun _ _ _ oH Dc w => X (oH, Dc) w) k0 kV Da gZ t.1 t.2 w) (oH, Dc) w
theorem Oc (kn : K5) (k0 : K1) (hn : N5 Q kn 0 4 5 6 7) (h0 : E1 Q k0 0 5) (h : zJ kn k0 (g 0) (g 4) (g 5) (g 6) (g 7) w) : jK pg kM (bI (bI (fV 1 (gS 1 (fV 5 kD))))) Q g w :=
 oB 1 (OI _ g w (DB kn) k0 (fun g w h => iB (oB 1 (OC _ g w (AL kn) (fun g w h => iB (PA _ g w kn hn h)) h))) h0 h)
theorem NL (k0 : K1) (h0 : E1 Q k0 0 5) (h : DY k0 (g 0) (g 4) (g 5) (g 6) (g 7) w) : jK pg kM (bI (fV 1 (gS 1 (fV 5 kD)))) Q g w := by
 refine MG (fun g : Env => (g 6, g 7)) (fun X t w => zJ (fun _ _ _ oH Dc w => X (oH, Dc) w) k0 (g 0) (g 4) (g 5) t.1 t.2 w) h (fun X g1 w1 ha hL => ?_)
 rw [<- qO 0 ha, <- qO 4 ha, <- qO 5 ha] at hL
 exact (Oc _ g1 w1 (fun _ _ _ oH Dc w => X (oH, Dc) w) k0 (fun _ _ h => h) h0 hL)
def Dk (kn : K1) (kV Da gZ oH Dc : atP) (w : atO) : Prop :=
 DY kn kV Da gZ oH Dc w
def Ee (kn : K5) (kV Da gZ oH : atP) (w : atO) : Prop :=
 kn kV Da gZ oH (atQ 1) w
theorem Pa (kn : K5) (hn : N5 Q kn 0 4 5 6 7) (h : Ee kn (g 0) (g 4) (g 5) (g 6) w) : jK pg kM (gS 1 (gS 1 (fV 5 kD))) Q g w :=
 lM (kr := no) (l := []) h hn mH trivial
def DQ (kn : K1) (kV Da gZ oH : atP) (w : atO) : Prop :=
 Ee (fun kV Da gZ oH Dc w => Dk kn kV Da gZ oH Dc w) kV Da gZ oH w
def Dz (R : K1) (kV Da gZ oH : atP) (w : atO) : Prop :=
 DQ (fun gZ w => AI R gZ w) kV Da gZ oH w
theorem OM (kn : K1) (hn : N1 Q kn 5) (h : DQ kn (g 0) (g 4) (g 5) (g 6) w) : jK pg kM (gS 1 (fV 5 kD)) Q g w :=
 oB 1 (Pa _ g w (Dk kn) (fun g w h => iB (GV 0 (NL _ g w kn hn h))) h)
def Aa (kn : K4) (R : K1) (kV : atP) (w : atO) : Prop :=
 jD pg yH #[kV] w fun c0 w =>
 gE pg (gW .eql 3 (.tmp 11) (.const (atQ 0)) c0 (atQ 0)) w fun c2 w =>
 mX c2
  (R (.tuple #[(.slice none 0 0), (atQ 1)]) w)
  (gE pg (oD .len #[22] 3 [kV]) w fun c4 w =>
  gE pg (uF 225 c4 c4) w fun c5 w =>
  kn kV c0 c5 (atQ 0) w)
theorem OA (kn : K4) (R : K1) (hn : N4 Q kn 0 4 5 6) (hr : HR AP R Q) (h : Aa kn R (g 0) w) : jK pg kM (gS 5 kD) Q g w :=
 lM (l := []) h hn hr trivial
def zV (R : K1) (kV : atP) (w : atO) : Prop :=
 Aa (fun kV Da gZ oH w => Dz R kV Da gZ oH w) R kV w
theorem OQ (R : K1) (hr : HR AP R Q) (h : zV R (g 0) w) : jK pg kM kD Q g w :=
 oB 5 (OA _ g w (Dz R) R (fun g w h => iB (oB 1 (OM _ g w (AI R) (fun g w h => iB (P7 _ g w R hr h)) h))) hr h)
def JP (a0 : atP) (w : atO) (R : K1) : Prop :=
 zV R a0 w
theorem HM {a0 : atP} {w : atO} {R : K1} (h : JP a0 w R) : jD pg tL #[a0] w R := by
 refine Bp (ann := kM) Tryz.f134 kD [a0] AP 52 TryzM.mixed Tryz.func134 ?_
 exact (OQ _ _ _ R (fun _ _ h => h) h)
def nT : FA := ⟨nI, fun i => match Nat.beq i 6 with | true => .leaf ([12], []) [(false, []), (false, []), (false, []), (false, []), (false, []), (false, []), (false, []), (false, []), (false, []), (false, []), (false, []), (false, []), (true, [])] | false => .leaf ([], []) []⟩
def Ax : List ResultVar := [.cell 4 22, .cell 5 24]
noncomputable def jN : Code := kB Tryz.f135
def zY (kn : K0) (R : K1) (nJ b4 b5 NG s_8 : atP) (w : atO) : Prop :=
 gE pg (nS 5 3 s_8) w fun c5 w =>
 gE pg (jF 225 nJ) w fun c6 w =>
 gE pg (oD .len #[225] 3 [c6]) w fun c7 w =>
 gE pg (gW .geq 3 iK iK c5 c7) w fun c8 w =>
 Gd (kP c8 false) (fun K => gE pg (jF 225 nJ) w K) w fun d0 w =>
 Gd (kP c8 false) (fun K => K s_8 w) w fun d1 w =>
 Gd (kP c8 false) (fun K => gE pg (jO 225 d0 d1) w K) w fun d2 w =>
 Gd (kP c8 false) (fun K => gE pg (jJ 241 d2 0) w K) w fun d3 w =>
 Gd (kP c8 false) (fun K => gE pg (jF 3 d3) w K) w fun d4 w =>
 Gd (kP c8 false) (fun K => gE pg (gW .eql 3 (.tmp 24) (.const (atQ 0)) d4 (atQ 0)) w K) w fun d5 w =>
 gE pg (mJ c8 (.bool true) d5) w fun d6 w =>
 mX d6
  (gE pg (kA 22 b4 (.slice none 0 0)) w fun _u w =>
  gE pg (kA 24 b5 (atQ 1)) w fun _u w =>
  R (.tuple #[]) w)
  (gE pg (jF 170 NG) (dr w) fun d7 w_ => w_ = (dr w) /\
  gE pg (jF 225 nJ) (dr w) fun d8 w_ => w_ = (dr w) /\
  (dr w) = (dr w) /\
  gE pg (jO 225 d8 s_8) (dr w) fun e0 w_ => w_ = (dr w) /\
  gE pg (jJ 241 e0 1) (dr w) fun e1 w_ => w_ = (dr w) /\
  gE pg (jF 3 e1) (dr w) fun e2 w_ => w_ = (dr w) /\
  gE pg (nS 3 32 e2) (dr w) fun e3 w_ => w_ = (dr w) /\
  gE pg (jF 225 nJ) (dr w) fun e4 w_ => w_ = (dr w) /\
  (dr w) = (dr w) /\
  gE pg (jO 225 e4 s_8) (dr w) fun e6 w_ => w_ = (dr w) /\
  gE pg (jJ 241 e6 0) (dr w) fun e7 w_ => w_ = (dr w) /\
  gE pg (jF 3 e7) (dr w) fun e8 w_ => w_ = (dr w) /\
  jD pg qE #[d7, e3, e8] (dr w) fun e9 alW =>
  kn alW)
theorem Oj (kn : K0) (R : K1) (hn : N0 Q kn) (hr : HR ajT R Q) (h : zY kn R (g 2) (g 4) (g 5) (g 6) (g 8) w) : jK pg nT (YU jN) Q g w :=
 lM (l := []) h hn hr trivial
def Dp (kn : K5) (nJ b4 b5 NG c3 : atP) (w : atO) : Prop :=
 kn nJ b4 b5 NG c3 w
theorem O2 (kn : K5) (hn : N5 Q kn 2 4 5 6 8) (h : Dp kn (g 2) (g 4) (g 5) (g 6) (g 13) w) : jK pg nT (abE jN) Q g w :=
 lM (kr := no) (l := []) h hn mH trivial
def My (l : Nat) (R : K1) (nJ b4 b5 NG c3 : atP) (w : atO) : Prop :=
 Dp (fun nJ b4 b5 NG s_8 w => Rdy l w fun w => zY (fun w => XT l none R w) (fun _ w => XT l (some .ret) R w) nJ b4 b5 NG s_8 w) nJ b4 b5 NG c3 w
theorem S3 {l : Nat} {tmps : Array atP} {w : atO} {R : K1} (hsz : tmps.size = 42) (h : My l R (MV tmps 2) (MV tmps 4) (MV tmps 5) (MV tmps 6) (MV tmps 13) w) : Wj pg l nI tmps (abE jN) (YU jN) w R :=
 dsR (ann := nT) 42 TryzM.mixed hsz (O2 (asQ pg nT l (YU jN) R) (MV tmps) w (fun nJ b4 b5 NG s_8 w => Rdy l w fun w => zY (XT l none R) (fun _ w => XT l (some .ret) R w) nJ b4 b5 NG s_8 w) (fun g w h => let ⟨r, h1, h2, h3⟩ := h; ⟨r, h1, h2, (Oj (Xh l R) g _ (XT l none R) (fun _ w => XT l (some .ret) R w) (fun _ _ h => h) (fun _ _ h => h) h3)⟩) h) (by kernel_rfl) (by kernel_rfl) (by kernel_rfl)
def AD (R : K1) (b4 b5 NG t1000003 : atP) (w : atO) : Prop :=
 gE pg (jF 170 NG) w fun f0 w =>
 jD pg tO #[f0] w fun f1 w =>
 gE pg (kA 22 b4 f1) w fun _u w =>
 gE pg (kA 24 b5 (atQ 0)) w fun _u w =>
 Ey t1000003 w fun w => UE pg 22 b4 w fun r0 => UE pg 24 b5 w fun r1 => R (.tuple #[r0, r1]) w
theorem SK (R : K1) (hr : HRF Ax R Q) (h : AD R (g 4) (g 5) (g 6) (g 1000003) w) : jK pg nT (fV 1 (fV 2 jN)) Q g w :=
 lM (kn := no) (l := []) h mH hr trivial
def Hv (kn : K4) (R : K1) (nJ b4 b5 NG c1 t1000003 : atP) (w : atO) : Prop :=
 ∀ g : Env, g 2 = nJ -> g 4 = b4 -> g 5 = b5 -> g 6 = NG -> g 11 = c1 -> g 1000003 = t1000003 -> RF pg nI (.tmp 11) (agL jN) (abE jN) (YU jN) (exQ (fun g w => kn (g 4) (g 5) (g 6) (g 1000003) w) (fun g w => Ey (g 1000003) w fun w => UE pg 22 (g 4) w fun r0 => UE pg 24 (g 5) w fun r1 => R (.tuple #[r0, r1]) w) []) g w
theorem RJ (kn : K4) (R : K1) (hn : N4 Q kn 4 5 6 1000003) (hr : HRF Ax R Q) (h : Hv kn R (g 2) (g 4) (g 5) (g 6) (g 11) (g 1000003) w) : jK pg nT (bI (fV 1 (gS 1 (fV 2 jN)))) Q g w :=
 lM (l := []) (h g rfl rfl rfl rfl rfl rfl) hn hr trivial
def HV (kn : K4) (R : K1) (nJ b4 b5 NG c1 t1000003 : atP) (w : atO) : Prop :=
 Hv kn R nJ b4 b5 NG c1 t1000003 w
def Ip (kn : K6) (Tm nJ b4 b5 NG t1000003 : atP) (w : atO) : Prop :=
 jD pg xE #[Tm] w fun c1 w =>
 kn nJ b4 b5 NG c1 t1000003 w
theorem SO (kn : K6) (hn : N6 Q kn 2 4 5 6 11 1000003) (h : Ip kn (g 1) (g 2) (g 4) (g 5) (g 6) (g 1000003) w) : jK pg nT (gS 1 (gS 1 (fV 2 jN))) Q g w :=
 lM (kr := no) (l := []) h hn mH trivial
def Ht (kn : K4) (R : K1) (Tm nJ b4 b5 NG t1000003 : atP) (w : atO) : Prop :=
 Ip (fun nJ b4 b5 NG c1 t1000003 w => HV kn R nJ b4 b5 NG c1 t1000003 w) Tm nJ b4 b5 NG t1000003 w
def H9 (R : K1) (Tm nJ b4 b5 NG t1000003 : atP) (w : atO) : Prop :=
 Ht (fun b4 b5 NG t1000003 w => AD R b4 b5 NG t1000003 w) R Tm nJ b4 b5 NG t1000003 w
theorem SP (kn : K4) (R : K1) (hn : N4 Q kn 4 5 6 1000003) (hr : HRF Ax R Q) (h : Ht kn R (g 1) (g 2) (g 4) (g 5) (g 6) (g 1000003) w) : jK pg nT (gS 1 (fV 2 jN)) Q g w :=
 oB 1 (SO _ g w (HV kn R) (fun g w h => iB (GV 0 (RJ _ g w kn R hn hr h))) h)
def Hz (kn : K6) (Xn Tm t1000003 : atP) (w : atO) : Prop :=
 gE pg (QM 225 Xn) w fun nJ w =>
 gE pg (pX 22) w fun b4 w =>
 gE pg (pX 24) w fun b5 w =>
 jD pg AT #[] w fun b9 w =>
 gE pg (pX 170) w fun NG w =>
 gE pg (kA 170 NG b9) w fun _u w =>
 kn Tm nJ b4 b5 NG t1000003 w
theorem R0 (kn : K6) (hn : N6 Q kn 1 2 4 5 6 1000003) (h : Hz kn (g 0) (g 1) (g 1000003) w) : jK pg nT (gS 2 jN) Q g w :=
 lM (kr := no) (l := []) h hn mH trivial
def HX (R : K1) (Xn Tm t1000003 : atP) (w : atO) : Prop :=
 Hz (fun Tm nJ b4 b5 NG t1000003 w => H9 R Tm nJ b4 b5 NG t1000003 w) Xn Tm t1000003 w
theorem RA (R : K1) (hr : HRF Ax R Q) (h : HX R (g 0) (g 1) (g 1000003) w) : jK pg nT jN Q g w :=
 oB 2 (R0 _ g w (H9 R) (fun g w h => iB (oB 1 (SP _ g w (AD R) R (fun g w h => iB (SK _ g w R hr h)) hr h))) h)
def Ui (a0 a1 : atP) (w : atO) (R : K1) : Prop :=
 HX R a0 a1 undef w
theorem TK {a0 a1 : atP} {w : atO} {R : K1} (h : Ui a0 a1 w R) : jD pg nI #[a0, a1] w R := by
 refine dsF (ann := nT) Tryz.f135 jN [a0, a1] Ax 42 TryzM.mixed Tryz.func135 ?_
 exact (RA _ _ _ R (fun _ _ h => h) h)
def Oa : FA := ⟨G1, fun i => .leaf ([], []) []⟩
def Qk : List ResultVar := [.cell 2 139, .tmp 3]
noncomputable def Mx : Code := kB Tryz.f136
def JN (R : K1) (n_0 : atP) (w : atO) : Prop :=
 gE pg (pX 139) w fun b2 w =>
 gE pg (gW .add 3 iK iK n_0 (atQ 4)) w fun b6 w =>
 gE pg (gW .sub 3 iK iK b6 (atQ 1)) w fun b7 w =>
 gE pg (gW .quo 3 iK iK b7 (atQ 4)) w fun b8 w =>
 gE pg (gW .mul 3 iK iK (atQ 3) b8) w fun c4 w =>
 gE pg (gW .sub 3 iK iK n_0 c4) w fun c5 w =>
 gE pg (mL 139 [(0, b8), (1, b8), (2, b8), (3, c5)]) w fun c6 w =>
 gE pg (gW .mul 3 iK iK (atQ 3) b8) w fun c9 w =>
 gE pg (gW .geq 3 iK iK n_0 c9) w fun d0 w =>
 gE pg (kA 139 b2 c6) w fun _u w =>
 UE pg 139 b2 w fun r0 => R (.tuple #[r0, d0]) w
theorem TN (R : K1) (hr : HR Qk R Q) (h : JN R (g 0) w) : jK pg Oa Mx Q g w :=
 lM (kn := no) (l := []) h mH hr trivial
def Vi (a0 : atP) (w : atO) (R : K1) : Prop :=
 JN R a0 w
theorem UA {a0 : atP} {w : atO} {R : K1} (h : Vi a0 w R) : jD pg G1 #[a0] w R := by
 refine Bp (ann := Oa) Tryz.f136 Mx [a0] Qk 21 TryzM.mixed Tryz.func136 ?_
 exact (TN _ _ _ R (fun _ _ h => h) h)
def BZ : FA := ⟨xE, fun i => .leaf ([], []) []⟩
def C6 : List ResultVar := [.tmp 2]
noncomputable def Ba : Code := kB Tryz.f145
def vM (R : K1) (EB : atP) (w : atO) : Prop :=
 gE pg (QM 22 EB) w fun s_1 w =>
 gE pg (Vy (.func 151) [] [s_1]) w fun b3 w =>
 R b3 w
theorem IC (R : K1) (hr : HR C6 R Q) (h : vM R (g 0) w) : jK pg BZ Ba Q g w :=
 lM (kn := no) (l := []) h mH hr trivial
def F5 (a0 : atP) (w : atO) (R : K1) : Prop :=
 vM R a0 w
theorem IU {a0 : atP} {w : atO} {R : K1} (h : F5 a0 w R) : jD pg xE #[a0] w R := by
 refine Bp (ann := BZ) Tryz.f145 Ba [a0] C6 4 TryzM.mixed Tryz.func145 ?_
 exact (IC _ _ _ R (fun _ _ h => h) h)
def nU : FA := ⟨oR, fun i => .leaf ([], []) []⟩
def pU : List ResultVar := []
noncomputable def nN : Code := kB Tryz.f151
def pV (kn : K3) (k0 : K0) (R : K1) (zK b1 Xw : atP) (w : atO) : Prop :=
 gE pg (gW .geq 3 iK iK Xw (atQ 0)) w fun b8 w =>
 mX b8
  (gE pg (jF 22 b1) w fun c3 w =>
  gE pg (jO 22 c3 Xw) w fun c5 w =>
  gE pg (jF 5 c5) w fun c6 w =>
  gE pg (Cq zK [Xw, c6]) w fun c7 w =>
  gE pg (YG .not c7) w fun c8 w =>
  mX c8
   (R (.tuple #[]) w)
   (gE pg (gW .sub 3 iK iK Xw (atQ 1)) w fun c0 w =>
   kn zK b1 c0 w))
  (k0 w)
theorem Fy (kn : K3) (k0 : K0) (R : K1) (hn : N3 Q kn 0 1 3) (h0 : E0 Q k0 0) (hr : HR pU R Q) (h : pV kn k0 R (g 0) (g 1) (g 3) w) : jK pg nU (bI (bI (fV 1 nN))) Q g w :=
 lM (l := [(0, fun g w => k0 w)]) h hn hr ⟨h0, trivial⟩
def sI (k0 : K0) (R : K1) (zK b1 Xw : atP) (w : atO) : Prop :=
 kE (fun (X : atP -> K0) (t : atP) (w : atO) => pV (fun _ _ Xw w => X Xw w) k0 R zK b1 t w) Xw w
theorem FD (k0 : K0) (R : K1) (h0 : E0 Q k0 0) (hr : HR pU R Q) (h : sI k0 R (g 0) (g 1) (g 3) w) : jK pg nU (bI (fV 1 nN)) Q g w := by
 refine MG (fun g : Env => g 3) (fun X t w => pV (fun _ _ Xw w => X Xw w) k0 R (g 0) (g 1) t w) h (fun X g1 w1 ha hL => ?_)
 rw [<- qO 0 ha, <- qO 1 ha] at hL
 exact (Fy _ g1 w1 (fun _ _ Xw w => X Xw w) k0 R (fun _ _ h => h) h0 hr hL)
def sG (kn : K0) (R : K1) (zK b1 Xw : atP) (w : atO) : Prop :=
 sI kn R zK b1 Xw w
def sH (kn : K3) (zK b1 : atP) (w : atO) : Prop :=
 gE pg (jF 22 b1) w fun b4 w =>
 gE pg (oD .len #[22] 3 [b4]) w fun b5 w =>
 gE pg (gW .sub 3 iK iK b5 (atQ 1)) w fun b6 w =>
 kn zK b1 b6 w
theorem FF (kn : K3) (hn : N3 Q kn 0 1 3) (h : sH kn (g 0) (g 1) w) : jK pg nU (gS 1 nN) Q g w :=
 lM (kr := no) (l := []) h hn mH trivial
def rZ (kn : K0) (R : K1) (zK b1 : atP) (w : atO) : Prop :=
 sH (fun zK b1 Xw w => sG kn R zK b1 Xw w) zK b1 w
theorem FM (kn : K0) (R : K1) (hn : N0 Q kn) (hr : HR pU R Q) (h : rZ kn R (g 0) (g 1) w) : jK pg nU nN Q g w :=
 oB 1 (FF _ g w (sG kn R) (fun g w h => iB (GV 0 (FD _ g w kn R hn hr h))) h)
def BV (a0 a1 : atP) (w : atO) (R : K1) : Prop :=
 rZ (fun  w => R (.tuple #[]) w) R a0 a1 w
theorem Gf {a0 a1 : atP} {w : atO} {R : K1} (h : BV a0 a1 w R) : jD pg oR #[a0, a1] w R := by
 refine Bp (ann := nU) Tryz.f151 nN [a0, a1] pU 19 TryzM.mixed Tryz.func151 ?_
 exact (FM _ _ _ (fun  w => R (.tuple #[]) w) R (fun _ _ h => h) (fun _ _ h => h) h)
end Go.Proofs.YtoecppploooloaaGreatDoor
namespace Go.En
open Go
section
variable {P : Program} {w : atO} {t : TypeId} {ox oy : Operand} {k : IntKind} {a b : Int}
theorem rQ (s : Sem atP) : (V s).run P w = (s.run P w).andThen fun v w => .ok (.value v) w := by
 unfold V; rw [Sem.run_bind] <;> rfl
theorem alF (s : Sem Unit) : (U s).run P w = (s.run P w).andThen fun _ w => .ok .skip w := by
 unfold U; rw [Sem.run_bind] <;> rfl
theorem hO : (gW .add t ox oy (.int k a) (.int k b)).run P w = .ok (.value (.int k (k.wrap (a + b)))) w := by
 simp [gW, I0, rQ, binOp, Op.intArith]
theorem iA : (gW .sub t ox oy (.int k a) (.int k b)).run P w = .ok (.value (.int k (k.wrap (a - b)))) w := by
 simp [gW, I0, rQ, binOp, Op.intArith]
theorem iO : (gW .mul t ox oy (.int k a) (.int k b)).run P w = .ok (.value (.int k (k.wrap (a * b)))) w := by
 simp [gW, I0, rQ, binOp, Op.intArith]
theorem iM (h : b ≠ 0) : (gW .quo t ox oy (.int k a) (.int k b)).run P w = .ok (.value (.int k (k.wrap (a.tdiv b)))) w := by
 simp [gW, I0, rQ, binOp, Op.intDiv, h]
theorem iJ (h : b ≠ 0) : (gW .rem t ox oy (.int k a) (.int k b)).run P w = .ok (.value (.int k (a.tmod b))) w := by
 simp [gW, I0, rQ, binOp, Op.intDiv, h]
def Zk (k : IntKind) (a b : Int) : Int := k.wrap (BitVec.ofInt k.bits a &&& BitVec.ofInt k.bits b).toNat
def UU (k : IntKind) (a b : Int) : Int := k.wrap (BitVec.ofInt k.bits a ||| BitVec.ofInt k.bits b).toNat
def QT (k : IntKind) (a b : Int) : Int := k.wrap (BitVec.ofInt k.bits a ^^^ BitVec.ofInt k.bits b).toNat
def Z8 (k : IntKind) (a b : Int) : Int := k.wrap (BitVec.ofInt k.bits a &&& ~~~BitVec.ofInt k.bits b).toNat
theorem iL : (gW .and t ox oy (.int k a) (.int k b)).run P w = .ok (.value (.int k (Zk k a b))) w := by
 simp [gW, I0, rQ, binOp, Op.intBits, Zk]
theorem jH : (gW .or t ox oy (.int k a) (.int k b)).run P w = .ok (.value (.int k (UU k a b))) w := by
 simp [gW, I0, rQ, binOp, Op.intBits, UU]
theorem iT : (gW .xor t ox oy (.int k a) (.int k b)).run P w = .ok (.value (.int k (QT k a b))) w := by
 simp [gW, I0, rQ, binOp, Op.intBits, QT]
theorem gL : (gW .andNot t ox oy (.int k a) (.int k b)).run P w = .ok (.value (.int k (Z8 k a b))) w := by
 simp [gW, I0, rQ, binOp, Op.intBits, Z8]
theorem iD {k' : IntKind} (h : 0 <= b) : (gW .shl t ox oy (.int k a) (.int k' b)).run P w = .ok (.value (.int k (k.wrap (a * 2 ^ (min b.toNat k.bits))))) w := by
 simp [gW, I0, rQ, binOp, Op.shift, Int.not_lt.2 h]
theorem iF {k' : IntKind} (h : 0 <= b) : (gW .shr t ox oy (.int k a) (.int k' b)).run P w = .ok (.value (.int k (a.fdiv (2 ^ (min b.toNat k.bits))))) w := by
 simp [gW, I0, rQ, binOp, Op.shift, Int.not_lt.2 h]
theorem iC : (gW .eql t ox oy (.int k a) (.int k b)).run P w = .ok (.value (.bool (a == b))) w := by
 simp [gW, I0, rQ, binOp, Op.intCmp, eqGuard]
theorem iH : (gW .neq t ox oy (.int k a) (.int k b)).run P w = .ok (.value (.bool (a != b))) w := by
 simp [gW, I0, rQ, binOp, Op.intCmp, eqGuard]
theorem hJ : (gW .lss t ox oy (.int k a) (.int k b)).run P w = .ok (.value (.bool (decide (a < b)))) w := by
 simp [gW, I0, rQ, binOp, Op.intCmp]
theorem iN : (gW .leq t ox oy (.int k a) (.int k b)).run P w = .ok (.value (.bool (decide (a <= b)))) w := by
 simp [gW, I0, rQ, binOp, Op.intCmp]
theorem hU : (gW .gtr t ox oy (.int k a) (.int k b)).run P w = .ok (.value (.bool (decide (b < a)))) w := by
 simp [gW, I0, rQ, binOp, Op.intCmp]
theorem iE : (gW .geq t ox oy (.int k a) (.int k b)).run P w = .ok (.value (.bool (decide (b <= a)))) w := by
 simp [gW, I0, rQ, binOp, Op.intCmp]
theorem iR : (YG .neg (.int k a)).run P w = .ok (.value (.int k (k.wrap (0 - a)))) w := by
 simp [YG, rQ, Op.unary, Op.intArith]
theorem iS : (YG .xor (.int k a)).run P w = .ok (.value (.int k (QT k (if k.signed then -1 else k.max) a))) w := by
 simp [YG, rQ, Op.unary, Op.intBits, QT]
theorem iI (c : Bool) : (YG .not (.bool c)).run P w = .ok (.value (.bool !c)) w := by
 simp [YG, rQ, Op.unary]
theorem gQ (c : Bool) (x y : atP) : (mJ (.bool c) x y).run P w = .ok (.value (if c then x else y)) w := by
 simp [mJ, asBool]
theorem Yy {x y : atP} {r : Bool} (hg : eqGuard .eql t ox oy x y = pure ()) (hb : binOp .eql t x y = (do pure (.bool (<- Op.equal t x y)))) (he : (Op.equal t x y).run P w = .ok r w) :
 (gW .eql t ox oy x y).run P w = .ok (.value (.bool r)) w := by
 unfold gW
 simp only [I0, rQ, hg, hb, pure_bind]
 rw [Sem.run_bind, he] <;> rfl
theorem aeZ {x y : atP} {r : Bool} (hg : eqGuard .neq t ox oy x y = pure ()) (hb : binOp .neq t x y = (do pure (.bool (!(<- Op.equal t x y))))) (he : (Op.equal t x y).run P w = .ok r w) :
 (gW .neq t ox oy x y).run P w = .ok (.value (.bool (!r))) w := by
 unfold gW
 simp only [I0, rQ, hg, hb, pure_bind]
 rw [Sem.run_bind, he] <;> rfl
theorem gY {n : Int} (h0 : -9223372036854775808 <= n) (h1 : n <= 9223372036854775807) : IntKind.i64.wrap n = n := by
 unfold IntKind.wrap; simp [IntKind.bits, IntKind.signed]; split <;> omega
theorem hZ {n : Int} (h0 : 0 <= n) (h1 : n <= 18446744073709551615) : IntKind.u64.wrap n = n := by
 unfold IntKind.wrap; simp [IntKind.bits, IntKind.signed]; omega
theorem iV {n : Int} (h0 : -2147483648 <= n) (h1 : n <= 2147483647) : IntKind.i32.wrap n = n := by
 unfold IntKind.wrap; simp [IntKind.bits, IntKind.signed]; split <;> omega
theorem iW {n : Int} (h0 : 0 <= n) (h1 : n <= 4294967295) : IntKind.u32.wrap n = n := by
 unfold IntKind.wrap; simp [IntKind.bits, IntKind.signed]; omega
theorem iU {n : Int} (h0 : 0 <= n) (h1 : n <= 65535) : IntKind.u16.wrap n = n := by
 unfold IntKind.wrap; simp [IntKind.bits, IntKind.signed]; omega
theorem jG {n : Int} (h0 : 0 <= n) (h1 : n <= 255) : IntKind.u8.wrap n = n := by
 unfold IntKind.wrap; simp [IntKind.bits, IntKind.signed]; omega
theorem wu8 (n : Int) : IntKind.u8.wrap n = n % 256 := by
 unfold IntKind.wrap; simp [IntKind.bits, IntKind.signed]
theorem ajN (x y : ByteArray) : (gW .eql t ox oy (.string x) (.string y)).run P w = .ok (.value (.bool (x.toList == y.toList))) w := by
 simp [gW, I0, rQ, binOp, Op.stringOp, eqGuard]
theorem afV (n : Nat) {e : TypeId} (hu : P.underlying t = some (.pointer e)) (x : Option Addr) : (Op.equalIn (n + 1) t (.pointer x) (.pointer none)).run P w = .ok x.isNone w := by
 simp only [Op.equalIn, underlying]
 cases x <;> simp [hu]
theorem afB {e : TypeId} (hu : P.underlying t = some (.pointer e)) (x : Option Addr) : (Op.equal t (.pointer x) (.pointer none)).run P w = .ok x.isNone w := afV 9999 hu x
theorem ahX (m : Nat) {e : TypeId} (hu : P.underlying t = some (.slice e)) (x : Option Addr) (n c : Nat) : (Op.equalIn (m + 1) t (.slice x n c) (.slice none 0 0)).run P w = .ok x.isNone w := by
 simp only [Op.equalIn, underlying]
 cases x <;> simp [hu]
theorem amA {e : TypeId} (hu : P.underlying t = some (.slice e)) (x : Option Addr) (n c : Nat) : (Op.equal t (.slice x n c) (.slice none 0 0)).run P w = .ok x.isNone w := ahX 9999 hu x n c
theorem Xf {e : TypeId} (hu : P.underlying t = some (.pointer e)) (x : Option Addr) : (gW .eql t ox oy (.pointer x) (.pointer none)).run P w = .ok (.value (.bool x.isNone)) w :=
 Yy rfl rfl (afB hu x)
theorem akE {e : TypeId} (hu : P.underlying t = some (.pointer e)) (x : Option Addr) : (gW .neq t ox oy (.pointer x) (.pointer none)).run P w = .ok (.value (.bool (!x.isNone))) w :=
 aeZ rfl rfl (afB hu x)
theorem ahK {e : TypeId} (hu : P.underlying t = some (.slice e)) (x : Option Addr) (n c : Nat) : (gW .eql t ox oy (.slice x n c) (.slice none 0 0)).run P w = .ok (.value (.bool x.isNone)) w :=
 Yy rfl rfl (amA hu x n c)
theorem BO {s : TypeId} {d : TypeDesc} {kd : IntKind} (hs : P.underlying s = some d) (hu : P.underlying t = some (.int kd)) : (nS s t (.int k a)).run P w = .ok (.value (.int kd (kd.wrap a))) w := by
 cases d <;> simp [nS, rQ, convert, underlying, hs, hu, Conv.intToInt]
theorem QN {ty : TypeId} {e : TypeId} (hu : P.underlying t = some (.slice e)) (x : Option Addr) (n c : Nat) : (oD .len #[t] ty [.slice x n c]).run P w = .ok (.value (.int .i64 n)) w := by
 simp [oD, builtin, Builtin.len_, underlying, hu, goInt]
theorem iQ {ats : Array TypeId} {ty : TypeId} : (oD .min ats ty [.int k a, .int k b]).run P w = .ok (.value (.int k (if b < a then b else a))) w := by
 simp [oD, builtin, Builtin.min_, Builtin.min2]
theorem iP {ats : Array TypeId} {ty : TypeId} : (oD .max ats ty [.int k a, .int k b]).run P w = .ok (.value (.int k (if b > a then b else a))) w := by
 simp [oD, builtin, Builtin.max_, Builtin.max2]
theorem kR (a b : atP) : (jU (.tuple #[a, b]) 0).run P w = .ok (.value a) w := Eq.trans rfl rfl
theorem kQ (a b : atP) : (jU (.tuple #[a, b]) 1).run P w = .ok (.value b) w := Eq.trans rfl rfl
theorem lE (a b c : atP) : (jU (.tuple #[a, b, c]) 0).run P w = .ok (.value a) w := Eq.trans rfl rfl
theorem lH (a b c : atP) : (jU (.tuple #[a, b, c]) 1).run P w = .ok (.value b) w := Eq.trans rfl rfl
theorem lG (a b c : atP) : (jU (.tuple #[a, b, c]) 2).run P w = .ok (.value c) w := Eq.trans rfl rfl
theorem lD (a b c d : atP) : (jU (.tuple #[a, b, c, d]) 0).run P w = .ok (.value a) w := Eq.trans rfl rfl
theorem lF (a b c d : atP) : (jU (.tuple #[a, b, c, d]) 1).run P w = .ok (.value b) w := Eq.trans rfl rfl
theorem lC (a b c d : atP) : (jU (.tuple #[a, b, c, d]) 2).run P w = .ok (.value c) w := Eq.trans rfl rfl
theorem lB (a b c d : atP) : (jU (.tuple #[a, b, c, d]) 3).run P w = .ok (.value d) w := Eq.trans rfl rfl
theorem iG (x : Addr) : (rN (.pointer (some x))).run P w = .ok (.value (.pointer (some x))) w := Eq.trans rfl rfl
theorem lY {fs : Array Field} {f : Field} {i : Nat} {inf : TypeInfo} (hu : P.underlying t = some (.struct fs)) (hf : fs[i]? = some f)
 (hi : P.info? f.type = some inf) (hz : inf.size ≠ 0) (x : Addr) : (jJ t (.pointer (some x)) i).run P w = .ok (.value (.pointer (some (x.add f.offset)))) w := by
 simp [jJ, rQ, Instr.fieldAt, underlying, hu, hf, Instr.sureAddr, fieldPlace, sizeOf, typeInfo, hi, hz]
theorem XH {e : TypeId} {inf : TypeInfo} (hu : P.underlying t = some (.slice e)) (hi : P.info? e = some inf) (x : Addr) (n c : Nat) (h0 : 0 <= a) (h1 : a < n) :
 (jO t (.slice (some x) n c) (.int k a)).run P w = .ok (.value (.pointer (some (x.add (a.toNat * inf.size))))) w := by
 simp [jO, rQ, Instr.indexAt, asIntOf, underlying, hu, h0, h1, sizeOf, typeInfo, hi]
theorem XC {e : TypeId} {len : Nat} {inf : TypeInfo} (hu : P.underlying t = some (.array len e)) (hi : P.info? e = some inf) (x : Addr) (h0 : 0 <= a) (h1 : a < len) :
 (jO t (.pointer (some x)) (.int k a)).run P w = .ok (.value (.pointer (some (x.add (a.toNat * inf.size))))) w := by
 simp [jO, rQ, Instr.indexAt, asIntOf, underlying, hu, h0, h1, sizeOf, typeInfo, hi, Instr.sureAddr]
theorem ajE (hu : P.underlying t = some .string) (x : ByteArray) (h0 : 0 <= a) (h1 : a.toNat < x.size) :
 (P8 t (.string x) (.int k a)).run P w = .ok (.value (.int .u8 (x[a.toNat]'h1).toNat)) w := by
 simp [P8, rQ, Instr.index, asIntOf, underlying, hu, h0, h1]
end
def mQ (w : atO) (b : Nat) (cs : List atP) : Prop :=
 ∃ T lo hi, w.heap[b]? = some (.cells cs.toArray T (lo, hi)) /\ (cs.length <= lo ∨ hi = lo)
structure jM (w w' : atO) (M : Nat -> Prop) : Prop where
 os : w'.os = w.os
 tape : w'.tape = w.tape
 output : w'.output = w.output
 size : w.heap.size <= w'.heap.size
 keep : ∀ b, b < w.heap.size -> ¬ M b -> w'.heap[b]? = w.heap[b]?
def mN : Nat -> Prop := fun _ => False
theorem jM.refl (w : atO) (M : Nat -> Prop) : jM w w M := ⟨rfl, rfl, rfl, aoP _, fun _ _ _ => rfl⟩
theorem jM.mono {w w' : atO} {M N : Nat -> Prop} (h : jM w w' M) (hm : ∀ b, b < w.heap.size -> M b -> N b) : jM w w' N :=
 ⟨h.os, h.tape, h.output, h.size, fun b hb hn => h.keep b hb fun hM => hn (hm b hb hM)⟩
theorem jM.trans {a b c : atO} {M N : Nat -> Prop} (h : jM a b M) (k : jM b c N) (hn : ∀ x, x < a.heap.size -> N x -> M x) : jM a c M :=
 ⟨k.os.trans h.os, k.tape.trans h.tape, k.output.trans h.output, aqC h.size k.size,
   fun x hx hM => (k.keep x (arL hx h.size) fun h => hM (hn x hx h)).trans (h.keep x hx hM)⟩
theorem jM.seq {a b c : atO} {M : Nat -> Prop} (h : jM a b M) (k : jM b c M) : jM a c M := h.trans k fun _ _ h => h
theorem jM.new {a b c : atO} {M : Nat -> Prop} {x : Nat} (h : jM a b M) (k : jM b c (fun y => y = x)) (hx : a.heap.size <= x) : jM a c M :=
 h.trans k fun y hy e => absurd hy (by subst e; omega)
theorem jM.below {w w' : atO} (h : jM w w' mN) : Go.RowKit.Below w.heap.size w w' :=
 ⟨h.os, h.tape, h.output, h.size, fun k hk => h.keep k hk fun h => h⟩
theorem jM.dr (w : atO) (M : Nat -> Prop) : jM w (dr w) M := ⟨rfl, rfl, rfl, aoP _, fun _ _ _ => rfl⟩
theorem jM.alloc (w : atO) (o : Obj) (M : Nat -> Prop) : jM w (w.alloc o) M :=
 ⟨rfl, rfl, rfl, by simp, fun b hb _ => by show (w.heap.push o)[b]? = _; rw [Array.getElem?_push, if_neg (by omega)]⟩
theorem Uy (w : atO) (a : Addr) (v : atP) (b : Nat) (h : b ≠ a.block) : (w.setCell a v).heap[b]? = w.heap[b]? := Go.RowKit.Below.heap_setCell w a v b h
theorem jM.setCell (w : atO) (a : Addr) (v : atP) {M : Nat -> Prop} (h : a.block < w.heap.size -> M a.block) : jM w (w.setCell a v) M :=
 ⟨rfl, rfl, rfl, by simp, fun b hb hM => Uy w a v b fun e => hM (e ▸ h (e ▸ hb))⟩
theorem mQ.lt {w : atO} {b : Nat} {cs : List atP} (h : mQ w b cs) : b < w.heap.size := by
 obtain ⟨T, lo, hi, h, _⟩ := h
 rcases aoT b w.heap.size with h' | h'
 .exact h'
 .rw [aqI h'] at h; cases h
theorem mQ.ext {w w' : atO} {b : Nat} {cs : List atP} {M : Nat -> Prop} (h : mQ w b cs) (hx : jM w w' M) (hM : ¬ M b) : mQ w' b cs := by
 have := h.lt
 obtain ⟨T, lo, hi, h, k⟩ := h
 exact ⟨T, lo, hi, by rw [hx.keep b this hM]; exact h, k⟩
theorem mQ.cell {w : atO} {b off : Nat} {cs : List atP} (h : mQ w b cs) : w.cell? ⟨b, off, none⟩ = cs[off]? := by
 obtain ⟨T, lo, hi, h, _⟩ := h
 simp [World.cell?, h]
theorem mQ.free {w : atO} {b off : Nat} {cs : List atP} {s : Option Nat} (h : mQ w b cs) (ho : off < cs.length) : w.frozen? ⟨b, off, s⟩ = false := by
 obtain ⟨T, lo, hi, h, k⟩ := h
 simp only [World.frozen?, h]
 rcases k with k | k <;> (simp; omega)
theorem mQ.setCell {w : atO} {b off : Nat} {cs : List atP} (h : mQ w b cs) (v : atP) : mQ (w.setCell ⟨b, off, none⟩ v) b (cs.set off v) := by
 have hb := h.lt
 obtain ⟨T, lo, hi, h, k⟩ := h
 refine ⟨T, lo, hi, ?_, by simpa using k⟩
 simp only [World.setCell, arD, h]
 simp
theorem mQ.alloc (w : atO) (cs : List atP) (T : TypeId) : mQ (w.alloc (.cells cs.toArray T)) w.heap.size cs :=
 ⟨T, 0, 0, by show (w.heap.push _)[w.heap.size]? = _; simp, .inr rfl⟩
theorem aeA {w w' : atO} {M : Nat -> Prop} {a : Addr} {v : atP} (h : w.cell? a = some v) (hx : jM w w' M) (hM : ¬ M a.block) : w'.cell? a = some v := by
 have hb := World.block_lt_of_cell? w a h
 have e := hx.keep _ hb hM
 unfold World.cell? at h ⊢
 rw [e]; exact h
section
variable {P : Program} {w : atO} {t : TypeId}
def V4 (d : TypeDesc) : Bool := match d with | .struct _ | .array _ _ => true | _ => false
theorem Fk {d : TypeDesc} (hu : P.underlying t = some d) : (isAgg t).run P w = .ok (V4 d) w := by
 cases d <;> simp [isAgg, underlying, hu, V4]
theorem kU {i : TypeInfo} (hi : P.info? t = some i) : (sizeOf t).run P w = .ok i.size w := by simp [sizeOf, typeInfo, hi]
theorem Sa {b off : Nat} {cs : List atP} (ho : mQ w b cs) : ∀ (n i : Nat) (acc : Array atP), off + i + n <= cs.length →
 (loadCellsFrom ⟨b, off, none⟩ i n acc).run P w = .ok (acc ++ ((cs.drop (off + i)).take n).toArray) w := by
 intro n
 induction n with
 | zero => intro i acc _; simp [loadCellsFrom]
 | succ n ih =>
   intro i acc h
   have hc : w.cell? ((⟨b, off, none⟩ : Addr).add i) = some cs[off + i] := by
    unfold Addr.add
    split
    .rename_i hi; subst hi; rw [ho.cell]; simp
    .show w.cell? ⟨b, off + i, none⟩ = _; rw [ho.cell]; simp
   simp only [loadCellsFrom, Sem.run_bind, run_load, hc, Result.andThen_ok]
   rw [ih (i + 1) _ (by omega)]
   congr 1
   rw [aqP (by omega : off + i < cs.length)]
   simp [arN]
theorem QB {b off n : Nat} {cs : List atP} (ho : mQ w b cs) (h : off + n <= cs.length) :
 (loadCells ⟨b, off, none⟩ n).run P w = .ok ((cs.drop off).take n).toArray w := by
 unfold loadCells
 rw [Sa ho n 0 #[] (by omega)]
 simp
theorem S8 {d : TypeDesc} {i : TypeInfo} (hu : P.underlying t = some d) (hd : V4 d = true) (hi : P.info? t = some i) {b off : Nat} {cs : List atP} (ho : mQ w b cs) (h : off + i.size <= cs.length) :
 (jF t (.pointer (some ⟨b, off, none⟩))).run P w = .ok (.value (.agg ((cs.drop off).take i.size).toArray)) w := by
 unfold jF
 rw [rQ]
 simp only [Instr.loadAt, Instr.sureAddr, loadVar, pure_bind, Sem.run_bind, Fk hu, hd, Result.andThen_ok, if_true, kU hi, QB ho h, Sem.run_pure]
def one (v : atP) : Bool := match v with | .agg _ | .tuple _ => false | _ => true
theorem Y2 {a : Addr} {v x : atP} (hv : one v = true) (hc : w.cell? a = some x) (hf : w.frozen? a = false) : (store a v).run P w = .ok () (w.setCell a v) := by
 unfold store
 cases v <;> simp [one] at hv <;> simp [Sem.run, hc, hf]
def qL (cs : List atP) (off : Nat) : List atP -> List atP
 | [] => cs
 | v :: vs => qL (cs.set off v) (off + 1) vs
theorem Qx (vs : List atP) : ∀ (cs : List atP) (off : Nat), (qL cs off vs).length = cs.length := by
 induction vs with
 | nil => intro cs off; rfl
 | cons v vs ih => intro cs off; simp [qL, ih]
theorem Ei {b : Nat} {M : Nat -> Prop} (hM : M b) : ∀ (vs : List atP) (w : atO) (off i : Nat) (cs : List atP), mQ w b cs -> off + i + vs.length <= cs.length -> (∀ v ∈ vs, one v = true) →
 ∃ w', (storeCells ⟨b, off, none⟩ vs i).run P w = .ok () w' /\ mQ w' b (qL cs (off + i) vs) /\ jM w w' M /\ w'.heap.size = w.heap.size /\ w'.drawn = w.drawn := by
 intro vs
 induction vs with
 | nil => intro w off i cs ho _ _; exact ⟨w, by simp [storeCells], ho, jM.refl _ _, rfl, rfl⟩
 | cons v vs ih =>
   intro w off i cs ho h hv
   simp only [aoV] at h
   have ha : (⟨b, off, none⟩ : Addr).add i = ⟨b, off + i, none⟩ := by
    unfold Addr.add; split
    .rename_i hi; subst hi; rfl
    .rfl
   have hlt : off + i < cs.length := by omega
   have hc : w.cell? ⟨b, off + i, none⟩ = some cs[off + i] := by rw [ho.cell]; simp
   have hs := Y2 (P := P) (hv v (by simp)) hc (ho.free hlt)
   obtain ⟨w', h1, h2, h3, h4, h5⟩ := ih (w.setCell ⟨b, off + i, none⟩ v) off (i + 1) (cs.set (off + i) v) (ho.setCell v) (by simp; omega) (fun x hx => hv x (aoR _ hx))
   refine ⟨w', ?_, h2, (jM.setCell w _ v fun _ => hM).trans h3 (fun _ _ h => h), by rw [h4]; simp, by rw [h5] <;> rfl⟩
   simp only [storeCells, Sem.run_bind, ha, hs, Result.andThen_ok]
   exact h1
theorem G9 {i : TypeInfo} (hi : P.info? t = some i) {b off : Nat} {cs : List atP} (ho : mQ w b cs) {v : atP} (hs : v.cells.size = i.size)
 (hv : ∀ x ∈ v.cells.toList, one x = true) (h : off + i.size <= cs.length) {K : atP -> atO -> Prop}
 (hk : ∀ w', mQ w' b (qL cs off v.cells.toList) -> jM w w' (fun x => x = b) -> w'.heap.size = w.heap.size -> K undef w') : gE P (kA t (.pointer (some ⟨b, off, none⟩)) v) w K := by
 obtain ⟨w', h1, h2, h3, h4, _⟩ := Ei (P := P) (M := fun x => x = b) rfl v.cells.toList w off 0 cs ho (by simp [hs]; omega) hv
 have : (kA t (.pointer (some ⟨b, off, none⟩)) v).run P w = .ok .skip w' := by
  unfold kA
  rw [alF]
  simp only [Instr.storeAt, Instr.sureAddr, storeVar, pure_bind, Sem.run_bind, kU hi, Result.andThen_ok, hs]
  simp [h1]
 unfold gE
 rw [this]
 exact hk w' h2 h3 h4
theorem WM {v : atP} (hv : one v = true) : v.cells = #[v] := by cases v <;> simp [one] at hv <;> rfl
theorem Co {i : TypeInfo} (hi : P.info? t = some i) (h1 : i.size = 1) {b off : Nat} {cs : List atP} (ho : mQ w b cs) {v : atP} (hv : one v = true) (h : off < cs.length) {K : atP -> atO -> Prop}
 (hk : ∀ w', mQ w' b (cs.set off v) -> jM w w' (fun x => x = b) -> w'.heap.size = w.heap.size -> K undef w') : gE P (kA t (.pointer (some ⟨b, off, none⟩)) v) w K := by
 have e := WM hv
 refine G9 hi ho (by rw [e, h1] <;> rfl) (by rw [e]; simpa using hv) (by omega) fun w' a b c => hk w' ?_ b c
 rw [e] at a; exact a
def V1 (c : Option atP) (w : atO) (YH : Result Next) : Result Next := match c with | some v => .ok (.value v) w | none => YH
def YH (P : Program) (t : TypeId) (x : Addr) (w : atO) : Result Next := (jF t (.pointer (some x))).run P w
theorem gB (v : atP) (w : atO) (f : Result Next) : V1 (some v) w f = .ok (.value v) w := rfl
theorem TL {d : TypeDesc} (hu : P.underlying t = some d) (hd : V4 d = false) (x : Addr) (w : atO) :
 (jF t (.pointer (some x))).run P w = V1 (w.cell? x) w (YH P t x w) := by
 cases h : w.cell? x with
 | none => rfl
 | some v =>
   unfold jF
   rw [rQ]
   simp only [Instr.loadAt, Instr.sureAddr, loadVar, pure_bind, Sem.run_bind, Fk hu, hd, Result.andThen_ok, aoD, if_false, run_load, h, V1]
theorem Xu {d : TypeDesc} {i : TypeInfo} (hu : P.underlying t = some d) (hd : V4 d = true) (hi : P.info? t = some i) {b off : Nat} {cs : List atP} (ho : mQ w b cs) (h : off + i.size <= cs.length) {K : atP -> Prop}
 (hk : K (.agg ((cs.drop off).take i.size).toArray)) : UE P t (.pointer (some ⟨b, off, none⟩)) w K := by
 refine ⟨_, ?_, hk⟩
 simp only [asAddr, loadVar, pure_bind, Sem.run_bind, Fk hu, hd, Result.andThen_ok, if_true, kU hi, QB ho h, Sem.run_pure]
theorem ZS {d : TypeDesc} (hu : P.underlying t = some d) (hd : V4 d = false) {b off : Nat} {cs : List atP} (ho : mQ w b cs) {v : atP} (h : cs[off]? = some v) {K : atP -> Prop}
 (hk : K v) : UE P t (.pointer (some ⟨b, off, none⟩)) w K := by
 refine ⟨_, ?_, hk⟩
 simp only [asAddr, loadVar, pure_bind, Sem.run_bind, Fk hu, hd, Result.andThen_ok, aoD, if_false, run_load, ho.cell, h]
theorem Cc {v : atP} {K : atP -> atO -> Prop} (hk : ∀ w', mQ w' w.heap.size v.cells.toList -> jM w w' mN -> w'.heap.size = w.heap.size + 1 -> K (.pointer (some ⟨w.heap.size, 0, none⟩)) w') :
 gE P (QM t v) w K := by
 have : (QM t v).run P w = .ok (.value (.pointer (some ⟨w.heap.size, 0, none⟩))) (w.alloc (.cells v.cells.toList.toArray t)) := by
  unfold QM; rw [rQ]
  simp [Instr.box, newVar, newRow]
 unfold gE
 rw [this]
 exact hk _ (mQ.alloc _ _ _) (jM.alloc _ _ _) (by simp)
theorem EM {i : TypeInfo} {z : atP} (hi : P.info? t = some i) (hz : i.zero = some z) {K : atP -> atO -> Prop}
 (hk : ∀ w', mQ w' w.heap.size z.cells.toList -> jM w w' mN -> w'.heap.size = w.heap.size + 1 -> K (.pointer (some ⟨w.heap.size, 0, none⟩)) w') :
 gE P (pX t) w K := by
 have : (pX t).run P w = .ok (.value (.pointer (some ⟨w.heap.size, 0, none⟩))) (w.alloc (.cells z.cells.toList.toArray t)) := by
  unfold pX; rw [rQ]
  simp [Instr.alloc, zeroValue, typeInfo, hi, hz, newVar, newRow]
 unfold gE
 rw [this]
 exact hk _ (mQ.alloc _ _ _) (jM.alloc _ _ _) (by simp)
end
theorem yL {P : Program} {w : atO} {k : IntKind} {a : Int} {y : Nat} {code : BoundsCode} (h0 : 0 <= a) (h1 : a <= y) : (Instr.sliceBound (.int k a) y code).run P w = .ok a.toNat w := by
 simp [Instr.sliceBound, asIntOf, h0, h1]
section
variable {P : Program} {w : atO} {t e : TypeId} {k k' : IntKind} {lo hi : Int} {i : TypeInfo}
def nL (x : Option Addr) (m l sz : Nat) : Option Addr := if m = l then x else x.map (·.add (l * sz))
theorem Zc (hu : P.underlying t = some (.slice e)) (hi' : P.info? e = some i) (x : Option Addr) (n c : Nat) (h0 : 0 <= lo) (h1 : lo <= n) :
 (lR t (.slice x n c) (some (.int k lo)) none none).run P w = .ok (.value (.slice (nL x c lo.toNat i.size) (n - lo.toNat) (c - lo.toNat))) w := by
 simp only [lR, rQ, Instr.sliceAt, underlying, hu, Sem.run_bind, run_program, Result.andThen_ok, Sem.run_pure, Instr.slice, Instr.sliceBounds, pure_bind, yL h0 h1, kU hi', nL]
theorem Rf (hu : P.underlying t = some (.slice e)) (hi' : P.info? e = some i) (x : Option Addr) (n c : Nat) (h0 : 0 <= hi) (h1 : hi <= c) :
 (lR t (.slice x n c) none (some (.int k hi)) none).run P w = .ok (.value (.slice (nL x c 0 i.size) (hi.toNat - 0) (c - 0))) w := by
 simp only [lR, rQ, Instr.sliceAt, underlying, hu, Sem.run_bind, run_program, Result.andThen_ok, Sem.run_pure, Instr.slice, Instr.sliceBounds, pure_bind, yL h0 h1, kU hi', nL]
theorem Xm (hu : P.underlying t = some (.slice e)) (hi' : P.info? e = some i) (x : Option Addr) (n c : Nat) (h0 : 0 <= lo) (h1 : lo <= hi) (h2 : hi <= c) :
 (lR t (.slice x n c) (some (.int k lo)) (some (.int k' hi)) none).run P w = .ok (.value (.slice (nL x c lo.toNat i.size) (hi.toNat - lo.toNat) (c - lo.toNat))) w := by
 have h3 : (0 : Int) <= hi := by omega
 have h4 : lo <= (hi.toNat : Int) := by omega
 simp only [lR, rQ, Instr.sliceAt, underlying, hu, Sem.run_bind, run_program, Result.andThen_ok, Sem.run_pure, Instr.slice, Instr.sliceBounds, pure_bind, yL h3 h2, yL h0 h4, kU hi', nL]
def sX (a : Addr) (m l sz : Nat) : Addr := if m = l then a else a.add (l * sz)
theorem XU {n : Nat} (hu : P.underlying t = some (.array n e)) (hi' : P.info? e = some i) (x : Addr) (h0 : 0 <= lo) (h1 : lo <= n) :
 (lR t (.pointer (some x)) (some (.int k lo)) none none).run P w = .ok (.value (.slice (some (sX x n lo.toNat i.size)) (n - lo.toNat) (n - lo.toNat))) w := by
 simp only [lR, rQ, Instr.sliceAt, Instr.sureAddr, underlying, hu, Sem.run_bind, run_program, Result.andThen_ok, Sem.run_pure, Instr.sliceBounds, pure_bind, yL h0 h1, kU hi', sX]
theorem NV {n : Nat} (hu : P.underlying t = some (.array n e)) (hi' : P.info? e = some i) (x : Addr) (h0 : 0 <= hi) (h1 : hi <= n) :
 (lR t (.pointer (some x)) none (some (.int k hi)) none).run P w = .ok (.value (.slice (some (sX x n 0 i.size)) (hi.toNat - 0) (n - 0))) w := by
 simp only [lR, rQ, Instr.sliceAt, Instr.sureAddr, underlying, hu, Sem.run_bind, run_program, Result.andThen_ok, Sem.run_pure, Instr.sliceBounds, pure_bind, yL h0 h1, kU hi', sX]
theorem Dt {n : Nat} (hu : P.underlying t = some (.array n e)) (hi' : P.info? e = some i) (x : Addr) :
 (lR t (.pointer (some x)) none none none).run P w = .ok (.value (.slice (some (sX x n 0 i.size)) (n - 0) (n - 0))) w := by
 simp only [lR, rQ, Instr.sliceAt, Instr.sureAddr, underlying, hu, Sem.run_bind, run_program, Result.andThen_ok, Sem.run_pure, Instr.sliceBounds, pure_bind, kU hi', sX]
theorem Qm {n : Nat} (hu : P.underlying t = some (.array n e)) (hi' : P.info? e = some i) (x : Addr) (h0 : 0 <= lo) (h1 : lo <= hi) (h2 : hi <= n) :
 (lR t (.pointer (some x)) (some (.int k lo)) (some (.int k' hi)) none).run P w = .ok (.value (.slice (some (sX x n lo.toNat i.size)) (hi.toNat - lo.toNat) (n - lo.toNat))) w := by
 have h3 : (0 : Int) <= hi := by omega
 have h4 : lo <= (hi.toNat : Int) := by omega
 simp only [lR, rQ, Instr.sliceAt, Instr.sureAddr, underlying, hu, Sem.run_bind, run_program, Result.andThen_ok, Sem.run_pure, Instr.sliceBounds, pure_bind, yL h3 h2, yL h0 h4, kU hi', sX]
end
def Sl (w : atO) (v : atP) (l : List atP) : Prop :=
 ∃ a n c, v = .slice a n c /\ n = l.length /\ n <= c /\ (0 < n -> ∃ b off, a = some ⟨b, off, none⟩ /\ ∀ i, i < n -> w.cell? ⟨b, off + i, none⟩ = l[i]?)
def Lf (v : atP) (M : Nat -> Prop) : Prop := match v with | .slice (some a) (_ + 1) _ => M a.block | _ => False
theorem Sl.ext {w w' : atO} {v : atP} {l : List atP} {M : Nat -> Prop} (h : Sl w v l) (hx : jM w w' M) (hM : ¬ Lf v M) : Sl w' v l := by
 obtain ⟨a, n, c, rfl, hn, hc, h⟩ := h
 refine ⟨a, n, c, rfl, hn, hc, fun h0 => ?_⟩
 obtain ⟨b, off, rfl, h2⟩ := h h0
 refine ⟨b, off, rfl, fun i hi => ?_⟩
 have h1 := h2 i hi
 obtain ⟨v, hv⟩ : ∃ v, l[i]? = some v := ⟨l[i], by simp⟩
 rw [hv] at h1 ⊢
 refine aeA h1 hx ?_
 obtain ⟨m, rfl⟩ : ∃ m, n = m + 1 := ⟨n - 1, by omega⟩
 exact hM
theorem Sl.old {w : atO} {v : atP} {l : List atP} (h : Sl w v l) : ¬ Lf v (fun b => w.heap.size <= b) := by
 obtain ⟨a, n, c, rfl, hn, hc, h⟩ := h
 unfold Lf
 split
 .rename_i x m _ e
  obtain ⟨rfl, rfl, rfl⟩ : a = some x /\ n = m + 1 /\ c = _ := by simpa using e
  obtain ⟨b, off, e, h2⟩ := h (by omega)
  have e := apP e; subst e
  have h1 := h2 0 (by omega)
  obtain ⟨v, hv⟩ : ∃ v, l[0]? = some v := ⟨l[0], by simp⟩
  rw [hv] at h1
  have := World.block_lt_of_cell? _ _ h1
  simp at this ⊢; omega
 .simp
def oZ (x : UInt8) : atP := .int .u8 x.toNat
abbrev Bs (w : atO) (v : atP) (l : List UInt8) : Prop := Sl w v (l.map oZ)
theorem EG (b o n : Nat) : (⟨b, o, none⟩ : Addr).add n = ⟨b, o + n, none⟩ := by
 unfold Addr.add; split
 .rename_i h; subst h; rfl
 .rfl
section
variable {P : Program} {w : atO} {t e : TypeId} {k : IntKind} {a : Int}
theorem TZ {inf : TypeInfo} {sz : Nat} (hz : inf.size = sz) (hu : P.underlying t = some (.slice e)) (hi : P.info? e = some inf) (b o n c : Nat) (h0 : 0 <= a) (h1 : a < n) :
 (jO t (.slice (some ⟨b, o, none⟩) n c) (.int k a)).run P w = .ok (.value (.pointer (some ⟨b, o + a.toNat * sz, none⟩))) w := by
 rw [XH hu hi _ n c h0 h1, EG, hz]
theorem Pe {inf : TypeInfo} (hz : inf.size = 1) (hu : P.underlying t = some (.slice e)) (hi : P.info? e = some inf) (b o n c : Nat) (h0 : 0 <= a) (h1 : a < n) :
 (jO t (.slice (some ⟨b, o, none⟩) n c) (.int k a)).run P w = .ok (.value (.pointer (some ⟨b, o + a.toNat, none⟩))) w := by
 rw [XH hu hi _ n c h0 h1, EG, hz, aqK]
theorem acB {inf : TypeInfo} {sz len : Nat} (hz : inf.size = sz) (hu : P.underlying t = some (.array len e)) (hi : P.info? e = some inf) (b o : Nat) (h0 : 0 <= a) (h1 : a < (len : Int)) :
 (jO t (.pointer (some ⟨b, o, none⟩)) (.int k a)).run P w = .ok (.value (.pointer (some ⟨b, o + a.toNat * sz, none⟩))) w := by
 rw [XC hu hi _ h0 h1, EG, hz]
theorem Ha {inf : TypeInfo} {len : Nat} (hz : inf.size = 1) (hu : P.underlying t = some (.array len e)) (hi : P.info? e = some inf) (b o : Nat) (h0 : 0 <= a) (h1 : a < (len : Int)) :
 (jO t (.pointer (some ⟨b, o, none⟩)) (.int k a)).run P w = .ok (.value (.pointer (some ⟨b, o + a.toNat, none⟩))) w := by
 rw [XC hu hi _ h0 h1, EG, hz, aqK]
end
section
variable {P : Program} {w : atO} {s d e : TypeId}
theorem adJ (hs : P.underlying s = some (.slice e)) (hd : P.underlying d = some .string) (he : P.underlying e = some (.int .u8)) {l : List UInt8} {v : atP} (h : Bs w v l) :
 (nS s d v).run P w = .ok (.value (.string ⟨l.toArray⟩)) w := by
 obtain ⟨a, n, c, rfl, hn, hc, h⟩ := h
 simp only [aoK] at hn
 unfold nS
 rw [rQ]
 have key : (convert s d (.slice a n c)).run P w = .ok (.string ⟨l.toArray⟩) w := by
  cases a with
  | none =>
    have hl : l = [] := by
     cases l with
     | nil => rfl
     | cons x l => obtain ⟨b, off, e, _⟩ := h (by rw [hn]; simp); cases e
    subst hl
    rw [run_convert_bytes_string w s d e none n c hs he hd]
    rfl
  | some x =>
    subst hn
    refine run_convert_bytes_back w s d e x c l hs he hd fun j hj => ?_
    obtain ⟨b, off, hx, h2⟩ := h (by omega)
    have hx := apP hx
    subst hx
    rw [EG, h2 j hj]
    simp [oZ, hj]
 rw [key] <;> rfl
end
theorem DA (l : List UInt8) : ∀ x ∈ l.map oZ, one x = true := by
 intro x hx
 obtain ⟨c, _, rfl⟩ := aqB.1 hx
 rfl
theorem acI {b o m l sz : Nat} (h : l ≠ m) : sX ⟨b, o, none⟩ m l sz = ⟨b, o + l * sz, none⟩ := by
 unfold sX; rw [if_neg (fun e => h e.symm), EG]
theorem QD {b o m l : Nat} (h : l ≠ m) : sX ⟨b, o, none⟩ m l 1 = ⟨b, o + l, none⟩ := by rw [acI h, aqK]
theorem Sl.drop {w : atO} {b o n c : Nat} {l : List atP} (h : Sl w (.slice (some ⟨b, o, none⟩) n c) l) {k : Nat} (hk : k <= n) :
 Sl w (.slice (nL (some ⟨b, o, none⟩) c k 1) (n - k) (c - k)) (l.drop k) := by
 obtain ⟨x, m, c', e, hm, hc, hh⟩ := h
 cases e
 refine ⟨_, _, _, rfl, by rw [apD]; omega, by omega, fun h0 => ?_⟩
 obtain ⟨b', o', e, h2⟩ := hh (by omega)
 cases e
 have hne : ¬ c = k := by omega
 refine ⟨b, o + k, by unfold nL; rw [if_neg hne, apM, EG, aqK], fun i hi => ?_⟩
 rw [arN, h2 (k + i) (by omega), arV]
theorem Sl.take {w : atO} {b o n c : Nat} {l : List atP} (h : Sl w (.slice (some ⟨b, o, none⟩) n c) l) {k : Nat} (hk : k <= n) :
 Sl w (.slice (nL (some ⟨b, o, none⟩) c 0 1) (k - 0) (c - 0)) (l.take k) := by
 obtain ⟨x, m, c', e, hm, hc, hh⟩ := h
 cases e
 refine ⟨_, _, _, rfl, by rw [apA]; omega, by omega, fun h0 => ?_⟩
 obtain ⟨b', o', e, h2⟩ := hh (by omega)
 cases e
 have hne : ¬ c = 0 := by omega
 refine ⟨b, o, by unfold nL; rw [if_neg hne, apM, EG] <;> rfl, fun i hi => ?_⟩
 rw [h2 i (by omega), aqD (by omega)]
theorem aaO {b o n c k : Nat} {M : Nat -> Prop} (h : ¬ Lf (.slice (some ⟨b, o, none⟩) n c) M) (hn : 0 < n) (m : Nat) : ¬ Lf (.slice (nL (some ⟨b, o, none⟩) c k 1) m (c - k)) M := by
 have hb : ¬ M b := by
  obtain ⟨n', rfl⟩ : ∃ n', n = n' + 1 := ⟨n - 1, by omega⟩
  exact h
 unfold Lf nL
 split
 .rename_i x q _ e
  simp only [Value.slice.injEq] at e
  obtain ⟨e, _, _⟩ := e
  split at e
  .cases e; exact hb
  .rw [apM, EG] at e; cases e; exact hb
 .simp
theorem mQ.bs {w : atO} {b off c : Nat} {cs : List atP} {l : List UInt8} (h : mQ w b cs) (hc : l.length <= c) (hl : ∀ i (hi : i < l.length), cs[off + i]? = some (oZ l[i])) : Bs w (.slice (some ⟨b, off, none⟩) l.length c) l :=
 ⟨_, _, _, rfl, by simp, hc, fun _ => ⟨b, off, rfl, fun i hi => by rw [h.cell, hl i hi]; simp [hi]⟩⟩
section
variable {P : Program} {w : atO} {t e : TypeId} {k : IntKind} {a : Int}
theorem akQ {len : Nat} {d : TypeDesc} {i : TypeInfo} (hu : P.underlying t = some (.array len e)) (hd : P.underlying e = some d) (ha : V4 d = false) (hi : P.info? e = some i) (h1 : i.size = 1)
 (cs : Array atP) (h0 : 0 <= a) (hl : a < (len : Int)) {v : atP} (hv : cs[a.toNat]? = some v) : (P8 t (.agg cs) (.int k a)).run P w = .ok (.value v) w := by
 unfold P8
 rw [rQ]
 simp only [Instr.index, asIntOf, pure_bind, underlying, hu, Sem.run_bind, run_program, Result.andThen_ok, Sem.run_pure, h0, hl, and_self, if_true, kU hi, h1, aqK, part, Fk hd, ha, aoD, if_false, hv]
def adT (P : Program) (t : TypeId) (cs : Array atP) (k : IntKind) (a : Int) (w : atO) : Result Next := (P8 t (.agg cs) (.int k a)).run P w
theorem Xq {len : Nat} {d : TypeDesc} {i : TypeInfo} (hu : P.underlying t = some (.array len e)) (hd : P.underlying e = some d) (ha : V4 d = false) (hi : P.info? e = some i) (h1 : i.size = 1)
 (cs : Array atP) (h0 : 0 <= a) (hl : a < (len : Int)) : (P8 t (.agg cs) (.int k a)).run P w = V1 cs[a.toNat]? w (adT P t cs k a w) := by
 cases hv : cs[a.toNat]? with
 | none => rfl
 | some v => exact akQ hu hd ha hi h1 cs h0 hl hv
theorem RC {b off : Nat} {l : List atP} (h : ∀ i, i < l.length -> w.cell? ⟨b, off + i, none⟩ = l[i]?) (n : Nat) (hn : n <= l.length) :
 (loadCells ⟨b, off, none⟩ n).run P w = .ok (l.take n).toArray w := by
 have key : ∀ (m i : Nat) (acc : Array atP), i + m <= l.length -> (loadCellsFrom ⟨b, off, none⟩ i m acc).run P w = .ok (acc ++ ((l.drop i).take m).toArray) w := by
  intro m
  induction m with
  | zero => intro i acc _; simp [loadCellsFrom]
  | succ m ih =>
    intro i acc hm
    have hc := h i (by omega)
    rw [aoM (by omega)] at hc
    simp only [loadCellsFrom, Sem.run_bind, run_load, EG, hc, Result.andThen_ok]
    rw [ih (i + 1) _ (by omega), aqP (by omega : i < l.length), List.take_succ_cons]
    simp
 unfold loadCells
 rw [key n 0 #[] (by omega)]
 simp
theorem Wd {sz n : Nat} {v : atP} {l : List atP} (h1 : sz = 1) (h : Sl w v l) (hn : n <= l.length) : (Builtin.firstCells sz n v).run P w = .ok (l.take n).toArray w := by
 subst h1
 obtain ⟨x, m, c, rfl, hm, hc, hh⟩ := h
 cases x with
 | none =>
   have : l = [] := by
    cases l with
    | nil => rfl
    | cons y l => obtain ⟨b, off, e, _⟩ := hh (by rw [hm]; simp); cases e
   subst this
   simp [Builtin.firstCells]
 | some x =>
   simp only [Builtin.firstCells, aqK]
   by_cases h0 : 0 < m
   .obtain ⟨b, off, e, h2⟩ := hh h0
    have e := apP e; subst e
    exact RC (fun i hi => h2 i (by omega)) n hn
   .have h00 : n = 0 := by omega
    subst h00
    simp [loadCells, loadCellsFrom]
theorem ajJ {v : atP} {l : List atP} (h : Sl w v l) : (Builtin.lenOf v).run P w = .ok l.length w := by
 obtain ⟨x, m, c, rfl, hm, hc, hh⟩ := h
 simp [Builtin.lenOf, hm]
theorem afN {ty t2 : TypeId} {i : TypeInfo} (hu : P.underlying t = some (.slice e)) (hi : P.info? e = some i) (h1 : i.size = 1) {b off dl c : Nat} {cs : List atP} (ho : mQ w b cs) (hl : off + dl <= cs.length)
 {v : atP} {l : List atP} (h : Sl w v l) (hv : ∀ x ∈ l, one x = true) {K : atP -> atO -> Prop}
 (hk : ∀ w', mQ w' b (qL cs off (l.take (min l.length dl))) -> jM w w' (fun x => x = b) -> w'.heap.size = w.heap.size -> K (.int .i64 (min l.length dl : Nat)) w') :
 gE P (oD .copy #[t, t2] ty [.slice (some ⟨b, off, none⟩) dl c, v]) w K := by
 have hlen : (l.take (min l.length dl)).length = min l.length dl := by rw [apA]; omega
 obtain ⟨w', s1, s2, s3, s4, _⟩ := Ei (P := P) (M := fun x => x = b) rfl (l.take (min l.length dl)) w off 0 cs ho (by rw [hlen]; omega) (fun x hx => hv x (aqM hx))
 have : (oD .copy #[t, t2] ty [.slice (some ⟨b, off, none⟩) dl c, v]).run P w = .ok (.value (.int .i64 (min l.length dl : Nat))) w' := by
  unfold oD builtin
  simp only [Builtin.copy_, aqG, aoB, aoC]
  simp only [underlying, Sem.run_bind, run_program, Result.andThen_ok, hu, Sem.run_pure, ajJ h, kU hi, h1]
  have := Wd (P := P) (n := min l.length dl) rfl h (Nat.min_le_left _ _)
  rw [show (Nat.min l.length dl) = min l.length dl from rfl, this]
  simp only [Result.andThen_ok, s1, goInt]
 unfold gE
 rw [this]
 exact hk w' (by simpa using s2) s3 s4
theorem X6 {i : TypeInfo} {z : atP} (hu : P.underlying t = some (.slice e)) (hi : P.info? e = some i) (h1 : i.size = 1) (hz : i.zero = some z) (hz1 : one z = true) {n : Int} (h0 : 0 <= n) (hn : i.bytes * n <= 2 ^ 48) (hn2 : n <= 9223372036854775807)
 {K : atP -> atO -> Prop}
 (hk : ∀ w', mQ w' w.heap.size (List.replicate n.toNat z) -> jM w w' mN -> w'.heap.size = w.heap.size + 1 -> K (.slice (some ⟨w.heap.size, 0, none⟩) n.toNat n.toNat) w') :
 gE P (uF t (.int k n) (.int k n)) w K := by
 have hw : IntKind.i64.wrap n = n := gY (by omega) hn2
 have hcells : z.cells = #[z] := WM hz1
 have harr : (Array.range n.toNat).map (fun j => (#[z] : Array atP)[j % (#[z] : Array atP).size]!) = (List.replicate n.toNat z).toArray := by
  apply Array.ext
  .simp
  .intro j h1 h2; simp [Nat.mod_one]
 have hz' : (zeroValue e).run P w = .ok z w := by simp [zeroValue, typeInfo, hi, hz]
 have : (uF t (.int k n) (.int k n)).run P w = .ok (.value (.slice (some ⟨w.heap.size, 0, none⟩) n.toNat n.toNat)) (w.alloc (.cells (List.replicate n.toNat z).toArray e)) := by
  unfold uF
  rw [rQ]
  have t1 : (decide (n < 0) || decide ((i.bytes : Int) * n > 2 ^ 48) || decide (n < 0) || decide (n > n)) = false := by
   simp only [asJ, decide_eq_false_iff_not]; omega
  by_cases hn0 : n.toNat = 0
  .simp only [Instr.makeSlice, underlying, typeInfo, asInt, asIntOf, pure_bind, Sem.run_bind, run_program, Result.andThen_ok, hu, hi, Sem.run_pure, hw, t1, aoD, if_false, run_askRoom, kU hi, h1, aqK, hn0, if_true, newRow, run_newObj]
   have : (Array.range 0).map (fun x => (#[] : Array atP)[x % (#[] : Array atP).size]!) = (List.replicate 0 z).toArray := by simp
   rw [this]
   rfl
  .simp only [Instr.makeSlice, underlying, typeInfo, asInt, asIntOf, pure_bind, Sem.run_bind, run_program, Result.andThen_ok, hu, hi, Sem.run_pure, hw, t1, aoD, if_false, run_askRoom, kU hi, h1, aqK, hn0, hz', hcells, newRow, run_newObj, harr]
   rfl
 unfold gE
 rw [this]
 exact hk _ (mQ.alloc _ _ _) (jM.alloc _ _ _) (by simp)
end
def Cl (w : atO) (sz : Nat) (v : atP) (n : Nat) (l : List atP) : Prop :=
 ∃ a c, v = .slice a n c /\ l.length = n * sz /\ (0 < n -> ∃ b off, a = some ⟨b, off, none⟩ /\ ∀ i, i < l.length -> w.cell? ⟨b, off + i, none⟩ = l[i]?)
def yB (w : atO) (base sz : Nat) (v : atP) (n : Nat) (l : List atP) : Prop :=
 l.length = n * sz /\ ((v = .slice none 0 0 /\ n = 0) ∨
   ∃ b c rest, v = .slice (some ⟨b, 0, none⟩) n c /\ base <= b /\ mQ w b (l ++ rest) /\ (l ++ rest).length = c * sz /\ n <= c)
def LF (w : atO) (S : Nat -> Prop) (sz : Nat) (v : atP) (n : Nat) (l : List atP) : Prop :=
 l.length = n * sz /\ ((v = .slice none 0 0 /\ n = 0) ∨
   ∃ b c rest, v = .slice (some ⟨b, 0, none⟩) n c /\ S b /\ mQ w b (l ++ rest) /\ (l ++ rest).length = c * sz /\ n <= c)
theorem Sl.cl {w : atO} {v : atP} {l : List atP} (h : Sl w v l) : Cl w 1 v l.length l := by
 obtain ⟨a, n, c, rfl, rfl, hc, h⟩ := h
 exact ⟨a, c, rfl, by omega, fun h0 => h h0⟩
theorem mQ.cl {w : atO} {b sz n c off : Nat} {cs l : List atP} (h : mQ w b cs) (hl : l.length = n * sz) (hcs : ∀ i, i < l.length -> cs[off + i]? = l[i]?) : Cl w sz (.slice (some ⟨b, off, none⟩) n c) n l :=
 ⟨_, _, rfl, hl, fun _ => ⟨b, off, rfl, fun i hi => by rw [h.cell, hcs i hi]⟩⟩
theorem yB.nil (w : atO) (base sz : Nat) : yB w base sz (.slice none 0 0) 0 [] := ⟨by simp, .inl ⟨rfl, rfl⟩⟩
theorem yB.ext {w w' : atO} {base sz n : Nat} {v : atP} {l : List atP} {M : Nat -> Prop} (h : yB w base sz v n l) (hx : jM w w' M) (hM : ∀ b, base <= b -> ¬ M b) : yB w' base sz v n l := by
 refine ⟨h.1, ?_⟩
 rcases h.2 with h2 | ⟨b, c, rest, h1, h2, h3, h4, h5⟩
 .exact .inl h2
 .exact .inr ⟨b, c, rest, h1, h2, h3.ext hx (hM b h2), h4, h5⟩
theorem yB.cl {w : atO} {base sz n : Nat} {v : atP} {l : List atP} (h : yB w base sz v n l) : Cl w sz v n l := by
 rcases h.2 with ⟨rfl, rfl⟩ | ⟨b, c, rest, rfl, h2, h3, h4, h5⟩
 .exact ⟨_, _, rfl, h.1, fun h => by omega⟩
 .refine ⟨_, _, rfl, h.1, fun _ => ⟨b, 0, rfl, fun i hi => ?_⟩⟩
  rw [h3.cell, aoH, aoX hi]
theorem yB.sl {w : atO} {base n : Nat} {v : atP} {l : List atP} (h : yB w base 1 v n l) : Sl w v l := by
 have hl := h.1
 rcases h.2 with ⟨rfl, rfl⟩ | ⟨b, c, rest, rfl, h2, h3, h4, h5⟩
 .exact ⟨_, _, _, rfl, by omega, by omega, fun h => by omega⟩
 .refine ⟨_, _, _, rfl, by omega, h5, fun _ => ⟨b, 0, rfl, fun i hi => ?_⟩⟩
  rw [h3.cell, aoH, aoX (by omega)]
section
variable {P : Program} {w : atO} {t e : TypeId}
theorem RK {b off : Nat} {l : List atP} (h : ∀ i, i < l.length -> w.cell? ⟨b, off + i, none⟩ = l[i]?) : (loadCells ⟨b, off, none⟩ l.length).run P w = .ok l.toArray w := by
 have := RC (P := P) h l.length (aoP _)
 rwa [asK] at this
theorem BW {sz n : Nat} {v : atP} {l : List atP} (h : Cl w sz v n l) : (Builtin.firstCells sz n v).run P w = .ok l.toArray w := by
 obtain ⟨x, c, rfl, hl, hh⟩ := h
 cases x with
 | none =>
   have : n = 0 := by
    rcases arE n with h | h
    .exact h
    .obtain ⟨b, off, e, _⟩ := hh h; cases e
   subst this
   have : l = [] := apT.1 (by omega)
   subst this
   simp [Builtin.firstCells]
 | some x =>
   simp only [Builtin.firstCells]
   rw [<- hl]
   by_cases h0 : 0 < n
   .obtain ⟨b, off, e, h2⟩ := hh h0
    have e := apP e; subst e
    exact RK h2
   .have : n = 0 := by omega
    subst this
    have : l = [] := apT.1 (by omega)
    subst this
    simp [loadCells, loadCellsFrom]
theorem vO (zs : Array atP) (n : Nat) : (Builtin.zeroCells zs n).size = n * zs.size := by simp [Builtin.zeroCells]
theorem Qz (vs : List atP) : ∀ (aoA rest : List atP), vs.length <= rest.length -> qL (aoA ++ rest) aoA.length vs = aoA ++ vs ++ rest.drop vs.length := by
 induction vs with
 | nil => intro aoA rest _; simp [qL]
 | cons v vs ih =>
   intro aoA rest h
   cases rest with
   | nil => simp at h
   | cons r rest =>
     have := ih (aoA ++ [v]) rest (by simpa using h)
     simp only [qL, aoL, aoV, List.length_nil, apK, arB, aqA] at this ⊢
     rw [List.drop_succ_cons, <- this, aqH _ _ (aoP _), asD, aoZ, aoH]
theorem YD {S : Nat -> Prop} {sz n m : Nat} {i : TypeInfo} {z : atP} {ty t2 e2 : TypeId} (hu : P.underlying t = some (.slice e)) (hu2 : P.underlying t2 = some (.slice e2)) (hi : P.info? e = some i) (hsz : i.size = sz) (hz : i.zero = some z) (hzs : z.cells.size = sz)
 {v x : atP} {l news : List atP} (h : LF w S sz v n l) (hx : Cl w sz x m news) (hone : ∀ y ∈ news, one y = true) (hb : ∀ b, w.heap.size <= b -> S b)
 (hn : n + m <= 9223372036854775807) (hbytes : (n + m) * i.bytes <= 140737488355328) (_hpos : i.bytes ≠ 0)
 {K : atP -> atO -> Prop} (hk : ∀ v' w', LF w' S sz v' (n + m) (l ++ news) -> jM w w' S -> Cl w' sz v n l -> K v' w') : gE P (oD .append #[t, t2] ty [v, x]) w K := by
 have hlx : (Builtin.lenOf x).run P w = .ok m w := by
  obtain ⟨a, c, rfl, _⟩ := hx; simp [Builtin.lenOf]
 have hnl := hx.choose_spec.choose_spec.2.1
 have hfx := BW (P := P) hx
 have hmax : IntKind.i64.max = 9223372036854775807 := by decide
 have hnot : ¬ (((n + m : Nat) : Int) > IntKind.i64.max /\ (False ∨ i.bytes = 0)) := by rw [hmax]; omega
 have hz' : ∀ w, (zeroValue e).run P w = .ok z w := fun w => by simp [zeroValue, typeInfo, hi, hz]
 have hlen := h.1
 rcases h.2 with ⟨rfl, rfl⟩ | ⟨b, c, rest, rfl, h2, h3, h4, h5⟩
 .
  have hl0 : l = [] := apT.1 (by omega)
  subst hl0
  by_cases hm : m = 0
  .subst hm
   have hn0 : news = [] := apT.1 (by omega)
   subst hn0
   have : (oD .append #[t, t2] ty [.slice none 0 0, x]).run P w = .ok (.value (.slice none 0 0)) w := by
    unfold oD builtin
    simp only [Builtin.append_, aqG, aoB, aoC]
    simp only [underlying, Sem.run_bind, run_program, Result.andThen_ok, hu, hu2, Sem.run_pure, kU hi, hsz, aoD, if_false, hlx, aoP, apY, if_true, aoI, hfx]
   unfold gE
   rw [this]
   exact hk _ _ ⟨by simp, .inl ⟨rfl, by omega⟩⟩ (jM.refl _ _) ⟨none, 0, rfl, hlen, fun h => absurd h (by omega)⟩
  .have hfit := growslice_fits (need := 0 + m) (old := 0) (bytes := i.bytes) (by omega) (by omega)
   have hfit' : ¬ (Builtin.nextslicecap (0 + m) 0 * i.bytes > 2 ^ 48) := by omega
   have hle : ¬ (0 + m <= 0) := by omega
   have hq : (Question.appendCap (0 + m) 0 e).forced = false := rfl
   obtain ⟨r, hr⟩ : ∃ r, (Question.appendCap (0 + m) 0 e).cut (w.tape w.drawn (.appendCap (0 + m) 0 e)) = m + r :=
    ⟨(w.tape w.drawn (.appendCap (0 + m) 0 e)) % (2 ^ 63 - (0 + m)), by simp only [Question.cut]; omega⟩
   have : (oD .append #[t, t2] ty [.slice none 0 0, x]).run P w = .ok (.value (.slice (some ⟨w.heap.size, 0, none⟩) (0 + m) (m + r))) ((dr w).alloc (.cells (news ++ (Builtin.zeroCells z.cells (m + r - (0 + m))).toList).toArray e)) := by
    have hfx' := BW (P := P) (w := dr w) hx
    unfold oD builtin
    simp only [Builtin.append_, aqG, aoB, aoC]
    simp only [underlying, typeInfo, Sem.run_bind, run_program, Result.andThen_ok, hu, hu2, hi, Sem.run_pure, kU hi, hsz, aoD, if_false, hlx, hle, aoI, if_true, hnot, hfit', run_choose, hq, hr, run_askRoom]
    change ((Sem.run P _ (dr w)).andThen _).andThen _ = _
    simp only [Sem.run_bind, hfx', run_firstCells_none, Result.andThen_ok, hz', Sem.run_pure, newRow, run_newObj]
    have e1 : (#[] ++ news.toArray ++ Builtin.zeroCells z.cells (m + r - (0 + m)) : Array atP) = (news ++ (Builtin.zeroCells z.cells (m + r - (0 + m))).toList).toArray := by
     apply Array.ext'; simp
    rw [e1]
    rfl
   unfold gE
   rw [this]
   refine hk _ _ ⟨by simp only [aqA]; rw [hnl, aoH], .inr ⟨w.heap.size, m + r, (Builtin.zeroCells z.cells (m + r - (0 + m))).toList, by rw [aoH], hb _ (aoP _), mQ.alloc (dr w) _ _, ?_, by omega⟩⟩ ((jM.dr w _).seq (jM.alloc _ _ _)) ⟨none, 0, rfl, hlen, fun h => absurd h (by omega)⟩
   simp only [aqA, aoL, arJ, vO, hzs, hnl]
   rw [show m + r - (0 + m) = r from by omega, apW]
 .by_cases hc : n + m <= c
  .
   have hroom : news.length <= rest.length := by
    rw [aoL, hlen] at h4
    have : (n + m) * sz <= c * sz := apG _ hc
    rw [apW] at this; omega
   obtain ⟨w', s1, s2, s3, s4, _⟩ := Ei (P := P) (M := S) h2 news w (n * sz) 0 (l ++ rest) h3 (by rw [aoL, hlen]; omega) hone
   have : (oD .append #[t, t2] ty [.slice (some ⟨b, 0, none⟩) n c, x]).run P w = .ok (.value (.slice (some ⟨b, 0, none⟩) (n + m) c)) w' := by
    unfold oD builtin
    simp only [Builtin.append_, aqG, aoB, aoC]
    simp only [underlying, Sem.run_bind, run_program, Result.andThen_ok, hu, hu2, Sem.run_pure, kU hi, hsz, aoD, if_false, hlx, hc, if_true, aoI, hfx, EG, aoH, s1]
   unfold gE
   rw [this]
   rw [apY, <- hlen, Qz _ _ _ hroom] at s2
   refine hk _ _ ⟨by rw [aoL, hlen, hnl, apW], .inr ⟨b, c, rest.drop news.length, rfl, h2, s2, ?_, hc⟩⟩ s3 ⟨_, _, rfl, hlen, fun _ => ⟨b, 0, rfl, fun i hi => by
    rw [s2.cell, aoH, apK, aoX hi]⟩⟩
   rw [<- h4]; simp; omega
  .
   have hfit := growslice_fits (need := n + m) (old := c) (bytes := i.bytes) (by omega) hbytes
   have hfit' : ¬ (Builtin.nextslicecap (n + m) c * i.bytes > 2 ^ 48) := by omega
   have hq : (Question.appendCap (n + m) c e).forced = false := rfl
   obtain ⟨r, hr⟩ : ∃ r, (Question.appendCap (n + m) c e).cut (w.tape w.drawn (.appendCap (n + m) c e)) = n + m + r :=
    ⟨(w.tape w.drawn (.appendCap (n + m) c e)) % (2 ^ 63 - (n + m)), by simp only [Question.cut]⟩
   have hold : Cl (dr w) sz (.slice (some ⟨b, 0, none⟩) n c) n l := ⟨_, _, rfl, hlen, fun _ => ⟨b, 0, rfl, fun i hi => by
    show w.cell? _ = _
    rw [h3.cell, aoH, aoX hi]⟩⟩
   have : (oD .append #[t, t2] ty [.slice (some ⟨b, 0, none⟩) n c, x]).run P w = .ok (.value (.slice (some ⟨w.heap.size, 0, none⟩) (n + m) (n + m + r))) ((dr w).alloc (.cells (l ++ news ++ (Builtin.zeroCells z.cells (n + m + r - (n + m))).toList).toArray e)) := by
    have hfx' := BW (P := P) (w := dr w) hx
    have hfo := BW (P := P) hold
    unfold oD builtin
    simp only [Builtin.append_, aqG, aoB, aoC]
    simp only [underlying, typeInfo, Sem.run_bind, run_program, Result.andThen_ok, hu, hu2, hi, Sem.run_pure, kU hi, hsz, aoD, if_false, hlx, hc, aoI, if_true, hnot, hfit', run_choose, hq, hr, run_askRoom]
    change ((Sem.run P _ (dr w)).andThen _).andThen _ = _
    simp only [Sem.run_bind, hfx', hfo, Result.andThen_ok, hz', Sem.run_pure, newRow, run_newObj]
    have e1 : (l.toArray ++ news.toArray ++ Builtin.zeroCells z.cells (n + m + r - (n + m)) : Array atP) = (l ++ news ++ (Builtin.zeroCells z.cells (n + m + r - (n + m))).toList).toArray := by
     apply Array.ext'; simp
    rw [e1]
    rfl
   unfold gE
   rw [this]
   refine hk _ _ ⟨by rw [aoL, hlen, hnl, apW], .inr ⟨w.heap.size, n + m + r, _, rfl, hb _ (aoP _), mQ.alloc (dr w) _ _, ?_, by omega⟩⟩ ((jM.dr w _).seq (jM.alloc _ _ _)) ⟨_, _, rfl, hlen, fun _ => ⟨b, 0, rfl, fun i hi => by
    have o9 := h3.ext ((jM.dr w mN).seq (jM.alloc (dr w) (.cells (l ++ news ++ (Builtin.zeroCells z.cells (n + m + r - (n + m))).toList).toArray e) mN)) (fun h => h)
    rw [o9.cell, aoH, aoX hi]⟩⟩
   simp only [aoL, arJ, vO, hzs, hnl, hlen]
   rw [show n + m + r - (n + m) = r from by omega, apW, apW]
theorem Ae {S : Nat -> Prop} {sz n m : Nat} {i : TypeInfo} {z : atP} {ty t2 e2 : TypeId} (hu : P.underlying t = some (.slice e)) (hu2 : P.underlying t2 = some (.slice e2)) (hi : P.info? e = some i) (hsz : i.size = sz) (hz : i.zero = some z) (hzs : z.cells.size = sz)
 {v x : atP} {l news : List atP} (h : LF w S sz v n l) (hx : Cl w sz x m news) (hone : ∀ y ∈ news, one y = true) (hb : ∀ b, w.heap.size <= b -> S b)
 (hn : n + m <= 9223372036854775807) (hbytes : (n + m) * i.bytes <= 140737488355328) (_hpos : i.bytes ≠ 0)
 {K : atP -> atO -> Prop} (hk : ∀ v' w', LF w' S sz v' (n + m) (l ++ news) -> jM w w' S -> K v' w') : gE P (oD .append #[t, t2] ty [v, x]) w K :=
 YD hu hu2 hi hsz hz hzs h hx hone hb hn hbytes _hpos fun v' w' a b _ => hk v' w' a b
theorem U8 {base sz n m : Nat} {i : TypeInfo} {z : atP} {ty t2 e2 : TypeId} (hu : P.underlying t = some (.slice e)) (hu2 : P.underlying t2 = some (.slice e2)) (hi : P.info? e = some i) (hsz : i.size = sz) (hz : i.zero = some z) (hzs : z.cells.size = sz)
 {v x : atP} {l news : List atP} (h : yB w base sz v n l) (hx : Cl w sz x m news) (hone : ∀ y ∈ news, one y = true) (hb : base <= w.heap.size)
 (hn : n + m <= 9223372036854775807) (hbytes : (n + m) * i.bytes <= 140737488355328) (_hpos : i.bytes ≠ 0)
 {K : atP -> atO -> Prop} (hk : ∀ v' w', yB w' base sz v' (n + m) (l ++ news) -> jM w w' (fun y => base <= y) -> K v' w') : gE P (oD .append #[t, t2] ty [v, x]) w K :=
 Ae (S := fun y => base <= y) hu hu2 hi hsz hz hzs h hx hone (fun _ h => aqC hb h) hn hbytes _hpos hk
end
section
variable {P : Program} {w : atO} {t e : TypeId}
theorem Ra {i : TypeInfo} {z : atP} {n : Nat} {ps : List (Nat × atP)} {cells : Array atP} (hu : P.underlying t = some (.slice e)) (hi : P.info? e = some i) (hz : i.zero = some z)
 (h1 : ¬ n * i.size > 2 ^ 24) (h0 : ¬ n * i.size = 0) (hf : Instr.fill (fun j => some (j * i.size, i.size)) ((Array.range (n * i.size)).map (z.cells[· % z.cells.size]!)) ps = some cells)
 {K : atP -> atO -> Prop} (hk : ∀ w', mQ w' w.heap.size cells.toList -> jM w w' mN -> w'.heap.size = w.heap.size + 1 -> K (.slice (some ⟨w.heap.size, 0, none⟩) n n) w') :
 gE P (lJ t n ps) w K := by
 have hz' : (zeroValue e).run P w = .ok z w := by simp [zeroValue, typeInfo, hi, hz]
 have : (lJ t n ps).run P w = .ok (.value (.slice (some ⟨w.heap.size, 0, none⟩) n n)) (w.alloc (.cells cells.toList.toArray e)) := by
  unfold lJ; rw [rQ]
  simp only [Instr.buildSlice, underlying, pure_bind, Sem.run_bind, run_program, Result.andThen_ok, hu, Sem.run_pure, kU hi, h1, h0, if_false, hz', hf, newRow, run_newObj]
  rfl
 unfold gE
 rw [this]
 exact hk _ (mQ.alloc _ _ _) (jM.alloc _ _ _) (by simp)
theorem mQ.mark {b : Nat} {cs : List atP} (h : mQ w b cs) : mQ (w.freeze ⟨b, cs.length, none⟩ 1) b cs := by
 have hb := h.lt
 obtain ⟨T, lo, hi, h, k⟩ := h
 by_cases hlh : (lo == hi) = true
 .refine ⟨T, cs.length, cs.length + 1, ?_, .inl (aoP _)⟩
  show (w.heap.modify b _)[b]? = _
  rw [arD, if_pos rfl, h]
  have hlh : lo = hi := by simpa using hlh
  simp [hlh]
 .refine ⟨T, min lo cs.length, max hi (cs.length + 1), ?_, .inl ?_⟩
  .show (w.heap.modify b _)[b]? = _
   rw [arD, if_pos rfl, h]
   have hlh : ¬ lo = hi := by simpa using hlh
   simp [hlh]
  .rcases k with k | k
   .omega
   .exfalso; apply hlh; rw [k]; simp
theorem jM.mark (w : atO) (a : Addr) : jM w (w.freeze a 1) (fun y => y = a.block) :=
 ⟨rfl, rfl, rfl, by show _ <= (w.heap.modify _ _).size; simp, fun b hb hn => by
  show (w.heap.modify a.block _)[b]? = _
  rw [arD]
  rw [if_neg (fun h => hn h.symm)]⟩
end
section
variable {P : Program} {w : atO} {t e : TypeId}
theorem VC {d : TypeDesc} (he : P.underlying e = some d) (hd : V4 d = false) {cs : Array atP} {k : Nat} {v : atP} (h : cs[k]? = some v) : (part e cs k).run P w = .ok v w := by
 unfold part
 simp only [Sem.run_bind, Fk he, hd, Result.andThen_ok, aoD, if_false, h, Sem.run_pure]
theorem ZR {a b : UInt8} : (((a.toNat : Int)) == (b.toNat : Int)) = decide (a = b) := by
 rw [Bool.eq_iff_iff]
 simp only [<- UInt8.toNat_inj, beq_iff_eq, decide_eq_true_eq]
 omega
theorem Y7 {i : TypeInfo} (m n : Nat) (hu : P.underlying t = some (.array n e)) (he : P.underlying e = some (.int .u8)) (hi : P.info? e = some i) (h1 : i.size = 1) (l l' : List UInt8) (hl : l.length = n) (hl' : l'.length = n) :
 (Op.equalIn (m + 2) t (.agg (l.map oZ).toArray) (.agg (l'.map oZ).toArray)).run P w = .ok (decide (l = l')) w := by
 unfold Op.equalIn
 simp only [underlying, Sem.run_bind, run_program, Result.andThen_ok, hu, Sem.run_pure, kU hi, Std.Legacy.Range.forIn_eq_forIn_range', Std.Legacy.Range.size, asE, Nat.add_one_sub_one, Nat.div_one, h1, aqK]
 have key : ∀ (c k : Nat), k + c = n -> l.take k = l'.take k →
     ∃ r, (forIn (List.range' k c) (none, ()) fun (i : Nat) (_ : Option Bool × Unit) => (do
           let a <- part e (List.map oZ l).toArray i
           let b <- part e (List.map oZ l').toArray i
           let c <- Op.equalIn (m + 1) e a b
           if (!c) = true then pure (ForInStep.done (some false, ())) else pure (ForInStep.yield (none, ())) : Sem (ForInStep (Option Bool × Unit)))).run P w = .ok (r, ()) w /\ r.getD true = decide (l = l') := by
  intro c
  induction c with
  | zero =>
    intro k hk ht
    refine ⟨none, by simp, ?_⟩
    have : l = l' := by
     rw [aoU (by omega), aoU (by omega)] at ht; exact ht
    simp [this]
  | succ c ih =>
    intro k hk ht
    have g : ∀ (q : List UInt8) (h : k < q.length), (q.map oZ).toArray[k]? = some (oZ q[k]) := fun q h => by simp [h]
    have hv : (Op.equalIn (m + 1) e (oZ (l[k]'(by omega))) (oZ (l'[k]'(by omega)))).run P w = .ok (decide (l[k]'(by omega) = l'[k]'(by omega))) w := by
     unfold Op.equalIn oZ
     simp only [underlying, Sem.run_bind, run_program, Result.andThen_ok, he, Sem.run_pure, if_true, ZR]
    rw [List.range'_succ]
    simp only [List.forIn_cons, Sem.run_bind, VC he rfl (g l (by omega)), VC he rfl (g l' (by omega)), Result.andThen_ok, hv]
    by_cases hx : l[k]'(by omega) = l'[k]'(by omega)
    .simp only [hx, decide_true, aoJ, aoD, if_false, Sem.run_pure, Result.andThen_ok]
     refine ih (k + 1) (by omega) ?_
     rw [arZ, arZ, ht, aoM (by omega), aoM (by omega), hx]
    .simp only [hx, decide_false, aoI, if_true, Sem.run_pure, Result.andThen_ok]
     refine ⟨some false, rfl, ?_⟩
     have : l ≠ l' := fun h => hx (by subst h; rfl)
     simp [this]
 obtain ⟨r, h1, h2⟩ := key n 0 (by omega) (by simp)
 rw [h1, <- h2]
 cases r <;> simp
structure Wm {κ : Type} [DecidableEq κ] (P : Program) (t : TypeId) (enc : κ -> atP) : Prop where
 eq : ∀ a b (w : atO), (Op.equal t (enc a) (enc b)).run P w = .ok (decide (a = b)) w
 now : ∃ d, P.underlying t = some d /\ ∀ a b, Instr.sameNow d (enc a) (enc b) = none ∨ Instr.sameNow d (enc a) (enc b) = some (decide (a = b))
 chk : ∀ (e : Bool) a (w : atO), (Instr.checkKey e 10000 t (enc a)).run P w = .ok () w
 stay : ∀ a, Instr.sameBits 10000 (enc a) (enc a) = true
def assoc {κ : Type} [DecidableEq κ] (k : κ) : List (κ × atP) -> Option atP
 | [] => none
 | p :: r => if k = p.1 then some p.2 else assoc k r
def Xv {κ : Type} [DecidableEq κ] (k : κ) (v : atP) : List (κ × atP) -> List (κ × atP)
 | [] => [(k, v)]
 | p :: r => if k = p.1 then (k, v) :: r else p :: Xv k v r
theorem acJ {κ : Type} [DecidableEq κ] (k j : κ) (v : atP) : ∀ (l : List (κ × atP)), assoc j (Xv k v l) = if j = k then some v else assoc j l := by
 intro l
 induction l with
 | nil => simp only [Xv, assoc]
 | cons p r ih =>
   simp only [Xv]
   by_cases h : k = p.1
   .rw [if_pos h]
    simp only [assoc]
    by_cases hj : j = k
    .rw [if_pos hj, if_pos hj]
    .rw [if_neg hj, if_neg hj, if_neg (fun e => hj (e.trans h.symm))]
   .rw [if_neg h]
    simp only [assoc, ih]
    by_cases hj : j = p.1
    .rw [if_pos hj, if_pos hj, if_neg (fun e => h (e.symm.trans hj))]
    .rw [if_neg hj, if_neg hj]
theorem ZO {κ : Type} [DecidableEq κ] {k : κ} {v : atP} {l : List (κ × atP)} {p : κ × atP} (h : p ∈ Xv k v l) : p = (k, v) ∨ p ∈ l := by
 induction l with
 | nil => simp [Xv] at h; exact .inl h
 | cons q r ih =>
   simp only [Xv] at h
   split at h
   .rcases apZ.1 h with h | h
    .exact .inl h
    .exact .inr (aoR _ h)
   .rcases apZ.1 h with h | h
    .exact .inr (h ▸ apL)
    .rcases ih h with h | h
     .exact .inl h
     .exact .inr (aoR _ h)
theorem aaU {κ : Type} [DecidableEq κ] {k : κ} {v : atP} {l : List (κ × atP)} (h : assoc k l = some v) : (k, v) ∈ l := by
 induction l with
 | nil => simp [assoc] at h
 | cons q r ih =>
   simp only [assoc] at h
   split at h
   .rename_i e; cases h; rw [e]; exact apL
   .exact aoR _ (ih h)
def Grown (es : Array MapEntry) (clock : Nat) : Prop := (es.toList.map (·.born)).Pairwise (· < ·) /\ ∀ e ∈ es.toList, e.born < clock
def Mp {κ : Type} (w : atO) (m : Nat) (enc : κ -> atP) (l : List (κ × atP)) : Prop :=
 ∃ es clock, w.heap[m]? = some (.map es clock) /\ es.toList.map (fun e => (e.key, e.val)) = l.map (fun p => (enc p.1, p.2)) /\ Grown es clock /\ (l.map (·.1)).Nodup
theorem Zp {es : Array MapEntry} {c : Nat} (h : Grown es c) (k v : atP) : Grown (es.push ⟨k, v, c⟩) (c + 1) := by
 obtain ⟨h1, h2⟩ := h
 refine ⟨?_, ?_⟩
 .rw [Array.toList_push, apN, List.pairwise_append]
  refine ⟨h1, by simp, fun a ha b hb => ?_⟩
  simp at hb
  subst hb
  obtain ⟨e, he, rfl⟩ := aqB.1 ha
  exact h2 e he
 .intro e he
  rw [Array.toList_push] at he
  rcases aqJ.1 he with he | he
  .have := h2 e he; omega
  .simp at he; subst he; exact Nat.lt_succ_self c
theorem Zs {es es' : Array MapEntry} {c : Nat} (h : Grown es c) (he : es'.toList.map (·.born) = es.toList.map (·.born)) : Grown es' c := by
 refine ⟨by rw [he]; exact h.1, fun e h' => ?_⟩
 have : e.born ∈ es'.toList.map (·.born) := aqB.2 ⟨e, h', rfl⟩
 rw [he] at this
 obtain ⟨x, hx, hxe⟩ := aqB.1 this
 rw [<- hxe]; exact h.2 x hx
theorem XK {κ : Type} [DecidableEq κ] {k : κ} {v : atP} : ∀ {l : List (κ × atP)}, (l.map (·.1)).Nodup -> ((Xv k v l).map (·.1)).Nodup
 | [], _ => by simp [Xv]
 | p :: r, h => by
   simp only [Xv]
   have h' := h
   rw [apJ, List.nodup_cons] at h
   split
   .rename_i e
    rw [apJ, List.nodup_cons]
    exact ⟨fun hm => h.1 (e ▸ hm), h.2⟩
   .rename_i e
    rw [apJ, List.nodup_cons]
    refine ⟨fun hm => ?_, XK h.2⟩
    obtain ⟨q, hq, hqe⟩ := aqB.1 hm
    rcases ZO hq with h1 | h1
    .rw [h1] at hqe; exact e hqe
    .exact h.1 (aqB.2 ⟨q, h1, hqe⟩)
theorem Mp.lt {κ : Type} {m : Nat} {enc : κ -> atP} {l : List (κ × atP)} (h : Mp w m enc l) : m < w.heap.size := by
 obtain ⟨es, c, h, _⟩ := h
 rcases aoT m w.heap.size with h' | h'
 .exact h'
 .rw [aqI h'] at h; cases h
theorem Mp.ext {κ : Type} {w w' : atO} {m : Nat} {enc : κ -> atP} {l : List (κ × atP)} {M : Nat -> Prop} (h : Mp w m enc l) (hx : jM w w' M) (hM : ¬ M m) : Mp w' m enc l := by
 have := h.lt
 obtain ⟨es, c, h, k⟩ := h
 exact ⟨es, c, by rw [hx.keep m this hM]; exact h, k⟩
theorem Mp.dr {κ : Type} {w : atO} {m : Nat} {enc : κ -> atP} {l : List (κ × atP)} (h : Mp w m enc l) : Mp (dr w) m enc l := h
def SS {κ : Type} [DecidableEq κ] (k : κ) : List (κ × atP) -> Nat -> Option (Nat × atP)
 | [], _ => none
 | p :: r, i => if k = p.1 then some (i, p.2) else SS k r (i + 1)
theorem Zr {κ : Type} [DecidableEq κ] (k : κ) : ∀ (l : List (κ × atP)) (i : Nat), (SS k l i).map (·.2) = assoc k l := by
 intro l
 induction l with
 | nil => intro i; rfl
 | cons p r ih => intro i; simp only [SS, assoc]; split <;> simp [ih]
variable {κ : Type} [DecidableEq κ] {enc : κ -> atP}
theorem U5 {r : Nat} {es : Array MapEntry} {c : Nat} (hb : w.heap[r]? = some (.map es c)) : (getObj r).run P w = .ok (.map es c) w := by simp [getObj, Sem.run, hb]
theorem VI {r : Nat} {es : Array MapEntry} {c : Nat} (o : Obj) (hb : w.heap[r]? = some (.map es c)) : (setObj r o).run P w = .ok () { w with heap := w.heap.setIfInBounds r o } := by simp [setObj, Sem.run, hb]
theorem VD (K : Wm P t enc) (k : κ) : ∀ (es : List MapEntry) (l : List (κ × atP)) (i : Nat), es.map (fun e => (e.key, e.val)) = l.map (fun p => (enc p.1, p.2)) →
 (Instr.findAsking t (enc k) es i).run P w = .ok (SS k l i) w := by
 intro es
 induction es with
 | nil => intro l i h; cases l with
   | nil => rfl
   | cons p r => simp at h
 | cons x es ih =>
   intro l i h
   cases l with
   | nil => simp at h
   | cons p r =>
     simp only [apJ, List.cons.injEq, Prod.mk.injEq] at h
     obtain ⟨⟨h1, h2⟩, h3⟩ := h
     simp only [Instr.findAsking, Sem.run_bind, h1, K.eq, Result.andThen_ok, SS]
     by_cases hx : k = p.1
     .simp [hx, h2]
     .simp only [hx, decide_false, aoD, if_false]
      exact ih r (i + 1) h3
theorem Xc {d : TypeDesc} (hn : ∀ a b, Instr.sameNow d (enc a) (enc b) = none ∨ Instr.sameNow d (enc a) (enc b) = some (decide (a = b))) (k : κ) : ∀ (es : List MapEntry) (l : List (κ × atP)) (i : Nat) (r : Option (Nat × atP)), es.map (fun e => (e.key, e.val)) = l.map (fun p => (enc p.1, p.2)) →
 Instr.findNow d (enc k) es i = some r -> r = SS k l i := by
 intro es
 induction es with
 | nil => intro l i r h hr; cases l with
   | nil => simp [Instr.findNow] at hr; exact hr.symm
   | cons p r => simp at h
 | cons x es ih =>
   intro l i r h hr
   cases l with
   | nil => simp at h
   | cons p q =>
     simp only [apJ, List.cons.injEq, Prod.mk.injEq] at h
     obtain ⟨⟨h1, h2⟩, h3⟩ := h
     simp only [Instr.findNow, h1] at hr
     rcases hn k p.1 with hh | hh
     .rw [hh] at hr; cases hr
     .rw [hh] at hr
      simp only [SS]
      by_cases hx : k = p.1
      .simp only [hx, decide_true, Option.some.injEq] at hr
       rw [if_pos hx, <- hr, h2]
      .simp only [hx, decide_false] at hr
       rw [if_neg hx]
       exact ih q (i + 1) r h3 hr
theorem Ua (K : Wm P t enc) (k : κ) (es : List MapEntry) (l : List (κ × atP)) (h : es.map (fun e => (e.key, e.val)) = l.map (fun p => (enc p.1, p.2))) :
 (Instr.findKey t (enc k) es).run P w = .ok (SS k l 0) w := by
 obtain ⟨d, hd, hn⟩ := K.now
 unfold Instr.findKey
 simp only [underlying, Sem.run_bind, run_program, Result.andThen_ok, hd, Sem.run_pure]
 cases hr : Instr.findNow d (enc k) es 0 with
 | none => exact VD K k es l 0 h
 | some r => rw [Xc hn k es l 0 r h hr] <;> rfl
theorem ajS {kt et : TypeId} {i : TypeInfo} {z : atP} (hu : P.underlying t = some (.map kt et)) (hi : P.info? et = some i) (hz : i.zero = some z) (K : Wm P kt enc) {m : Nat} {l : List (κ × atP)} (hm : Mp w m enc l) (k : κ) :
 (Yg t (.map (some m)) (enc k) true).run P w = .ok (.value (.tuple #[(assoc k l).getD z, .bool (assoc k l).isSome])) w := by
 obtain ⟨es, c, hb, he, _⟩ := hm
 unfold Yg; rw [rQ]
 unfold Instr.lookup
 simp only [underlying, Sem.run_bind, run_program, Result.andThen_ok, hu, Sem.run_pure, U5 hb, K.chk, Ua K k es.toList l he, <- Zr k l 0]
 cases SS k l 0 with
 | none => simp [zeroValue, typeInfo, hi, hz]
 | some p => simp
omit [DecidableEq κ] in
theorem abQ {K : atP -> atO -> Prop} (enc : κ -> atP) (hk : ∀ w', Mp w' w.heap.size enc ([] : List (κ × atP)) -> jM w w' mN -> w'.heap.size = w.heap.size + 1 -> K (.map (some w.heap.size)) w') : gE P (Tz t none) w K := by
 have : (Tz t none).run P w = .ok (.value (.map (some w.heap.size))) (w.alloc (.map #[] 0)) := by
  unfold Tz; rw [rQ]
  simp [Instr.makeMap]
 unfold gE
 rw [this]
 exact hk _ ⟨#[], 0, by show (w.heap.push _)[w.heap.size]? = _; simp, rfl, ⟨by simp, by simp⟩, by simp⟩ (jM.alloc _ _ _) (by simp)
theorem abY {kt et : TypeId} (hu : P.underlying t = some (.map kt et)) (Ke : Wm P kt enc) {m : Nat} {l : List (κ × atP)} (hm : Mp w m enc l) (k : κ) (v : atP) {K : atP -> atO -> Prop}
 (hk : ∀ w', Mp w' m enc (Xv k v l) -> jM w w' (fun y => y = m) -> w'.heap.size = w.heap.size -> K undef w') : gE P (Vv t (.map (some m)) (enc k) v) w K := by
 have hlt := hm.lt
 obtain ⟨es, c, hb, he, hgr, hnd⟩ := hm
 have hext : ∀ o, jM w { w with heap := w.heap.setIfInBounds m o } (fun y => y = m) := fun o =>
  ⟨rfl, rfl, rfl, by simp, fun b hb hn => by
   show (w.heap.setIfInBounds m o)[b]? = _
   rw [apQ (fun e => hn e.symm)]⟩
 have key : ∃ es' c', (Vv t (.map (some m)) (enc k) v).run P w = .ok .skip { w with heap := w.heap.setIfInBounds m (.map es' c') } /\ es'.toList.map (fun e => (e.key, e.val)) = ((Xv k v l).map fun p => (enc p.1, p.2)) /\ Grown es' c' := by
  have gen : ∀ (es : List MapEntry) (l : List (κ × atP)) (i : Nat), es.map (fun e => (e.key, e.val)) = l.map (fun p => (enc p.1, p.2)) →
      (SS k l i = none -> ∀ b, (es ++ [(⟨enc k, v, b⟩ : MapEntry)]).map (fun e => (e.key, e.val)) = (Xv k v l).map fun p => (enc p.1, p.2)) /\
      (∀ j x, SS k l i = some (j, x) -> i <= j /\ ∃ old, es[j - i]? = some old /\ old.key = enc k /\ (es.set (j - i) ({ old with key := enc k, val := v } : MapEntry)).map (fun e => (e.key, e.val)) = (Xv k v l).map fun p => (enc p.1, p.2)) := by
   intro es
   induction es with
   | nil =>
     intro l i h
     cases l with
     | nil => exact ⟨fun _ b => rfl, fun j x h => by simp [SS] at h⟩
     | cons p r => simp at h
   | cons x es ih =>
     intro l i h
     cases l with
     | nil => simp at h
     | cons p r =>
       simp only [apJ, List.cons.injEq, Prod.mk.injEq] at h
       obtain ⟨⟨h1, h2⟩, h3⟩ := h
       simp only [SS, Xv]
       by_cases hx : k = p.1
       .rw [if_pos hx, if_pos hx]
        refine ⟨fun h => by (cases h), fun j y h => ?_⟩
        cases h
        refine ⟨aoP _, x, by simp, by rw [h1, hx], ?_⟩
        simp [h3]
       .rw [if_neg hx, if_neg hx]
        obtain ⟨a, b⟩ := ih r (i + 1) h3
        refine ⟨fun h q => ?_, fun j y h => ?_⟩
        .simp only [arB, apJ, a h q, h1, h2]
        .obtain ⟨hj, old, o1, o2, o3⟩ := b j y h
         refine ⟨by omega, old, ?_, o2, ?_⟩
         .rw [show j - i = (j - (i + 1)) + 1 from by omega, aoC]; exact o1
         .rw [show j - i = (j - (i + 1)) + 1 from by omega, apC]
          simp only [apJ, o3, h1, h2]
  obtain ⟨g1, g2⟩ := gen es.toList l 0 he
  unfold Vv
  rw [alF]
  unfold Instr.mapUpdate
  simp only [underlying, Sem.run_bind, run_program, Result.andThen_ok, hu, Sem.run_pure, U5 hb, Ke.chk, Ua Ke k es.toList l he]
  cases hi : SS k l 0 with
  | none =>
    refine ⟨es.push ⟨enc k, v, c⟩, c + 1, ?_, by simpa using g1 hi c, Zp hgr _ _⟩
    simp only [VI _ hb, Result.andThen_ok]
  | some q =>
    obtain ⟨j, x⟩ := q
    obtain ⟨_, old, o1, o2, o3⟩ := g2 j x hi
    rw [asE] at o1 o3
    have o1' : es[j]? = some old := by simpa using o1
    refine ⟨es.modify j fun e => { e with key := enc k, val := v }, c, ?_, ?_, Zs hgr ?_⟩
    .simp only [o1', apM, arK, o2, Instr.keyThatStays, Ke.stay, if_true, Sem.run_pure, Result.andThen_ok, VI _ hb, Sem.run_bind]
    .have hj : j < es.toList.length := by
      rcases aoT j es.toList.length with h | h
      .exact h
      .rw [aoS h] at o1; cases o1
     rw [<- o3]
     congr 1
     apply aqW
     intro y
     rw [asC, arD, List.getElem?_set]
     by_cases hy : j = y
     .subst hy
      have hj' : j < es.size := by simpa using hj
      have e1 : es[j] = old := by rw [aoW hj'] at o1'; exact apP o1'
      simp [hj', e1]
     .simp [hy]
    .apply aqW
     intro y
     rw [aoY, aoY, asC, asC, arD]
     split
     .rename_i h; subst h
      cases es[j]? <;> rfl
     .rfl
 obtain ⟨es', c', h1, h2, h3⟩ := key
 unfold gE
 rw [h1]
 refine hk _ ⟨es', c', by show (w.heap.setIfInBounds m _)[m]? = _; rw [apI hlt], h2, h3, XK hnd⟩ (hext _) (by simp)
theorem Yj {κ : Type} [DecidableEq κ] {i : TypeInfo} {n : Nat} (hu : P.underlying t = some (.array n e)) (he : P.underlying e = some (.int .u8)) (hi : P.info? e = some i) (h1 : i.size = 1)
 (bs : κ -> List UInt8) (hb : ∀ k, (bs k).length = n) (hinj : ∀ a b, bs a = bs b -> a = b) : Wm P t (fun k => .agg ((bs k).map oZ).toArray) := by
 refine ⟨fun a b w => ?_, ⟨_, hu, fun a b => .inl rfl⟩, fun c a w => ?_, fun a => ?_⟩
 .unfold Op.equal Op.maxDepth
  rw [Y7 9998 n hu he hi h1 _ _ (hb a) (hb b)]
  congr 1
  rw [decide_eq_decide]
  exact ⟨hinj a b, fun h => h ▸ rfl⟩
 .unfold Instr.checkKey
  simp only [underlying, Sem.run_bind, run_program, Result.andThen_ok, hu, Sem.run_pure, Std.Legacy.Range.forIn_eq_forIn_range', Std.Legacy.Range.size, asE, Nat.add_one_sub_one, Nat.div_one]
  have key : ∀ (q k : Nat), k + q = n -> (forIn (List.range' k q) () fun (i : Nat) (_ : Unit) => (do
      let z <- sizeOf e
      let x <- part e (List.map oZ (bs a)).toArray (i * z)
      Instr.checkKey c 9999 e x
      pure (ForInStep.yield ()) : Sem (ForInStep Unit))).run P w = .ok () w := by
   intro q
   induction q with
   | zero => intro k _; simp
   | succ q ih =>
     intro k hk
     have g : ((bs a).map oZ).toArray[k]? = some (oZ ((bs a)[k]'(by rw [hb]; omega))) := by
      have : k < (bs a).length := by rw [hb]; omega
      simp [this]
     have hc : ∀ x : UInt8, (Instr.checkKey c 9999 e (oZ x)).run P w = .ok () w := fun x => by
      unfold Instr.checkKey oZ
      simp only [underlying, Sem.run_bind, run_program, Result.andThen_ok, he, Sem.run_pure]
     rw [List.range'_succ]
     simp only [List.forIn_cons, Sem.run_bind, kU hi, h1, aqK, VC he rfl g, Result.andThen_ok, hc, Sem.run_pure]
     exact ih (k + 1) (by omega)
  have := key n 0 (by omega)
  rw [this] <;> rfl
 .unfold Instr.sameBits
  simp only [beq_self_eq_true, Bool.true_and, apO]
  intro x hx
  have : ∀ l : List atP, ∀ x ∈ l.zip l, x.1 = x.2 := by
   intro l
   induction l with
   | nil => simp
   | cons a r ih => intro x hx; simp at hx; rcases hx with rfl | hx; · rfl
                    .exact ih x hx
  have e1 := this _ x hx
  have hm := (List.of_mem_zip hx).1
  obtain ⟨x1, x2⟩ := x
  simp only at e1 hm ⊢
  subst e1
  simp at hm
  obtain ⟨u, _, rfl⟩ := hm
  simp [oZ, Instr.sameBits]
abbrev Nf (n : Nat) := { l : List UInt8 // l.length = n }
def RD {n : Nat} (k : Nf n) : atP := .agg (k.1.map oZ).toArray
theorem Wv {i : TypeInfo} {n : Nat} (hu : P.underlying t = some (.array n e)) (he : P.underlying e = some (.int .u8)) (hi : P.info? e = some i) (h1 : i.size = 1) : Wm P t (RD (n := n)) :=
 Yj (κ := Nf n) hu he hi h1 (fun k => k.1) (fun k => k.2) (fun _ _ h => Subtype.ext h)
theorem alK {n : Nat} (hu : P.underlying t = some (.array n e)) (x : Option Addr) (m c : Nat) (h : n <= m) : (ahW t (.slice x m c)).run P w = .ok (.value (.pointer x)) w := by
 unfold ahW; rw [rQ]
 simp only [Instr.arrayAt, underlying, Sem.run_bind, run_program, Result.andThen_ok, hu, Sem.run_pure, if_neg (Nat.not_lt.2 h)]
theorem ahG {d : TypeDesc} {i : TypeInfo} (hu : P.underlying t = some d) (hd : V4 d = true) (hi : P.info? t = some i) {b off : Nat} {l : List atP} (hl : i.size = l.length) (h : ∀ j, j < l.length -> w.cell? ⟨b, off + j, none⟩ = l[j]?) :
 (jF t (.pointer (some ⟨b, off, none⟩))).run P w = .ok (.value (.agg l.toArray)) w := by
 unfold jF
 rw [rQ]
 simp only [Instr.loadAt, Instr.sureAddr, loadVar, pure_bind, Sem.run_bind, Fk hu, hd, Result.andThen_ok, if_true, kU hi, hl, RK h, Sem.run_pure]
end
theorem GB {w : atO} {b : Nat} {cs : List atP} (h : mQ w b cs) : mQ (dr w) b cs := h.ext (jM.dr w mN) (fun h => h)
theorem Sl.dr {w : atO} {v : atP} {l : List atP} (h : Sl w v l) : Sl (dr w) v l := h
theorem Sl.open {w : atO} {v : atP} {l : List UInt8} (h : Bs w v l) (h0 : 0 < l.length) : ∃ b off c, v = .slice (some ⟨b, off, none⟩) l.length c /\ l.length <= c /\ ∀ i, (h : i < l.length) -> w.cell? ⟨b, off + i, none⟩ = some (oZ l[i]) := by
 obtain ⟨a, n, c, rfl, hn, hc, h⟩ := h
 simp only [aoK] at hn
 subst hn
 obtain ⟨b, off, rfl, hh⟩ := h h0
 exact ⟨b, off, c, rfl, hc, fun i hi => by rw [hh i hi]; simp [hi]⟩
theorem Sl.len {w : atO} {v : atP} {l : List atP} (h : Sl w v l) : ∃ a c, v = .slice a l.length c /\ l.length <= c := by
 obtain ⟨a, n, c, rfl, rfl, hc, _⟩ := h
 exact ⟨a, c, rfl, hc⟩
theorem kJ (v : atP) : ¬ Lf v mN := by unfold Lf mN; split <;> simp
theorem VQ {b o m l : Nat} (h : l ≠ m) : nL (some ⟨b, o, none⟩) m l 1 = some ⟨b, o + l, none⟩ := by
 unfold nL; rw [if_neg (fun e => h e.symm)]; simp [EG]
theorem B3 {v : atP} {M N : Nat -> Prop} (h : Lf v M) (hm : ∀ b, M b -> N b) : Lf v N := by
 unfold Lf at *
 split at h
 .exact hm _ h
 .exact h
theorem yB.len {w : atO} {b sz n : Nat} {v : atP} {l : List atP} (h : yB w b sz v n l) : ∃ a c, v = .slice a n c := by
 rcases h.2 with ⟨rfl, rfl⟩ | ⟨x, c, r, rfl, _⟩
 .exact ⟨_, _, rfl⟩
 .exact ⟨_, _, rfl⟩
theorem yB.lower {w : atO} {a b sz n : Nat} {v : atP} {l : List atP} (h : yB w b sz v n l) (hab : a <= b) : yB w a sz v n l := by
 refine ⟨h.1, ?_⟩
 rcases h.2 with h | ⟨x, c, r, h1, h2, h3⟩
 .exact .inl h
 .exact .inr ⟨x, c, r, h1, by omega, h3⟩
theorem Sl.nil (w : atO) : Sl w (.slice none 0 0) [] := ⟨none, 0, 0, rfl, rfl, aoP _, fun h => absurd h (by simp)⟩
theorem Sl.take' {w : atO} {a : Option Addr} {n c : Nat} {l : List atP} (h : Sl w (.slice a n c) l) {k : Nat} (hk : k <= n) : Sl w (.slice (nL a c 0 1) (k - 0) (c - 0)) (l.take k) := by
 have h' := h
 obtain ⟨a', n', c', e, hn, hc, hh⟩ := h'
 cases e
 by_cases h0 : k = 0
 .subst h0
  exact ⟨_, _, _, rfl, by simp, by omega, fun h => by simp at h⟩
 .obtain ⟨b, off, rfl, _⟩ := hh (by omega)
  exact h.take hk
theorem Sl.drop' {w : atO} {a : Option Addr} {n c : Nat} {l : List atP} (h : Sl w (.slice a n c) l) {k : Nat} (hk : k <= n) : Sl w (.slice (nL a c k 1) (n - k) (c - k)) (l.drop k) := by
 have h' := h
 obtain ⟨a', n', c', e, hn, hc, hh⟩ := h'
 cases e
 by_cases h0 : n = 0
 .exact ⟨_, _, _, rfl, by rw [apD]; omega, by omega, fun h => by omega⟩
 .obtain ⟨b, off, rfl, _⟩ := hh (by omega)
  exact h.drop hk
theorem Sl.openV {w : atO} {v : atP} {l : List atP} (h : Sl w v l) (h0 : 0 < l.length) : ∃ b off c, v = .slice (some ⟨b, off, none⟩) l.length c /\ l.length <= c /\ ∀ i, (h : i < l.length) -> w.cell? ⟨b, off + i, none⟩ = some l[i] := by
 obtain ⟨a, n, c, rfl, hn, hc, h⟩ := h
 subst hn
 obtain ⟨b, off, rfl, hh⟩ := h h0
 exact ⟨b, off, c, rfl, hc, fun i hi => by rw [hh i hi]; simp [hi]⟩
def KV (n : Nat) (l : List atP) : List atP := (List.replicate n l).flatten
theorem Rp (n : Nat) (l : List atP) : (KV n l).length = n * l.length := by
 unfold KV; rw [List.length_flatten]; simp
theorem acO : ∀ (n : Nat) (l : List atP) (j : Nat) (_ : j < n * l.length) (h0 : 0 < l.length), (KV n l)[j]? = some (l[j % l.length]'(atK _ h0)) := by
 intro n
 induction n with
 | zero => intro l j h; simp at h
 | succ n ih =>
   intro l j h h0
   unfold KV
   rw [asP, atC]
   by_cases hj : j < l.length
   .rw [aoX hj, aoM hj]
    simp only [apX hj]
   .rw [apF (by omega)]
    have := ih l (j - l.length) (by rw [Nat.succ_mul] at h; omega) h0
    unfold KV at this
    rw [this]
    simp only [<- Nat.mod_eq_sub_mod (show j ≥ l.length by omega)]
theorem acE {P : Program} {w : atO} {t e : TypeId} {k : IntKind} {i : TypeInfo} {z : atP} {sz : Nat} (hu : P.underlying t = some (.slice e)) (hi : P.info? e = some i) (h1 : i.size = sz) (hsz : 0 < sz) (hz : i.zero = some z) (hz1 : z.cells.size = sz) {n : Int} (h0 : 0 <= n) (hn : i.bytes * n <= 2 ^ 48) (hn2 : n <= 9223372036854775807)
 {K : atP -> atO -> Prop}
 (hk : ∀ w', mQ w' w.heap.size (KV n.toNat z.cells.toList) -> jM w w' mN -> w'.heap.size = w.heap.size + 1 -> K (.slice (some ⟨w.heap.size, 0, none⟩) n.toNat n.toNat) w') :
 gE P (uF t (.int k n) (.int k n)) w K := by
 have hw : IntKind.i64.wrap n = n := gY (by omega) hn2
 have hl : z.cells.toList.length = sz := by simpa using hz1
 have harr : (Array.range (n.toNat * sz)).map (fun j => z.cells[j % z.cells.size]!) = (KV n.toNat z.cells.toList).toArray := by
  apply Array.ext
  .simp [Rp, hz1]
  .intro j h1 h2
   have hj : j < n.toNat * sz := by simpa using h1
   have := acO n.toNat z.cells.toList j (by rw [hl]; exact hj) (by rw [hl]; exact hsz)
   have hm : j % z.cells.size < z.cells.size := atK _ (by omega)
   simp only [Array.getElem_map, Array.getElem_range, List.getElem_toArray]
   rw [getElem!_pos z.cells _ hm]
   rw [aoM (by rw [Rp, hl]; exact hj)] at this
   have := apP this
   rw [this]
   simp
 have hz' : (zeroValue e).run P w = .ok z w := by simp [zeroValue, typeInfo, hi, hz]
 have : (uF t (.int k n) (.int k n)).run P w = .ok (.value (.slice (some ⟨w.heap.size, 0, none⟩) n.toNat n.toNat)) (w.alloc (.cells (KV n.toNat z.cells.toList).toArray e)) := by
  unfold uF
  rw [rQ]
  have t1 : (decide (n < 0) || decide ((i.bytes : Int) * n > 2 ^ 48) || decide (n < 0) || decide (n > n)) = false := by
   simp only [asJ, decide_eq_false_iff_not]; omega
  by_cases hn0 : n.toNat * sz = 0
  .simp only [Instr.makeSlice, underlying, typeInfo, asInt, asIntOf, pure_bind, Sem.run_bind, run_program, Result.andThen_ok, hu, hi, Sem.run_pure, hw, t1, aoD, if_false, run_askRoom, kU hi, h1, hn0, if_true, newRow, run_newObj]
   have hn : n.toNat = 0 := by rcases Nat.mul_eq_zero.1 hn0 with h | h <;> omega
   have : (Array.range 0).map (fun x => (#[] : Array atP)[x % (#[] : Array atP).size]!) = (KV n.toNat z.cells.toList).toArray := by rw [hn]; simp [KV]
   rw [this]
   rfl
  .simp only [Instr.makeSlice, underlying, typeInfo, asInt, asIntOf, pure_bind, Sem.run_bind, run_program, Result.andThen_ok, hu, hi, Sem.run_pure, hw, t1, aoD, if_false, run_askRoom, kU hi, h1, hn0, hz', newRow, run_newObj, harr]
   rfl
 unfold gE
 rw [this]
 exact hk _ (mQ.alloc _ _ _) (jM.alloc _ _ _) (by simp)
theorem ZC {P : Program} {w : atO} {t e : TypeId} {k k' : IntKind} {hi mx : Int} {i : TypeInfo} (hu : P.underlying t = some (.slice e)) (hi' : P.info? e = some i) (x : Option Addr) (n c : Nat) (h0 : 0 <= hi) (h1 : hi <= mx) (h2 : mx <= c) :
 (lR t (.slice x n c) none (some (.int k hi)) (some (.int k' mx))).run P w = .ok (.value (.slice (nL x mx.toNat 0 i.size) (hi.toNat - 0) (mx.toNat - 0))) w := by
 have h3 : (0 : Int) <= mx := by omega
 have h4 : hi <= (mx.toNat : Int) := by omega
 simp only [lR, rQ, Instr.sliceAt, underlying, hu, Sem.run_bind, run_program, Result.andThen_ok, Sem.run_pure, Instr.slice, Instr.sliceBounds, pure_bind, yL h3 h2, yL h0 h4, kU hi', nL]
section
variable {P : Program} {w : atO} {t e : TypeId}
variable {κ : Type} [DecidableEq κ] {enc : κ -> atP}
def Itr {κ : Type} (w : atO) (it m : Nat) (enc : κ -> atP) (rest : List (κ × atP)) : Prop :=
 ∃ es clock seen, w.heap[m]? = some (.map es clock) /\ w.heap[it]? = some (.mapIter (some m) clock seen clock) /\ Grown es clock /\
   (es.toList.filter fun e => !seen.contains e.born).map (fun e => (e.key, e.val)) = rest.map fun p => (enc p.1, p.2)
theorem Itr.ext {κ : Type} {w w' : atO} {it m : Nat} {enc : κ -> atP} {rest : List (κ × atP)} {M : Nat -> Prop} (h : Itr w it m enc rest) (hx : jM w w' M) (hm : ¬ M m) (hi : ¬ M it) : Itr w' it m enc rest := by
 obtain ⟨es, c, seen, h1, h2, h3⟩ := h
 have lt : ∀ {b : Nat} {o : Obj}, w.heap[b]? = some o -> b < w.heap.size := fun {b o} h => by
  rcases aoT b w.heap.size with h' | h'
  .exact h'
  .rw [aqI h'] at h; cases h
 exact ⟨es, c, seen, by rw [hx.keep m (lt h1) hm]; exact h1, by rw [hx.keep it (lt h2) hi]; exact h2, h3⟩
def Cur {κ : Type} (w : atO) (it m : Nat) (enc : κ -> atP) (p : κ × atP) : Prop :=
 ∃ es clock c0 seen e, w.heap[m]? = some (.map es clock) /\ w.heap[it]? = some (.mapIter (some m) c0 seen clock) /\ seen.back? = some e.born /\ es.find? (fun x => x.born == e.born) = some e /\ e.key = enc p.1 /\ e.val = p.2
omit [DecidableEq κ] in
theorem Cur.ext {w w' : atO} {it m : Nat} {p : κ × atP} {M : Nat -> Prop} (h : Cur w it m enc p) (hx : jM w w' M) (hm : ¬ M m) (hi : ¬ M it) : Cur w' it m enc p := by
 obtain ⟨es, c, c0, seen, e, h1, h2, h3⟩ := h
 have lt : ∀ {b : Nat} {o : Obj}, w.heap[b]? = some o -> b < w.heap.size := fun {b o} h => by
  rcases aoT b w.heap.size with h' | h'
  .exact h'
  .rw [aqI h'] at h; cases h
 exact ⟨es, c, c0, seen, e, by rw [hx.keep m (lt h1) hm]; exact h1, by rw [hx.keep it (lt h2) hi]; exact h2, h3⟩
omit [DecidableEq κ] in
end
end Go.En
namespace Go.Proofs.YtoecppploooloaaGreatDoor
open Go Go.En
set_option maxRecDepth 4000
theorem fM {ty : TypeId} (x : Option Addr) (n c : Nat) (w : atO) : (oD .len #[22] ty [.slice x n c]).run pg w = .ok (.value (.int .i64 n)) w := QN Tryz.underlying22 x n c
theorem fK {k : IntKind} (a : Int) (w : atO) : (nS 5 3 (.int k a)).run pg w = .ok (.value (.int .i64 (IntKind.i64.wrap a))) w := BO Tryz.underlying5 Tryz.underlying3
theorem eZ {k : IntKind} (a : Int) (w : atO) : (nS 29 3 (.int k a)).run pg w = .ok (.value (.int .i64 (IntKind.i64.wrap a))) w := BO Tryz.underlying29 Tryz.underlying3
theorem Hx : (pg).info? 5 = some Tryz.t5 := by kernel_rfl
theorem fQ {k : IntKind} {a : Int} (b o n c : Nat) (w : atO) (h0 : 0 <= a) (h1 : a < n) : (jO 22 (.slice (some ⟨b, o, none⟩) n c) (.int k a)).run pg w = .ok (.value (.pointer (some ⟨b, o + a.toNat, none⟩))) w := Pe rfl Tryz.underlying22 Hx b o n c h0 h1
theorem X2 {b off : Nat} {cs : List atP} {w : atO} {v : atP} {K : atP -> atO -> Prop} (ho : mQ w b cs) (hv : one v = true) (h : off < cs.length) (hk : ∀ w', mQ w' b (cs.set off v) -> jM w w' (fun x => x = b) -> w'.heap.size = w.heap.size -> K undef w') : gE pg (kA 5 (.pointer (some ⟨b, off, none⟩)) v) w K := Co Hx rfl ho hv h hk
theorem QH {l : List UInt8} {v : atP} {w : atO} (h : Bs w v l) : (nS 22 9 v).run pg w = .ok (.value (.string ⟨l.toArray⟩)) w := adJ Tryz.underlying22 Tryz.underlying9 Tryz.underlying5 h
theorem cU {k : IntKind} (a : Int) (w : atO) : (nS 38 32 (.int k a)).run pg w = .ok (.value (.int .u64 (IntKind.u64.wrap a))) w := BO Tryz.underlying38 Tryz.underlying32
theorem eQ {k : IntKind} (a : Int) (w : atO) : (nS 3 32 (.int k a)).run pg w = .ok (.value (.int .u64 (IntKind.u64.wrap a))) w := BO Tryz.underlying3 Tryz.underlying32
theorem sJ {n : Nat} {ps : List (Nat × atP)} {cells : Array atP} {w : atO} (h1 : ¬ n * 1 > 2 ^ 24) (h0 : ¬ n * 1 = 0) (hf : Go.Instr.fill (fun j => some (j * 1, 1)) ((Array.range (n * 1)).map ((Tryz.t5.zero.get!).cells[· % (Tryz.t5.zero.get!).cells.size]!)) ps = some cells) {K : atP -> atO -> Prop} (hk : ∀ w', mQ w' w.heap.size cells.toList -> jM w w' mN -> w'.heap.size = w.heap.size + 1 -> K (.slice (some ⟨w.heap.size, 0, none⟩) n n) w') : gE pg (lJ 22 n ps) w K := Ra (i := Tryz.t5) Tryz.underlying22 Hx rfl h1 h0 hf hk
theorem eE {k : IntKind} {hi : Int} (a : Option Addr) (n c : Nat) (w : atO) (h0 : 0 <= hi) (h1 : hi <= c) : (lR 22 (.slice a n c) none (some (.int k hi)) none).run pg w = .ok (.value (.slice (nL a c (0) 1) (hi.toNat - 0) (c - 0))) w := Rf Tryz.underlying22 Hx _ n c h0 h1
theorem ZY : (pg).info? 45 = some Tryz.t45 := by kernel_rfl
theorem rM {w : atO} {K : atP -> atO -> Prop} (hk : ∀ w', mQ w' w.heap.size [(.int .u32 0), (.int .u32 0), (.int .u32 0)] -> jM w w' mN -> w'.heap.size = w.heap.size + 1 -> K (.pointer (some ⟨w.heap.size, 0, none⟩)) w') : gE pg (pX 45) w K := EM (i := Tryz.t45) ZY rfl hk
theorem pS {b off : Nat} {cs : List atP} {w : atO} {xs : Array atP} {K : atP -> atO -> Prop} (ho : mQ w b cs) (hs : xs.size = 3) (hv : ∀ x ∈ xs.toList, one x = true) (h : off + 3 <= cs.length) (hk : ∀ w', mQ w' b (qL cs off xs.toList) -> jM w w' (fun x => x = b) -> w'.heap.size = w.heap.size -> K undef w') : gE pg (kA 45 (.pointer (some ⟨b, off, none⟩)) (.agg xs)) w K := G9 (v := .agg xs) ZY ho hs hv h hk
theorem AJ {b off : Nat} {cs : List atP} {w : atO} (ho : mQ w b cs) (h : off + 3 <= cs.length) : (jF 45 (.pointer (some ⟨b, off, none⟩))).run pg w = .ok (.value (.agg ((cs.drop off).take 3).toArray)) w := S8 Tryz.underlying45 rfl ZY ho h
theorem lZ {base n m : Nat} {ty : TypeId} {w : atO} {v x : atP} {l news : List atP} (h : yB w base 1 v n l) (hx : Cl w 1 x m news) (hone : ∀ y ∈ news, one y = true) (hb : base <= w.heap.size) (hbytes : (n + m) * 1 <= 140737488355328) {K : atP -> atO -> Prop} (hk : ∀ v' w', yB w' base 1 v' (n + m) (l ++ news) -> jM w w' (fun y => base <= y) -> K v' w') : gE pg (oD .append #[22, 22] ty [v, x]) w K := U8 (i := Tryz.t5) Tryz.underlying22 Tryz.underlying22 Hx rfl rfl rfl h hx hone hb (by omega) hbytes (by decide) hk
theorem dJ {k : IntKind} (a : Int) (w : atO) : (nS 32 5 (.int k a)).run pg w = .ok (.value (.int .u8 (IntKind.u8.wrap a))) w := BO Tryz.underlying32 Tryz.underlying5
theorem Sw : (pg).info? 22 = some Tryz.t22 := by kernel_rfl
theorem bO (b o : Nat) (w : atO) : (jJ 56 (.pointer (some ⟨b, o, none⟩)) 3).run pg w = .ok (.value (.pointer (some ⟨b, o + 3, none⟩))) w := lY (i := 3) Tryz.underlying56 rfl Sw (by decide) _
theorem fR (x : Addr) (w : atO) : (jF 22 (.pointer (some x))).run pg w = V1 (w.cell? x) w (YH pg 22 x w) := TL Tryz.underlying22 rfl x w
theorem eS {k : IntKind} (a : Int) (w : atO) : (nS 32 3 (.int k a)).run pg w = .ok (.value (.int .i64 (IntKind.i64.wrap a))) w := BO Tryz.underlying32 Tryz.underlying3
theorem EO {b off : Nat} {cs : List atP} {w : atO} (ho : mQ w b cs) (h : off + 3 <= cs.length) {K : atP -> Prop} (hk : K (.agg ((cs.drop off).take 3).toArray)) : UE pg 45 (.pointer (some ⟨b, off, none⟩)) w K := Xu Tryz.underlying45 rfl ZY ho h hk
theorem aQ (n0 : Int) (n1 : Int) (n2 : Int) (w : atO) : (mL 45 [(0, (.int .u32 n0)), (1, (.int .u32 n1)), (2, (.int .u32 n2))]).run pg w = .ok (.value (.agg #[(.int .u32 n0), (.int .u32 n1), (.int .u32 n2)])) w := by kernel_rfl
theorem cY {k k' : IntKind} {lo hi : Int} (a : Option Addr) (n c : Nat) (w : atO) (h0 : 0 <= lo) (h1 : lo <= hi) (h2 : hi <= c) : (lR 22 (.slice a n c) (some (.int k lo)) (some (.int k' hi)) none).run pg w = .ok (.value (.slice (nL a c (lo.toNat) 1) (hi.toNat - lo.toNat) (c - lo.toNat))) w := Xm Tryz.underlying22 Hx _ n c h0 h1 h2
theorem bF (b0 : Bool) (n1 : Int) (n2 : Int) (w : atO) : (mL 65 [(0, (.bool b0)), (1, (.int .i64 n1)), (2, (.int .i64 n2))]).run pg w = .ok (.value (.agg #[(.bool b0), (.int .i64 n1), (.int .i64 n2)])) w := by kernel_rfl
theorem aeG : (pg).info? 65 = some Tryz.t65 := by kernel_rfl
theorem VM {w : atO} {K : atP -> atO -> Prop} (hk : ∀ w', mQ w' w.heap.size [(.bool false), (.int .i64 0), (.int .i64 0)] -> jM w w' mN -> w'.heap.size = w.heap.size + 1 -> K (.pointer (some ⟨w.heap.size, 0, none⟩)) w') : gE pg (pX 65) w K := EM (i := Tryz.t65) aeG rfl hk
theorem Ux {b off : Nat} {cs : List atP} {w : atO} {xs : Array atP} {K : atP -> atO -> Prop} (ho : mQ w b cs) (hs : xs.size = 3) (hv : ∀ x ∈ xs.toList, one x = true) (h : off + 3 <= cs.length) (hk : ∀ w', mQ w' b (qL cs off xs.toList) -> jM w w' (fun x => x = b) -> w'.heap.size = w.heap.size -> K undef w') : gE pg (kA 65 (.pointer (some ⟨b, off, none⟩)) (.agg xs)) w K := G9 (v := .agg xs) aeG ho hs hv h hk
theorem El : (pg).info? 3 = some Tryz.t3 := by kernel_rfl
theorem bP (b o : Nat) (w : atO) : (jJ 65 (.pointer (some ⟨b, o, none⟩)) 1).run pg w = .ok (.value (.pointer (some ⟨b, o + 1, none⟩))) w := lY (i := 1) Tryz.underlying65 rfl El (by decide) _
theorem Lt {b off : Nat} {cs : List atP} {w : atO} {v : atP} {K : atP -> atO -> Prop} (ho : mQ w b cs) (hv : one v = true) (h : off < cs.length) (hk : ∀ w', mQ w' b (cs.set off v) -> jM w w' (fun x => x = b) -> w'.heap.size = w.heap.size -> K undef w') : gE pg (kA 3 (.pointer (some ⟨b, off, none⟩)) v) w K := Co El rfl ho hv h hk
theorem bJ (b o : Nat) (w : atO) : (jJ 65 (.pointer (some ⟨b, o, none⟩)) 2).run pg w = .ok (.value (.pointer (some ⟨b, o + 2, none⟩))) w := lY (i := 2) Tryz.underlying65 rfl El (by decide) _
theorem UM {b off : Nat} {cs : List atP} {w : atO} (ho : mQ w b cs) (h : off + 3 <= cs.length) : (jF 65 (.pointer (some ⟨b, off, none⟩))).run pg w = .ok (.value (.agg ((cs.drop off).take 3).toArray)) w := S8 Tryz.underlying65 rfl aeG ho h
theorem aI (p0 : Option Addr) (n1 : Int) (n2 : Int) (w : atO) : (mL 56 [(0, (.pointer p0)), (1, (.int .u64 n1)), (2, (.int .i64 n2))]).run pg w = .ok (.value (.agg #[(.pointer p0), (.int .u64 n1), (.int .i64 n2), (.slice none 0 0), (.int .i64 0), (.int .i64 0)])) w := by kernel_rfl
theorem alH : (pg).info? 54 = some Tryz.t54 := by kernel_rfl
theorem cP (b o : Nat) (w : atO) : (jJ 56 (.pointer (some ⟨b, o, none⟩)) 0).run pg w = .ok (.value (.pointer (some ⟨b, o, none⟩))) w := lY (i := 0) Tryz.underlying56 rfl alH (by decide) _
theorem cB (x : Addr) (w : atO) : (jF 54 (.pointer (some x))).run pg w = V1 (w.cell? x) w (YH pg 54 x w) := TL Tryz.underlying54 rfl x w
theorem eP {ox oy : Operand} (x : Option Addr) (n c : Nat) (w : atO) : (gW .eql 22 ox oy (.slice x n c) (.slice none 0 0)).run pg w = .ok (.value (.bool x.isNone)) w := ahK Tryz.underlying22 x n c
theorem aF (b o : Nat) (w : atO) : (jJ 56 (.pointer (some ⟨b, o, none⟩)) 4).run pg w = .ok (.value (.pointer (some ⟨b, o + 4, none⟩))) w := lY (i := 4) Tryz.underlying56 rfl El (by decide) _
theorem gR (x : Addr) (w : atO) : (jF 3 (.pointer (some x))).run pg w = V1 (w.cell? x) w (YH pg 3 x w) := TL Tryz.underlying3 rfl x w
theorem aK (b o : Nat) (w : atO) : (jJ 56 (.pointer (some ⟨b, o, none⟩)) 5).run pg w = .ok (.value (.pointer (some ⟨b, o + 5, none⟩))) w := lY (i := 5) Tryz.underlying56 rfl El (by decide) _
theorem cJ  (w : atO) : (mL 77 []).run pg w = .ok (.value (.agg #[(.slice none 0 0)])) w := by kernel_rfl
theorem aS {ox oy : Operand} (x : Option Addr) (w : atO) : (gW .eql 60 ox oy (.pointer x) (.pointer none)).run pg w = .ok (.value (.bool x.isNone)) w := Xf Tryz.underlying60 x
theorem bS (b o : Nat) (w : atO) : (jJ 77 (.pointer (some ⟨b, o, none⟩)) 0).run pg w = .ok (.value (.pointer (some ⟨b, o, none⟩))) w := lY (i := 0) Tryz.underlying77 rfl Sw (by decide) _
theorem fS {k : IntKind} (a : Int) (w : atO) : (nS 3 50 (.int k a)).run pg w = .ok (.value (.int .u64 (IntKind.u64.wrap a))) w := BO Tryz.underlying3 Tryz.underlying50
theorem tN {b off : Nat} {cs : List atP} {w : atO} {v : atP} {K : atP -> atO -> Prop} (ho : mQ w b cs) (hv : one v = true) (h : off < cs.length) (hk : ∀ w', mQ w' b (cs.set off v) -> jM w w' (fun x => x = b) -> w'.heap.size = w.heap.size -> K undef w') : gE pg (kA 22 (.pointer (some ⟨b, off, none⟩)) v) w K := Co Sw rfl ho hv h hk
theorem cC {ty : TypeId} (x : Option Addr) (n c : Nat) (w : atO) : (oD .len #[80] ty [.slice x n c]).run pg w = .ok (.value (.int .i64 n)) w := QN Tryz.underlying80 x n c
theorem agS : (pg).info? 84 = some Tryz.t84 := by kernel_rfl
theorem cD {k : IntKind} {a : Int} (b o n c : Nat) (w : atO) (h0 : 0 <= a) (h1 : a < n) : (jO 80 (.slice (some ⟨b, o, none⟩) n c) (.int k a)).run pg w = .ok (.value (.pointer (some ⟨b, o + a.toNat * 3, none⟩))) w := TZ rfl Tryz.underlying80 agS b o n c h0 h1
theorem Ja : (pg).info? 38 = some Tryz.t38 := by kernel_rfl
theorem aB (b o : Nat) (w : atO) : (jJ 84 (.pointer (some ⟨b, o, none⟩)) 0).run pg w = .ok (.value (.pointer (some ⟨b, o, none⟩))) w := lY (i := 0) Tryz.underlying84 rfl Ja (by decide) _
theorem gC (x : Addr) (w : atO) : (jF 38 (.pointer (some x))).run pg w = V1 (w.cell? x) w (YH pg 38 x w) := TL Tryz.underlying38 rfl x w
theorem fC {k : IntKind} (a : Int) (w : atO) : (nS 38 3 (.int k a)).run pg w = .ok (.value (.int .i64 (IntKind.i64.wrap a))) w := BO Tryz.underlying38 Tryz.underlying3
theorem aJ (b o : Nat) (w : atO) : (jJ 84 (.pointer (some ⟨b, o, none⟩)) 1).run pg w = .ok (.value (.pointer (some ⟨b, o + 1, none⟩))) w := lY (i := 1) Tryz.underlying84 rfl Ja (by decide) _
theorem aD (b o : Nat) (w : atO) : (jJ 84 (.pointer (some ⟨b, o, none⟩)) 2).run pg w = .ok (.value (.pointer (some ⟨b, o + 2, none⟩))) w := lY (i := 2) Tryz.underlying84 rfl Ja (by decide) _
theorem acT {b off : Nat} {cs : List atP} {w : atO} {v : atP} {K : atP -> atO -> Prop} (ho : mQ w b cs) (hv : one v = true) (h : off < cs.length) (hk : ∀ w', mQ w' b (cs.set off v) -> jM w w' (fun x => x = b) -> w'.heap.size = w.heap.size -> K undef w') : gE pg (kA 38 (.pointer (some ⟨b, off, none⟩)) v) w K := Co Ja rfl ho hv h hk
theorem Oz {n : Nat} {ps : List (Nat × atP)} {cells : Array atP} {w : atO} (h1 : ¬ n * 1 > 2 ^ 24) (h0 : ¬ n * 1 = 0) (hf : Go.Instr.fill (fun j => some (j * 1, 1)) ((Array.range (n * 1)).map ((Tryz.t22.zero.get!).cells[· % (Tryz.t22.zero.get!).cells.size]!)) ps = some cells) {K : atP -> atO -> Prop} (hk : ∀ w', mQ w' w.heap.size cells.toList -> jM w w' mN -> w'.heap.size = w.heap.size + 1 -> K (.slice (some ⟨w.heap.size, 0, none⟩) n n) w') : gE pg (lJ 137 n ps) w K := Ra (i := Tryz.t22) Tryz.underlying137 Sw rfl h1 h0 hf hk
theorem akS : (pg).info? 4 = some Tryz.t4 := by kernel_rfl
theorem bH (b o : Nat) (w : atO) : (jJ 65 (.pointer (some ⟨b, o, none⟩)) 0).run pg w = .ok (.value (.pointer (some ⟨b, o, none⟩))) w := lY (i := 0) Tryz.underlying65 rfl akS (by decide) _
theorem gO (x : Addr) (w : atO) : (jF 4 (.pointer (some x))).run pg w = V1 (w.cell? x) w (YH pg 4 x w) := TL Tryz.underlying4 rfl x w
theorem aP (n0 : Int) (n1 : Int) (n2 : Int) (n3 : Int) (w : atO) : (mL 90 [(0, (.int .u64 n0)), (1, (.int .u64 n1)), (2, (.int .u64 n2)), (3, (.int .u64 n3))]).run pg w = .ok (.value (.agg #[(.int .u64 n0), (.int .u64 n1), (.int .u64 n2), (.int .u64 n3)])) w := by kernel_rfl
theorem eU (afT aeT adO akY : atP) (w : atO) : (mL 93 [(0, (.agg #[afT, aeT, adO, akY]))]).run pg w = .ok (.value (.agg #[afT, aeT, adO, akY, (.int .u8 0), (.int .u8 0), (.int .u8 0), (.int .u8 0), (.int .u8 0), (.int .u8 0), (.int .u8 0), (.int .u8 0), (.int .u8 0), (.int .u8 0), (.int .u8 0), (.int .u8 0), (.int .u8 0), (.int .u8 0), (.int .u8 0), (.int .u8 0), (.int .u8 0), (.int .u8 0), (.int .u8 0), (.int .u8 0), (.int .u8 0), (.int .u8 0), (.int .u8 0), (.int .u8 0), (.int .u8 0), (.int .u8 0), (.int .u8 0), (.int .u8 0), (.int .u8 0), (.int .u8 0), (.int .u8 0), (.int .u8 0), (.int .i64 0), (.int .u64 0)])) w := by kernel_rfl
theorem dT {ox oy : Operand} (x : Option Addr) (w : atO) : (gW .eql 68 ox oy (.pointer x) (.pointer none)).run pg w = .ok (.value (.bool x.isNone)) w := Xf Tryz.underlying68 x
theorem U6 : (pg).info? 32 = some Tryz.t32 := by kernel_rfl
theorem dV (b o : Nat) (w : atO) : (jJ 93 (.pointer (some ⟨b, o, none⟩)) 3).run pg w = .ok (.value (.pointer (some ⟨b, o + 37, none⟩))) w := lY (i := 3) Tryz.underlying93 rfl U6 (by decide) _
theorem gG (x : Addr) (w : atO) : (jF 32 (.pointer (some x))).run pg w = V1 (w.cell? x) w (YH pg 32 x w) := TL Tryz.underlying32 rfl x w
theorem Wt {b off : Nat} {cs : List atP} {w : atO} {v : atP} {K : atP -> atO -> Prop} (ho : mQ w b cs) (hv : one v = true) (h : off < cs.length) (hk : ∀ w', mQ w' b (cs.set off v) -> jM w w' (fun x => x = b) -> w'.heap.size = w.heap.size -> K undef w') : gE pg (kA 32 (.pointer (some ⟨b, off, none⟩)) v) w K := Co U6 rfl ho hv h hk
theorem alC : (pg).info? 91 = some Tryz.t91 := by kernel_rfl
theorem dH (b o : Nat) (w : atO) : (jJ 93 (.pointer (some ⟨b, o, none⟩)) 1).run pg w = .ok (.value (.pointer (some ⟨b, o + 4, none⟩))) w := lY (i := 1) Tryz.underlying93 rfl alC (by decide) _
theorem fH (b o : Nat) (w : atO) : (jJ 93 (.pointer (some ⟨b, o, none⟩)) 2).run pg w = .ok (.value (.pointer (some ⟨b, o + 36, none⟩))) w := lY (i := 2) Tryz.underlying93 rfl El (by decide) _
theorem dB {k : IntKind} {lo : Int} (b o : Nat) (w : atO) (h0 : 0 <= lo) (h1 : lo <= 32) : (lR 91 (.pointer (some ⟨b, o, none⟩)) (some (.int k lo)) none none).run pg w = .ok (.value (.slice (some (sX ⟨b, o, none⟩ 32 (lo.toNat) 1)) (32 - lo.toNat) (32 - lo.toNat))) w := XU Tryz.underlying91 Hx _ h0 (by simpa using h1)
theorem X1 {ty : TypeId} {w : atO} {b off dl c : Nat} {cs : List atP} (ho : mQ w b cs) (hl : off + dl <= cs.length) {v : atP} {l : List atP} (h : Sl w v l) (hv : ∀ x ∈ l, one x = true) {K : atP -> atO -> Prop} (hk : ∀ w', mQ w' b (qL cs off (l.take (min l.length dl))) -> jM w w' (fun x => x = b) -> w'.heap.size = w.heap.size -> K (.int .i64 (min l.length dl : Nat)) w') : gE pg (oD .copy #[22, 22] ty [.slice (some ⟨b, off, none⟩) dl c, v]) w K := afN Tryz.underlying22 Hx rfl ho hl h hv hk
theorem eH {k : IntKind} {lo : Int} (a : Option Addr) (n c : Nat) (w : atO) (h0 : 0 <= lo) (h1 : lo <= n) : (lR 22 (.slice a n c) (some (.int k lo)) none none).run pg w = .ok (.value (.slice (nL a c (lo.toNat) 1) (n - lo.toNat) (c - lo.toNat))) w := Zc Tryz.underlying22 Hx _ n c h0 h1
theorem aiV : (pg).info? 90 = some Tryz.t90 := by kernel_rfl
theorem eT (b o : Nat) (w : atO) : (jJ 93 (.pointer (some ⟨b, o, none⟩)) 0).run pg w = .ok (.value (.pointer (some ⟨b, o, none⟩))) w := lY (i := 0) Tryz.underlying93 rfl aiV (by decide) _
theorem fD {k : IntKind} {a : Int} (b o : Nat) (w : atO) (h0 : 0 <= a) (h1 : a < 4) : (jO 90 (.pointer (some ⟨b, o, none⟩)) (.int k a)).run pg w = .ok (.value (.pointer (some ⟨b, o + a.toNat, none⟩))) w := Ha rfl Tryz.underlying90 U6 b o h0 (by simpa using h1)
theorem cF {k k' : IntKind} {lo hi : Int} (b o : Nat) (w : atO) (h0 : 0 <= lo) (h1 : lo <= hi) (h2 : hi <= 32) : (lR 91 (.pointer (some ⟨b, o, none⟩)) (some (.int k lo)) (some (.int k' hi)) none).run pg w = .ok (.value (.slice (some (sX ⟨b, o, none⟩ 32 (lo.toNat) 1)) (hi.toNat - lo.toNat) (32 - lo.toNat))) w := Qm Tryz.underlying91 Hx _ h0 h1 (by simpa using h2)
theorem dF {k : IntKind} {hi : Int} (b o : Nat) (w : atO) (h0 : 0 <= hi) (h1 : hi <= 32) : (lR 91 (.pointer (some ⟨b, o, none⟩)) none (some (.int k hi)) none).run pg w = .ok (.value (.slice (some (sX ⟨b, o, none⟩ 32 (0) 1)) (hi.toNat - 0) (32 - 0))) w := NV Tryz.underlying91 Hx _ h0 (by simpa using h1)
theorem gJ (x : Addr) (w : atO) : (jF 5 (.pointer (some x))).run pg w = V1 (w.cell? x) w (YH pg 5 x w) := TL Tryz.underlying5 rfl x w
theorem dQ {k : IntKind} (a : Int) (w : atO) : (nS 5 32 (.int k a)).run pg w = .ok (.value (.int .u64 (IntKind.u64.wrap a))) w := BO Tryz.underlying5 Tryz.underlying32
theorem cH (a0 : Option Addr) (l0 c0 : Nat) (w : atO) : (mL 97 [(0, (.slice a0 l0 c0))]).run pg w = .ok (.value (.agg #[(.slice a0 l0 c0), (.int .i64 0)])) w := by kernel_rfl
theorem bA {ox oy : Operand} (x : Option Addr) (w : atO) : (gW .eql 54 ox oy (.pointer x) (.pointer none)).run pg w = .ok (.value (.bool x.isNone)) w := Xf Tryz.underlying54 x
theorem bZ (b o : Nat) (w : atO) : (jJ 97 (.pointer (some ⟨b, o, none⟩)) 0).run pg w = .ok (.value (.pointer (some ⟨b, o, none⟩))) w := lY (i := 0) Tryz.underlying97 rfl Sw (by decide) _
theorem afS : (pg).info? 24 = some Tryz.t24 := by kernel_rfl
theorem cG (b o : Nat) (w : atO) : (jJ 97 (.pointer (some ⟨b, o, none⟩)) 1).run pg w = .ok (.value (.pointer (some ⟨b, o + 1, none⟩))) w := lY (i := 1) Tryz.underlying97 rfl afS (by decide) _
theorem fP (x : Addr) (w : atO) : (jF 24 (.pointer (some x))).run pg w = V1 (w.cell? x) w (YH pg 24 x w) := TL Tryz.underlying24 rfl x w
theorem aE (b o : Nat) (w : atO) : (jJ 101 (.pointer (some ⟨b, o, none⟩)) 0).run pg w = .ok (.value (.pointer (some ⟨b, o, none⟩))) w := lY (i := 0) Tryz.underlying101 rfl U6 (by decide) _
theorem aG (b o : Nat) (w : atO) : (jJ 56 (.pointer (some ⟨b, o, none⟩)) 1).run pg w = .ok (.value (.pointer (some ⟨b, o + 1, none⟩))) w := lY (i := 1) Tryz.underlying56 rfl U6 (by decide) _
theorem aO (b o : Nat) (w : atO) : (jJ 101 (.pointer (some ⟨b, o, none⟩)) 2).run pg w = .ok (.value (.pointer (some ⟨b, o + 2, none⟩))) w := lY (i := 2) Tryz.underlying101 rfl akS (by decide) _
theorem aV (b o : Nat) (w : atO) : (jJ 101 (.pointer (some ⟨b, o, none⟩)) 1).run pg w = .ok (.value (.pointer (some ⟨b, o + 1, none⟩))) w := lY (i := 1) Tryz.underlying101 rfl U6 (by decide) _
theorem bD (b o : Nat) (w : atO) : (jJ 56 (.pointer (some ⟨b, o, none⟩)) 2).run pg w = .ok (.value (.pointer (some ⟨b, o + 2, none⟩))) w := lY (i := 2) Tryz.underlying56 rfl El (by decide) _
theorem cL (afT aeT adO : atP) (w : atO) : (mL 110 [(2, (.agg #[afT, aeT, adO]))]).run pg w = .ok (.value (.agg #[(.slice none 0 0), (.int .i64 0), (.slice none 0 0), (.int .i64 0), (.slice none 0 0), (.int .i64 0), (.slice none 0 0), afT, aeT, adO])) w := by kernel_rfl
theorem bN (b o : Nat) (w : atO) : (jJ 101 (.pointer (some ⟨b, o, none⟩)) 3).run pg w = .ok (.value (.pointer (some ⟨b, o + 3, none⟩))) w := lY (i := 3) Tryz.underlying101 rfl akS (by decide) _
theorem F8 {w : atO} {K : atP -> atO -> Prop} (hk : ∀ w', Mp w' w.heap.size (RD (n := 4)) ([] : List (Nf 4 × atP)) -> jM w w' mN -> w'.heap.size = w.heap.size + 1 -> K (.map (some w.heap.size)) w') : gE pg (Tz 116 none) w K := abQ _ hk
theorem Tq {k : IntKind} {n : Int} {w : atO} {K : atP -> atO -> Prop} (h0 : 0 <= n) (hn : 8 * n <= 2 ^ 48) (hk : ∀ w', mQ w' w.heap.size (List.replicate n.toNat (.int .i64 0)) -> jM w w' mN -> w'.heap.size = w.heap.size + 1 -> K (.slice (some ⟨w.heap.size, 0, none⟩) n.toNat n.toNat) w') : gE pg (uF 117 (.int k n) (.int k n)) w K := X6 (i := Tryz.t3) Tryz.underlying117 El rfl rfl rfl h0 hn (by omega) hk
theorem aA (a0 : Option Addr) (l0 c0 : Nat) (n1 : Int) (m2 : Option Nat) (a3 : Option Addr) (l3 c3 : Nat) (n4 : Int) (w : atO) : (mL 119 [(0, (.slice a0 l0 c0)), (1, (.int .i64 n1)), (2, (.map m2)), (3, (.slice a3 l3 c3)), (4, (.int .i64 n4))]).run pg w = .ok (.value (.agg #[(.slice a0 l0 c0), (.int .i64 n1), (.map m2), (.slice a3 l3 c3), (.int .i64 n4)])) w := by kernel_rfl
theorem fE {k : IntKind} (a : Int) (w : atO) : (nS 3 38 (.int k a)).run pg w = .ok (.value (.int .u32 (IntKind.u32.wrap a))) w := BO Tryz.underlying3 Tryz.underlying38
theorem aM (n0 : Int) (n1 : Int) (n2 : Int) (w : atO) : (mL 84 [(0, (.int .u32 n0)), (1, (.int .u32 n1)), (2, (.int .u32 n2))]).run pg w = .ok (.value (.agg #[(.int .u32 n0), (.int .u32 n1), (.int .u32 n2)])) w := by kernel_rfl
theorem Q1 {n : Nat} {ps : List (Nat × atP)} {cells : Array atP} {w : atO} (h1 : ¬ n * 3 > 2 ^ 24) (h0 : ¬ n * 3 = 0) (hf : Go.Instr.fill (fun j => some (j * 3, 3)) ((Array.range (n * 3)).map ((Tryz.t84.zero.get!).cells[· % (Tryz.t84.zero.get!).cells.size]!)) ps = some cells) {K : atP -> atO -> Prop} (hk : ∀ w', mQ w' w.heap.size cells.toList -> jM w w' mN -> w'.heap.size = w.heap.size + 1 -> K (.slice (some ⟨w.heap.size, 0, none⟩) n n) w') : gE pg (lJ 80 n ps) w K := Ra (i := Tryz.t84) Tryz.underlying80 agS rfl h1 h0 hf hk
theorem Cn {base n m : Nat} {ty : TypeId} {w : atO} {v x : atP} {l news : List atP} (h : yB w base 3 v n l) (hx : Cl w 3 x m news) (hone : ∀ y ∈ news, one y = true) (hb : base <= w.heap.size) (hbytes : (n + m) * 12 <= 140737488355328) {K : atP -> atO -> Prop} (hk : ∀ v' w', yB w' base 3 v' (n + m) (l ++ news) -> jM w w' (fun y => base <= y) -> K v' w') : gE pg (oD .append #[80, 80] ty [v, x]) w K := U8 (i := Tryz.t84) Tryz.underlying80 Tryz.underlying80 agS rfl rfl rfl h hx hone hb (by omega) hbytes (by decide) hk
theorem cO (n0 : Int) (w : atO) : (mL 84 [(0, (.int .u32 n0))]).run pg w = .ok (.value (.agg #[(.int .u32 n0), (.int .u32 0), (.int .u32 0)])) w := by kernel_rfl
theorem Uv {w : atO} {K : atP -> atO -> Prop} (hk : ∀ w', mQ w' w.heap.size [(.slice none 0 0)] -> jM w w' mN -> w'.heap.size = w.heap.size + 1 -> K (.pointer (some ⟨w.heap.size, 0, none⟩)) w') : gE pg (pX 22) w K := EM (i := Tryz.t22) Sw rfl hk
theorem WZ {k : IntKind} {n : Int} {w : atO} {K : atP -> atO -> Prop} (h0 : 0 <= n) (hn : 4 * n <= 2 ^ 48) (hk : ∀ w', mQ w' w.heap.size (List.replicate n.toNat (.int .u32 0)) -> jM w w' mN -> w'.heap.size = w.heap.size + 1 -> K (.slice (some ⟨w.heap.size, 0, none⟩) n.toNat n.toNat) w') : gE pg (uF 128 (.int k n) (.int k n)) w K := X6 (i := Tryz.t38) Tryz.underlying128 Ja rfl rfl rfl h0 hn (by omega) hk
theorem fI {k : IntKind} {a : Int} (b o n c : Nat) (w : atO) (h0 : 0 <= a) (h1 : a < n) : (jO 128 (.slice (some ⟨b, o, none⟩) n c) (.int k a)).run pg w = .ok (.value (.pointer (some ⟨b, o + a.toNat, none⟩))) w := Pe rfl Tryz.underlying128 Ja b o n c h0 h1
theorem YM : (pg).info? 117 = some Tryz.t117 := by kernel_rfl
theorem eY {k : IntKind} {a : Int} (b o : Nat) (w : atO) (h0 : 0 <= a) (h1 : a < 3) : (jO 131 (.pointer (some ⟨b, o, none⟩)) (.int k a)).run pg w = .ok (.value (.pointer (some ⟨b, o + a.toNat, none⟩))) w := Ha rfl Tryz.underlying131 YM b o h0 (by simpa using h1)
theorem gH (x : Addr) (w : atO) : (jF 117 (.pointer (some x))).run pg w = V1 (w.cell? x) w (YH pg 117 x w) := TL Tryz.underlying117 rfl x w
theorem ajR : (pg).info? 106 = some Tryz.t106 := by kernel_rfl
theorem bK {k : IntKind} {a : Int} (b o : Nat) (w : atO) (h0 : 0 <= a) (h1 : a < 3) : (jO 108 (.pointer (some ⟨b, o, none⟩)) (.int k a)).run pg w = .ok (.value (.pointer (some ⟨b, o + a.toNat * 2, none⟩))) w := acB rfl Tryz.underlying108 ajR b o h0 (by simpa using h1)
theorem eK {ty : TypeId} (x : Option Addr) (n c : Nat) (w : atO) : (oD .len #[137] ty [.slice x n c]).run pg w = .ok (.value (.int .i64 n)) w := QN Tryz.underlying137 x n c
theorem eL {k : IntKind} {a : Int} (b o n c : Nat) (w : atO) (h0 : 0 <= a) (h1 : a < n) : (jO 137 (.slice (some ⟨b, o, none⟩) n c) (.int k a)).run pg w = .ok (.value (.pointer (some ⟨b, o + a.toNat, none⟩))) w := Pe rfl Tryz.underlying137 Sw b o n c h0 h1
theorem bW (n0 : Int) (n1 : Int) (n2 : Int) (n3 : Int) (w : atO) : (mL 139 [(0, (.int .i64 n0)), (1, (.int .i64 n1)), (2, (.int .i64 n2)), (3, (.int .i64 n3))]).run pg w = .ok (.value (.agg #[(.int .i64 n0), (.int .i64 n1), (.int .i64 n2), (.int .i64 n3)])) w := by kernel_rfl
theorem fW {k : IntKind} {a : Int} (cs : Array atP) (w : atO) (h0 : 0 <= a) (h1 : a < 4) : (P8 139 (.agg cs) (.int k a)).run pg w = V1 cs[a.toNat]? w (adT pg 139 cs k a w) := Xq Tryz.underlying139 Tryz.underlying3 rfl El rfl cs h0 (by simpa using h1)
theorem Vx {b off : Nat} {cs : List atP} {w : atO} (ho : mQ w b cs) (h : off + 4 <= cs.length) : (jF 90 (.pointer (some ⟨b, off, none⟩))).run pg w = .ok (.value (.agg ((cs.drop off).take 4).toArray)) w := S8 Tryz.underlying90 rfl aiV ho h
theorem fF {k : IntKind} {a : Int} (cs : Array atP) (w : atO) (h0 : 0 <= a) (h1 : a < 4) : (P8 90 (.agg cs) (.int k a)).run pg w = V1 cs[a.toNat]? w (adT pg 90 cs k a w) := Xq Tryz.underlying90 Tryz.underlying32 rfl U6 rfl cs h0 (by simpa using h1)
theorem Ml {b off : Nat} {cs : List atP} {w : atO} {v : atP} {K : atP -> atO -> Prop} (ho : mQ w b cs) (hv : one v = true) (h : off < cs.length) (hk : ∀ w', mQ w' b (cs.set off v) -> jM w w' (fun x => x = b) -> w'.heap.size = w.heap.size -> K undef w') : gE pg (kA 24 (.pointer (some ⟨b, off, none⟩)) v) w K := Co afS rfl ho hv h hk
theorem eJ {k k' : IntKind} {hi mx : Int} (a : Option Addr) (n c : Nat) (w : atO) (h0 : 0 <= hi) (h1 : hi <= mx) (h2 : mx <= c) : (lR 22 (.slice a n c) none (some (.int k hi)) (some (.int k' mx))).run pg w = .ok (.value (.slice (nL a mx.toNat 0 1) (hi.toNat - 0) (mx.toNat - 0))) w := ZC Tryz.underlying22 Hx a n c h0 h1 h2
theorem dD  (w : atO) : (mL 101 []).run pg w = .ok (.value (.agg #[(.int .u64 0), (.int .u64 0), (.bool false), (.bool false)])) w := by kernel_rfl
theorem cR (b0 : Bool) (w : atO) : (mL 101 [(3, (.bool b0))]).run pg w = .ok (.value (.agg #[(.int .u64 0), (.int .u64 0), (.bool false), (.bool b0)])) w := by kernel_rfl
theorem dG  (w : atO) : (mL 110 []).run pg w = .ok (.value (.agg #[(.slice none 0 0), (.int .i64 0), (.slice none 0 0), (.int .i64 0), (.slice none 0 0), (.int .i64 0), (.slice none 0 0), (.int .u32 0), (.int .u32 0), (.int .u32 0)])) w := by kernel_rfl
theorem Va : (pg).info? 146 = some Tryz.t146 := by kernel_rfl
theorem Lk {w : atO} {K : atP -> atO -> Prop} (hk : ∀ w', mQ w' w.heap.size [(.int .u8 0), (.int .u8 0), (.int .u8 0), (.int .u8 0)] -> jM w w' mN -> w'.heap.size = w.heap.size + 1 -> K (.pointer (some ⟨w.heap.size, 0, none⟩)) w') : gE pg (pX 146) w K := EM (i := Tryz.t146) Va rfl hk
theorem FP {b off : Nat} {cs : List atP} {w : atO} {xs : Array atP} {K : atP -> atO -> Prop} (ho : mQ w b cs) (hs : xs.size = 4) (hv : ∀ x ∈ xs.toList, one x = true) (h : off + 4 <= cs.length) (hk : ∀ w', mQ w' b (qL cs off xs.toList) -> jM w w' (fun x => x = b) -> w'.heap.size = w.heap.size -> K undef w') : gE pg (kA 146 (.pointer (some ⟨b, off, none⟩)) (.agg xs)) w K := G9 (v := .agg xs) Va ho hs hv h hk
theorem ajM : (pg).info? 116 = some Tryz.t116 := by kernel_rfl
theorem aW (b o : Nat) (w : atO) : (jJ 119 (.pointer (some ⟨b, o, none⟩)) 2).run pg w = .ok (.value (.pointer (some ⟨b, o + 2, none⟩))) w := lY (i := 2) Tryz.underlying119 rfl ajM (by decide) _
theorem bB (x : Addr) (w : atO) : (jF 116 (.pointer (some x))).run pg w = V1 (w.cell? x) w (YH pg 116 x w) := TL Tryz.underlying116 rfl x w
theorem VZ {b off : Nat} {l : List atP} {w : atO} (hl : l.length = 4) (h : ∀ j, j < l.length -> w.cell? ⟨b, off + j, none⟩ = l[j]?) : (jF 146 (.pointer (some ⟨b, off, none⟩))).run pg w = .ok (.value (.agg l.toArray)) w := ahG Tryz.underlying146 rfl Va hl.symm h
theorem Jp {b off : Nat} {cs : List atP} {w : atO} (ho : mQ w b cs) (h : off + 4 <= cs.length) : (jF 146 (.pointer (some ⟨b, off, none⟩))).run pg w = .ok (.value (.agg ((cs.drop off).take 4).toArray)) w := S8 Tryz.underlying146 rfl Va ho h
theorem Gh {w : atO} {m : Nat} {l : List (Nf 4 × atP)} (hm : Mp w m (RD (n := 4)) l) (k : Nf 4) : (Yg 116 (.map (some m)) ((RD (n := 4)) k) true).run pg w = .ok (.value (.tuple #[(assoc k l).getD (.int .i64 0), .bool (assoc k l).isSome])) w := ajS Tryz.underlying116 El rfl (Wv (n := 4) Tryz.underlying146 Tryz.underlying5 Hx rfl) hm k
theorem aH (b o : Nat) (w : atO) : (jJ 119 (.pointer (some ⟨b, o, none⟩)) 3).run pg w = .ok (.value (.pointer (some ⟨b, o + 3, none⟩))) w := lY (i := 3) Tryz.underlying119 rfl YM (by decide) _
theorem gA {k : IntKind} {a : Int} (b o n c : Nat) (w : atO) (h0 : 0 <= a) (h1 : a < n) : (jO 117 (.slice (some ⟨b, o, none⟩) n c) (.int k a)).run pg w = .ok (.value (.pointer (some ⟨b, o + a.toNat, none⟩))) w := Pe rfl Tryz.underlying117 El b o n c h0 h1
theorem NJ {w : atO} {m : Nat} {l : List (Nf 4 × atP)} (hm : Mp w m (RD (n := 4)) l) (k : Nf 4) (v : atP) {K : atP -> atO -> Prop} (hk : ∀ w', Mp w' m (RD (n := 4)) (Xv k v l) -> jM w w' (fun y => y = m) -> w'.heap.size = w.heap.size -> K undef w') : gE pg (Vv 116 (.map (some m)) ((RD (n := 4)) k) v) w K := abY Tryz.underlying116 (Wv (n := 4) Tryz.underlying146 Tryz.underlying5 Hx rfl) hm k v hk
theorem aL (b o : Nat) (w : atO) : (jJ 119 (.pointer (some ⟨b, o, none⟩)) 4).run pg w = .ok (.value (.pointer (some ⟨b, o + 4, none⟩))) w := lY (i := 4) Tryz.underlying119 rfl El (by decide) _
theorem dC  (w : atO) : (mL 45 []).run pg w = .ok (.value (.agg #[(.int .u32 0), (.int .u32 0), (.int .u32 0)])) w := by kernel_rfl
theorem dW {k : IntKind} {a : Int} (b o : Nat) (w : atO) (h0 : 0 <= a) (h1 : a < 3) : (jO 45 (.pointer (some ⟨b, o, none⟩)) (.int k a)).run pg w = .ok (.value (.pointer (some ⟨b, o + a.toNat, none⟩))) w := Ha rfl Tryz.underlying45 Ja b o h0 (by simpa using h1)
theorem aX {k k' : IntKind} {lo hi : Int} (b o : Nat) (w : atO) (h0 : 0 <= lo) (h1 : lo <= hi) (h2 : hi <= 3) : (lR 45 (.pointer (some ⟨b, o, none⟩)) (some (.int k lo)) (some (.int k' hi)) none).run pg w = .ok (.value (.slice (some (sX ⟨b, o, none⟩ 3 (lo.toNat) 1)) (hi.toNat - lo.toNat) (3 - lo.toNat))) w := Qm Tryz.underlying45 Ja _ h0 h1 (by simpa using h2)
theorem cI {k : IntKind} {hi : Int} (b o : Nat) (w : atO) (h0 : 0 <= hi) (h1 : hi <= 3) : (lR 45 (.pointer (some ⟨b, o, none⟩)) none (some (.int k hi)) none).run pg w = .ok (.value (.slice (some (sX ⟨b, o, none⟩ 3 (0) 1)) (hi.toNat - 0) (3 - 0))) w := NV Tryz.underlying45 Ja _ h0 (by simpa using h1)
theorem fJ {ty : TypeId} (x : Option Addr) (n c : Nat) (w : atO) : (oD .len #[128] ty [.slice x n c]).run pg w = .ok (.value (.int .i64 n)) w := QN Tryz.underlying128 x n c
theorem dK {k : IntKind} {hi : Int} (a : Option Addr) (n c : Nat) (w : atO) (h0 : 0 <= hi) (h1 : hi <= c) : (lR 128 (.slice a n c) none (some (.int k hi)) none).run pg w = .ok (.value (.slice (nL a c (0) 1) (hi.toNat - 0) (c - 0))) w := Rf Tryz.underlying128 Ja _ n c h0 h1
theorem gD {ty : TypeId} (x : Option Addr) (n c : Nat) (w : atO) : (oD .len #[117] ty [.slice x n c]).run pg w = .ok (.value (.int .i64 n)) w := QN Tryz.underlying117 x n c
theorem fL {k : IntKind} (a : Int) (w : atO) : (nS 3 5 (.int k a)).run pg w = .ok (.value (.int .u8 (IntKind.u8.wrap a))) w := BO Tryz.underlying3 Tryz.underlying5
theorem fA {k : IntKind} {a : Int} (cs : Array atP) (w : atO) (h0 : 0 <= a) (h1 : a < 3) : (P8 44 (.agg cs) (.int k a)).run pg w = V1 cs[a.toNat]? w (adT pg 44 cs k a w) := Xq Tryz.underlying44 Tryz.underlying38 rfl Ja rfl cs h0 (by simpa using h1)
theorem fB  (w : atO) : (mL 106 []).run pg w = .ok (.value (.agg #[(.int .i64 0), (.slice none 0 0)])) w := by kernel_rfl
theorem dP {k : IntKind} {a : Int} (b o : Nat) (w : atO) (h0 : 0 <= a) (h1 : a < 256) : (jO 160 (.pointer (some ⟨b, o, none⟩)) (.int k a)).run pg w = .ok (.value (.pointer (some ⟨b, o + a.toNat, none⟩))) w := Ha rfl Tryz.underlying160 Ja b o h0 (by simpa using h1)
theorem aN (b o : Nat) (w : atO) : (jJ 162 (.pointer (some ⟨b, o, none⟩)) 1).run pg w = .ok (.value (.pointer (some ⟨b, o + 1, none⟩))) w := lY (i := 1) Tryz.underlying162 rfl YM (by decide) _
theorem bX {k : IntKind} {hi : Int} (b o : Nat) (w : atO) (h0 : 0 <= hi) (h1 : hi <= 256) : (lR 160 (.pointer (some ⟨b, o, none⟩)) none (some (.int k hi)) none).run pg w = .ok (.value (.slice (some (sX ⟨b, o, none⟩ 256 (0) 1)) (hi.toNat - 0) (256 - 0))) w := NV Tryz.underlying160 Ja _ h0 (by simpa using h1)
theorem dE (n0 : Int) (n1 : Int) (n2 : Int) (w : atO) : (mL 172 [(0, (.int .i64 n0)), (1, (.int .i64 n1)), (2, (.int .i64 n2))]).run pg w = .ok (.value (.agg #[(.int .i64 n0), (.int .i64 n1), (.int .i64 n2)])) w := by kernel_rfl
theorem fY {k : IntKind} {a : Int} (cs : Array atP) (w : atO) (h0 : 0 <= a) (h1 : a < 3) : (P8 172 (.agg cs) (.int k a)).run pg w = V1 cs[a.toNat]? w (adT pg 172 cs k a w) := Xq Tryz.underlying172 Tryz.underlying3 rfl El rfl cs h0 (by simpa using h1)
theorem fX {k : IntKind} {a : Int} (b o : Nat) (w : atO) (h0 : 0 <= a) (h1 : a < 3) : (jO 172 (.pointer (some ⟨b, o, none⟩)) (.int k a)).run pg w = .ok (.value (.pointer (some ⟨b, o + a.toNat, none⟩))) w := Ha rfl Tryz.underlying172 El b o h0 (by simpa using h1)
theorem fG {k : IntKind} {a : Int} (b o : Nat) (w : atO) (h0 : 0 <= a) (h1 : a < 3) : (jO 44 (.pointer (some ⟨b, o, none⟩)) (.int k a)).run pg w = .ok (.value (.pointer (some ⟨b, o + a.toNat, none⟩))) w := Ha rfl Tryz.underlying44 Ja b o h0 (by simpa using h1)
theorem dI (b o : Nat) (w : atO) : (jJ 106 (.pointer (some ⟨b, o, none⟩)) 0).run pg w = .ok (.value (.pointer (some ⟨b, o, none⟩))) w := lY (i := 0) Tryz.underlying106 rfl El (by decide) _
theorem aT {ox oy : Operand} (x : Option Addr) (w : atO) : (gW .neq 60 ox oy (.pointer x) (.pointer none)).run pg w = .ok (.value (.bool (!x.isNone))) w := akE Tryz.underlying60 x
theorem dZ  (w : atO) : (mL 65 []).run pg w = .ok (.value (.agg #[(.bool false), (.int .i64 0), (.int .i64 0)])) w := by kernel_rfl
theorem fT {k : IntKind} (a : Int) (w : atO) : (nS 50 3 (.int k a)).run pg w = .ok (.value (.int .i64 (IntKind.i64.wrap a))) w := BO Tryz.underlying50 Tryz.underlying3
theorem Qw {b off : Nat} {cs : List atP} {w : atO} (ho : mQ w b cs) (h : off + 4 <= cs.length) {K : atP -> Prop} (hk : K (.agg ((cs.drop off).take 4).toArray)) : UE pg 146 (.pointer (some ⟨b, off, none⟩)) w K := Xu Tryz.underlying146 rfl Va ho h hk
theorem cQ (b o : Nat) (w : atO) : (jJ 119 (.pointer (some ⟨b, o, none⟩)) 0).run pg w = .ok (.value (.pointer (some ⟨b, o, none⟩))) w := lY (i := 0) Tryz.underlying119 rfl Sw (by decide) _
theorem eX  (w : atO) : (mL 146 []).run pg w = .ok (.value (.agg #[(.int .u8 0), (.int .u8 0), (.int .u8 0), (.int .u8 0)])) w := by kernel_rfl
theorem fN {w : atO} (x : Option Addr) (n c : Nat) (h : 4 <= n) : (ahW 146 (.slice x n c)).run pg w = .ok (.value (.pointer x)) w := alK Tryz.underlying146 x n c h
theorem bY (b o : Nat) (w : atO) : (jJ 119 (.pointer (some ⟨b, o, none⟩)) 1).run pg w = .ok (.value (.pointer (some ⟨b, o + 1, none⟩))) w := lY (i := 1) Tryz.underlying119 rfl El (by decide) _
theorem bL (n0 : Int) (n1 : Int) (n2 : Int) (w : atO) : (mL 44 [(0, (.int .u32 n0)), (1, (.int .u32 n1)), (2, (.int .u32 n2))]).run pg w = .ok (.value (.agg #[(.int .u32 n0), (.int .u32 n1), (.int .u32 n2)])) w := by kernel_rfl
theorem dU  (b o : Nat) (w : atO)  : (lR 190 (.pointer (some ⟨b, o, none⟩)) none none none).run pg w = .ok (.value (.slice (some (sX ⟨b, o, none⟩ 36 (0) 1)) (36 - 0) (36 - 0))) w := Dt Tryz.underlying190 El _
theorem aZ (n0 : Int) (a1 : Option Addr) (l1 c1 : Nat) (w : atO) : (mL 162 [(0, (.int .i64 n0)), (1, (.slice a1 l1 c1))]).run pg w = .ok (.value (.agg #[(.int .i64 n0), (.slice a1 l1 c1)])) w := by kernel_rfl
theorem dY  (b o : Nat) (w : atO)  : (lR 191 (.pointer (some ⟨b, o, none⟩)) none none none).run pg w = .ok (.value (.slice (some (sX ⟨b, o, none⟩ 29 (0) 1)) (29 - 0) (29 - 0))) w := Dt Tryz.underlying191 El _
theorem dO  (b o : Nat) (w : atO)  : (lR 192 (.pointer (some ⟨b, o, none⟩)) none none none).run pg w = .ok (.value (.slice (some (sX ⟨b, o, none⟩ 53 (0) 1)) (53 - 0) (53 - 0))) w := Dt Tryz.underlying192 El _
theorem cK  (w : atO) : (mL 162 []).run pg w = .ok (.value (.agg #[(.int .i64 0), (.slice none 0 0)])) w := by kernel_rfl
theorem eI (n0 : Int) (w : atO) : (mL 194 [(0, (.int .u8 n0))]).run pg w = .ok (.value (.agg #[(.int .u8 n0), (.int .i64 0), (.int .i64 0)])) w := by kernel_rfl
theorem akU : (pg).info? 194 = some Tryz.t194 := by kernel_rfl
theorem eM (a0 : Option Addr) (l0 c0 : Nat) (w : atO) : (mL 106 [(1, (.slice a0 l0 c0))]).run pg w = .ok (.value (.agg #[(.int .i64 0), (.slice a0 l0 c0)])) w := by kernel_rfl
theorem aY (b o : Nat) (w : atO) : (jJ 162 (.pointer (some ⟨b, o, none⟩)) 0).run pg w = .ok (.value (.pointer (some ⟨b, o, none⟩))) w := lY (i := 0) Tryz.underlying162 rfl El (by decide) _
theorem dA (n0 : Int) (a1 : Option Addr) (l1 c1 : Nat) (w : atO) : (mL 106 [(0, (.int .i64 n0)), (1, (.slice a1 l1 c1))]).run pg w = .ok (.value (.agg #[(.int .i64 n0), (.slice a1 l1 c1)])) w := by kernel_rfl
theorem akG : (pg).info? 104 = some Tryz.t104 := by kernel_rfl
theorem bE (b o : Nat) (w : atO) : (jJ 106 (.pointer (some ⟨b, o, none⟩)) 1).run pg w = .ok (.value (.pointer (some ⟨b, o + 1, none⟩))) w := lY (i := 1) Tryz.underlying106 rfl akG (by decide) _
theorem dN (x : Addr) (w : atO) : (jF 104 (.pointer (some x))).run pg w = V1 (w.cell? x) w (YH pg 104 x w) := TL Tryz.underlying104 rfl x w
theorem dS {ty : TypeId} (x : Option Addr) (n c : Nat) (w : atO) : (oD .len #[104] ty [.slice x n c]).run pg w = .ok (.value (.int .i64 n)) w := QN Tryz.underlying104 x n c
theorem dR {k : IntKind} {a : Int} (b o n c : Nat) (w : atO) (h0 : 0 <= a) (h1 : a < n) : (jO 104 (.slice (some ⟨b, o, none⟩) n c) (.int k a)).run pg w = .ok (.value (.pointer (some ⟨b, o + a.toNat * 3, none⟩))) w := TZ rfl Tryz.underlying104 akU b o n c h0 h1
theorem bM (b o : Nat) (w : atO) : (jJ 194 (.pointer (some ⟨b, o, none⟩)) 0).run pg w = .ok (.value (.pointer (some ⟨b, o, none⟩))) w := lY (i := 0) Tryz.underlying194 rfl Hx (by decide) _
theorem cN (b o : Nat) (w : atO) : (jJ 194 (.pointer (some ⟨b, o, none⟩)) 1).run pg w = .ok (.value (.pointer (some ⟨b, o + 1, none⟩))) w := lY (i := 1) Tryz.underlying194 rfl El (by decide) _
theorem cM (b o : Nat) (w : atO) : (jJ 194 (.pointer (some ⟨b, o, none⟩)) 2).run pg w = .ok (.value (.pointer (some ⟨b, o + 2, none⟩))) w := lY (i := 2) Tryz.underlying194 rfl El (by decide) _
theorem dM  (w : atO) : (mL 201 []).run pg w = .ok (.value (.agg #[(.slice none 0 0), (.int .i64 0)])) w := by kernel_rfl
theorem bR {ox oy : Operand} (x : Option Addr) (w : atO) : (gW .eql 170 ox oy (.pointer x) (.pointer none)).run pg w = .ok (.value (.bool x.isNone)) w := Xf Tryz.underlying170 x
theorem cW (b o : Nat) (w : atO) : (jJ 201 (.pointer (some ⟨b, o, none⟩)) 1).run pg w = .ok (.value (.pointer (some ⟨b, o + 1, none⟩))) w := lY (i := 1) Tryz.underlying201 rfl El (by decide) _
theorem cV (b o : Nat) (w : atO) : (jJ 201 (.pointer (some ⟨b, o, none⟩)) 0).run pg w = .ok (.value (.pointer (some ⟨b, o, none⟩))) w := lY (i := 0) Tryz.underlying201 rfl Sw (by decide) _
theorem fO {k : IntKind} {hi : Int} (a : Option Addr) (n c : Nat) (w : atO) (h0 : 0 <= hi) (h1 : hi <= c) : (lR 117 (.slice a n c) none (some (.int k hi)) none).run pg w = .ok (.value (.slice (nL a c (0) 1) (hi.toNat - 0) (c - 0))) w := Rf Tryz.underlying117 El _ n c h0 h1
theorem bV (a0 : Option Addr) (l0 c0 : Nat) (n1 : Int) (w : atO) : (mL 201 [(0, (.slice a0 l0 c0)), (1, (.int .i64 n1))]).run pg w = .ok (.value (.agg #[(.slice a0 l0 c0), (.int .i64 n1)])) w := by kernel_rfl
theorem eF {k : IntKind} (a : Int) (w : atO) : (nS 50 38 (.int k a)).run pg w = .ok (.value (.int .u32 (IntKind.u32.wrap a))) w := BO Tryz.underlying50 Tryz.underlying38
theorem eN {k : IntKind} (a : Int) (w : atO) : (nS 38 50 (.int k a)).run pg w = .ok (.value (.int .u64 (IntKind.u64.wrap a))) w := BO Tryz.underlying38 Tryz.underlying50
theorem gF {k : IntKind} {a : Int} (x : ByteArray) (w : atO) (h0 : 0 <= a) (h1 : a.toNat < x.size) : (P8 9 (.string x) (.int k a)).run pg w = .ok (.value (.int .u8 (x[a.toNat]'h1).toNat)) w := ajE Tryz.underlying9 x h0 h1
theorem WW : (pg).info? 139 = some Tryz.t139 := by kernel_rfl
theorem VG {w : atO} {K : atP -> atO -> Prop} (hk : ∀ w', mQ w' w.heap.size [(.int .i64 0), (.int .i64 0), (.int .i64 0), (.int .i64 0)] -> jM w w' mN -> w'.heap.size = w.heap.size + 1 -> K (.pointer (some ⟨w.heap.size, 0, none⟩)) w') : gE pg (pX 139) w K := EM (i := Tryz.t139) WW rfl hk
theorem Uj {b off : Nat} {cs : List atP} {w : atO} {xs : Array atP} {K : atP -> atO -> Prop} (ho : mQ w b cs) (hs : xs.size = 4) (hv : ∀ x ∈ xs.toList, one x = true) (h : off + 4 <= cs.length) (hk : ∀ w', mQ w' b (qL cs off xs.toList) -> jM w w' (fun x => x = b) -> w'.heap.size = w.heap.size -> K undef w') : gE pg (kA 139 (.pointer (some ⟨b, off, none⟩)) (.agg xs)) w K := G9 (v := .agg xs) WW ho hs hv h hk
theorem XQ {b off : Nat} {cs : List atP} {w : atO} (ho : mQ w b cs) (h : off + 4 <= cs.length) : (jF 139 (.pointer (some ⟨b, off, none⟩))).run pg w = .ok (.value (.agg ((cs.drop off).take 4).toArray)) w := S8 Tryz.underlying139 rfl WW ho h
theorem dX  (b o : Nat) (w : atO)  : (lR 231 (.pointer (some ⟨b, o, none⟩)) none none none).run pg w = .ok (.value (.slice (some (sX ⟨b, o, none⟩ 20 (0) 1)) (20 - 0) (20 - 0))) w := Dt Tryz.underlying231 El _
theorem eD  (b o : Nat) (w : atO)  : (lR 232 (.pointer (some ⟨b, o, none⟩)) none none none).run pg w = .ok (.value (.slice (some (sX ⟨b, o, none⟩ 21 (0) 1)) (21 - 0) (21 - 0))) w := Dt Tryz.underlying232 El _
theorem dL {k : IntKind} (a : Int) (w : atO) : (nS 38 5 (.int k a)).run pg w = .ok (.value (.int .u8 (IntKind.u8.wrap a))) w := BO Tryz.underlying38 Tryz.underlying5
theorem cZ {k : IntKind} (a : Int) (w : atO) : (nS 32 38 (.int k a)).run pg w = .ok (.value (.int .u32 (IntKind.u32.wrap a))) w := BO Tryz.underlying32 Tryz.underlying38
theorem YY : (pg).info? 241 = some Tryz.t241 := by kernel_rfl
theorem PN {k : IntKind} {n : Int} {w : atO} {K : atP -> atO -> Prop} (h0 : 0 <= n) (hn : 16 * n <= 2 ^ 48) (hk : ∀ w', mQ w' w.heap.size (KV n.toNat [(.int .i64 0), (.int .i64 0)]) -> jM w w' mN -> w'.heap.size = w.heap.size + 1 -> K (.slice (some ⟨w.heap.size, 0, none⟩) n.toNat n.toNat) w') : gE pg (uF 225 (.int k n) (.int k n)) w K := acE (i := Tryz.t241) Tryz.underlying225 YY rfl (by decide) rfl rfl h0 hn (by omega) hk
theorem bG (n0 : Int) (n1 : Int) (w : atO) : (mL 241 [(0, (.int .i64 n0)), (1, (.int .i64 n1))]).run pg w = .ok (.value (.agg #[(.int .i64 n0), (.int .i64 n1)])) w := by kernel_rfl
theorem bQ {k : IntKind} {a : Int} (b o n c : Nat) (w : atO) (h0 : 0 <= a) (h1 : a < n) : (jO 225 (.slice (some ⟨b, o, none⟩) n c) (.int k a)).run pg w = .ok (.value (.pointer (some ⟨b, o + a.toNat * 2, none⟩))) w := TZ rfl Tryz.underlying225 YY b o n c h0 h1
theorem Tb {b off : Nat} {cs : List atP} {w : atO} {xs : Array atP} {K : atP -> atO -> Prop} (ho : mQ w b cs) (hs : xs.size = 2) (hv : ∀ x ∈ xs.toList, one x = true) (h : off + 2 <= cs.length) (hk : ∀ w', mQ w' b (qL cs off xs.toList) -> jM w w' (fun x => x = b) -> w'.heap.size = w.heap.size -> K undef w') : gE pg (kA 241 (.pointer (some ⟨b, off, none⟩)) (.agg xs)) w K := G9 (v := .agg xs) YY ho hs hv h hk
theorem Se {b off : Nat} {cs : List atP} {w : atO} (ho : mQ w b cs) {v : atP} (h : cs[off]? = some v) {K : atP -> Prop} (hk : K v) : UE pg 22 (.pointer (some ⟨b, off, none⟩)) w K := ZS Tryz.underlying22 rfl ho h hk
theorem Qy {b off : Nat} {cs : List atP} {w : atO} (ho : mQ w b cs) {v : atP} (h : cs[off]? = some v) {K : atP -> Prop} (hk : K v) : UE pg 24 (.pointer (some ⟨b, off, none⟩)) w K := ZS Tryz.underlying24 rfl ho h hk
theorem W8 {w : atO} {K : atP -> atO -> Prop} (hk : ∀ w', mQ w' w.heap.size [(.int .i64 0)] -> jM w w' mN -> w'.heap.size = w.heap.size + 1 -> K (.pointer (some ⟨w.heap.size, 0, none⟩)) w') : gE pg (pX 24) w K := EM (i := Tryz.t24) afS rfl hk
theorem afP : (pg).info? 170 = some Tryz.t170 := by kernel_rfl
theorem T0 {w : atO} {K : atP -> atO -> Prop} (hk : ∀ w', mQ w' w.heap.size [(.pointer none)] -> jM w w' mN -> w'.heap.size = w.heap.size + 1 -> K (.pointer (some ⟨w.heap.size, 0, none⟩)) w') : gE pg (pX 170) w K := EM (i := Tryz.t170) afP rfl hk
theorem T5 {b off : Nat} {cs : List atP} {w : atO} {v : atP} {K : atP -> atO -> Prop} (ho : mQ w b cs) (hv : one v = true) (h : off < cs.length) (hk : ∀ w', mQ w' b (cs.set off v) -> jM w w' (fun x => x = b) -> w'.heap.size = w.heap.size -> K undef w') : gE pg (kA 170 (.pointer (some ⟨b, off, none⟩)) v) w K := Co afP rfl ho hv h hk
theorem bT (x : Addr) (w : atO) : (jF 225 (.pointer (some x))).run pg w = V1 (w.cell? x) w (YH pg 225 x w) := TL Tryz.underlying225 rfl x w
theorem bU {ty : TypeId} (x : Option Addr) (n c : Nat) (w : atO) : (oD .len #[225] ty [.slice x n c]).run pg w = .ok (.value (.int .i64 n)) w := QN Tryz.underlying225 x n c
theorem aR (b o : Nat) (w : atO) : (jJ 241 (.pointer (some ⟨b, o, none⟩)) 0).run pg w = .ok (.value (.pointer (some ⟨b, o, none⟩))) w := lY (i := 0) Tryz.underlying241 rfl El (by decide) _
theorem cX (x : Addr) (w : atO) : (jF 170 (.pointer (some x))).run pg w = V1 (w.cell? x) w (YH pg 170 x w) := TL Tryz.underlying170 rfl x w
theorem aU (b o : Nat) (w : atO) : (jJ 241 (.pointer (some ⟨b, o, none⟩)) 1).run pg w = .ok (.value (.pointer (some ⟨b, o + 1, none⟩))) w := lY (i := 1) Tryz.underlying241 rfl El (by decide) _
theorem Ym {b off : Nat} {cs : List atP} {w : atO} (ho : mQ w b cs) (h : off + 4 <= cs.length) {K : atP -> Prop} (hk : K (.agg ((cs.drop off).take 4).toArray)) : UE pg 139 (.pointer (some ⟨b, off, none⟩)) w K := Xu Tryz.underlying139 rfl WW ho h hk
end Go.Proofs.YtoecppploooloaaGreatDoor
namespace Go.Pu
def Re (p : Int) : Int := if p < 0 then 1 else p
def fits : Int -> List Int -> Bool
 | left, [] => left == 0
 | left, p :: r => if p < -1 ∨ left < Re p then false else fits (left - Re p) r
def XR (ps : List Int) : Int := (ps.map Re).sum
def aiW (log : Int) (ps : List Int) : Bool := decide (5 <= log /\ log <= 15 /\ 1 <= ps.length /\ ps.length <= 256 /\ ps.getLast? ≠ some 0)
def amG (log : Int) (ps : List Int) : Bool := aiW log ps && fits (2 ^ log.toNat) ps
theorem WD (p : Int) (ps : List Int) : XR (p :: ps) = Re p + XR ps := by simp [XR]
theorem V8 {p : Int} (h : -1 <= p) : 0 <= Re p := by unfold Re; split <;> omega
theorem XM {ps : List Int} (h : ∀ p ∈ ps, -1 <= p) : 0 <= XR ps := by
 induction ps with
 | nil => simp [XR]
 | cons p r ih =>
   rw [WD]
   have := V8 (h p (by simp))
   have := ih fun q hq => h q (aoR _ hq)
   omega
theorem XG : ∀ {ps : List Int} {left : Int}, fits left ps = true ↔ (∀ p ∈ ps, -1 <= p) /\ XR ps = left
 | [], left => by simp [fits, XR]; constructor <;> intro h <;> omega
 | p :: r, left => by
   rw [fits, WD]
   by_cases h : p < -1 ∨ left < Re p
   .rw [if_pos h]
    constructor
    .intro h; cases h
    .rintro ⟨h1, h2⟩
     have hp := h1 p (by simp)
     have := XM (ps := r) fun q hq => h1 q (aoR _ hq)
     omega
   .rw [if_neg h, XG]
    constructor
    .rintro ⟨h1, h2⟩
     exact ⟨fun q hq => by rcases apZ.1 hq with rfl | hq; · omega
                           .exact h1 q hq, by omega⟩
    .rintro ⟨h1, h2⟩
     exact ⟨fun q hq => h1 q (aoR _ hq), by omega⟩
structure May (log : Nat) (ps : List Int) : Prop where
 log5 : 5 <= log
 log15 : log <= 15
 len1 : 1 <= ps.length
 len256 : ps.length <= 256
 last : ps.getLast? ≠ some 0
 low : ∀ p ∈ ps, -1 <= p
 sum : XR ps = 2 ^ log
theorem May.b {log : Nat} {ps : List Int} (h : May log ps) : amG log ps = true := by
 unfold amG aiW
 simp only [aoQ, decide_eq_true_eq]
 have h1 := h.log5
 have h2 := h.log15
 refine ⟨⟨by omega, by omega, h.len1, h.len256, h.last⟩, ?_⟩
 rw [XG, aoE]
 exact ⟨h.low, h.sum⟩
def pos (n j : Nat) : Nat := (j * (n / 2 + n / 8 + 3)) % n
def bl (k : Nat) : Nat := if k = 0 then 0 else k.log2 + 1
theorem afE (k : Nat) : k < 2 ^ bl k := by
 unfold bl
 split
 .subst_vars; simp
 .exact Nat.lt_log2_self
theorem afX {k : Nat} (h : k ≠ 0) : 2 ^ (bl k - 1) <= k := by
 unfold bl
 rw [if_neg h, arW]
 exact Nat.log2_self_le h
theorem agG {k : Nat} (h : k ≠ 0) : 1 <= bl k := by unfold bl; rw [if_neg h]; omega
theorem OR {k n : Nat} (h : k < 2 ^ n) : bl k <= n := by
 by_cases h0 : k = 0
 .subst h0; simp [bl]
 .rcases aoT n (bl k) with hh | hh
  .have h1 := afX h0
   have := apE (n := 2) (by omega) (show n <= bl k - 1 by omega)
   omega
  .exact hh
theorem alY {k n : Nat} (h1 : 2 ^ n <= k) (h2 : k < 2 ^ (n + 1)) : bl k = n + 1 := by
 have h0 : k ≠ 0 := by have := apR n; omega
 have a := OR h2
 have b := afE k
 rcases aoT (bl k) (n + 1) with h | h
 .have := apE (n := 2) (by omega) (show bl k <= n by omega)
  omega
 .omega
end Go.Pu
namespace Go.En
open Go
section
variable {P : Program} {w : atO} {t e : TypeId}
theorem XX {i : TypeInfo} (hu : P.underlying t = some (.slice e)) (hi : P.info? e = some i)
 {K : atP -> atO -> Prop} (hk : ∀ w', mQ w' w.heap.size [] -> jM w w' mN -> w'.heap.size = w.heap.size + 1 -> K (.slice (some ⟨w.heap.size, 0, none⟩) 0 0) w') :
 gE P (lJ t 0 []) w K := by
 have : (lJ t 0 []).run P w = .ok (.value (.slice (some ⟨w.heap.size, 0, none⟩) 0 0)) (w.alloc (.cells ([] : List atP).toArray e)) := by
  unfold lJ; rw [rQ]
  have h1 : ¬ (0 > 2 ^ 24) := by omega
  have e : ∀ f : Nat -> atP, Array.map f (Array.range 0) = #[] := fun f => by simp
  simp only [Instr.buildSlice, underlying, pure_bind, Sem.run_bind, run_program, Result.andThen_ok, hu, Sem.run_pure, kU hi, asF, h1, if_false, if_true, newRow, run_newObj, Instr.fill, e]
  rfl
 unfold gE
 rw [this]
 exact hk _ (mQ.alloc _ _ _) (jM.alloc _ _ _) (by simp)
def At (v : atP) (b : Nat) : Prop := ∀ M : Nat -> Prop, ¬ M b -> ¬ Lf v M
theorem At.nil (c b : Nat) (a : Option Addr) : At (.slice a 0 c) b := fun M h => by unfold Lf; split <;> simp_all
theorem At.at (b o n c : Nat) : At (.slice (some ⟨b, o, none⟩) n c) b := fun M h => by
 unfold Lf; split
 .rename_i x m _ e
  obtain ⟨rfl, _⟩ : (⟨b, o, none⟩ : Addr) = x /\ _ := by simpa using e
  exact h
 .simp
theorem yB.at' {w : atO} {base sz n : Nat} {v : atP} {l : List atP} (h : yB w base sz v n l) (hb : base < w.heap.size) : ∃ b, base <= b /\ b < w.heap.size /\ At v b := by
 rcases h.2 with ⟨rfl, rfl⟩ | ⟨b, c, rest, rfl, h2, h3, h4, h5⟩
 .exact ⟨base, aoP _, hb, At.nil _ _ _⟩
 .exact ⟨b, h2, h3.lt, At.at _ _ _ _⟩
end
end Go.En
namespace Go.Proofs.YtoecppploooloaaGreatDoor
open Go Go.En Go.Pu
set_option maxRecDepth 4000
def Zy : ByteArray := ⟨#[0, 1, 2, 2, 3, 3, 3, 3, 4, 4, 4, 4, 4, 4, 4, 4, 5, 5, 5, 5, 5, 5, 5, 5, 5, 5, 5, 5, 5, 5, 5, 5, 6, 6, 6, 6, 6, 6, 6, 6, 6, 6, 6, 6, 6, 6, 6, 6, 6, 6, 6, 6, 6, 6, 6, 6, 6, 6, 6, 6, 6, 6, 6, 6, 7, 7, 7, 7, 7, 7, 7, 7, 7, 7, 7, 7, 7, 7, 7, 7, 7, 7, 7, 7, 7, 7, 7, 7, 7, 7, 7, 7, 7, 7, 7, 7, 7, 7, 7, 7, 7, 7, 7, 7, 7, 7, 7, 7, 7, 7, 7, 7, 7, 7, 7, 7, 7, 7, 7, 7, 7, 7, 7, 7, 7, 7, 7, 7, 8, 8, 8, 8, 8, 8, 8, 8, 8, 8, 8, 8, 8, 8, 8, 8, 8, 8, 8, 8, 8, 8, 8, 8, 8, 8, 8, 8, 8, 8, 8, 8, 8, 8, 8, 8, 8, 8, 8, 8, 8, 8, 8, 8, 8, 8, 8, 8, 8, 8, 8, 8, 8, 8, 8, 8, 8, 8, 8, 8, 8, 8, 8, 8, 8, 8, 8, 8, 8, 8, 8, 8, 8, 8, 8, 8, 8, 8, 8, 8, 8, 8, 8, 8, 8, 8, 8, 8, 8, 8, 8, 8, 8, 8, 8, 8, 8, 8, 8, 8, 8, 8, 8, 8, 8, 8, 8, 8, 8, 8, 8, 8, 8, 8, 8, 8, 8, 8, 8, 8, 8, 8, 8, 8, 8, 8, 8, 8]⟩
theorem Tx : Zy.size = 256 := by decide
set_option maxRecDepth 100000 in
theorem adU (x : Nat) (h : x < 256) : (Zy[x]'(by rw [Tx]; exact h)).toNat = bl x := by
 have : ∀ k : Fin 256, (Zy.data[k.val]!).toNat = bl k.val := by decide +kernel
 have h2 := this ⟨x, h⟩
 simp only at h2
 rw [<- h2]
 have hs : x < Zy.data.size := by have := Tx; exact (show Zy.data.size = 256 from this) ▸ h
 rw [getElem!_pos Zy.data x hs]
 rfl
theorem VT {x j : Nat} (h : 2 ^ j <= x) : bl x = bl (x / 2 ^ j) + j := by
 have hp := apR j
 have h0 : x / 2 ^ j ≠ 0 := by
  have := Nat.div_pos h hp
  omega
 have a := afX h0
 have b := afE (x / 2 ^ j)
 have c := agG h0
 obtain ⟨m, hm⟩ : ∃ m, bl (x / 2 ^ j) = m + 1 := ⟨bl (x / 2 ^ j) - 1, by omega⟩
 rw [hm, arW] at a
 rw [hm] at b ⊢
 have h1 : 2 ^ (m + j) <= x := by
  rw [aqN]
  exact aqC (apG _ a) (Nat.div_mul_le_self _ _)
 have h2 : x < 2 ^ (m + j + 1) := by
  rw [show m + j + 1 = (m + 1) + j from by omega, aqN]
  exact (asG hp).1 b
 rw [alY h1 h2]; omega
theorem Yp {x n : Nat} (hx : x < 256) (hn : n <= 1000) (R : atP -> atO -> Prop) (w : atO) (h : R (.int .i64 ((n + bl x : Nat) : Int)) w) :
 sP R (.int .u64 x) (.int .i64 n) w := by
 have hg := adU x hx
 have hs := Tx
 have hb : bl x <= 8 := OR (n := 8) (by omega)
 unfold sP
 change gE pg _ w fun t21 w => gE pg (P8 9 (.string Zy) t21) w _
 simp (disch := omega) only [gE, dJ, jG, cS, gF, aoE, hg, fK, gY, hO]
 rw [Int.natCast_add] at h
 exact h
theorem aeD (a b : Nat) : ((a : Int)).fdiv (b : Int) = ((a / b : Nat) : Int) := by rw [arA _ (by omega)] <;> rfl
theorem Pf (x j : Nat) (hj : j <= 64) : ((x : Int)).fdiv (2 ^ (min (j : Nat) IntKind.u64.bits)) = ((x / 2 ^ j : Nat) : Int) := by
 have e : min j IntKind.u64.bits = j := by simp only [IntKind.bits]; omega
 rw [e, <- aeD]; simp
theorem ZM (x : Nat) (hx : x < 18446744073709551616) (w : atO) : jD pg uB #[.int .u64 x] w (fun r w' => r = .int .i64 (bl x : Nat) /\ w' = w) := by
 refine Ob ?_
 unfold MD CN CA
 have ZZ : ∀ (y n : Nat), y < 65536 -> n <= 64 -> n + bl y = bl x -> xG (fun r w' => r = .int .i64 (bl x : Nat) /\ w' = w) (.int .u64 y) (.int .i64 n) w := by
  intro y n hy hn e
  unfold xG Cv
  by_cases h : 256 <= y
  .have d : decide ((256 : Int) <= (y : Int)) = true := by simp; omega
   have sh := Pf y 8 (by omega)
   have hq : y / 2 ^ 8 < 256 := by omega
   have := VT (x := y) (j := 8) (by omega)
   have e2 : (n : Int) + 8 = ((n + 8 : Nat) : Int) := by omega
   simp (disch := omega) only [gE, iE, d, iF, hO, e2, gY, cS, fZ]
   rw [show (8 : Int).toNat = 8 from rfl, sh]
   exact Yp hq (by omega) _ _ ⟨by rw [<- e, this]; congr 2; omega, rfl⟩
  .have d : decide ((256 : Int) <= (y : Int)) = false := by simp; omega
   simp (disch := omega) only [gE, iE, d, iF, hO, gY, cS, fU]
   exact Yp (by omega) (by omega) _ _ ⟨by rw [e], rfl⟩
 have step16 : ∀ (y n : Nat), y < 4294967296 -> n <= 32 -> n + bl y = bl x -> wW (fun r w' => r = .int .i64 (bl x : Nat) /\ w' = w) (.int .u64 y) (.int .i64 n) w := by
  intro y n hy hn e
  unfold wW CG
  by_cases h : 65536 <= y
  .have d : decide ((65536 : Int) <= (y : Int)) = true := by simp; omega
   have sh := Pf y 16 (by omega)
   have hq : y / 2 ^ 16 < 65536 := by omega
   have := VT (x := y) (j := 16) (by omega)
   have e2 : (n : Int) + 16 = ((n + 16 : Nat) : Int) := by omega
   simp (disch := omega) only [gE, iE, d, iF, hO, e2, gY, cS, fZ]
   rw [show (16 : Int).toNat = 16 from rfl, sh]
   exact ZZ _ _ hq (by omega) (by rw [<- e, this]; omega)
  .have d : decide ((65536 : Int) <= (y : Int)) = false := by simp; omega
   simp (disch := omega) only [gE, iE, d, iF, hO, gY, cS, fU]
   exact ZZ _ _ (by omega) (by omega) e
 by_cases h : 4294967296 <= x
 .have d : decide ((4294967296 : Int) <= (x : Int)) = true := by simp; omega
  have sh := Pf x 32 (by omega)
  have hq : x / 2 ^ 32 < 4294967296 := by omega
  have := VT (x := x) (j := 32) (by omega)
  simp (disch := omega) only [gE, iE, d, iF, cS, fZ]
  rw [show (32 : Int).toNat = 32 from rfl, sh]
  exact step16 _ 32 hq (by omega) (by rw [this]; omega)
 .have d : decide ((4294967296 : Int) <= (x : Int)) = false := by simp; omega
  simp (disch := omega) only [gE, iE, d, iF, cS, fU]
  exact step16 _ 0 (by omega) (by omega) (by omega)
theorem alS (x : Nat) (hx : x < 18446744073709551616) (w : atO) : jD pg Cf #[.int .u64 x] w (fun r w' => r = .int .i64 (bl x : Nat) /\ w' = w) := by
 refine QJ ?_
 simp (disch := omega) only [Ql, FJ, gE, eF, cS, fU]
 exact ZM x hx w
theorem acU {n : Nat} (h : n <= 20) : IntKind.i64.wrap (1 * 2 ^ (min n IntKind.i64.bits)) = ((2 ^ n : Nat) : Int) := by
 have : ∀ k : Fin 21, IntKind.i64.wrap (1 * 2 ^ (min k.val IntKind.i64.bits)) = ((2 ^ k.val : Nat) : Int) := by decide
 exact this ⟨n, by omega⟩
theorem Vc {w : atO} {v : atP} {l : List UInt8} (h : Bs w v l) (h0 : 0 < l.length) : ∃ b off c, v = .slice (some ⟨b, off, none⟩) l.length c /\ l.length <= c /\ ∀ i, (h : i < l.length) -> w.cell? ⟨b, off + i, none⟩ = some (.int .u8 (l[i].toNat : Nat)) := by
 obtain ⟨b, off, c, rfl, hc, hcell⟩ := h.openV (by simpa using h0)
 refine ⟨b, off, c, by rw [aoK], by simpa using hc, fun i hi => ?_⟩
 have := hcell i (by simpa using hi)
 simpa [oZ] using this
theorem UT {v : atP} {l : List UInt8} {w : atO} (h : Bs w v l) (hl : l.length <= 1000000000) :
 jD pg pE #[v] w (fun r w' => yB w' w.heap.size 1 r l.length (l.map oZ) /\ jM w w' mN) := by
 refine LQ ?_
 have h1 := h
 obtain ⟨a, n, c, rfl, hn, hc, hh⟩ := h
 rw [aoK] at hn
 unfold Je Am
 cases a with
 | none =>
   have h0 : l = [] := by
    cases l with
    | nil => rfl
    | cons x l => obtain ⟨b, off, h, _⟩ := hh (by simp at hn; omega); cases h
   subst h0
   simp (disch := omega) only [gE, eP, aoG, cS, fZ]
   exact ⟨yB.nil _ _ _, jM.refl _ _⟩
 | some x =>
   simp (disch := omega) only [gE, eP, aoF, cS, fU]
   refine XX Tryz.underlying22 Hx fun w1 o1 x1 s1 => ?_
   have hcl1 := (h1.ext x1 (kJ _)).cl
   rw [aoK] at hcl1
   have hos : yB w1 w.heap.size 1 (.slice (some ⟨w.heap.size, 0, none⟩) 0 0) 0 [] := ⟨rfl, .inr ⟨_, 0, [], rfl, aoP _, o1, rfl, aoP _⟩⟩
   refine lZ hos hcl1 (DA _) x1.size (by omega) fun v3 w3 o3 x3 => ?_
   rw [aoH, aqA] at o3
   exact ⟨o3, x1.trans x3 fun b hb h => Nat.not_le_of_lt hb h⟩
def AtI (v : atP) (lo hi : Nat) : Prop := ∀ M : Nat -> Prop, (∀ b, lo <= b -> b < hi -> ¬ M b) -> ¬ Lf v M
theorem yB.atI {w : atO} {base sz n : Nat} {v : atP} {l : List atP} (h : yB w base sz v n l) : AtI v base w.heap.size := by
 intro M hM
 rcases h.2 with ⟨rfl, rfl⟩ | ⟨b, c, rest, rfl, h2, h3, h4, h5⟩
 .exact fun h => h
 .exact At.at b 0 n c M (hM b h2 h3.lt)
theorem akB {w : atO} {a : Option Addr} {n c : Nat} {l : List atP} (h : Sl w (.slice a n c) l) {k : Nat} (hk : k <= n) : Sl w (.slice a k c) (l.take k) := by
 obtain ⟨a', n', c', e, hn, hc, hh⟩ := h
 cases e
 refine ⟨a, k, c, rfl, by rw [apA]; omega, by omega, fun h0 => ?_⟩
 obtain ⟨b, off, ha, hcell⟩ := hh (by omega)
 refine ⟨b, off, ha, fun i hi => ?_⟩
 rw [hcell i (by omega), aqD (by omega)]
theorem slA {w : atO} {a : Option Addr} {n c : Nat} {l : List atP} (h : Sl w (.slice a n c) l) (h0 : 0 < n) : ∃ b off, a = some ⟨b, off, none⟩ /\ ∀ i, i < n -> w.cell? ⟨b, off + i, none⟩ = l[i]? := by
 obtain ⟨a', n', c', e, hn, hc, hh⟩ := h
 cases e
 exact hh h0
end Go.Proofs.YtoecppploooloaaGreatDoor
namespace Go.Pu
open Go Go.En
def MA (c : UInt8) : List Bool := (List.range 8).map c.toNat.testBit
def tI : List UInt8 -> List Bool
 | [] => []
 | c :: l => MA c ++ tI l
def NY : List Bool -> Nat
 | [] => 0
 | b :: l => b.toNat + 2 * NY l
theorem AU (c : UInt8) : (MA c).length = 8 := by simp [MA]
theorem Sx : ∀ a b : List UInt8, tI (a ++ b) = tI a ++ tI b
 | [], b => rfl
 | c :: a, b => by rw [arB, tI, tI, Sx a b, apK]
theorem aaN (c : UInt8) {k : Nat} (h : k < 8) : (MA c)[k]? = some (c.toNat.testBit k) := by
 unfold MA
 rw [aoY, asR h] <;> rfl
theorem KK : ∀ (l : List UInt8) (i : Nat) (h : i < 8 * l.length), (tI l)[i]? = some ((l[i / 8]'(by omega)).toNat.testBit (i % 8))
 | [], i, h => by simp at h
 | c :: l, i, h => by
   rw [tI]
   rcases aoT i 8 with h8 | h8
   .rw [aoX (by rw [AU]; exact h8), aaN c h8]
    have e : i / 8 = 0 := by omega
    have e2 : i % 8 = i := by omega
    simp [e, e2]
   .rw [apF (by rw [AU]; exact h8), AU, KK l (i - 8) (by simp at h; omega)]
    have e : i / 8 = (i - 8) / 8 + 1 := by omega
    have e2 : (i - 8) % 8 = i % 8 := by omega
    simp [e, e2]
theorem ZH : ∀ l : List Bool, NY l < 2 ^ l.length
 | [] => by simp [NY]
 | b :: l => by
   have := ZH l
   rw [NY, aoV, asH]
   have : b.toNat <= 1 := Bool.toNat_le b
   omega
theorem Ur : ∀ a b : List Bool, NY (a ++ b) = NY a + 2 ^ a.length * NY b
 | [], b => by simp [NY]
 | x :: a, b => by
   rw [arB, NY, NY, Ur a b, aoV, asH, asO, <- Nat.mul_assoc, <- arN, apU 2 (2 ^ a.length)]
def zU (x : Nat) (n : Nat) : List Bool := (List.range n).map x.testBit
theorem DH (x n : Nat) : (zU x n).length = n := by simp [zU]
theorem Mg (x : Nat) : zU x 0 = [] := rfl
theorem Vr (x n : Nat) : zU x (n + 1) = zU x n ++ [x.testBit n] := by
 unfold zU; rw [List.range_succ, apN] <;> rfl
theorem YN (x n : Nat) : zU x (n + 1) = x.testBit 0 :: zU (x / 2) n := by
 unfold zU
 rw [List.range_succ_eq_map, apJ, List.map_map]
 congr 1
 apply aqO
 intro k _
 simp [Nat.testBit_succ]
theorem U7 : ∀ (n x : Nat), NY (zU x n) = x % 2 ^ n
 | 0, x => by simp [zU, NY, Nat.mod_one]
 | n + 1, x => by
   rw [YN, NY, U7 n (x / 2), asH, apU (2 ^ n) 2, Nat.mod_mul]
   congr 1
   rw [Nat.testBit_zero]
   have : x % 2 = 0 ∨ x % 2 = 1 := by omega
   rcases this with h | h <;> simp [h]
theorem agK {x i : Nat} (h : x < 2 ^ i) (b : Nat) : x ||| (b * 2 ^ i) = x + 2 ^ i * b := by
 rw [Nat.or_comm, apU b, <- Nat.two_pow_add_eq_or_of_lt h b, Nat.add_comm]
theorem aiE {a b : Nat} (ha : a < 2 ^ 64) (hb : b < 2 ^ 64) : UU .u64 (a : Int) (b : Int) = ((a ||| b : Nat) : Int) := by
 have h := Nat.or_lt_two_pow ha hb
 unfold UU
 have e : IntKind.u64.bits = 64 := rfl
 rw [e, BitVec.ofInt_natCast, BitVec.ofInt_natCast, BitVec.toNat_or, BitVec.toNat_ofNat, BitVec.toNat_ofNat, apX ha, apX hb]
 exact hZ (by omega) (by have : ((a ||| b : Nat) : Int) < ((2 ^ 64 : Nat) : Int) := by exact_mod_cast h
                         omega)
theorem VS {a b : Nat} (ha : a < 2 ^ 8) (hb : b < 2 ^ 8) : UU .u8 (a : Int) (b : Int) = ((a ||| b : Nat) : Int) := by
 have h := Nat.or_lt_two_pow ha hb
 unfold UU
 have e : IntKind.u8.bits = 8 := rfl
 rw [e, BitVec.ofInt_natCast, BitVec.ofInt_natCast, BitVec.toNat_or, BitVec.toNat_ofNat, BitVec.toNat_ofNat, apX ha, apX hb]
 exact jG (by omega) (by have : ((a ||| b : Nat) : Int) < ((2 ^ 8 : Nat) : Int) := by exact_mod_cast h
                         omega)
theorem YE {a : Nat} (h : a < 2 ^ 64) : Zk .u64 (a : Int) 1 = ((a % 2 : Nat) : Int) := by
 unfold Zk
 have e : IntKind.u64.bits = 64 := rfl
 rw [e, BitVec.ofInt_natCast, show (BitVec.ofInt 64 1) = BitVec.ofNat 64 1 from rfl, BitVec.toNat_and, BitVec.toNat_ofNat, BitVec.toNat_ofNat, apX h, show 1 % 2 ^ 64 = 1 from rfl, Nat.and_one_is_mod]
 exact hZ (by omega) (by omega)
theorem WN (x k : Nat) : (x.testBit k).toNat = x / 2 ^ k % 2 := by
 rw [Nat.testBit_eq_decide_div_mod_eq]
 have : x / 2 ^ k % 2 = 0 ∨ x / 2 ^ k % 2 = 1 := by omega
 rcases this with h | h <;> simp [h]
def WL (L : List Bool) (n : Nat) : Nat := NY (L.drop (L.length - min n L.length)) * 2 ^ (n - min n L.length)
theorem aeB (L : List Bool) (n : Nat) : WL L n < 2 ^ n := by
 unfold WL
 have h := ZH (L.drop (L.length - min n L.length))
 rw [apD, show L.length - (L.length - min n L.length) = min n L.length from by omega] at h
 calc _ < 2 ^ min n L.length * 2 ^ (n - min n L.length) := Nat.mul_lt_mul_of_pos_right h (apR _)
  _ = 2 ^ n := by rw [<- aqN]; congr 1; omega
def Zn (l : List UInt8) : Option Nat := match l.getLast? with
 | none => none
 | some c => if c.toNat = 0 then none else some (8 * (l.length - 1) + bl c.toNat - 1)
theorem WA {l : List UInt8} (h : 0 < l.length) : Zn l = if (l[l.length - 1]'(by omega)).toNat = 0 then none else some (8 * (l.length - 1) + bl (l[l.length - 1]'(by omega)).toNat - 1) := by
 unfold Zn
 rw [asT, aoM (by omega)]
theorem abL {l : List UInt8} {k : Nat} (h : Zn l = some k) : 0 < l.length /\ k < 8 * l.length /\ 8 * (l.length - 1) <= k /\ (tI l)[k]? = some true /\ ∀ j, k < j -> j < 8 * l.length -> (tI l)[j]? = some false := by
 have h0 : 0 < l.length := by
  cases l with
  | nil => simp [Zn] at h
  | cons x l => simp
 rw [WA h0] at h
 generalize hc : l[l.length - 1]'(by omega) = c at h
 split at h
 .cases h
 .rename_i hne
  have hk := apP h
  have h1 := agG hne
  have h2 : bl c.toNat <= 8 := OR (by have : c.toNat < 256 := aqU c
                                      omega)
  have h3 := afX hne
  have h4 := afE c.toNat
  refine ⟨h0, by omega, by omega, ?_, ?_⟩
  .rw [KK l k (by omega)]
   have e : k / 8 = l.length - 1 := by omega
   have e2 : k % 8 = bl c.toNat - 1 := by omega
   simp only [e, hc, e2]
   rw [Nat.testBit_eq_decide_div_mod_eq]
   obtain ⟨m, hm⟩ : ∃ m, bl c.toNat = m + 1 := ⟨bl c.toNat - 1, by omega⟩
   rw [hm, arW] at h3 ⊢
   rw [hm, asH] at h4
   have : c.toNat / 2 ^ m = 1 := by
    have hp := apR m
    have := (Nat.le_div_iff_mul_le hp).2 (show 1 * 2 ^ m <= c.toNat by omega)
    have := (asG hp).2 (show c.toNat < 2 * 2 ^ m by omega)
    omega
   simp [this]
  .intro j h5 h6
   rw [KK l j h6]
   have e : j / 8 = l.length - 1 := by omega
   simp only [e, hc]
   rw [Nat.testBit_lt_two_pow]
   exact arL h4 (apE (by omega) (by omega))
end Go.Pu
namespace Go.Proofs.YtoecppploooloaaGreatDoor
open Go Go.En Go.Pu
set_option maxRecDepth 4000
def Fwd (w : atO) (lo hi : Nat) (l : List UInt8) (st : Nat) : Prop := ∃ v, mQ w hi [v, .int .i64 st] /\ Bs w v l /\ AtI v lo hi
theorem Fwd.ext {w w' : atO} {lo hi st : Nat} {l : List UInt8} {M : Nat -> Prop} (h : Fwd w lo hi l st) (hx : jM w w' M) (hM : ∀ b, lo <= b -> b <= hi -> ¬ M b) (hlh : lo <= hi) : Fwd w' lo hi l st := by
 obtain ⟨v, h1, h2, h3⟩ := h
 exact ⟨v, h1.ext hx (hM _ hlh (aoP _)), h2.ext hx (h3 M fun b hb hh => hM b hb (by omega)), h3⟩
theorem AtI.sub {a : Option Addr} {n c m c' k sz lo hi : Nat} (h : AtI (.slice a n c) lo hi) (hm : m <= n) : AtI (.slice (nL a c k sz) m c') lo hi := by
 intro M hM hin
 cases m with
 | zero => unfold Lf at hin; split at hin <;> simp_all
 | succ m =>
   obtain ⟨n', rfl⟩ : ∃ n', n = n' + 1 := ⟨n - 1, by omega⟩
   have h1 := h M hM
   cases a with
   | none => unfold nL at hin; split at hin <;> exact hin
   | some x =>
     unfold nL at hin
     have h2 : M x.block := by
      split at hin
      .exact hin
      .rw [apM] at hin
       have e : (x.add (k * sz)).block = x.block := by unfold Addr.add; split <;> rfl
       have h3 : M (x.add (k * sz)).block := hin
       rwa [e] at h3
     exact h1 h2
end Go.Proofs.YtoecppploooloaaGreatDoor
namespace Go.Pu
def Yq : List UInt8 -> Nat
 | [] => 0
 | c :: l => c.toNat + 256 * Yq l
theorem akR (i : Nat) : 256 ^ i = 2 ^ (8 * i) := by rw [Nat.pow_mul]
def pB (x : Nat) : Nat -> List UInt8
 | 0 => []
 | n + 1 => UInt8.ofNat (x % 256) :: pB (x / 256) n
theorem mC : ∀ (n x : Nat), (pB x n).length = n
 | 0, _ => rfl
 | n + 1, x => by rw [pB, aoV, mC n]
theorem WE : ∀ (n x : Nat), Yq (pB x n) = x % 256 ^ n
 | 0, x => by simp [pB, Yq, Nat.mod_one]
 | n + 1, x => by
   rw [pB, Yq, WE n, asH, apU (256 ^ n) 256, Nat.mod_mul]
   have : (UInt8.ofNat (x % 256)).toNat = x % 256 := by
    rw [UInt8.toNat_ofNat']; omega
   rw [this]
theorem WG : ∀ (n x : Nat), pB x (n + 1) = pB x n ++ [UInt8.ofNat (x / 256 ^ n % 256)]
 | 0, x => by simp [pB]
 | n + 1, x => by
   rw [pB, WG n (x / 256), pB, arB, aqY, asH, apU (256 ^ n) 256]
end Go.Pu
namespace Go.Proofs.YtoecppploooloaaGreatDoor
open Go Go.En Go.Pu
set_option maxRecDepth 4000
def AtS (v : atP) (S : Nat -> Prop) : Prop := ∀ M : Nat -> Prop, (∀ b, S b -> ¬ M b) -> ¬ Lf v M
theorem AtS.mono {v : atP} {S T : Nat -> Prop} (h : AtS v S) (hT : ∀ b, S b -> T b) : AtS v T := fun M hM => h M fun b hb => hM b (hT b hb)
theorem AtS.nil (S : Nat -> Prop) : AtS (.slice none 0 0) S := fun M _ h => h
theorem AtS.sub {a : Option Addr} {n c m c' k mx sz : Nat} {S : Nat -> Prop} (h : AtS (.slice a n c) S) (hm : m <= n) : AtS (.slice (nL a mx k sz) m c') S := by
 intro M hM hin
 cases m with
 | zero => unfold Lf at hin; split at hin <;> simp_all
 | succ m =>
   obtain ⟨n', rfl⟩ : ∃ n', n = n' + 1 := ⟨n - 1, by omega⟩
   have h1 := h M hM
   cases a with
   | none => unfold nL at hin; split at hin <;> exact hin
   | some x =>
     unfold nL at hin
     have h2 : M x.block := by
      split at hin
      .exact hin
      .rw [apM] at hin
       have e : (x.add (k * sz)).block = x.block := by unfold Addr.add; split <;> rfl
       have h3 : M (x.add (k * sz)).block := hin
       rwa [e] at h3
     exact h1 h2
def Rdr (w : atO) (lo hi p : Nat) (l : List UInt8) (e : Int) : Prop := lo <= p /\ p < hi /\ ∃ v, mQ w p [v, .int .i64 e] /\ Bs w v l /\ AtS v (fun b => lo <= b /\ b < hi /\ b ≠ p)
theorem Rdr.ext {w w' : atO} {lo hi p : Nat} {l : List UInt8} {e : Int} {M : Nat -> Prop} (h : Rdr w lo hi p l e) (x : jM w w' M) (hM : ∀ b, lo <= b -> b < hi -> ¬ M b) : Rdr w' lo hi p l e := by
 obtain ⟨h0, h0', v, h1, h2, h3⟩ := h
 exact ⟨h0, h0', v, h1.ext x (hM _ h0 h0'), h2.ext x (h3 M fun b hb => hM b hb.1 hb.2.1), h3⟩
theorem Rdr.lt {w : atO} {lo hi p : Nat} {l : List UInt8} {e : Int} (h : Rdr w lo hi p l e) : p < w.heap.size := by
 obtain ⟨_, _, v, h1, _⟩ := h; exact h1.lt
def tkR (l : List UInt8) (e : Int) (n : Nat) : List UInt8 × List UInt8 × Int := if e ≠ 0 then ([], l, e) else if l.length < n then ([], l, 10) else (l.take n, l.drop n, 0)
end Go.Proofs.YtoecppploooloaaGreatDoor
namespace Go.Pu
open Go Go.En
structure UF (B : List Bool) (l : List UInt8) : Prop where
 len : l.length = (B.length + 7) / 8
 bits : tI l = B ++ List.replicate (8 * l.length - B.length) false
theorem agQ : UF [] [] := ⟨rfl, rfl⟩
theorem Zo : MA 0 = List.replicate 8 false := by decide
theorem Wu {B : List Bool} {l : List UInt8} (h : UF B l) (h8 : B.length % 8 = 0) : tI (l ++ [0]) = B ++ List.replicate (8 * (l.length + 1) - B.length) false /\ (l ++ [(0 : UInt8)]).length = (B.length + 1 + 7) / 8 := by
 have hl := h.len
 refine ⟨?_, by rw [aoL, apS]; omega⟩
 rw [Sx, h.bits, tI, tI, Zo, aqR, apK]
 congr 1
 rw [show 8 * l.length - B.length = 0 from by omega, show 8 * (l.length + 1) - B.length = 8 from by omega]
 rfl
theorem afO (c : UInt8) (r : Nat) (hr : r < 8) (y : Bool) (h : c.toNat.testBit r = false) : MA (UInt8.ofNat (c.toNat + 2 ^ r * y.toNat)) = (MA c).set r y /\ c.toNat + 2 ^ r * y.toNat < 256 /\ c.toNat ||| (y.toNat * 2 ^ r) = c.toNat + 2 ^ r * y.toNat := by
 have key : ∀ (c : Fin 256) (r : Fin 8) (y : Bool), c.val.testBit r.val = false -> MA (UInt8.ofNat (c.val + 2 ^ r.val * y.toNat)) = (MA (UInt8.ofNat c.val)).set r.val y /\ c.val + 2 ^ r.val * y.toNat < 256 /\ c.val ||| (y.toNat * 2 ^ r.val) = c.val + 2 ^ r.val * y.toNat := by decide +kernel
 have := key ⟨c.toNat, aqU c⟩ ⟨r, hr⟩ y h
 simpa using this
theorem Wh : ∀ (l : List UInt8) (i r : Nat) (c : UInt8) (y : Bool) (hi : i < l.length), r < 8 -> MA c = (MA l[i]).set r y -> tI (l.set i c) = (tI l).set (8 * i + r) y
 | [], i, r, c, y, hi, hr, h => by simp at hi
 | x :: l, 0, r, c, y, hi, hr, h => by
   rw [aoZ, tI, tI, h, arQ _ _ (by rw [AU]; omega)]
   simp
 | x :: l, i + 1, r, c, y, hi, hr, h => by
   rw [apC, tI, tI, aqH _ _ (by rw [AU]; omega), AU, Wh l i r c y (by simpa using hi) hr (by simpa using h)]
   congr 2
   omega
theorem Yn {B : List Bool} {l : List UInt8} {y : Bool} (hb : tI l = B ++ List.replicate (8 * l.length - B.length) false) (hl : l.length = (B.length + 1 + 7) / 8) :
 ∃ hi : B.length / 8 < l.length, UF (B ++ [y]) (l.set (B.length / 8) (UInt8.ofNat ((l[B.length / 8]'hi).toNat + 2 ^ (B.length % 8) * y.toNat))) /\
   (l[B.length / 8]'hi).toNat + 2 ^ (B.length % 8) * y.toNat < 256 /\ (l[B.length / 8]'hi).toNat ||| (y.toNat * 2 ^ (B.length % 8)) = (l[B.length / 8]'hi).toNat + 2 ^ (B.length % 8) * y.toNat := by
 have hi : B.length / 8 < l.length := by omega
 have hbit := KK l B.length (by omega)
 rw [hb, apF (aoP _), asD, arS, if_pos (by omega)] at hbit
 have hbit := (apP hbit).symm
 obtain ⟨h1, h2, h3⟩ := afO _ (B.length % 8) (by omega) y hbit
 refine ⟨hi, ⟨?_, ?_⟩, h2, h3⟩
 .rw [arI, aoL, apS]; exact hl
 .rw [Wh l _ (B.length % 8) _ y hi (by omega) h1, hb, show 8 * (B.length / 8) + B.length % 8 = B.length from by omega, aqH _ _ (aoP _), asD, arI, aoL, apS, apK]
  congr 1
  rw [show 8 * l.length - B.length = (8 * l.length - (B.length + 1)) + 1 from by omega, asP, aoZ]
  rfl
theorem afU {B : List Bool} {l : List UInt8} (h : UF (B ++ [true]) l) : Zn l = some B.length /\ (tI l).take B.length = B := by
 have hl := h.len
 have hb := h.bits
 rw [aoL, apS] at hl hb
 have h0 : 0 < l.length := by omega
 have htop : (tI l)[B.length]? = some true := by
  rw [hb, apK, apF (aoP _), asD] <;> rfl
 have hoff : ∀ j, B.length < j -> j < 8 * l.length -> (tI l)[j]? = some false := by
  intro j h1 h2
  rw [hb, apK, apF (by omega), List.singleton_append, List.getElem?_cons, if_neg (by omega), arS, if_pos (by omega)]
 refine ⟨?_, by rw [hb, apK, asU] <;> rfl⟩
 cases he : Zn l with
 | none =>
   rw [WA h0] at he
   split at he
   .rename_i hz
    rw [KK l _ (by omega)] at htop
    have e : B.length / 8 = l.length - 1 := by omega
    simp only [e, hz] at htop
    simp at htop
   .cases he
 | some k =>
   obtain ⟨_, h1, _, h2, h3⟩ := abL he
   rcases atB k B.length with h | h | h
   .rw [h3 _ h (by omega)] at htop; simp at htop
   .rw [h]
   .rw [hoff _ h h1] at h2; simp at h2
theorem adR {x n : Nat} (h : x < 2 ^ n) : NY (zU x n) = x := by rw [U7, apX h]
theorem YI {B : List Bool} {x n : Nat} (h : x < 2 ^ n) : WL (B ++ zU x n) n = x := by
 unfold WL
 rw [aoL, DH, show min n (B.length + n) = n from by omega, asD, arW, List.drop_left, adR h]; simp
end Go.Pu
namespace Go.Proofs.YtoecppploooloaaGreatDoor
open Go Go.En Go.Pu
set_option maxRecDepth 4000
theorem GH {w w' : atO} {S M : Nat -> Prop} {sz n : Nat} {v : atP} {l : List atP} (h : LF w S sz v n l) (hx : jM w w' M) (hM : ∀ b, S b -> ¬ M b) : LF w' S sz v n l := by
 refine ⟨h.1, ?_⟩
 rcases h.2 with h2 | ⟨b, c, rest, h1, h2, h3, h4, h5⟩
 .exact .inl h2
 .exact .inr ⟨b, c, rest, h1, h2, h3.ext hx (hM b h2), h4, h5⟩
def Wr (w : atO) (lo p : Nat) (B : List Bool) : Prop := lo <= p /\ ∃ v bytes, mQ w p [v, .int .i64 B.length] /\ LF w (fun b => lo <= b /\ b ≠ p) 1 v bytes.length (bytes.map oZ) /\ UF B bytes
def Rm (w : atO) (lo p : Nat) (B : List Bool) : Prop := lo <= p /\ ∃ v bytes, mQ w p [v, .int .i64 B.length] /\ LF w (fun b => lo <= b /\ b ≠ p) 1 v bytes.length (bytes.map oZ) /\
 tI bytes = B ++ List.replicate (8 * bytes.length - B.length) false /\ bytes.length = (B.length + 1 + 7) / 8
theorem Wr.ext {w w' : atO} {lo p : Nat} {B : List Bool} {M : Nat -> Prop} (h : Wr w lo p B) (hx : jM w w' M) (hM : ∀ b, lo <= b -> ¬ M b) : Wr w' lo p B := by
 obtain ⟨h0, v, bytes, h1, h2, h3⟩ := h
 exact ⟨h0, v, bytes, h1.ext hx (hM _ h0), GH h2 hx fun b hb => hM b hb.1, h3⟩
theorem aiX {lo p x i : Nat} {B : List Bool} {t17 : atP} {w : atO} (h : Rm w lo p B) (hx : x < 2 ^ 64) (hi : i <= 60) (hB : B.length <= 1000000000)
 {kn : atP -> atP -> atP -> atP -> atO -> Prop} (hR : ∀ w', Wr w' lo p (B ++ [x.testBit i]) -> jM w w' (fun y => lo <= y) -> kn (.pointer (some ⟨p, 0, none⟩)) (.int .u64 x) t17 (.int .i64 i) w') :
 oY kn (.pointer (some ⟨p, 0, none⟩)) (.int .u64 x) (.int .i64 i) t17 (.int .i64 i) w := by
 obtain ⟨h0, v, bytes, o, os, hbits, hlen⟩ := h
 obtain ⟨hlt, hheld, hval, hor⟩ := Yn (y := x.testBit i) hbits hlen
 rcases os.2 with ⟨rfl, hz⟩ | ⟨b, c, rest, rfl, hS, ob, hc, hn⟩
 .rw [hlen] at hz; omega
 generalize hq : B.length = q at *
 have hcell : (bytes.map oZ ++ rest)[q / 8]? = some (.int .u8 ((bytes[q / 8]'hlt).toNat : Nat)) := by
  rw [aoX (by rw [aoK]; exact hlt), aoY, aoM hlt] <;> rfl
 have hcl : (bytes[q / 8]'hlt).toNat < 2 ^ 8 := aqU _
 have hset : (bytes.map oZ ++ rest).set (q / 8) (.int .u8 (((bytes[q / 8]'hlt).toNat + 2 ^ (q % 8) * (x.testBit i).toNat : Nat))) = (bytes.set (q / 8) (UInt8.ofNat ((bytes[q / 8]'hlt).toNat + 2 ^ (q % 8) * (x.testBit i).toNat))).map oZ ++ rest := by
  rw [arQ _ _ (by rw [aoK]; exact hlt), asI, oZ, asW (by simpa using hval)]
 have hbl : (bytes.set (q / 8) (UInt8.ofNat ((bytes[q / 8]'hlt).toNat + 2 ^ (q % 8) * (x.testBit i).toNat))).length = bytes.length := arI
 generalize bytes.set (q / 8) (UInt8.ofNat ((bytes[q / 8]'hlt).toNat + 2 ^ (q % 8) * (x.testBit i).toNat)) = bytes' at *
 generalize (bytes[q / 8]'hlt).toNat = y at *
 have e1 : (q : Int).tdiv 8 = ((q / 8 : Nat) : Int) := by rw [arO (by omega)]; omega
 have e2 : (q : Int).tmod 8 = ((q % 8 : Nat) : Int) := by rw [arP (by omega)]; omega
 have e3 := Pf x i (by omega)
 have hxl : x / 2 ^ i < 2 ^ 64 := by have := asV x (2 ^ i); omega
 have e4 := YE hxl
 rw [<- WN] at e4
 have hbt : (x.testBit i).toNat <= 1 := Bool.toNat_le _
 have hp8 : 2 ^ (q % 8) <= 2 ^ 7 := apE (by omega) (by omega)
 have hm : (x.testBit i).toNat * 2 ^ (q % 8) <= 2 ^ (q % 8) := by
  have := apG (2 ^ (q % 8)) hbt
  omega
 have e5 : IntKind.u8.wrap (((x.testBit i).toNat : Int) * 2 ^ (min (q % 8) IntKind.u8.bits)) = (((x.testBit i).toNat * 2 ^ (q % 8) : Nat) : Int) := by
  rw [show min (q % 8) IntKind.u8.bits = q % 8 from aqX (by have h8 : IntKind.u8.bits = 8 := rfl; omega)]
  have e : ((x.testBit i).toNat : Int) * 2 ^ (q % 8) = (((x.testBit i).toNat * 2 ^ (q % 8) : Nat) : Int) := by simp
  rw [e]
  exact jG (by omega) (by omega)
 have e6 := VS (a := y) (b := (x.testBit i).toNat * 2 ^ (q % 8)) hcl (by omega)
 rw [hor] at e6
 have e7 : (q : Int) + 1 = ((q + 1 : Nat) : Int) := by omega
 have od := GB o
 have obd := GB ob
 have c0 := od.cell (off := 0)
 have c1 := od.cell (off := 1)
 have g := obd.cell (off := q / 8)
 rw [hcell] at g
 simp only [aoB, aoC] at c0 c1
 unfold oY
 simp (disch := omega) only [gE, iG, fS, hZ, cS, cW, aoH, gR, c1, gB, iJ, e2, true_and, iF, aoE, e3, iL, e4, dJ, jG, iD, e5, iM, e1, gY, cV, fR, c0, fQ, gJ, g, jH, e6]
 refine X2 obd rfl (by rw [aoL, aoK]; omega) fun w2 o2 x2 s2 => ?_
 rw [hset] at o2
 have op2 := od.ext x2 (fun h => hS.2 h.symm)
 have c12 := op2.cell (off := 1)
 simp only [aoB, aoC] at c12
 simp (disch := omega) only [c12, gB, cS, hO, e7, gY]
 refine Lt op2 rfl (by simp) fun w3 o3 x3 s3 => ?_
 simp only [aoZ, apC] at o3
 have hBl : (B ++ [x.testBit i]).length = q + 1 := by rw [aoL, hq] <;> rfl
 refine hR _ ⟨h0, _, bytes', by rw [hBl]; exact o3, ⟨by simp, .inr ⟨b, c, rest, by rw [hbl], hS, o2.ext x3 hS.2, ?_, by rw [hbl]; exact hn⟩⟩, hheld⟩ ?_
 .rw [aoL, aoK] at hc ⊢; rw [hbl]; exact hc
 .exact ((jM.dr _ _).seq (x2.mono fun z _ h => by omega)).seq (x3.mono fun z _ h => by omega)
theorem alV {lo p x i n : Nat} {B : List Bool} {w : atO} (hw : Wr w lo p B) (hx : x < 2 ^ 64) (hi : i <= 60) (hB : B.length <= 1000000000)
 {kn : atP -> atP -> atP -> atP -> atO -> Prop} (hR : ∀ w', Wr w' lo p (B ++ [x.testBit i]) -> jM w w' (fun y => lo <= y) -> kn (.pointer (some ⟨p, 0, none⟩)) (.int .u64 x) (.int .i64 n) (.int .i64 i) w') :
 rD kn (.pointer (some ⟨p, 0, none⟩)) (.int .u64 x) (.int .i64 n) (.int .i64 i) w := by
 unfold rD tU
 obtain ⟨h0, v, bytes, o, os, hh⟩ := hw
 have c1 := o.cell (off := 1)
 have c0 := o.cell (off := 0)
 simp only [aoB, aoC] at c0 c1
 have e2 : (B.length : Int).tmod 8 = ((B.length % 8 : Nat) : Int) := by rw [arP (by omega)]; omega
 by_cases h8 : B.length % 8 = 0
 .have d4 : (((B.length % 8 : Nat) : Int) == 0) = true := by rw [h8] <;> rfl
  obtain ⟨hr1, hr2⟩ := Wu hh h8
  have hl2 := hh.len
  have lp := o.lt
  simp (disch := omega) only [gE, iG, cS, cV, fR, cW, aoH, gR, c1, gB, iJ, e2, iC, d4, c0, fZ]
  refine sJ (cells := #[.int .u8 0]) (by decide) (by decide) (by kernel_rfl) fun w2 o2 x2 s2 => ?_
  refine Ae (m := 1) (news := [oZ 0]) (i := Tryz.t5) Tryz.underlying22 Tryz.underlying22 Hx rfl rfl rfl (GH os x2 (fun _ _ h => h)) (o2.cl (off := 0) (l := [oZ 0]) (n := 1) rfl (fun i hi => by rw [aoH] <;> rfl)) (by simp [one, oZ]) (fun b hb => ⟨by omega, by omega⟩) (by omega) (by rw [show Tryz.t5.bytes = 1 from rfl]; omega) (by decide) fun v3 w3 o3 x3 => ?_
  have x13 : jM w w3 (fun y => lo <= y /\ y ≠ p) := (x2.mono fun _ _ h => h.elim).seq x3
  have op3 := o.ext x13 (fun h => h.2 rfl)
  have hv3 : ∃ a n c, v3 = .slice a n c := by
   rcases o3.2 with ⟨rfl, _⟩ | ⟨b, c, rest, rfl, _⟩
   .exact ⟨_, _, _, rfl⟩
   .exact ⟨_, _, _, rfl⟩
  obtain ⟨a3, n3, c3, rfl⟩ := hv3
  refine tN op3 rfl (by simp) fun w4 o4 x4 s4 => ?_
  simp only [aoZ, apC] at o4
  have x14 : jM w w4 (fun y => lo <= y) := (x13.mono fun y _ h => h.1).seq (x4.mono fun y _ h => by omega)
  refine aiX (w := w4) ⟨h0, _, bytes ++ [0], o4, ?_, ?_, hr2⟩ hx hi hB fun w5 h5 x5 => hR w5 h5 (x14.seq x5)
  .have := GH o3 x4 (fun b hb h => hb.2 h)
   rw [aoL, apN]
   exact this
  .rw [aoL]; exact hr1
 .have d4 : (((B.length % 8 : Nat) : Int) == 0) = false := by simp; omega
  simp (disch := omega) only [gE, iG, cS, cV, fR, cW, aoH, gR, c1, gB, iJ, e2, iC, d4, fU]
  refine aiX (w := w) ⟨h0, v, bytes, o, os, hh.bits, ?_⟩ hx hi hB fun w5 h5 x5 => hR w5 h5 x5
  rw [hh.len]; omega
theorem ahS {lo p x n : Nat} {B : List Bool} {w : atO} (h : Wr w lo p B) (hx : x < 2 ^ 64) (hn : n <= 56) (hB : B.length <= 100000000) :
 jD pg qE #[.pointer (some ⟨p, 0, none⟩), .int .u64 x, .int .i64 n] w (fun r w' => r = .tuple #[] /\ Wr w' lo p (B ++ zU x n) /\ jM w w' (fun y => lo <= y)) := by
 refine Eb ?_
 unfold Dw tG sZ
 by_cases hn0 : n = 0
 .subst hn0
  have d1 : decide (((0 : Nat) : Int) < 1) = true := rfl
  simp (disch := omega) only [gE, bR, aoF, true_and, cS, gT, gQ, aoD, if_false, gM, hJ, d1, gU, if_true, fZ, gI]
  exact ⟨by rw [Mg, aqR]; exact h, jM.refl _ _⟩
 have d1 : decide ((n : Int) < 1) = false := by simp; omega
 have d2 : decide ((56 : Int) < (n : Int)) = false := by simp; omega
 simp (disch := omega) only [gE, bR, aoF, true_and, cS, gT, gQ, aoD, if_false, gM, hJ, d1, hU, d2, fU]
 unfold tD tP
 refine kE.rule (fun m (t : atP) w' => ∃ i : Nat, m = n - i /\ t = .int .i64 i /\ i <= n /\ Wr w' lo p (B ++ zU x i) /\ jM w w' (fun y => lo <= y)) n
  ⟨0, rfl, rfl, by omega, by rw [Mg, aqR]; exact h, jM.refl _ _⟩ ?_
 rintro m t w1 ⟨i, rfl, rfl, hi, hw, x1⟩
 unfold rA tW
 by_cases hlt : i < n
 .have d3 : decide ((i : Int) < (n : Int)) = true := by simp; omega
  simp (disch := omega) only [gE, hJ, d3, cS, fZ]
  unfold tZ uA
  refine alV hw hx (by omega) (by rw [aoL, DH]; omega) fun w3 hw3 x3 => ?_
  unfold rF
  simp (disch := omega) only [gE, hO, gY, cS]
  refine ⟨n - (i + 1), by omega, i + 1, rfl, rfl, by omega, ?_, x1.seq x3⟩
  rw [Vr, <- apK]
  exact hw3
 .have d3 : decide ((i : Int) < (n : Int)) = false := by simp; omega
  obtain rfl : i = n := by omega
  simp (disch := omega) only [gE, hJ, d3, cS, fU]
  exact ⟨hw, x1⟩
def Cw (w : atO) (p : Nat) (S : Nat -> Prop) (l : List UInt8) : Prop := ¬ S p /\ ∃ v, mQ w p [v] /\ LF w S 1 v l.length (l.map oZ)
theorem Cw.ext {w w' : atO} {p : Nat} {S M : Nat -> Prop} {l : List UInt8} (h : Cw w p S l) (x : jM w w' M) (hp : ¬ M p) (hM : ∀ b, S b -> ¬ M b) : Cw w' p S l := by
 obtain ⟨h0, v, h1, h2⟩ := h
 exact ⟨h0, v, h1.ext x hp, GH h2 x hM⟩
theorem Cw.lt {w : atO} {p : Nat} {S : Nat -> Prop} {l : List UInt8} (h : Cw w p S l) : p < w.heap.size := by
 obtain ⟨_, v, h1, _⟩ := h; exact h1.lt
theorem Cw.turn {w : atO} {p : Nat} {S T : Nat -> Prop} {l : List UInt8} (h : Cw w p S l) (hT : ∀ b, S b -> b < w.heap.size -> T b) (hp : ¬ T p) : Cw w p T l := by
 obtain ⟨h0, v, h1, h2, h3⟩ := h
 refine ⟨hp, v, h1, h2, ?_⟩
 rcases h3 with h3 | ⟨b, c, rest, g1, g2, g3, g4, g5⟩
 .exact .inl h3
 .exact .inr ⟨b, c, rest, g1, hT b g2 g3.lt, g3, g4, g5⟩
theorem KH {w : atO} {S : Nat -> Prop} {sz n : Nat} {v : atP} {l : List atP} (o3 : LF w S sz v n l) : ∃ a c, v = .slice a n c := by
 rcases o3.2 with ⟨rfl, rfl⟩ | ⟨b, c, rest, rfl, _⟩
 .exact ⟨_, _, rfl⟩
 .exact ⟨_, _, rfl⟩
theorem adN {w : atO} {S : Nat -> Prop} {n : Nat} {v : atP} {l : List atP} (o3 : LF w S 1 v n l) : Sl w v l := by
 have : yB w 0 1 v n l := ⟨o3.1, by
  rcases o3.2 with h | ⟨b, c, rest, g1, g2, g3⟩
  .exact .inl h
  .exact .inr ⟨b, c, rest, g1, by omega, g3⟩⟩
 exact this.sl
theorem ER (w : atO) : jD pg nR #[] w (fun r w' => r = .pointer (some ⟨w.heap.size, 0, none⟩) /\ w.heap.size < w'.heap.size /\ Cw w' w.heap.size (fun b => w.heap.size < b) [] /\ jM w w' mN) := by
 refine Nn ?_
 unfold KY Bh
 simp (disch := omega) only [gE, cJ, cS]
 refine Cc fun w1 o1 x1 s1 => ?_
 simp only [Value.cells] at o1
 exact ⟨rfl, by omega, ⟨by omega, _, o1, ⟨rfl, .inl ⟨rfl, rfl⟩⟩⟩, x1⟩
theorem Vo {p : Nat} {S : Nat -> Prop} {l m : List UInt8} {v : atP} {w : atO} (h : Cw w p S l) (hS : ∀ b, w.heap.size <= b -> S b) (hv : Bs w v m) (hl : l.length + m.length <= 1000000000) :
 jD pg nZ #[.pointer (some ⟨p, 0, none⟩), v] w (fun r w' => r = .tuple #[] /\ Cw w' p S (l ++ m) /\ jM w w' (fun y => y = p ∨ S y)) := by
 refine JV ?_
 unfold GO xS
 obtain ⟨h0, v0, o, os⟩ := h
 obtain ⟨va, vc, rfl⟩ := KH os
 have c0 := o.cell (off := 0)
 simp only [aoB, aoC] at c0
 have lp := o.lt
 simp (disch := omega) only [gE, aT, aoF, aoI, iG, true_and, cS, bS, fR, c0, gB, fZ]
 have hcl := hv.cl
 rw [aoK] at hcl
 refine Ae (m := m.length) (news := m.map oZ) (i := Tryz.t5) Tryz.underlying22 Tryz.underlying22 Hx rfl rfl rfl os hcl (DA _) (fun b hb => hS b hb) (by omega) (by rw [show Tryz.t5.bytes = 1 from rfl]; omega) (by decide) fun v3 w3 o3 x3 => ?_
 have op3 := o.ext x3 h0
 obtain ⟨a3, c3, rfl⟩ := KH o3
 refine tN op3 rfl (by simp) fun w4 o4 x4 s4 => ?_
 simp only [aoZ, apC] at o4
 refine ⟨⟨h0, _, o4, ?_⟩, (x3.mono fun y _ h => .inr h).seq (x4.mono fun y _ h => .inl h)⟩
 have := GH o3 x4 (fun b hb h => h0 (h ▸ hb))
 rw [aoL, apN]
 exact this
theorem AE {p x n : Nat} {S : Nat -> Prop} {l : List UInt8} {w : atO} (h : Cw w p S l) (hS : ∀ b, w.heap.size <= b -> S b) (hx : x < 2 ^ 64) (hn : 1 <= n /\ n <= 8) (hl : l.length <= 100000000) :
 jD pg jL #[.pointer (some ⟨p, 0, none⟩), .int .u64 x, .int .i64 n] w (fun r w' => r = .tuple #[] /\ Cw w' p S (l ++ pB x n) /\ jM w w' (fun y => y = p ∨ S y)) := by
 refine IY ?_
 unfold Gb wG wF
 have d1 : decide ((n : Int) < 1) = false := by simp; omega
 have d2 : decide ((8 : Int) < (n : Int)) = false := by simp; omega
 simp (disch := omega) only [gE, aS, aoF, true_and, cS, gT, gQ, aoD, if_false, gM, hJ, d1, hU, d2, fU]
 unfold vY vR
 refine kE.rule (fun m (t : atP) w' => ∃ i : Nat, m = n - i /\ t = .int .i64 i /\ i <= n /\ Cw w' p S (l ++ pB x i) /\ jM w w' (fun y => y = p ∨ S y)) n
  ⟨0, rfl, rfl, by omega, by rw [pB, aqR]; exact h, jM.refl _ _⟩ ?_
 rintro m t w1 ⟨i, rfl, rfl, hi, hw, x1⟩
 unfold rH
 by_cases hlt : i < n
 .have d3 : decide ((i : Int) < (n : Int)) = true := by simp; omega
  have e0 : ((8 : Int) * (i : Int)) = ((8 * i : Nat) : Int) := by omega
  have e1 : (x : Int).fdiv (2 ^ (min (8 * i) IntKind.u64.bits)) = ((x / 256 ^ i : Nat) : Int) := by
   rw [akR]; exact Pf x (8 * i) (by omega)
  have e2 : IntKind.u8.wrap ((x / 256 ^ i : Nat) : Int) = (((UInt8.ofNat (x / 256 ^ i % 256)).toNat : Nat) : Int) := by
   rw [UInt8.toNat_ofNat']
   generalize x / 256 ^ i = y
   rw [show IntKind.u8.wrap (y : Int) = (y : Int) % 256 from rfl]
   omega
  obtain ⟨c, hc⟩ : ∃ c, c = UInt8.ofNat (x / 256 ^ i % 256) := ⟨_, rfl⟩
  rw [<- hc] at e2
  obtain ⟨h0, v0, o, os⟩ := hw
  obtain ⟨va, vc, rfl⟩ := KH os
  have c0 := o.cell (off := 0)
  simp only [aoB, aoC] at c0
  have lp := o.lt
  have hsz := x1.size
  have hpl := mC i x
  rw [aoL, hpl] at os
  rw [aoL, hpl] at c0
  simp (disch := omega) only [gE, hJ, d3, iG, iO, e0, gY, hO, cS, bS, fS, hZ, iF, aoE, e1, dJ, e2, fR, c0, gB, fZ]
  refine sJ (cells := #[.int .u8 c.toNat]) (by decide) (by decide) (by kernel_rfl) fun w2 o2 x2 s2 => ?_
  refine Ae (m := 1) (news := [oZ c]) (i := Tryz.t5) Tryz.underlying22 Tryz.underlying22 Hx rfl rfl rfl (GH os x2 (fun _ _ h => h)) (o2.cl (off := 0) (l := [oZ c]) (n := 1) rfl (fun i hi => by rw [aoH] <;> rfl)) (by simp [one, oZ]) (fun b hb => hS b (by omega)) (by omega) (by rw [show Tryz.t5.bytes = 1 from rfl]; omega) (by decide) fun v3 w3 o3 x3 => ?_
  have x13 : jM w1 w3 S := (x2.mono fun _ _ h => h.elim).seq x3
  have op3 := o.ext x13 h0
  obtain ⟨a3, c3, rfl⟩ := KH o3
  refine tN op3 rfl (by simp) fun w4 o4 x4 s4 => ?_
  simp only [aoZ, apC] at o4
  have x14 : jM w1 w4 (fun y => y = p ∨ S y) := (x13.mono fun y _ h => .inr h).seq (x4.mono fun y _ h => .inl h)
  refine ⟨n - (i + 1), by omega, i + 1, rfl, rfl, by omega, ⟨h0, _, o4, ?_⟩, x1.seq x14⟩
  have := GH o3 x4 (fun b hb h => h0 (h ▸ hb))
  rw [WG, <- hc, <- apK, apN, aoL, aoL, mC]
  exact this
 .have d3 : decide ((i : Int) < (n : Int)) = false := by simp; omega
  obtain rfl : i = n := by omega
  simp (disch := omega) only [gE, hJ, d3, iG, iO, gY, hO, cS, bS, fS, hZ, iF, dJ, fR, fU]
  exact ⟨hw, x1⟩
theorem NR {p : Nat} {S : Nat -> Prop} {l : List UInt8} {w : atO} (h : Cw w p S l) (hl : l.length <= 1000000000) :
 jD pg nE #[.pointer (some ⟨p, 0, none⟩)] w (fun r w' => yB w' w.heap.size 1 r l.length (l.map oZ) /\ jM w w' mN) := by
 refine Li ?_
 unfold Jj Al
 obtain ⟨h0, v0, o, os⟩ := h
 obtain ⟨va, vc, rfl⟩ := KH os
 have c0 := o.cell (off := 0)
 simp only [aoB, aoC] at c0
 simp (disch := omega) only [gE, aS, aoF, iG, cS, bS, fR, c0, gB, fU]
 exact UT (adN os) hl
end Go.Proofs.YtoecppploooloaaGreatDoor
namespace Go.En
open Go
theorem LF.ext {w w' : atO} {S M : Nat -> Prop} {sz n : Nat} {v : atP} {l : List atP} (h : LF w S sz v n l) (hx : jM w w' M) (hM : ∀ b, S b -> ¬ M b) : LF w' S sz v n l := by
 refine ⟨h.1, ?_⟩
 rcases h.2 with h2 | ⟨b, c, rest, h1, h2, h3, h4, h5⟩
 .exact .inl h2
 .exact .inr ⟨b, c, rest, h1, h2, h3.ext hx (hM b h2), h4, h5⟩
theorem yB.ne {w : atO} {base p sz n : Nat} {v : atP} {l : List atP} (h : yB w base sz v n l) (hp : w.heap.size <= p) : LF w (fun b => base <= b /\ b ≠ p) sz v n l := by
 refine ⟨h.1, ?_⟩
 rcases h.2 with h2 | ⟨b, c, rest, h1, h2, h3, h4, h5⟩
 .exact .inl h2
 .have := h3.lt
  exact .inr ⟨b, c, rest, h1, ⟨h2, by omega⟩, h3, h4, h5⟩
theorem LF.len {w : atO} {S : Nat -> Prop} {sz n : Nat} {v : atP} {l : List atP} (h : LF w S sz v n l) : ∃ a c, v = .slice a n c := by
 rcases h.2 with ⟨h1, rfl⟩ | ⟨b, c, rest, h1, _⟩
 .exact ⟨_, _, h1⟩
 .exact ⟨_, _, h1⟩
end Go.En
namespace Go.Proofs.YtoecppploooloaaGreatDoor
open Go Go.En Go.Pu
set_option maxRecDepth 4000
theorem apB {S : Nat -> Prop} {v x : atP} {l m : List UInt8} {w : atO} (h : LF w S 1 v l.length (l.map oZ)) (hx : Bs w x m) (hb : ∀ b, w.heap.size <= b -> S b) (hn : l.length + m.length <= 100000000) {K : atP -> atO -> Prop}
 (hk : ∀ v' w', LF w' S 1 v' (l ++ m).length ((l ++ m).map oZ) -> jM w w' S -> K v' w') : gE pg (oD .append #[22, 22] 22 [v, x]) w K := by
 have hcl : Cl w 1 x m.length (m.map oZ) := by have := hx.cl; rwa [aoK] at this
 refine Ae (m := m.length) (news := m.map oZ) (i := Tryz.t5) Tryz.underlying22 Tryz.underlying22 Hx rfl rfl rfl h hcl (DA _) hb (by omega) (by rw [show Tryz.t5.bytes = 1 from rfl]; omega) (by decide) fun v3 w3 o3 x3 => ?_
 refine hk v3 w3 ?_ x3
 rw [aoL, apN]
 exact o3
end Go.Proofs.YtoecppploooloaaGreatDoor
namespace Go.Proofs.YtoecppploooloaaGreatDoor
open Go Go.En
set_option maxRecDepth 4000
def Zu (x : Int) (k : Nat) : Int := UU .u64 (IntKind.u64.wrap (x * 2 ^ k)) (x.fdiv (2 ^ (64 - k)))
def acD (v x : Int) : Int := IntKind.u64.wrap (Zu (IntKind.u64.wrap (v + IntKind.u64.wrap (x * 14029467366897019727))) 31 * 11400714785074694791)
theorem alD : ∀ k : Fin 64, Zk .u64 (k.val : Int) 63 = (k.val : Int) := by decide
theorem alE : ∀ k : Fin 64, IntKind.u64.wrap (64 - (k.val : Int)) = 64 - (k.val : Int) := by decide
theorem Sy (x : Int) (k : Nat) (hk : k < 64) (w : atO) :
 jD pg mD #[.int .u64 x, .int .i64 (k : Int)] w (fun v w' => v = .int .u64 (Zu x k) /\ w' = w) := by
 refine GX ?_
 have h1 := alD ⟨k, hk⟩
 have h2 := alE ⟨k, hk⟩
 simp only at h1 h2
 have e1 : min k IntKind.u64.bits = k := by simp only [IntKind.bits]; omega
 have e2 : min (64 - (k : Int)).toNat IntKind.u64.bits = 64 - k := by simp only [IntKind.bits]; omega
 simp (disch := omega) only [D2, tJ, gE, jE, cS, stepR_skip, hO, iA, iO, iM, iJ, iL, jH, iT, gL, iD, iF, iC, iH, hJ, iN, hU, iE, iR, iS, iI, gQ, iQ, iP, iG, kR, kQ, lE, lH, lG, lD, lF, lC, lB, gB, Result.ok.injEq, Next.value.injEq, true_and, and_true, gY, hZ, iV, iW, iU, jG, aoE, gV, gU, gX, gT, gM, gI, gN, gK, fZ, fU, if_true, if_false, aoD, aoH, aoF, aoG, aoJ, aoI, aoC, aoB, fM, fK, eZ, fQ, cU, eQ, eE, dJ, bO, fR, eS, aQ, cY, bF, bP, bJ, aI, cP, cB, eP, aF, gR, aK, cJ, aS, bS, fS, cC, cD, aB, gC, fC, aJ, aD, bH, gO, aP, eU, dT, dV, gG, dH, fH, dB, eH, eT, fD, cF, dF, gJ, dQ, cH, bA, bZ, cG, fP, aE, aG, aO, aV, bD, cL, bN, aA, fE, aM, cO, fI, eY, gH, bK, eK, eL, bW, fW, fF, eJ, dD, cR, dG, aW, bB, aH, gA, aL, dC, dW, aX, cI, fJ, dK, gD, fL, fA, fB, dP, aN, bX, dE, fY, fX, fG, dI, aT, dZ, fT, cQ, eX, fN, bY, bL, dU, aZ, dY, dO, cK, eI, eM, aY, dA, bE, dN, dS, dR, bM, cN, cM, dM, bR, cW, cV, fO, bV, eF, eN, gF, dX, eD, dL, cZ, bG, bQ, bT, bU, aR, cX, aU, h1, h2, e1, e2, Zu]
theorem Ts (v x : Int) (w : atO) :
 jD pg C3 #[.int .u64 v, .int .u64 x] w (fun r w' => r = .int .u64 (acD v x) /\ w' = w) := by
 refine U4 ?_
 simp (disch := omega) only [Wz, L9, gE, jE, cS, stepR_skip, hO, iA, iO, iM, iJ, iL, jH, iT, gL, iD, iF, iC, iH, hJ, iN, hU, iE, iR, iS, iI, gQ, iQ, iP, iG, kR, kQ, lE, lH, lG, lD, lF, lC, lB, gB, Result.ok.injEq, Next.value.injEq, true_and, and_true, gY, hZ, iV, iW, iU, jG, aoE, gV, gU, gX, gT, gM, gI, gN, gK, fZ, fU, if_true, if_false, aoD, aoH, aoF, aoG, aoJ, aoI, aoC, aoB, fM, fK, eZ, fQ, cU, eQ, eE, dJ, bO, fR, eS, aQ, cY, bF, bP, bJ, aI, cP, cB, eP, aF, gR, aK, cJ, aS, bS, fS, cC, cD, aB, gC, fC, aJ, aD, bH, gO, aP, eU, dT, dV, gG, dH, fH, dB, eH, eT, fD, cF, dF, gJ, dQ, cH, bA, bZ, cG, fP, aE, aG, aO, aV, bD, cL, bN, aA, fE, aM, cO, fI, eY, gH, bK, eK, eL, bW, fW, fF, eJ, dD, cR, dG, aW, bB, aH, gA, aL, dC, dW, aX, cI, fJ, dK, gD, fL, fA, fB, dP, aN, bX, dE, fY, fX, fG, dI, aT, dZ, fT, cQ, eX, fN, bY, bL, dU, aZ, dY, dO, cK, eI, eM, aY, dA, bE, dN, dS, dR, bM, cN, cM, dM, bR, cW, cV, fO, bV, eF, eN, gF, dX, eD, dL, cZ, bG, bQ, bT, bU, aR, cX, aU]
 refine (Sy _ 31 (by omega) w).mono ?_
 rintro r w' ⟨rfl, rfl⟩
 simp (disch := omega) only [gE, jE, cS, stepR_skip, hO, iA, iO, iM, iJ, iL, jH, iT, gL, iD, iF, iC, iH, hJ, iN, hU, iE, iR, iS, iI, gQ, iQ, iP, iG, kR, kQ, lE, lH, lG, lD, lF, lC, lB, gB, Result.ok.injEq, Next.value.injEq, true_and, and_true, gY, hZ, iV, iW, iU, jG, aoE, gV, gU, gX, gT, gM, gI, gN, gK, fZ, fU, if_true, if_false, aoD, aoH, aoF, aoG, aoJ, aoI, aoC, aoB, fM, fK, eZ, fQ, cU, eQ, eE, dJ, bO, fR, eS, aQ, cY, bF, bP, bJ, aI, cP, cB, eP, aF, gR, aK, cJ, aS, bS, fS, cC, cD, aB, gC, fC, aJ, aD, bH, gO, aP, eU, dT, dV, gG, dH, fH, dB, eH, eT, fD, cF, dF, gJ, dQ, cH, bA, bZ, cG, fP, aE, aG, aO, aV, bD, cL, bN, aA, fE, aM, cO, fI, eY, gH, bK, eK, eL, bW, fW, fF, eJ, dD, cR, dG, aW, bB, aH, gA, aL, dC, dW, aX, cI, fJ, dK, gD, fL, fA, fB, dP, aN, bX, dE, fY, fX, fG, dI, aT, dZ, fT, cQ, eX, fN, bY, bL, dU, aZ, dY, dO, cK, eI, eM, aY, dA, bE, dN, dS, dR, bM, cN, cM, dM, bR, cW, cV, fO, bV, eF, eN, gF, dX, eD, dL, cZ, bG, bQ, bT, bU, aR, cX, aU, acD]
def EA : List UInt8 -> Int
 | [] => 0
 | c :: l => (c.toNat : Int) + 256 * EA l
theorem SB : ∀ l, 0 <= EA l
 | [] => by simp [EA]
 | c :: l => by have := SB l; simp only [EA]; omega
theorem Y6 (l : List UInt8) (c : UInt8) : EA (l ++ [c]) = EA l + (c.toNat : Int) * 256 ^ l.length := by
 induction l with
 | nil => simp [EA]
 | cons a l ih => simp only [arB, EA, ih, aoV, Int.pow_succ, Int.mul_add]; rw [Int.mul_comm (256 : Int) (_ * _), Int.mul_assoc]; omega
theorem Yt : ∀ l : List UInt8, EA l < 256 ^ l.length
 | [] => by simp [EA]
 | c :: l => by
   have := Yt l
   have hc : c.toNat < 256 := c.toNat_lt
   simp only [EA, aoV, Int.pow_succ]; omega
theorem UP {α : Type} {l : List α} {k : Nat} (h : k < l.length) : l.take (k + 1) = l.take k ++ [l[k]] := by
 rw [List.take_succ_eq_append_getElem h]
theorem adM {x : Int} {c k : Nat} (hk : k < 8) (hx0 : 0 <= x) (hx : x < 256 ^ k) (hc : c < 256) :
 UU .u64 x (IntKind.u64.wrap ((c : Int) * 2 ^ (8 * k))) = x + (c : Int) * 256 ^ k := by
 obtain ⟨m, rfl⟩ := Int.eq_ofNat_of_zero_le hx0
 have e256 : (256 : Nat) ^ k = 2 ^ (8 * k) := by rw [show (256 : Nat) = 2 ^ 8 from rfl, <- Nat.pow_mul]
 have hm : m < 2 ^ (8 * k) := by rw [<- e256]; exact_mod_cast hx
 have hle : c * 2 ^ (8 * k) + 2 ^ (8 * k) <= 2 ^ 64 := by
  have h1 : (c + 1) * 2 ^ (8 * k) <= 256 * 2 ^ (8 * k) := apG _ (by omega)
  have h2 : (256 : Nat) * 2 ^ (8 * k) = 2 ^ (8 * k + 8) := by rw [aqN, apU]
  have h3 : (2 : Nat) ^ (8 * k + 8) <= 2 ^ 64 := apE (by omega) (by omega)
  rw [apW] at h1; omega
 have hpos : 0 < 2 ^ (8 * k) := Nat.pow_pos (by omega)
 have w : IntKind.u64.wrap ((c : Int) * 2 ^ (8 * k)) = ((c * 2 ^ (8 * k) : Nat) : Int) := by
  have : ((c : Int) * 2 ^ (8 * k)) = ((c * 2 ^ (8 * k) : Nat) : Int) := by push_cast; rfl
  rw [this]; exact hZ (by omega) (by omega)
 rw [w]
 have b1 : (BitVec.ofInt 64 (m : Int) ||| BitVec.ofInt 64 ((c * 2 ^ (8 * k) : Nat) : Int)).toNat = m + c * 2 ^ (8 * k) := by
  rw [BitVec.toNat_or]
  simp only [BitVec.toNat_ofInt]
  have e1 : (((m : Int) % ((2 ^ 64 : Nat) : Int)).toNat) = m := by omega
  have e2 : ((((c * 2 ^ (8 * k) : Nat) : Int) % ((2 ^ 64 : Nat) : Int)).toNat) = c * 2 ^ (8 * k) := by omega
  rw [e1, e2, Nat.or_comm, apU c, <- Nat.two_pow_add_eq_or_of_lt hm]
  omega
 show IntKind.u64.wrap ((BitVec.ofInt 64 (m : Int) ||| BitVec.ofInt 64 ((c * 2 ^ (8 * k) : Nat) : Int)).toNat : Int) = _
 rw [b1]
 have : ((m + c * 2 ^ (8 * k) : Nat) : Int) = (m : Int) + (c : Int) * 256 ^ k := by
  rw [<- e256]; push_cast; rfl
 rw [<- this]
 exact hZ (by omega) (by omega)
theorem QL (v : atP) (l : List UInt8) (w : atO) (h : Bs w v l) (hl : l.length <= 8) :
 jD pg A5 #[v] w (fun r w' => r = .int .u64 (EA l) /\ w' = w) := by
 obtain ⟨a, n, c, rfl, hn, hc, hcell⟩ := h
 rw [aoK] at hn
 subst hn
 refine UI ?_
 simp (disch := omega) only [Vf, FR, Jq, Jx, JB, JA, JH, J7, Jw, gE, jE, cS, stepR_skip, hO, iA, iO, iM, iJ, iL, jH, iT, gL, iD, iF, iC, iH, hJ, iN, hU, iE, iR, iS, iI, gQ, iQ, iP, iG, kR, kQ, lE, lH, lG, lD, lF, lC, lB, gB, Result.ok.injEq, Next.value.injEq, true_and, and_true, gY, hZ, iV, iW, iU, jG, aoE, gV, gU, gX, gT, gM, gI, gN, gK, fZ, fU, if_true, if_false, aoD, aoH, aoF, aoG, aoJ, aoI, aoC, aoB, fM, fK, eZ, fQ, cU, eQ, eE, dJ, bO, fR, eS, aQ, cY, bF, bP, bJ, aI, cP, cB, eP, aF, gR, aK, cJ, aS, bS, fS, cC, cD, aB, gC, fC, aJ, aD, bH, gO, aP, eU, dT, dV, gG, dH, fH, dB, eH, eT, fD, cF, dF, gJ, dQ, cH, bA, bZ, cG, fP, aE, aG, aO, aV, bD, cL, bN, aA, fE, aM, cO, fI, eY, gH, bK, eK, eL, bW, fW, fF, eJ, dD, cR, dG, aW, bB, aH, gA, aL, dC, dW, aX, cI, fJ, dK, gD, fL, fA, fB, dP, aN, bX, dE, fY, fX, fG, dI, aT, dZ, fT, cQ, eX, fN, bY, bL, dU, aZ, dY, dO, cK, eI, eM, aY, dA, bE, dN, dS, dR, bM, cN, cM, dM, bR, cW, cV, fO, bV, eF, eN, gF, dX, eD, dL, cZ, bG, bQ, bT, bU, aR, cX, aU]
 refine kE.rule (fun n t w' => ∃ k : Nat, n = l.length - k /\ k <= l.length /\ t = (.int .u64 (EA (l.take k)), .int .i64 (k : Int)) /\ w' = w) l.length ⟨0, rfl, atD _, rfl, rfl⟩ ?_
 rintro n t w' ⟨k, rfl, hk, rfl, rfl⟩
 by_cases hlt : k < l.length
 .obtain ⟨b, off, rfl, hcell'⟩ := hcell (by omega)
  have hcl := hcell' k hlt
  rw [aoY, aoM hlt, apM] at hcl
  have hb : (l[k].toNat) < 256 := l[k].toNat_lt
  have hd : decide ((k : Int) < (l.length : Int)) = true := by simpa using hlt
  have e1 : min (8 * (k : Int)).toNat IntKind.u64.bits = 8 * k := by simp only [IntKind.bits]; omega
  simp (disch := omega) only [B0, gE, jE, cS, stepR_skip, hO, iA, iO, iM, iJ, iL, jH, iT, gL, iD, iF, iC, iH, hJ, iN, hU, iE, iR, iS, iI, gQ, iQ, iP, iG, kR, kQ, lE, lH, lG, lD, lF, lC, lB, gB, Result.ok.injEq, Next.value.injEq, true_and, and_true, gY, hZ, iV, iW, iU, jG, aoE, gV, gU, gX, gT, gM, gI, gN, gK, fZ, fU, if_true, if_false, aoD, aoH, aoF, aoG, aoJ, aoI, aoC, aoB, fM, fK, eZ, fQ, cU, eQ, eE, dJ, bO, fR, eS, aQ, cY, bF, bP, bJ, aI, cP, cB, eP, aF, gR, aK, cJ, aS, bS, fS, cC, cD, aB, gC, fC, aJ, aD, bH, gO, aP, eU, dT, dV, gG, dH, fH, dB, eH, eT, fD, cF, dF, gJ, dQ, cH, bA, bZ, cG, fP, aE, aG, aO, aV, bD, cL, bN, aA, fE, aM, cO, fI, eY, gH, bK, eK, eL, bW, fW, fF, eJ, dD, cR, dG, aW, bB, aH, gA, aL, dC, dW, aX, cI, fJ, dK, gD, fL, fA, fB, dP, aN, bX, dE, fY, fX, fG, dI, aT, dZ, fT, cQ, eX, fN, bY, bL, dU, aZ, dY, dO, cK, eI, eM, aY, dA, bE, dN, dS, dR, bM, cN, cM, dM, bR, cW, cV, fO, bV, eF, eN, gF, dX, eD, dL, cZ, bG, bQ, bT, bU, aR, cX, aU, hd, fZ, hcl, oZ, e1]
  have hlen : (l.take k).length = k := by simp; omega
  have hx := Yt (l.take k)
  rw [hlen] at hx
  refine ⟨l.length - (k + 1), by omega, k + 1, rfl, by omega, ?_⟩
  rw [adM (by omega) (SB _) hx hb, UP hlt, Y6, hlen]
  rfl
 .have hd : decide ((k : Int) < (l.length : Int)) = false := by simpa using hlt
  simp (disch := omega) only [B0, gE, jE, cS, stepR_skip, hO, iA, iO, iM, iJ, iL, jH, iT, gL, iD, iF, iC, iH, hJ, iN, hU, iE, iR, iS, iI, gQ, iQ, iP, iG, kR, kQ, lE, lH, lG, lD, lF, lC, lB, gB, Result.ok.injEq, Next.value.injEq, true_and, and_true, gY, hZ, iV, iW, iU, jG, aoE, gV, gU, gX, gT, gM, gI, gN, gK, fZ, fU, if_true, if_false, aoD, aoH, aoF, aoG, aoJ, aoI, aoC, aoB, fM, fK, eZ, fQ, cU, eQ, eE, dJ, bO, fR, eS, aQ, cY, bF, bP, bJ, aI, cP, cB, eP, aF, gR, aK, cJ, aS, bS, fS, cC, cD, aB, gC, fC, aJ, aD, bH, gO, aP, eU, dT, dV, gG, dH, fH, dB, eH, eT, fD, cF, dF, gJ, dQ, cH, bA, bZ, cG, fP, aE, aG, aO, aV, bD, cL, bN, aA, fE, aM, cO, fI, eY, gH, bK, eK, eL, bW, fW, fF, eJ, dD, cR, dG, aW, bB, aH, gA, aL, dC, dW, aX, cI, fJ, dK, gD, fL, fA, fB, dP, aN, bX, dE, fY, fX, fG, dI, aT, dZ, fT, cQ, eX, fN, bY, bL, dU, aZ, dY, dO, cK, eI, eM, aY, dA, bE, dN, dS, dR, bM, cN, cM, dM, bR, cW, cV, fO, bV, eF, eN, gF, dX, eD, dL, cZ, bG, bQ, bT, bU, aR, cX, aU, hd, fU]
  rw [aoU (by omega)]
end Go.Proofs.YtoecppploooloaaGreatDoor
